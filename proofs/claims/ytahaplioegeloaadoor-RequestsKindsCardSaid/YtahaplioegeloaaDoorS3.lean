import Derived.Test.YtahaplioegeloaaDoorC10
import Derived.Test.YtahaplioegeloaaDoorLw
namespace Go.Sz
open Go.RowKit
/-- few parts: a short encoding, not deep -/
def Small (v : V) : Prop := v.enc.length ≤ 1000000 ∧ v.ht ≤ 1000000
theorem enc_le (k n : Int) (s : ByteArray) (l : List V) (hn : inI64 n) (hs : s.size ≤ 9223372036854775807) (hl : l.length ≤ 9223372036854775807) : (V.mk k n s l).enc.length ≤ 11 + s.size + (V.encL l).length := by
  have h1 := digits_len64 s.size (by omega)
  have h2 := digits_len64 l.length (by omega)
  have hz := zig_range n hn.1 hn.2
  have h3 := digits_len64 (zig n).toNat (by omega)
  simp only [V.enc]
  split
  · simp; omega
  · split
    · simp [bytesOf_length]; omega
    · simp; omega
theorem V.htL_take_succ {l : List V} {k : Nat} (hk : k < l.length) : V.htL (l.take (k + 1)) = max (V.htL (l.take k)) l[k].ht := by
  have happ : ∀ (a b : List V), V.htL (a ++ b) = max (V.htL a) (V.htL b) := by
    intro a b
    induction a with
    | nil => simp [V.htL]
    | cons y ys ih => simp only [List.cons_append, V.htL, ih]; omega
  rw [List.take_succ_eq_append_getElem hk, happ]; simp [V.htL]
end Go.Sz
namespace Go.Proofs.YtahaplioegeloaaDoor
open Go.RowKit Go.Sz

end Go.Proofs.YtahaplioegeloaaDoor
