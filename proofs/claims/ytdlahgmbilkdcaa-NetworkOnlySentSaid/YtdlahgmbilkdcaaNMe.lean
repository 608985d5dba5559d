/- happens: what it answers. -/
import Derived.Test.YtdlahgmbilkdcaaNMa
import Derived.Test.YtdlahgmbilkdcaaNMb
import Derived.Test.YtdlahgmbilkdcaaNMc
import Derived.Test.YtdlahgmbilkdcaaNMd
namespace Go.Proofs.Ytdlahgmbilkdcaa
open Go.RowKit Go.Sz Go.Shelf
theorem happens_any (n : Nw) (m : Mv) (cs : List Value) (w : World) (h : RepN w cs n) : Calls Try.prog 27 #[.agg cs.toArray, .agg #[.int .u8 m.b0.toNat, .int .u8 m.b1.toNat, .int .u8 m.b2.toNat, .int .u8 m.b3.toNat, .int .u8 m.b4.toNat]] w (RetH (happensN n m) w) := by
  have hl := kind_lt m
  have h6 : m.kind = 0 ∨ m.kind = 1 ∨ m.kind = 2 ∨ m.kind = 3 ∨ m.kind = 4 ∨ m.kind = 5 := by omega
  rcases Nat.eq_zero_or_pos n.q.length with h0 | h0
  · rcases h6 with hk | hk | hk | hk | hk | hk
    · exact happens_0z n m cs w h hk h0
    · exact happens_1z n m cs w h hk h0
    · exact happens_2z n m cs w h hk h0
    · exact happens_3z n m cs w h hk h0
    · exact happens_4z n m cs w h hk h0
    · exact happens_5z n m cs w h hk h0
  · rcases h6 with hk | hk | hk | hk | hk | hk
    · exact happens_0 n m cs w h hk h0
    · exact happens_1 n m cs w h hk h0
    · exact happens_2 n m cs w h hk h0
    · exact happens_3 n m cs w h hk h0
    · exact happens_4 n m cs w h hk h0
    · exact happens_5 n m cs w h hk h0
end Go.Proofs.Ytdlahgmbilkdcaa
