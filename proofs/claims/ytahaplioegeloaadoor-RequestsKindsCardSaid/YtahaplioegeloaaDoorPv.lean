/- The codec's parser, as plain Lean. No program in sight. -/
import Derived.Test.YtahaplioegeloaaDoorRd
namespace Go.Sz
open Go.RowKit

theorem numP_lt : ∀ (bs : List UInt8) (k a n : Nat) (r : List UInt8), numP k a bs = some (n, r) → a < 128 ^ k → k ≤ 9 → n < 18446744073709551616 ∧ r.length < bs.length := by
  intro bs
  induction bs with
  | nil => intro k a n r h; cases h
  | cons b bs ih =>
    intro k a n r h ha hk
    rw [numP] at h
    split at h
    · rename_i hok
      have hd := digit_lt (x := b.toNat) hk hok.2
      have hp : (128 : Nat) ^ k ≤ 128 ^ 9 := Nat.pow_le_pow_right (by omega) hk
      have hp2 : (128 : Nat) ^ 9 = 9223372036854775808 := by decide +kernel
      split at h
      · simp only [Option.some.injEq, Prod.mk.injEq] at h
        obtain ⟨rfl, rfl⟩ := h
        exact ⟨by omega, by simp⟩
      · rename_i h128
        have hk9 : k < 9 := by
          rcases hok.2 with h1 | h1
          · exact h1
          · omega
        have hx : b.toNat < 256 := b.toNat_lt
        have h2 : b.toNat % 128 * 128 ^ k ≤ 127 * 128 ^ k := Nat.mul_le_mul (by omega) (Nat.le_refl _)
        have := ih (k + 1) _ n r h (by rw [Nat.pow_succ]; omega) (by omega)
        exact ⟨this.1, by simp; omega⟩
    · cases h

def lenP (bs : List UInt8) : Option (Nat × List UInt8) :=
  match numP 0 0 bs with
  | some (n, r) => if n ≤ r.length then some (n, r) else none
  | none => none

/-- n values in a row -/
def repP (q : List UInt8 → Option (V × List UInt8)) : Nat → List UInt8 → Option (List V × List UInt8)
  | 0, r => some ([], r)
  | n + 1, r => match q r with
    | some (x, r') => match repP q n r' with
      | some (l, r'') => some (x :: l, r'')
      | none => none
    | none => none

def headP (inner : Nat → List UInt8 → Option (List V × List UInt8)) : List UInt8 → Option (V × List UInt8)
  | [] => none
  | b :: bs =>
    if b.toNat = 1 then match numP 0 0 bs with
      | some (n, r) => some (.mk 1 (zag n) ⟨#[]⟩ [], r)
      | none => none
    else if b.toNat = 2 then match lenP bs with
      | some (n, r) => some (.mk 2 0 ⟨(r.take n).toArray⟩ [], r.drop n)
      | none => none
    else if b.toNat = 3 then match lenP bs with
      | some (n, r) => match inner n r with
        | some (l, r') => some (.mk 3 0 ⟨#[]⟩ l, r')
        | none => none
      | none => none
    else none

/-- a value with at most d lists around its innermost -/
def valP : Nat → List UInt8 → Option (V × List UInt8)
  | 0 => headP fun _ _ => none
  | d + 1 => headP (repP (valP d))
end Go.Sz
