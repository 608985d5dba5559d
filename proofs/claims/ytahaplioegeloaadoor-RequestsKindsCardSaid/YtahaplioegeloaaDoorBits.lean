/- Plain facts on bits and on the digits of a number to the base 128. No program in sight. -/
import Derived.WalkKit
import Derived.Laws.BitsAllLaws
namespace Go.Sz
open Go.RowKit

theorem bits_xor_val (k : IntKind) (x y : Int) : bits .xor k x y = k.wrap ((BitVec.ofInt k.bits x ^^^ BitVec.ofInt k.bits y).toNat) := rfl
theorem bits_or_val (k : IntKind) (x y : Int) : bits .or k x y = k.wrap ((BitVec.ofInt k.bits x ||| BitVec.ofInt k.bits y).toNat) := rfl

theorem ofInt64_neg1 : BitVec.ofInt 64 (-1) = BitVec.allOnes 64 := by decide
theorem ofInt64_ones : BitVec.ofInt 64 18446744073709551615 = BitVec.allOnes 64 := by decide
theorem toNat_ofInt64 (a : Int) : ((BitVec.ofInt 64 a).toNat : Int) = a % 18446744073709551616 := by
  rw [BitVec.toNat_ofInt]
  have : (0 : Int) ≤ a % ((2 ^ 64 : Nat) : Int) := Int.emod_nonneg _ (by decide)
  rw [Int.toNat_of_nonneg this]
  rfl

theorem xor_ones (a : Int) : ((BitVec.ofInt 64 a ^^^ BitVec.allOnes 64).toNat : Int) = 18446744073709551615 - a % 18446744073709551616 := by
  rw [BitVec.xor_allOnes, BitVec.toNat_not]
  have h := toNat_ofInt64 a
  have h2 : (BitVec.ofInt 64 a).toNat < 2 ^ 64 := (BitVec.ofInt 64 a).isLt
  omega

/-- The unsigned form of a number: small for numbers near to 0. -/
def zig (n : Int) : Int := if 0 ≤ n then 2 * n else -2 * n - 1

theorem zig_bits (n : Int) (h1 : -9223372036854775808 ≤ n) (h2 : n ≤ 9223372036854775807) :
    bits .xor .u64 (IntKind.u64.wrap (IntKind.u64.wrap n * 2)) (IntKind.u64.wrap (n / 9223372036854775808)) = zig n := by
  unfold zig
  by_cases h : 0 ≤ n
  · have e1 : n / 9223372036854775808 = 0 := by omega
    have e2 : IntKind.u64.wrap 0 = 0 := by rw [IntKind.wrap_u64]; rfl
    have e3 : IntKind.u64.wrap (IntKind.u64.wrap n * 2) = 2 * n := by rw [IntKind.wrap_u64, IntKind.wrap_u64]; omega
    rw [e1, e2, e3, if_pos h, bits_xor_val]
    have e4 : BitVec.ofInt (IntKind.bits .u64) 0 = 0#_ := by decide
    rw [e4, BitVec.xor_zero]
    show IntKind.u64.wrap ((BitVec.ofInt 64 (2 * n)).toNat : Int) = _
    rw [toNat_ofInt64, IntKind.wrap_u64]
    omega
  · have e1 : n / 9223372036854775808 = -1 := by omega
    have e2 : IntKind.u64.wrap (-1) = 18446744073709551615 := by rw [IntKind.wrap_u64]; rfl
    have e3 : IntKind.u64.wrap (IntKind.u64.wrap n * 2) = 2 * n + 18446744073709551616 := by rw [IntKind.wrap_u64, IntKind.wrap_u64]; omega
    rw [e1, e2, e3, if_neg h, bits_xor_val]
    show IntKind.u64.wrap ((BitVec.ofInt 64 (2 * n + 18446744073709551616) ^^^ BitVec.ofInt 64 18446744073709551615).toNat : Int) = _
    rw [ofInt64_ones, xor_ones, IntKind.wrap_u64]
    omega

/-- Back from the unsigned form. -/
def zag (u : Int) : Int := if u % 2 = 0 then u / 2 else -(u / 2) - 1

theorem zag_bits (u : Int) (h1 : 0 ≤ u) (h2 : u ≤ 18446744073709551615) :
    bits .xor .i64 (u / 2) (wrap64 (-wrap64 (bits .and .u64 u 1))) = zag u := by
  have ea : bits .and .u64 u 1 = u % 2 := by
    rw [u64_and u 1 h1 (by omega) (by omega) (by omega)]
    show ((u.toNat &&& 1 : Nat) : Int) = _
    rw [nat_mask1]
    omega
  rw [ea]
  unfold zag
  by_cases h : u % 2 = 0
  · have e1 : wrap64 (-wrap64 (u % 2)) = 0 := by rw [h]; unfold wrap64; rfl
    rw [e1, if_pos h, bits_xor_val]
    have e4 : BitVec.ofInt (IntKind.bits .i64) 0 = 0#_ := by decide
    rw [e4, BitVec.xor_zero]
    show IntKind.i64.wrap ((BitVec.ofInt 64 (u / 2)).toNat : Int) = _
    rw [toNat_ofInt64, IntKind.wrap_i64]
    omega
  · have h' : u % 2 = 1 := by omega
    have e1 : wrap64 (-wrap64 (u % 2)) = -1 := by rw [h']; unfold wrap64; rfl
    rw [e1, if_neg h, bits_xor_val]
    show IntKind.i64.wrap ((BitVec.ofInt 64 (u / 2) ^^^ BitVec.ofInt 64 (-1)).toNat : Int) = _
    rw [ofInt64_neg1, xor_ones, IntKind.wrap_i64]
    omega

theorem zig_range (n : Int) (h1 : -9223372036854775808 ≤ n) (h2 : n ≤ 9223372036854775807) : 0 ≤ zig n ∧ zig n ≤ 18446744073709551615 := by unfold zig; split <;> omega
theorem zag_range (u : Int) (h1 : 0 ≤ u) (h2 : u ≤ 18446744073709551615) : -9223372036854775808 ≤ zag u ∧ zag u ≤ 9223372036854775807 := by unfold zag; split <;> omega
theorem zag_zig (n : Int) : zag (zig n) = n := by unfold zag zig; split <;> split <;> omega
theorem zig_zag (u : Int) (h : 0 ≤ u) : zig (zag u) = u := by unfold zag zig; split <;> split <;> omega

/-- The digits of a number to the base 128, the least significant one first; to each but the last one 128 is added. -/
def digits (u : Nat) : List UInt8 := if u < 128 then [UInt8.ofNat u] else UInt8.ofNat (u % 128 + 128) :: digits (u / 128)
termination_by u
decreasing_by omega

theorem digits_small {u : Nat} (h : u < 128) : digits u = [UInt8.ofNat u] := by rw [digits, if_pos h]
theorem digits_big {u : Nat} (h : 128 ≤ u) : digits u = UInt8.ofNat (u % 128 + 128) :: digits (u / 128) := by rw [digits, if_neg (by omega)]

theorem or128 (u : Nat) : bits .or .u8 ((u % 256 : Nat) : Int) 128 = ((u % 128 + 128 : Nat) : Int) := by
  have h := u8_or_nat (u % 256) 128 (by omega) (by omega)
  have e : ((128 : Nat) : Int) = 128 := rfl
  rw [e] at h
  rw [h]
  congr 1
  have h3 : ∀ x : Nat, x < 256 → x ||| 128 = x % 128 + 128 := by decide +kernel
  rw [h3 _ (by omega)]
  omega

theorem digits_length (u : Nat) (n : Nat) (h : u < 128 ^ n) (hn : 0 < n) : (digits u).length ≤ n := by
  induction n generalizing u with
  | zero => omega
  | succ n ih =>
    by_cases hu : u < 128
    · rw [digits_small hu]; simp
    · rw [digits_big (by omega)]
      have hn0 : 0 < n := by
        rcases Nat.eq_zero_or_pos n with rfl | h0
        · simp at h; omega
        · exact h0
      have := ih (u / 128) (by rw [Nat.div_lt_iff_lt_mul (by omega)]; rw [Nat.pow_succ] at h; exact h) hn0
      simp; omega

theorem digits_pos (u : Nat) : 0 < (digits u).length := by
  by_cases hu : u < 128
  · rw [digits_small hu]; simp
  · rw [digits_big (by omega)]; simp

theorem digits_len64 (u : Nat) (h : u < 18446744073709551616) : (digits u).length ≤ 10 := digits_length u 10 (by omega) (by omega)

end Go.Sz
