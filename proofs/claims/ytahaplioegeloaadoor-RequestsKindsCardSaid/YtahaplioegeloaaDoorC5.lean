import Derived.Test.YtahaplioegeloaaDoorC1
import Derived.Test.YtahaplioegeloaaDoorBits
namespace Go.Proofs.YtahaplioegeloaaDoor
open Go.RowKit Go.Sz

theorem info5 : (Tryd.prog.info? 5).map (fun i => (i.zero, i.size, i.bytes)) = some (some (.int .u8 0), 1, 1) := by kernel_rfl

theorem unsigned_any (n : Int) (w : World) (h1 : -9223372036854775808 ≤ n) (h2 : n ≤ 9223372036854775807) :
    Calls Tryd.prog 67 #[.int .i64 n] w fun e w' => e = .returned (.int .u64 (zig n)) ∧ w = w' := by
  have HX := Lib.hid (zig_bits n h1 h2)
  go_enter Tryd.func67, Tryd.ntmps67
  go_wp2_with fail
  go_ret
  exact ⟨by rw [← HX.out]; rfl, rfl⟩

theorem refUnsigned_any (n : Int) (w : World) (h1 : -9223372036854775808 ≤ n) (h2 : n ≤ 9223372036854775807) :
    Calls Tryd.prog 73 #[.int .i64 n] w fun e w' => e = .returned (.int .u64 (zig n)) ∧ w = w' := by
  by_cases h : 0 ≤ n
  · have HX := Lib.hid (show zig n = 2 * n from by simp [zig, h])
    go_enter Tryd.func73, Tryd.ntmps73
    go_wp2_with fail
    go_ret
    exact ⟨by rw [HX.out]; rfl, rfl⟩
  · have HX := Lib.hid (show zig n = 2 * -(n + 1) + 1 from by simp only [zig, h, if_false]; omega)
    go_enter Tryd.func73, Tryd.ntmps73
    go_wp2_with fail
    go_ret
    exact ⟨by rw [HX.out]; rfl, rfl⟩

theorem signed_any (u : Int) (w : World) (h1 : 0 ≤ u) (h2 : u ≤ 18446744073709551615) :
    Calls Tryd.prog 61 #[.int .u64 u] w fun e w' => e = .returned (.int .i64 (zag u)) ∧ w = w' := by
  have HX := Lib.hid (zag_bits u h1 h2)
  go_enter Tryd.func61, Tryd.ntmps61
  go_wp2_with fail
  go_ret
  exact ⟨by rw [← HX.out]; rfl, rfl⟩

/-- bytes, as cells -/
def bv (bs : List UInt8) : List Value := bs.map fun b => .int .u8 b.toNat
theorem bv_append (a b : List UInt8) : bv (a ++ b) = bv a ++ bv b := List.map_append
theorem bv_length (a : List UInt8) : (bv a).length = a.length := List.length_map _
theorem bv_one (a : List UInt8) : ∀ u ∈ bv a, u.oneCell' = true := fun u hu => by obtain ⟨_, _, rfl⟩ := List.mem_map.1 hu; rfl

/-- a slice of bytes that a call owns -/
abbrev OwnB (w : World) (base : Nat) (v : Value) (bs : List UInt8) : Prop := w.ownsRow base 5 1 v bs.length (bv bs)

theorem OwnB.of {w : World} {base : Nat} {v : Value} {bs : List UInt8} {n : Nat} {xs : List Value} (h : w.ownsRow base 5 1 v n xs) (hx : xs = bv bs) : OwnB w base v bs := by
  subst hx
  have := h.1
  rw [bv_length, Nat.mul_one] at this
  subst this
  exact h

theorem u8_cell (u : Nat) (h : u < 256) : Value.int .u8 ((u : Nat) : Int) = .int .u8 ((UInt8.ofNat u).toNat : Int) := by
  congr 2
  simp
  omega

set_option maxHeartbeats 1600000 in
set_option maxRecDepth 100000 in
theorem numeral_any (u : Nat) (v : Value) (bs : List UInt8) (w : World) (base : Nat) (hu : u ≤ 18446744073709551615) (hown : OwnB w base v bs) (hbase : base ≤ w.heap.size) (hb : bs.length ≤ 1000000) :
    Calls Tryd.prog 66 #[v, .int .u64 u] w fun e w' => ∃ v', e = .returned v' ∧ OwnB w' base v' (bs ++ digits u) ∧ Grows w v w' v' := by
  obtain ⟨i0, hi, hz0, hz1, hz2⟩ := info_parts info5
  go_enter Tryd.func66, Tryd.ntmps66
  go_wp2_with fail
  go_loopw [0, 1] (fun v1 i wr => ∃ (k : Nat) (ds : List UInt8), i = .int .u64 k ∧ k ≤ u ∧ ds ++ digits k = digits u ∧ OwnB wr base v1 (bs ++ ds) ∧ Grows w v wr v1) (fun _ i _ => (intOf i).toNat)
  case atStart => exact ⟨u, [], rfl, by omega, rfl, by simpa using hown, Grows.refl _ _⟩
  case round =>
    obtain ⟨k, ds, rfl, hk, hds, ho, hG⟩ := hrel
    have hdl : (bs ++ ds).length ≤ 1000010 := by
      have h1 := digits_len64 u (by omega)
      have h2 := congrArg List.length hds
      simp only [List.length_append] at h2 ⊢
      omega
    have HD := Lib.hid hds
    have HO := Lib.hid ho
    have hsz := hG.by_.size
    clear hds ho hown
    rcases Nat.lt_or_ge k 128 with hlt | hlt
    · have HB := Lib.hid (digits_small hlt)
      go_wp2_with (at_builtin; refine wpList_append_S rfl _ _ 29 29 rfl base 5 i0 (.int .u8 0) 1 1 Tryd.underlying29 hi hz0 hz1 hz2 rfl u0 (bs ++ ds).length (bv (bs ++ ds)) rfl (ownsRow_ext HO.out (Ext.alloc (Ext.refl _) _)) _ 1 [_] rfl (Src.ofSlice _ Tryd.underlying29 ⟨wr.heap.size, 0, none⟩ 1 1 _ rfl (cell_one_new _ _ _) (by simp [Value.oneCell'])) (by unfold maxLen; omega) (by omega) (by simp; omega) ?_; intro v' w' ho' hg')
      go_ret
      have HE := HD.out
      rw [HB.out] at HE
      refine ⟨v', rfl, ?_, hG.trans (hg'.ext_left (Ext.alloc (Ext.refl _) _))⟩
      have h1 : digits u = ds ++ [UInt8.ofNat k] := HE.symm
      rw [h1, ← List.append_assoc]
      have h2 : bv ((bs ++ ds) ++ [UInt8.ofNat k]) = bv (bs ++ ds) ++ [Value.int .u8 (k : Int)] := by
        rw [bv_append]
        congr 1
        simp only [bv, List.map_cons, List.map_nil]
        rw [← u8_cell k (by omega)]
      exact OwnB.of ho' h2.symm
    · have HB := Lib.hid (digits_big hlt)
      go_wp2_with (at_builtin; refine wpList_append_S rfl _ _ 29 29 rfl base 5 i0 (.int .u8 0) 1 1 Tryd.underlying29 hi hz0 hz1 hz2 rfl u0 (bs ++ ds).length (bv (bs ++ ds)) rfl (ownsRow_ext HO.out (Ext.alloc (Ext.refl _) _)) _ 1 [_] rfl (Src.ofSlice _ Tryd.underlying29 ⟨wr.heap.size, 0, none⟩ 1 1 _ rfl (cell_one_new _ _ _) (by simp [Value.oneCell'])) (by unfold maxLen; omega) (by omega) (by simp; omega) ?_; intro v' w' ho' hg')
      go_roundw
      case rel =>
        refine ⟨k / 128, ds ++ [UInt8.ofNat (k % 128 + 128)], by go_num, by omega, ?_, ?_, hG.trans (hg'.ext_left (Ext.alloc (Ext.refl _) _))⟩
        · have HE := HD.out
          rw [HB.out] at HE
          rw [← HE]
          simp
        · have HO2 := or128 k
          rw [show ((k % 256 : Nat) : Int) = (k : Int) % 256 from rfl] at HO2
          rw [HO2, u8_cell _ (by omega)] at ho'
          have h2 : bv (bs ++ (ds ++ [UInt8.ofNat (k % 128 + 128)])) = bv (bs ++ ds) ++ [Value.int .u8 ((UInt8.ofNat (k % 128 + 128)).toNat : Int)] := by
            rw [← List.append_assoc, bv_append]
            rfl
          exact OwnB.of ho' h2.symm
      case measure => simp [intOf]; omega

end Go.Proofs.YtahaplioegeloaaDoor
