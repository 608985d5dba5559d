import Derived.Test.YtahaplioegeloaaDoorR1
namespace Go.Proofs.YtahaplioegeloaaDoor
open Go.RowKit Go.Sz

def rnPost (B : Nat) (all : List UInt8) (o : Option (Nat × List UInt8)) (e : Ending) (w' : World) : Prop :=
  match o with
  | some (u, r) => e = .returned (.int .u64 u) ∧ ∃ pos', r = all.drop pos' ∧ RRd w' B all pos' false
  | none => e = .returned (.int .u64 0) ∧ ∃ pos', RRd w' B all pos' true

set_option maxRecDepth 100000 in
set_option maxHeartbeats 3200000 in
theorem refNumber_any {B : Nat} {all : List UInt8} {pos : Nat} {w : World} (h : RRd w B all pos false) :
    Calls Tryd.prog 75 #[.pointer (some ⟨B, 0, none⟩)] w fun e w' => rnPost B all (numP 0 0 (all.drop pos)) e w' ∧ Turn B w w' := by
  go_enter Tryd.func75, Tryd.ntmps75
  go_wp2_with fail
  go_loopw [3, 4] (fun acc i wr => ∃ (k a pos' : Nat), i = .int .i64 k ∧ acc = .int .u64 a ∧ k ≤ 9 ∧ a < 128 ^ k ∧ numP k a (all.drop pos') = numP 0 0 (all.drop pos) ∧ RRd wr B all pos' false ∧ Turn B w wr) (fun _ i _ => 10 - (intOf i).toNat)
  case atStart => exact ⟨0, 0, pos, rfl, rfl, by omega, by simp, rfl, h, Turn.refl _ _⟩
  case round =>
    obtain ⟨k, a, pos', rfl, rfl, hk, ha, hn, hR, hT⟩ := hrel
    have HN := Lib.hid hn
    have HA := Lib.hid ha
    clear hn ha h
    have hc2 := hR.c2
    by_cases hend : pos' = all.length
    · subst hend
      have HB := Lib.hid (show numP 0 0 (all.drop pos) = none by rw [← HN.out, List.drop_length]; rfl)
      clear HN
      have HNE := Lib.hid (next_end hR)
      go_wp2_with fail
      refine HNE.out.mono ?_
      rintro e w2 ⟨rfl, hR2, hT2⟩
      have hz2 := hR2.z 2
      have hcc := hR2.c2
      have HR2 := Lib.hid hR2
      clear hR2 hR HNE hc2
      by_cases hk0 : k = 0
      · subst hk0
        have ha0 : a = 0 := by have := HA.out; simpa using this
        subst ha0
        go_wp2_with fail
        go_ret
        exact ⟨by rw [HB.out]; exact ⟨rfl, _, HR2.out⟩, hT.trans hT2⟩
      · have q0 : (0 : Int) < (k : Int) := by omega
        by_cases hk9 : k = 9
        · subst hk9
          go_wp2_with fail
          go_ret
          exact ⟨by rw [HB.out]; exact ⟨rfl, _, HR2.out.setBad true⟩, hT.trans (hT2.trans (Turn.setCell _ ⟨B, 2, none⟩ _))⟩
        · have q1 : ((k : Int) == 9) = false := by simp; omega
          go_wp2_with fail
          go_ret
          exact ⟨by rw [HB.out]; exact ⟨rfl, _, HR2.out.setBad true⟩, hT.trans (hT2.trans (Turn.setCell _ ⟨B, 2, none⟩ _))⟩
    · have hlt : pos' < all.length := by have := hR.le; omega
      have hdrop : all.drop pos' = all[pos'] :: all.drop (pos' + 1) := List.drop_eq_getElem_cons hlt
      rw [hdrop] at HN
      have HNE := Lib.hid (next_ok hR hlt)
      obtain ⟨b, hb⟩ : ∃ b, b = all[pos'] := ⟨_, rfl⟩
      rw [← hb] at HN HNE
      clear hb hdrop
      obtain ⟨x, hx⟩ : ∃ x, x = b.toNat := ⟨_, rfl⟩
      have hx2 : x < 256 := by rw [hx]; exact b.toNat_lt
      rw [← hx] at HNE
      by_cases hok : (k = 0 ∨ x ≠ 0) ∧ (k < 9 ∨ x ≤ 1)
      · have HB := Lib.hid (numP_cons_ok (a := a) (r := all.drop (pos' + 1)) (hx ▸ hok))
        have HS := Lib.hid (ref_step hk HA.out hok.2)
        rw [← hx] at HB
        clear hx
        have HL : Hid (a + x % 128 * 128 ^ k < 128 ^ (k + 1)) := Lib.hid (by
          have h1 := HA.out
          have h2 : x % 128 * 128 ^ k ≤ 127 * 128 ^ k := Nat.mul_le_mul (by omega) (Nat.le_refl _)
          rw [Nat.pow_succ]
          omega)
        go_wp2_with fail
        refine HNE.out.mono ?_
        rintro e w2 ⟨rfl, hR2, hT2⟩
        have HR2 := Lib.hid hR2
        clear hR2 hR HNE hc2
        by_cases hk0 : k = 0
        · subst hk0
          have HS0 : Hid (IntKind.u64.wrap ((a : Int) + (x : Int) % 128) = ((a + x % 128 * 128 ^ 0 : Nat) : Int)) := Lib.hid (by
            have h := HA.out
            rw [Nat.pow_zero] at h ⊢
            rw [show (a : Int) + (x : Int) % 128 = ((a + x % 128 * 1 : Nat) : Int) by omega]
            exact u64_small _ (by omega) (by omega))
          by_cases hx128 : x < 128
          · have q1 : (x : Int) < 128 := by omega
            go_wp2_with fail
            go_ret
            refine ⟨?_, hT.trans hT2⟩
            have HB2 := HB.out
            rw [if_pos hx128] at HB2
            rw [← HN.out, HB2]
            exact ⟨congrArg (fun z => Ending.returned (Value.int .u64 z)) HS0.out, _, rfl, HR2.out⟩
          · have q1 : ¬ (x : Int) < 128 := by omega
            go_wp2_with fail
            go_roundw
            case rel => exact ⟨0 + 1, _, pos' + 1, by go_num, congrArg (Value.int .u64) HS0.out, by omega, HL.out, by rw [← HN.out, HB.out, if_neg hx128], HR2.out, hT.trans hT2⟩
            case measure => simp [intOf] <;> omega
        · have q0 : (0 : Int) < (k : Int) := by omega
          have q2 : ((x : Int) == 0) = false := by simp; omega
          rcases Nat.lt_or_ge k 9 with hk9 | hk9
          · have q4 : ((k : Int) == 9) = false := by simp; omega
            by_cases hx128 : x < 128
            · have q1 : (x : Int) < 128 := by omega
              go_wp2_with fail
              go_ret
              refine ⟨?_, hT.trans hT2⟩
              have HB2 := HB.out
              rw [if_pos hx128] at HB2
              rw [← HN.out, HB2]
              exact ⟨congrArg (fun z => Ending.returned (Value.int .u64 z)) HS.out, _, rfl, HR2.out⟩
            · have q1 : ¬ (x : Int) < 128 := by omega
              go_wp2_with fail
              go_roundw
              case rel => exact ⟨k + 1, _, pos' + 1, by go_num, congrArg (Value.int .u64) HS.out, by omega, HL.out, by rw [← HN.out, HB.out, if_neg hx128], HR2.out, hT.trans hT2⟩
              case measure => simp [intOf] <;> omega
          · have hk9' : k = 9 := by omega
            have hx1 : x = 1 := by omega
            subst hk9'
            subst hx1
            have hx128 : 1 < 128 := by omega
            have HS9 : Hid (IntKind.u64.wrap ((a : Int) + 9223372036854775808) = ((a + 1 % 128 * 128 ^ 9 : Nat) : Int)) := Lib.hid (by
              have h := HA.out
              have hp : (128 : Nat) ^ 9 = 9223372036854775808 := by decide +kernel
              rw [hp] at h ⊢
              simp [IntKind.wrap, IntKind.bits, IntKind.signed]; omega)
            go_wp2_with fail
            go_ret
            refine ⟨?_, hT.trans hT2⟩
            have HB2 := HB.out
            rw [if_pos hx128] at HB2
            rw [← HN.out, HB2]
            exact ⟨congrArg (fun z => Ending.returned (Value.int .u64 z)) HS9.out, _, rfl, HR2.out⟩
      · have HB := Lib.hid (numP_cons_bad (a := a) (r := all.drop (pos' + 1)) (hx ▸ hok))
        have HBN : Hid (numP 0 0 (all.drop pos) = none) := Lib.hid (by rw [← HN.out, HB.out])
        clear HB HN hx
        go_wp2_with fail
        refine HNE.out.mono ?_
        rintro e w2 ⟨rfl, hR2, hT2⟩
        have hz2 := hR2.z 2
        have hcc := hR2.c2
        have HR2 := Lib.hid hR2
        clear hR2 hR HNE hc2
        have q0 : (0 : Int) < (k : Int) := by omega
        by_cases hx0 : x = 0
        · subst hx0
          by_cases hk9 : k = 9
          · subst hk9
            go_wp2_with fail
            go_ret
            exact ⟨by rw [HBN.out]; exact ⟨rfl, _, HR2.out.setBad true⟩, hT.trans (hT2.trans (Turn.setCell _ ⟨B, 2, none⟩ _))⟩
          · have q1 : ((k : Int) == 9) = false := by simp; omega
            go_wp2_with fail
            go_ret
            exact ⟨by rw [HBN.out]; exact ⟨rfl, _, HR2.out.setBad true⟩, hT.trans (hT2.trans (Turn.setCell _ ⟨B, 2, none⟩ _))⟩
        · have q1 : ((k : Int) == 9) = true := by simp; omega
          have q3 : (1 : Int) < (x : Int) := by omega
          go_wp2_with fail
          go_ret
          exact ⟨by rw [HBN.out]; exact ⟨rfl, _, HR2.out.setBad true⟩, hT.trans (hT2.trans (Turn.setCell _ ⟨B, 2, none⟩ _))⟩
end Go.Proofs.YtahaplioegeloaaDoor
