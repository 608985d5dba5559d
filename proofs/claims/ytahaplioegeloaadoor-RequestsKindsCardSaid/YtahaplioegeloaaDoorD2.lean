import Derived.Test.YtahaplioegeloaaDoorD1
namespace Go.Proofs.YtahaplioegeloaaDoor
open Go.RowKit Go.Sz

theorem take1_rd {p : Addr} {b : UInt8} {r : List UInt8} {w : World} (h : Rd w p (b :: r)) :
    Calls Tryd.prog 60 #[.pointer (some p), .int .i64 1] w fun e w' => ∃ blk off, e = .returned (.slice (some ⟨blk, off, none⟩) 1 1) ∧ w'.cell? ⟨blk, off, none⟩ = some (.int .u8 b.toNat) ∧ Rd w' p r ∧ Turn p.block w w' := by
  refine (take_rd h 1 (by simp)).mono ?_
  rintro e w' ⟨ao, rfl, hs, _, hr, ht⟩
  obtain ⟨blk, off, rfl, hc⟩ := hs.cells 0 0 [.int .u8 b.toNat] (.int .u8 b.toNat) rfl rfl
  exact ⟨blk, off, rfl, by simpa using hc, hr, ht⟩

theorem take_short {p : Addr} {bs : List UInt8} {w : World} (h : Rd w p bs) (n : Nat) (hn : bs.length < n) :
    Calls Tryd.prog 60 #[.pointer (some p), .int .i64 n] w fun e w' => e = .panicked pan ∧ w = w' := by
  obtain ⟨⟨ao, cap, hc, hs, hb⟩, hz⟩ := h
  exact take_bad p n ao bs.length cap w hc hn

theorem numP_cons_ok {k a : Nat} {b : UInt8} {r : List UInt8} (h : (k = 0 ∨ b.toNat ≠ 0) ∧ (k < 9 ∨ b.toNat ≤ 1)) : numP k a (b :: r) = if b.toNat < 128 then some (a + b.toNat % 128 * 128 ^ k, r) else numP (k + 1) (a + b.toNat % 128 * 128 ^ k) r := by
  rw [numP, if_pos h]
theorem numP_cons_bad {k a : Nat} {b : UInt8} {r : List UInt8} (h : ¬ ((k = 0 ∨ b.toNat ≠ 0) ∧ (k < 9 ∨ b.toNat ≤ 1))) : numP k a (b :: r) = none := by
  rw [numP, if_neg h]

theorem want_t (q : Value) (b : Bool) (w : World) (h : b = true) : Calls Tryd.prog 48 #[q, .bool b] w fun e w' => e = .returned (.tuple #[]) ∧ w = w' := by
  subst h
  exact want_true q w
theorem want_f (q : Value) (b : Bool) (w : World) (h : b = false) : Calls Tryd.prog 48 #[q, .bool b] w fun e w' => e = .panicked pan ∧ w = w' := by
  subst h
  exact want_false q w

def numPost (p : Addr) (o : Option (Nat × List UInt8)) (e : Ending) (w' : World) : Prop :=
  match o with
  | some (n, r) => e = .returned (.int .u64 n) ∧ Rd w' p r
  | none => e = .panicked pan

set_option maxRecDepth 100000 in
set_option maxHeartbeats 1600000 in
theorem number_any {p : Addr} {bs : List UInt8} {w : World} (h : Rd w p bs) :
    Calls Tryd.prog 62 #[.pointer (some p)] w fun e w' => numPost p (numP 0 0 bs) e w' ∧ Turn p.block w w' := by
  go_enter Tryd.func62, Tryd.ntmps62
  go_wp2_with fail
  go_loopw [2, 3] (fun acc i wr => ∃ (k a : Nat) (bs' : List UInt8), i = .int .i64 k ∧ acc = .int .u64 a ∧ k ≤ 9 ∧ a < 128 ^ k ∧ numP k a bs' = numP 0 0 bs ∧ Rd wr p bs' ∧ Turn p.block w wr) (fun _ i _ => 10 - (intOf i).toNat)
  case atStart => exact ⟨0, 0, bs, rfl, rfl, by omega, by simp, rfl, h, Turn.refl _ _⟩
  case round =>
    obtain ⟨k, a, bs', rfl, rfl, hk, ha, hn, hR, hT⟩ := hrel
    have HN := Lib.hid hn
    have HA := Lib.hid ha
    clear hn ha
    cases bs' with
    | nil =>
      have HB := Lib.hid (show numP 0 0 bs = none by rw [← HN.out]; rfl)
      go_wp2_with fail
      refine (take_short hR 1 (by simp)).mono ?_
      rintro e w' ⟨rfl, rfl⟩
      exact ⟨rfl, by rw [HB.out]; rfl, hT⟩
    | cons b r =>
      obtain ⟨x, hx⟩ : ∃ x, x = b.toNat := ⟨_, rfl⟩
      have hx2 : x < 256 := by rw [hx]; exact b.toNat_lt
      by_cases hok : (k = 0 ∨ x ≠ 0) ∧ (k < 9 ∨ x ≤ 1)
      · have HB := Lib.hid (numP_cons_ok (a := a) (r := r) (hx ▸ hok))
        have HS := Lib.hid (num_step hk HA.out hx2 hok.2)
        go_wp2_with fail
        refine (take1_rd hR).mono ?_
        rintro e w' ⟨blk, off, rfl, hc, hR2, hT2⟩
        rw [← hx] at hc HB
        have HX := Lib.hid hx
        clear hx
        have HLT : a + x % 128 * 128 ^ k < 128 ^ (k + 1) := by
          have h1 := HA.out
          have h2 : x % 128 * 128 ^ k ≤ 127 * 128 ^ k := Nat.mul_le_mul (by omega) (Nat.le_refl _)
          rw [Nat.pow_succ]
          omega
        have HL := Lib.hid HLT
        clear HLT
        by_cases hk0 : k = 0
        · subst hk0
          have HS0 := Lib.hid (show bits .or .u64 (a : Int) (IntKind.u64.wrap (IntKind.u64.wrap (bits .and .u8 (x : Int) 127))) = ((a + x % 128 * 128 ^ 0 : Nat) : Int) by simpa using HS.out)
          by_cases hx128 : x < 128
          · have q1 : decide ((x : Int) < 128) = true := decide_eq_true (by omega)
            go_wp2_with (go_at_call 48; refine (want_t _ _ _ (by first | rfl | assumption | (simp; omega))).mono ?_; rintro e w2 ⟨rfl, rfl⟩)
            go_ret
            refine ⟨?_, hT.trans hT2⟩
            have HB2 := HB.out
            rw [if_pos hx128] at HB2
            rw [← HN.out, HB2]
            exact ⟨congrArg (fun z => Ending.returned (Value.int .u64 z)) HS0.out, hR2⟩
          · have q1 : ¬ (x : Int) < 128 := by omega
            go_wp2_with (go_at_call 48; refine (want_t _ _ _ (by first | rfl | assumption | (simp; omega))).mono ?_; rintro e w2 ⟨rfl, rfl⟩)
            go_roundw
            case rel => exact ⟨0 + 1, _, r, by go_num, congrArg (Value.int .u64) HS0.out, by omega, HL.out, by rw [← HN.out, HB.out, if_neg hx128], hR2, hT.trans hT2⟩
            case measure => simp [intOf] <;> omega
        · have q0 : ((k : Int) == 0) = false := by simpa using hk0
          have q2 : x ≠ 0 := by omega
          have q3 : ((x : Int) != 0) = true := by simpa using q2
          rcases Nat.lt_or_ge k 9 with hk9 | hk9
          · have q4 : (k : Int) < 9 := by omega
            by_cases hx128 : x < 128
            · have q1 : (x : Int) < 128 := by omega
              go_wp2_with (go_at_call 48; refine (want_t _ _ _ (by first | rfl | assumption | (simp; omega))).mono ?_; rintro e w2 ⟨rfl, rfl⟩)
              go_ret
              refine ⟨?_, hT.trans hT2⟩
              have HB2 := HB.out
              rw [if_pos hx128] at HB2
              rw [← HN.out, HB2]
              exact ⟨congrArg (fun z => Ending.returned (Value.int .u64 z)) HS.out, hR2⟩
            · have q1 : ¬ (x : Int) < 128 := by omega
              go_wp2_with (go_at_call 48; refine (want_t _ _ _ (by first | rfl | assumption | (simp; omega))).mono ?_; rintro e w2 ⟨rfl, rfl⟩)
              go_roundw
              case rel => exact ⟨k + 1, _, r, by go_num, congrArg (Value.int .u64) HS.out, by omega, HL.out, by rw [← HN.out, HB.out, if_neg hx128], hR2, hT.trans hT2⟩
              case measure => simp [intOf] <;> omega
          · have hk9' : k = 9 := by omega
            have hx1 : x = 1 := by omega
            subst hk9'
            subst hx1
            have hx128 : 1 < 128 := by omega
            go_wp2_with (go_at_call 48; refine (want_t _ _ _ (by first | rfl | assumption | (simp; omega))).mono ?_; rintro e w2 ⟨rfl, rfl⟩)
            go_ret
            refine ⟨?_, hT.trans hT2⟩
            have HB2 := HB.out
            rw [if_pos hx128] at HB2
            rw [← HN.out, HB2]
            exact ⟨congrArg (fun z => Ending.returned (Value.int .u64 z)) HS.out, hR2⟩
      · have HB := Lib.hid (numP_cons_bad (a := a) (r := r) (hx ▸ hok))
        have HBN : Hid (numP 0 0 bs = none) := Lib.hid (by rw [← HN.out, HB.out])
        go_wp2_with fail
        refine (take1_rd hR).mono ?_
        rintro e w' ⟨blk, off, rfl, hc, hR2, hT2⟩
        rw [← hx] at hc
        clear hx
        have q0 : ((k : Int) == 0) = false := by simp; omega
        by_cases hx0 : x = 0
        · subst hx0
          go_wp2_with (go_at_call 48; refine (want_f _ _ _ (by first | rfl | assumption | (simp; omega))).mono ?_; rintro e w2 ⟨rfl, rfl⟩)
          exact ⟨rfl, by rw [HBN.out]; rfl, hT.trans hT2⟩
        · have q3 : ((x : Int) != 0) = true := by simp; omega
          have q4 : ¬ (k : Int) < 9 := by omega
          have q5 : ¬ (x : Int) ≤ 1 := by omega
          go_wp2_with (go_at_call 48; refine (want_f _ _ _ (by first | rfl | assumption | (simp; omega))).mono ?_; rintro e w2 ⟨rfl, rfl⟩)
          exact ⟨rfl, by rw [HBN.out]; rfl, hT.trans hT2⟩

end Go.Proofs.YtahaplioegeloaaDoor
