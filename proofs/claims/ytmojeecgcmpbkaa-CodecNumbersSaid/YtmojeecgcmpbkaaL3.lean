import Derived.Test.YtmojeecgcmpbkaaS5
namespace Go.Sz
open Go.RowKit Go.Proofs.Ytmojeecgcmpbkaa
theorem digits_mono : ∀ (N u v : Nat), v ≤ N → u ≤ v → (digits u).length ≤ (digits v).length := by
  intro N
  induction N with
  | zero =>
    intro u v hv hu
    have h1 : u = 0 := by omega
    have h2 : v = 0 := by omega
    subst h1 h2
    exact Nat.le_refl _
  | succ N ih =>
    intro u v hv hu
    by_cases h : v < 128
    · rw [digits_small h, digits_small (by omega)]; simp
    · rw [digits_big (u := v) (by omega)]
      by_cases h2 : u < 128
      · rw [digits_small h2]; simp
      · rw [digits_big (u := u) (by omega)]
        have := ih (u / 128) (v / 128) (by omega) (by omega)
        simp
        exact this
abbrev vi (a : Int) : V := .mk 1 a ⟨#[]⟩ []
theorem vi_check (a : Int) : checkV (vi a) = 0 := by simp [checkV, V.wf, V.dep, ByteArray.size]
theorem vi_enc (a : Int) : (vi a).enc = 1 :: digits (zig a).toNat := by simp [V.enc]
theorem vi_out (a : Int) : encOut (vi a) = 1 :: digits (zig a).toNat := by rw [encOut, if_pos (vi_check a), vi_enc]
theorem vi_ht (a : Int) : (vi a).ht ≤ 1000000 := by simp [V.ht, V.htL]
theorem vi_ok {a : Int} (h : inI64 a) : (vi a).ok := by simp [V.ok, V.okL, h, ByteArray.size]
theorem vi_size {a : Int} (h : inI64 a) : 2 ≤ (encOut (vi a)).length ∧ (encOut (vi a)).length ≤ 11 := by
  rw [vi_out]
  have hz := zig_range a h.1 h.2
  have h1 := digits_len64 (zig a).toNat (by omega)
  have h2 := digits_pos (zig a).toNat
  simp; omega
theorem vi_mono {a b : Int} (h : (0 ≤ a ∧ a ≤ b) ∨ (a < 0 ∧ b ≤ a)) : (encOut (vi a)).length ≤ (encOut (vi b)).length := by
  rw [vi_out, vi_out]
  have := digits_mono (zig b).toNat (zig a).toNat (zig b).toNat (Nat.le_refl _) (by
    unfold zig
    rcases h with ⟨h1, h2⟩ | ⟨h1, h2⟩
    · rw [if_pos h1, if_pos (by omega)]; omega
    · rw [if_neg (by omega), if_neg (by omega)]; omega)
  simp; exact this
end Go.Sz
namespace Go.Proofs.Ytmojeecgcmpbkaa
open Go.RowKit Go.Sz

set_option maxRecDepth 100000 in
set_option maxHeartbeats 6400000 in
theorem law_numbers (a b : Int) (ha : inI64 a) (hb : inI64 b) (w : World) :
    Calls Try.prog 5 #[.int .i64 a, .int .i64 b] w fun e w' => e = .returned (.bool true) ∧ Ext w w' := by
  have hsa := vi_size ha
  have hsb := vi_size hb
  have hm := @vi_mono a b
  have hla : (vi a).enc.length ≤ 1000000 := by have := vi_out a; have h2 := vi_enc a; rw [this, ← h2] at hsa; omega
  have hlb : (vi b).enc.length ≤ 1000000 := by have := vi_out b; have h2 := vi_enc b; rw [this, ← h2] at hsb; omega
  have HSA := Lib.hid fun (W : World) => size_any (vi a) (vi_ht a) W (fun _ => False) _ (rep_leaf W _ 1 a ⟨#[]⟩ ⟨by omega, by omega⟩ ha (by decide)) (by simp) hla
  have HSB := Lib.hid fun (W : World) => size_any (vi b) (vi_ht b) W (fun _ => False) _ (rep_leaf W _ 1 b ⟨#[]⟩ ⟨by omega, by omega⟩ hb (by decide)) (by simp) hlb
  have HEN := Lib.hid fun (W : World) => encode_sl (vi a) (vi_ht a) W (fun _ => False) _ (rep_leaf W _ 1 a ⟨#[]⟩ ⟨by omega, by omega⟩ ha (by decide)) (by simp) hla
  have HDE := Lib.hid fun (ao : Option Addr) (cap : Nat) (W : World) (hs : SL W 1 ao cap (br (encOut (vi a)))) => decode_any (encOut (vi a)) ao cap W hs (by omega)
  have HDO : Hid (decOut (encOut (vi a)) = (vi a, 0)) := Lib.hid (by rw [encOut, if_pos (vi_check a)]; exact decOut_enc (vi_check a) (vi_ok ha))
  rw [vi_check] at HSA HSB HEN
  rw [HDO.out] at HDE
  clear hla hlb HDO
  obtain ⟨en, hen⟩ : ∃ en, en = encOut (vi a) := ⟨_, rfl⟩
  obtain ⟨bn, hbn⟩ : ∃ bn, bn = encOut (vi b) := ⟨_, rfl⟩
  rw [← hen] at hsa hm HSA HEN HDE
  rw [← hbn] at hsb hm HSB
  clear hen hbn
  have q1 : ¬ ((en.length : Int) < 2) := by omega
  have q2 : ¬ ((11 : Int) < (en.length : Int)) := by omega
  have q3 : ¬ ((bn.length : Int) < 2) := by omega
  have q4 : ¬ ((11 : Int) < (bn.length : Int)) := by omega
  have HM := Lib.hid hm
  clear hm hsa hsb
  have HC : Hid ((¬ (a < 0) ∧ (0 : Int) ≤ a ∧ a ≤ b ∧ ¬ ((bn.length : Int) < (en.length : Int))) ∨ (¬ (a < 0) ∧ (0 : Int) ≤ a ∧ ¬ (a ≤ b)) ∨ (a < 0 ∧ ¬ ((0 : Int) ≤ a) ∧ b ≤ a ∧ ¬ ((bn.length : Int) < (en.length : Int))) ∨ (a < 0 ∧ ¬ ((0 : Int) ≤ a) ∧ ¬ (b ≤ a))) := Lib.hid (by
    have h := HM.out
    by_cases h1 : a < 0
    · by_cases h2 : b ≤ a
      · have := h (.inr ⟨h1, h2⟩)
        exact .inr (.inr (.inl ⟨h1, by omega, h2, by omega⟩))
      · exact .inr (.inr (.inr ⟨h1, by omega, h2⟩))
    · by_cases h2 : a ≤ b
      · have := h (.inl ⟨by omega, h2⟩)
        exact .inl ⟨h1, by omega, h2, by omega⟩
      · exact .inr (.inl ⟨h1, by omega, h2⟩))
  have hC := HC.out
  clear HC HM
  rcases hC with ⟨c1, c2, c3, c4⟩ | ⟨c1, c2, c3⟩ | ⟨c1, c2, c3, c4⟩ | ⟨c1, c2, c3⟩
  all_goals
    go_enter Try.func5, Try.ntmps5
    go_wp2_with fail
    refine (sane_any _).mono ?_
    rintro e w1 ⟨rfl, hE1⟩
    go_wp2_with fail
    refine (int_any a _).mono ?_
    rintro e w2 ⟨rfl, hE2⟩
    go_wp2_with fail
    refine (HSA.out _).mono ?_
    rintro e w3 ⟨rfl, hE3⟩
    go_wp2_with fail
    refine (int_any b _).mono ?_
    rintro e w4 ⟨rfl, hE4⟩
    go_wp2_with fail
    refine (HSB.out _).mono ?_
    rintro e w5 ⟨rfl, hE5⟩
    go_wp2_with fail
    refine (int_any a _).mono ?_
    rintro e w6 ⟨rfl, hE6⟩
    have hX6 := ((((hE1.trans hE2).trans hE3).trans hE4).trans hE5).trans hE6
    clear hE1 hE2 hE3 hE4 hE5 hE6
    go_wp2_with fail
    refine (HEN.out _).mono ?_
    rintro e w7 ⟨ao7, cap7, rfl, hs7, hE7⟩
    have HS7 := Lib.hid hs7
    clear hs7
    go_wp2_with fail
    refine (HDE.out _ _ _ HS7.out).mono ?_
    rintro e w8 ⟨cs, Fd, rfl, hRd, _, hE8⟩
    obtain ⟨ad, capd, rowsd, hcs, _⟩ := hRd.open
    obtain ⟨cl⟩ := cs
    simp only at hcs
    subst hcs
    clear hRd
    have q5 : (a == a) = true := by simp
    go_wp2_with fail
    go_ret
    exact ⟨rfl, ((hX6.trans hE7).trans hE8).alloc _⟩
end Go.Proofs.Ytmojeecgcmpbkaa
