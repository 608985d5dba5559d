import Derived.Test.YtmojeecgcmpbkaaC9
namespace Go.Proofs.Ytmojeecgcmpbkaa
open Go.RowKit Go.Sz

set_option maxHeartbeats 1600000 in
theorem refEncode_any (v : V) (hv : v.ht ≤ 1000000) (w : World) (F : Nat → Prop) (cs : List Value) (hR : RepV w F cs v) (hb : v.enc.length ≤ 1000000) :
    Calls Try.prog 9 #[.agg cs.toArray] w fun e w' => ∃ v', e = .returned (.tuple #[v', .int .i64 (checkV v)]) ∧ OwnB w' w.heap.size v' (encOut v) ∧ Ext w w' := by
  cases v with
  | mk k n s l =>
    obtain ⟨ao, cap, rows, rfl, hk, hn, hs, hsl, hF, hlen, hel⟩ := hR.open
    have HC : Hid (∀ w', Ext w w' → Calls Try.prog 13 #[.agg #[.int .i64 k, .int .i64 n, .string s, .slice ao l.length cap]] w' fun e w'' => e = .returned (.int .i64 (checkV (.mk k n s l))) ∧ Ext w' w'') :=
      fun w' hE => refCheck_any _ hv w' F _ (hR.ext hE)
    by_cases h0 : checkV (.mk k n s l) = 0
    · have hwf := checkV_wf h0
      have HEN : Hid (encOut (.mk k n s l) = (V.mk k n s l).enc) := by unfold encOut; exact if_pos h0
      have HE : Hid (∀ w', Ext w w' → Calls Try.prog 23 #[.agg #[.int .i64 k, .int .i64 n, .string s, .slice ao l.length cap]] w' fun e w2 => ∃ v', e = .returned v' ∧ OwnB w2 w'.heap.size v' ((V.mk k n s l).enc) ∧ Ext w' w2) := by
        intro w' hE
        rcases V.wf_kind hwf with rfl | rfl | ⟨rfl, hwl⟩
        · simpa [V.enc] using refEnc1_any n s _ w' hn
        · simpa [V.enc] using refEnc2_any s _ _ w' (by simp only [V.enc] at hb; simp at hb ⊢; omega)
        · simpa [V.enc] using refEnc3_any _ l _ _ rows F _ _ w' (Nat.le_refl _) hwl (hsl.ext hE) hlen (fun i r x h1 h2 => (hel i r x h1 h2).ext hE) (by simp only [V.enc] at hb; simp at hb ⊢; omega)
      rw [h0] at HC ⊢
      clear h0 hR hel hsl hF hlen hk hn hs hv hb hwf
      go_enter Try.func9, Try.ntmps9
      go_wp2_with fail
      refine (HC.out _ (Ext.alloc (Ext.refl _) _)).mono ?_
      rintro e wc ⟨rfl, hE⟩
      have hE2 := ((Ext.refl w).alloc _).trans hE
      have b0 : wc.cell? ⟨w.heap.size, 0, none⟩ = some (.int .i64 k) := hE.cell (by simp)
      have b1 : wc.cell? ⟨w.heap.size, 1, none⟩ = some (.int .i64 n) := hE.cell (by simp)
      have b2 : wc.cell? ⟨w.heap.size, 2, none⟩ = some (.string s) := hE.cell (by simp)
      have b3 : wc.cell? ⟨w.heap.size, 3, none⟩ = some (.slice ao l.length cap) := hE.cell (by simp)
      go_wp2_with (go_at_call 23; refine (HE.out _ hE2).mono ?_; rintro e w2 ⟨v2, rfl, ho2, hE3⟩)
      go_ret2
      exact ⟨_, rfl, by rw [HEN.out]; exact ownsRow_base ho2 hE2.size, hE2.trans hE3⟩
    · have HEN : Hid (encOut (.mk k n s l) = []) := by unfold encOut; exact if_neg h0
      obtain ⟨c, hc⟩ : ∃ c, c = checkV (.mk k n s l) := ⟨_, rfl⟩
      rw [← hc] at h0 HC ⊢
      have h0' : (c != 0) = true := by simpa using h0
      clear hc h0 hR hel hsl hF hlen hk hn hs hv hb
      go_enter Try.func9, Try.ntmps9
      go_wp2_with (go_at_call 13; refine (HC.out _ (Ext.alloc (Ext.refl _) _)).mono ?_; rintro e wc ⟨rfl, hE⟩)
      go_ret2
      refine ⟨_, rfl, ?_, ((Ext.refl w).alloc _).trans hE⟩
      rw [HEN.out]
      exact World.ownsRow_nil _ _ _ _

set_option maxHeartbeats 1600000 in
theorem size_any (v : V) (hv : v.ht ≤ 1000000) (w : World) (F : Nat → Prop) (cs : List Value) (hR : RepV w F cs v) (hFb : ∀ b, F b → b < w.heap.size) (hb : v.enc.length ≤ 1000000) :
    Calls Try.prog 10 #[.agg cs.toArray] w fun e w' => e = .returned (.tuple #[.int .i64 ((encOut v).length : Nat), .int .i64 (checkV v)]) ∧ Ext w w' := by
  have HC : Hid (∀ w', Ext w w' → Calls Try.prog 8 #[.agg cs.toArray] w' fun e w2 => ∃ ao cap, e = .returned (.tuple #[.slice ao (encOut v).length cap, .int .i64 (checkV v)]) ∧ Ext w' w2) := fun w' hE =>
    (encode_any v hv w' F cs (hR.ext hE) (fun b hb => Nat.lt_of_lt_of_le (hFb b hb) hE.size) hb).mono fun e w2 ⟨v', he, ho, hE2⟩ => by
      rcases ho.2 with ⟨h1, h2⟩ | ⟨g, cap, cur, h1, h2⟩
      · exact ⟨none, 0, by rw [he, h1, h2], hE2⟩
      · exact ⟨_, cap, by rw [he, h1], hE2⟩
  cases v with
  | mk k n s l =>
    obtain ⟨ao, cap, rows, rfl, hk, hn, hs, hsl, hF, hlen, hel⟩ := hR.open
    obtain ⟨c, hc⟩ : ∃ c, c = checkV (.mk k n s l) := ⟨_, rfl⟩
    obtain ⟨el, hel2⟩ : ∃ el, el = (encOut (.mk k n s l)).length := ⟨_, rfl⟩
    rw [← hc, ← hel2] at HC ⊢
    clear hc hel2 hR hel hsl hF hlen hk hn hs hv hb
    go_enter Try.func10, Try.ntmps10
    go_wp2_with (go_at_call 8; refine (HC.out _ (Ext.alloc (Ext.refl _) _)).mono ?_; rintro e wc ⟨ao2, cap2, rfl, hE⟩)
    go_ret2
    exact ⟨rfl, ((Ext.refl w).alloc _).trans hE⟩

set_option maxHeartbeats 1600000 in
theorem refSize_any (v : V) (hv : v.ht ≤ 1000000) (w : World) (F : Nat → Prop) (cs : List Value) (hR : RepV w F cs v) (hb : v.enc.length ≤ 1000000) :
    Calls Try.prog 11 #[.agg cs.toArray] w fun e w' => e = .returned (.tuple #[.int .i64 ((encOut v).length : Nat), .int .i64 (checkV v)]) ∧ Ext w w' := by
  have HC : Hid (∀ w', Ext w w' → Calls Try.prog 9 #[.agg cs.toArray] w' fun e w2 => ∃ ao cap, e = .returned (.tuple #[.slice ao (encOut v).length cap, .int .i64 (checkV v)]) ∧ Ext w' w2) := fun w' hE =>
    (refEncode_any v hv w' F cs (hR.ext hE) hb).mono fun e w2 ⟨v', he, ho, hE2⟩ => by
      rcases ho.2 with ⟨h1, h2⟩ | ⟨g, cap, cur, h1, h2⟩
      · exact ⟨none, 0, by rw [he, h1, h2], hE2⟩
      · exact ⟨_, cap, by rw [he, h1], hE2⟩
  cases v with
  | mk k n s l =>
    obtain ⟨ao, cap, rows, rfl, hk, hn, hs, hsl, hF, hlen, hel⟩ := hR.open
    obtain ⟨c, hc⟩ : ∃ c, c = checkV (.mk k n s l) := ⟨_, rfl⟩
    obtain ⟨el, hel2⟩ : ∃ el, el = (encOut (.mk k n s l)).length := ⟨_, rfl⟩
    rw [← hc, ← hel2] at HC ⊢
    clear hc hel2 hR hel hsl hF hlen hk hn hs hv hb
    go_enter Try.func11, Try.ntmps11
    go_wp2_with (go_at_call 9; refine (HC.out _ (Ext.alloc (Ext.refl _) _)).mono ?_; rintro e wc ⟨ao2, cap2, rfl, hE⟩)
    go_ret2
    exact ⟨rfl, ((Ext.refl w).alloc _).trans hE⟩

end Go.Proofs.Ytmojeecgcmpbkaa
