import Derived.Test.YtahaplioegeloaaDoorC9
namespace Go.Proofs.YtahaplioegeloaaDoor
open Go.RowKit Go.Sz

set_option maxHeartbeats 1600000 in
theorem refEncode_any (v : V) (hv : v.ht ≤ 1000000) (w : World) (F : Nat → Prop) (cs : List Value) (hR : RepV w F cs v) (hb : v.enc.length ≤ 1000000) :
    Calls Tryd.prog 34 #[.agg cs.toArray] w fun e w' => ∃ v', e = .returned (.tuple #[v', .int .i64 (checkV v)]) ∧ OwnB w' w.heap.size v' (encOut v) ∧ Ext w w' := by
  cases v with
  | mk k n s l =>
    obtain ⟨ao, cap, rows, rfl, hk, hn, hs, hsl, hF, hlen, hel⟩ := hR.open
    have HC : Hid (∀ w', Ext w w' → Calls Tryd.prog 52 #[.agg #[.int .i64 k, .int .i64 n, .string s, .slice ao l.length cap]] w' fun e w'' => e = .returned (.int .i64 (checkV (.mk k n s l))) ∧ Ext w' w'') :=
      fun w' hE => refCheck_any _ hv w' F _ (hR.ext hE)
    by_cases h0 : checkV (.mk k n s l) = 0
    · have hwf := checkV_wf h0
      have HEN : Hid (encOut (.mk k n s l) = (V.mk k n s l).enc) := by unfold encOut; exact if_pos h0
      have HE : Hid (∀ w', Ext w w' → Calls Tryd.prog 53 #[.agg #[.int .i64 k, .int .i64 n, .string s, .slice ao l.length cap]] w' fun e w2 => ∃ v', e = .returned v' ∧ OwnB w2 w'.heap.size v' ((V.mk k n s l).enc) ∧ Ext w' w2) := by
        intro w' hE
        rcases V.wf_kind hwf with rfl | rfl | ⟨rfl, hwl⟩
        · simpa [V.enc] using refEnc1_any n s _ w' hn
        · simpa [V.enc] using refEnc2_any s _ _ w' (by simp only [V.enc] at hb; simp at hb ⊢; omega)
        · simpa [V.enc] using refEnc3_any _ l _ _ rows F _ _ w' (Nat.le_refl _) hwl (hsl.ext hE) hlen (fun i r x h1 h2 => (hel i r x h1 h2).ext hE) (by simp only [V.enc] at hb; simp at hb ⊢; omega)
      rw [h0] at HC ⊢
      clear h0 hR hel hsl hF hlen hk hn hs hv hb hwf
      go_enter Tryd.func34, Tryd.ntmps34
      go_wp2_with fail
      refine (HC.out _ (Ext.alloc (Ext.refl _) _)).mono ?_
      rintro e wc ⟨rfl, hE⟩
      have hE2 := ((Ext.refl w).alloc _).trans hE
      have b0 : wc.cell? ⟨w.heap.size, 0, none⟩ = some (.int .i64 k) := hE.cell (by simp)
      have b1 : wc.cell? ⟨w.heap.size, 1, none⟩ = some (.int .i64 n) := hE.cell (by simp)
      have b2 : wc.cell? ⟨w.heap.size, 2, none⟩ = some (.string s) := hE.cell (by simp)
      have b3 : wc.cell? ⟨w.heap.size, 3, none⟩ = some (.slice ao l.length cap) := hE.cell (by simp)
      go_wp2_with (go_at_call 53; refine (HE.out _ hE2).mono ?_; rintro e w2 ⟨v2, rfl, ho2, hE3⟩)
      go_ret2
      exact ⟨_, rfl, by rw [HEN.out]; exact ownsRow_base ho2 hE2.size, hE2.trans hE3⟩
    · have HEN : Hid (encOut (.mk k n s l) = []) := by unfold encOut; exact if_neg h0
      obtain ⟨c, hc⟩ : ∃ c, c = checkV (.mk k n s l) := ⟨_, rfl⟩
      rw [← hc] at h0 HC ⊢
      have h0' : (c != 0) = true := by simpa using h0
      clear hc h0 hR hel hsl hF hlen hk hn hs hv hb
      go_enter Tryd.func34, Tryd.ntmps34
      go_wp2_with (go_at_call 52; refine (HC.out _ (Ext.alloc (Ext.refl _) _)).mono ?_; rintro e wc ⟨rfl, hE⟩)
      go_ret2
      refine ⟨_, rfl, ?_, ((Ext.refl w).alloc _).trans hE⟩
      rw [HEN.out]
      exact World.ownsRow_nil _ _ _ _

end Go.Proofs.YtahaplioegeloaaDoor
