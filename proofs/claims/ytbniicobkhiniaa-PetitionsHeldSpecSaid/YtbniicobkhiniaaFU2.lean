/- Petitions: Valid, Active and Held as the laws say. -/
import Derived.Test.YtbniicobkhiniaaFU
namespace Go.Proofs.Ytbniicobkhiniaa
open Go.RowKit Go.Sz
set_option maxRecDepth 100000 in
set_option maxHeartbeats 6400000 in
theorem law_valid (k s o v fr to kn no : Int) (w : World) : Calls Try.prog 6 #[.int .i64 k, .int .i64 s, .int .i64 o, .int .i64 v, .agg #[.int .i64 fr, .int .i64 to], .int .i64 kn, .int .i64 no] w (Tru w) := by
  have HS := Lib.hid (fun (W : World) => saneF_any W)
  have HX0 : Hid (Ext w (w.alloc (.cells #[.int .i64 fr, .int .i64 to] 23))) := Lib.hid ((Ext.refl w).alloc _)
  have s0 : (w.alloc (.cells #[.int .i64 fr, .int .i64 to] 23)).cell? ⟨w.heap.size, 0, none⟩ = some (.int .i64 fr) := by simp
  have s1 : (w.alloc (.cells #[.int .i64 fr, .int .i64 to] 23)).cell? ⟨w.heap.size, 1, none⟩ = some (.int .i64 to) := by simp
  obtain ⟨r, hr⟩ : ∃ r, factP ⟨k, s, o, v, fr, to, kn, no⟩ = r := ⟨_, rfl⟩
  have HR := Lib.hid hr
  have HF := Lib.hid (fun (W : World) => fa_as hr W)
  have hfo := Lib.hid (fun (f : Ft) (h : factP ⟨k, s, o, v, fr, to, kn, no⟩ = (f, 0)) => factP_ok h)
  have hfb := Lib.hid (fun (f : Ft) (e : Int) (h : factP ⟨k, s, o, v, fr, to, kn, no⟩ = (f, e)) (he : e ≠ 0) => factP_bad h he)
  clear hr
  by_cases h0 : r.2 = 0
  · obtain ⟨r1, r2⟩ := r
    dsimp only at h0 HF
    subst h0
    obtain ⟨rfl, hfit, hok⟩ := hfo.out r1 HR.out
    have HCK : Hid (∀ (W : World) (b : Nat), b = W.heap.size → Calls Try.prog 22 #[.slice (some ⟨b, 0, none⟩) 1 1] (W.alloc (.cells #[.int .i64 k, .int .i64 s, .int .i64 o, .int .i64 v, .int .i64 fr, .int .i64 to, .int .i64 kn, .int .i64 no] 28)) fun e w' => e = .returned (.int .i64 0) ∧ Ext (W.alloc (.cells #[.int .i64 k, .int .i64 s, .int .i64 o, .int .i64 v, .int .i64 fr, .int .i64 to, .int .i64 kn, .int .i64 no] 28)) w') := Lib.hid fun W b hb => by
      subst hb
      have := checkF_any [⟨k, s, o, v, fr, to, kn, no⟩] _ 1 (W.alloc (.cells #[.int .i64 k, .int .i64 s, .int .i64 o, .int .i64 v, .int .i64 fr, .int .i64 to, .int .i64 kn, .int .i64 no] 28)) (sl_new W (Ft.enc ⟨k, s, o, v, fr, to, kn, no⟩) 8 28 rfl)
      rw [check_one, hok] at this
      exact this
    have hv : v = -1 ∨ (v ≠ -1 ∧ 1 ≤ v) := by
      have h := fitP_value hfit
      dsimp only at h
      omega
    have he := eqFt ⟨k, s, o, v, fr, to, kn, no⟩ ⟨k, s, o, v, fr, to, kn, no⟩
    rw [decide_eq_true rfl] at he
    dsimp only at he HF
    clear hfit hok hfo hfb
    rcases hv with rfl | ⟨hv1, hv2⟩
    · go_enter Try.func6, Try.ntmps6
      go_wp2_with (first
        | (go_at_call 10; refine (HS.out _).mono ?_; rintro e w1 ⟨rfl, hE⟩; replace s0 := hE.cell s0; replace s1 := hE.cell s1; have HX1 := Lib.hid (HX0.out.trans hE); clear hE)
        | (go_at_call 11; refine (HF.out _).mono ?_; rintro e w2 ⟨rfl, hE⟩; replace s0 := hE.cell s0; replace s1 := hE.cell s1; have HX2 := Lib.hid (HX1.out.trans hE); clear hE)
        | (go_at_call 22; refine (HCK.out _ _ (by simp)).mono ?_; rintro e w3 ⟨rfl, hE⟩; have c0 : w3.cell? ⟨w2.heap.size, 0, none⟩ = some (.int .i64 k) := hE.cell (by simp); have c1 : w3.cell? ⟨w2.heap.size, 1, none⟩ = some (.int .i64 s) := hE.cell (by simp); have c2 : w3.cell? ⟨w2.heap.size, 2, none⟩ = some (.int .i64 o) := hE.cell (by simp); have c3 : w3.cell? ⟨w2.heap.size, 3, none⟩ = some (.int .i64 (-1)) := hE.cell (by simp); have c4 : w3.cell? ⟨w2.heap.size, 4, none⟩ = some (.int .i64 fr) := hE.cell (by simp); have c5 : w3.cell? ⟨w2.heap.size, 5, none⟩ = some (.int .i64 to) := hE.cell (by simp); have c6 : w3.cell? ⟨w2.heap.size, 6, none⟩ = some (.int .i64 kn) := hE.cell (by simp); have c7 : w3.cell? ⟨w2.heap.size, 7, none⟩ = some (.int .i64 no) := hE.cell (by simp); replace s0 := ((((Ext.refl w2).alloc _).alloc _).trans hE).cell s0; replace s1 := ((((Ext.refl w2).alloc _).alloc _).trans hE).cell s1; have HX3 := Lib.hid (((HX2.out.alloc _).alloc _).trans hE); clear hE))
      go_ret
      exact ⟨by simp [*], HX3.out⟩
    · go_enter Try.func6, Try.ntmps6
      go_wp2_with (first
        | (go_at_call 10; refine (HS.out _).mono ?_; rintro e w1 ⟨rfl, hE⟩; replace s0 := hE.cell s0; replace s1 := hE.cell s1; have HX1 := Lib.hid (HX0.out.trans hE); clear hE)
        | (go_at_call 11; refine (HF.out _).mono ?_; rintro e w2 ⟨rfl, hE⟩; replace s0 := hE.cell s0; replace s1 := hE.cell s1; have HX2 := Lib.hid (HX1.out.trans hE); clear hE)
        | (go_at_call 22; refine (HCK.out _ _ (by simp)).mono ?_; rintro e w3 ⟨rfl, hE⟩; have c0 : w3.cell? ⟨w2.heap.size, 0, none⟩ = some (.int .i64 k) := hE.cell (by simp); have c1 : w3.cell? ⟨w2.heap.size, 1, none⟩ = some (.int .i64 s) := hE.cell (by simp); have c2 : w3.cell? ⟨w2.heap.size, 2, none⟩ = some (.int .i64 o) := hE.cell (by simp); have c3 : w3.cell? ⟨w2.heap.size, 3, none⟩ = some (.int .i64 v) := hE.cell (by simp); have c4 : w3.cell? ⟨w2.heap.size, 4, none⟩ = some (.int .i64 fr) := hE.cell (by simp); have c5 : w3.cell? ⟨w2.heap.size, 5, none⟩ = some (.int .i64 to) := hE.cell (by simp); have c6 : w3.cell? ⟨w2.heap.size, 6, none⟩ = some (.int .i64 kn) := hE.cell (by simp); have c7 : w3.cell? ⟨w2.heap.size, 7, none⟩ = some (.int .i64 no) := hE.cell (by simp); replace s0 := ((((Ext.refl w2).alloc _).alloc _).trans hE).cell s0; replace s1 := ((((Ext.refl w2).alloc _).alloc _).trans hE).cell s1; have HX3 := Lib.hid (((HX2.out.alloc _).alloc _).trans hE); clear hE))
      go_ret
      exact ⟨by simp [*], HX3.out⟩
  · obtain ⟨r1, r2⟩ := r
    dsimp only at h0 HF
    obtain ⟨rfl, hr2⟩ := hfb.out r1 r2 HR.out h0
    have hz : (r2 != 0) = true := by simp [h0]
    have he := eqFt f0 f0
    rw [decide_eq_true rfl] at he
    unfold f0 at he HF
    dsimp only at he HF
    clear hfo hfb
    rcases hr2 with rfl | rfl
    all_goals
      go_enter Try.func6, Try.ntmps6
      go_wp2_with (first
        | (go_at_call 10; refine (HS.out _).mono ?_; rintro e w1 ⟨rfl, hE⟩; replace s0 := hE.cell s0; replace s1 := hE.cell s1; have HX1 := Lib.hid (HX0.out.trans hE); clear hE)
        | (go_at_call 11; refine (HF.out _).mono ?_; rintro e w2 ⟨rfl, hE⟩; replace s0 := hE.cell s0; replace s1 := hE.cell s1; have HX2 := Lib.hid (HX1.out.trans hE); clear hE))
      go_ret
      exact ⟨rfl, HX2.out.alloc _⟩
set_option maxRecDepth 100000 in
set_option maxHeartbeats 6400000 in
theorem law_active (l : List Ft) (sc st ob t kn : Int) (ht : inI64 t) (ao : Option Addr) (cap : Nat) (w : World) (h : RepF w ao cap l) : Calls Try.prog 4 #[.slice ao l.length cap, .int .i64 sc, .int .i64 st, .int .i64 ob, .int .i64 t, .int .i64 kn] w (Tru w) := by
  have HS := Lib.hid (fun (W : World) => saneF_any W)
  have HL := Lib.hid h
  obtain ⟨⟨v, b⟩, hvb⟩ : ∃ q, activeF l ⟨sc, st, ob⟩ t kn = q := ⟨_, rfl⟩
  have HA : Hid (∀ W, Ext w W → Calls Try.prog 14 #[.agg #[.slice none 0 0, .slice none 0 0, .slice none 0 0, .slice ao l.length cap], .int .i64 sc, .int .i64 st, .int .i64 ob, .int .i64 t, .int .i64 kn] W (RetAct v b [rdOf ⟨sc, st, ob⟩ t] W)) := Lib.hid fun W hW => by have := active_any l sc st ob t kn ht ao cap W (h.ext hW); rwa [hvb] at this
  have HB : Hid (∀ W, Ext w W → Calls Try.prog 15 #[.agg #[.slice none 0 0, .slice none 0 0, .slice none 0 0, .slice ao l.length cap], .int .i64 sc, .int .i64 st, .int .i64 ob, .int .i64 t, .int .i64 kn] W (RetAct v b [rdOf ⟨sc, st, ob⟩ t] W)) := Lib.hid fun W hW => by have := refActive_any l sc st ob t kn ht ao cap W (h.ext hW); rwa [hvb] at this
  clear h ht hvb
  by_cases hfew : l.length ≤ 30
  case neg =>
    have HN := Lib.hid hfew
    clear hfew
    go_enter Try.func4, Try.ntmps4
    go_wp2_with (first
      | (go_at_call 10; refine (HS.out _).mono ?_; rintro e w1 ⟨rfl, hE⟩; have HX1 := Lib.hid hE; clear hE)
      | (go_at_call 13; refine (fewF_any l ao cap _).mono ?_; rintro e w2 ⟨rfl, hE⟩; rw [decide_eq_false HN.out]; have HX2 := Lib.hid (HX1.out.trans hE); clear hE))
    go_ret
    exact ⟨rfl, HX2.out⟩
  case pos =>
    have HN := Lib.hid hfew
    clear hfew
    go_enter Try.func4, Try.ntmps4
    go_wp2_with (first
      | (go_at_call 10; refine (HS.out _).mono ?_; rintro e w1 ⟨rfl, hE⟩; have HX1 := Lib.hid hE; clear hE)
      | (go_at_call 13; refine (fewF_any l ao cap _).mono ?_; rintro e w2 ⟨rfl, hE⟩; rw [decide_eq_true HN.out]; have HX2 := Lib.hid (HX1.out.trans hE); clear hE)
      | (go_at_call 14; have hcb := cb_new w2 [.slice none 0 0, .slice none 0 0, .slice none 0 0, .slice ao l.length cap] 41; have b0 := hcb.at_ 0 _ rfl; have b1 := hcb.at_ 1 _ rfl; have b2 := hcb.at_ 2 _ rfl; have b3 := hcb.at_ 3 _ rfl; clear hcb; refine (HA.out _ (HX2.out.alloc (.cells #[.slice none 0 0, .slice none 0 0, .slice none 0 0, .slice ao l.length cap] 41))).mono ?_; rintro e w3 ⟨ro, rc, rfl, hR, hE⟩; replace b0 := hE.cell b0; replace b1 := hE.cell b1; replace b2 := hE.cell b2; replace b3 := hE.cell b3; have HR3 := Lib.hid hR; have HX3 := Lib.hid ((HX2.out.alloc (.cells #[.slice none 0 0, .slice none 0 0, .slice none 0 0, .slice ao l.length cap] 41)).trans hE); clear hR hE)
      | (go_at_call 15; refine (HB.out _ HX3.out).mono ?_; rintro e w4 ⟨ro', rc', rfl, hR, hE⟩; have HR4 := Lib.hid hR; have HR3' := Lib.hid (HR3.out.ext hE); have HX4 := Lib.hid (HX3.out.trans hE); clear hR hE)
      | (go_at_call 16; refine (sameR_any _ _ ro ro' rc rc' _ HR3'.out HR4.out).mono ?_; rintro e w5 ⟨rfl, hE⟩; have HX5 := Lib.hid (HX4.out.trans hE); clear hE))
    go_ret
    exact ⟨by simp, HX5.out⟩
set_option maxRecDepth 100000 in
set_option maxHeartbeats 6400000 in
theorem law_held (l : List Ft) (st t kn : Int) (ht : inI64 t) (ao : Option Addr) (cap : Nat) (w : World) (h : RepF w ao cap l) : Calls Try.prog 5 #[.slice ao l.length cap, .int .i64 st, .int .i64 t, .int .i64 kn] w (Tru w) := by
  have HS := Lib.hid (fun (W : World) => saneF_any W)
  have H0 : Hid (∀ W, Ext w W → Calls Try.prog 17 #[.agg #[.slice none 0 0, .slice none 0 0, .slice none 0 0, .slice ao l.length cap], .int .i64 st, .int .i64 t, .int .i64 kn] W (RetOf (ofF l 6 st t kn) (rdsF 6 st t) W)) := Lib.hid fun W hW => held_any l st t kn ht ao cap W (h.ext hW)
  have H1 : Hid (∀ W, Ext w W → Calls Try.prog 18 #[.agg #[.slice none 0 0, .slice none 0 0, .slice none 0 0, .slice ao l.length cap], .int .i64 st, .int .i64 t, .int .i64 kn] W (RetOf (ofF l 6 st t kn) (rdsF 6 st t) W)) := Lib.hid fun W hW => refHeld_any l st t kn ht ao cap W (h.ext hW)
  have H2 : Hid (∀ W, Ext w W → Calls Try.prog 19 #[.agg #[.slice none 0 0, .slice none 0 0, .slice none 0 0, .slice ao l.length cap], .int .i64 st, .int .i64 t, .int .i64 kn] W (RetOf (ofF l 11 st t kn) (rdsF 11 st t) W)) := Lib.hid fun W hW => groups_any l st t kn ht ao cap W (h.ext hW)
  have H3 : Hid (∀ W, Ext w W → Calls Try.prog 20 #[.agg #[.slice none 0 0, .slice none 0 0, .slice none 0 0, .slice ao l.length cap], .int .i64 st, .int .i64 t, .int .i64 kn] W (RetOf (ofF l 11 st t kn) (rdsF 11 st t) W)) := Lib.hid fun W hW => refGroups_any l st t kn ht ao cap W (h.ext hW)
  clear h ht
  by_cases hfew : l.length ≤ 30
  case neg =>
    have HN := Lib.hid hfew
    clear hfew
    go_enter Try.func5, Try.ntmps5
    go_wp2_with (first
      | (go_at_call 10; refine (HS.out _).mono ?_; rintro e w1 ⟨rfl, hE⟩; have HX1 := Lib.hid hE; clear hE)
      | (go_at_call 13; refine (fewF_any l ao cap _).mono ?_; rintro e w2 ⟨rfl, hE⟩; rw [decide_eq_false HN.out]; have HX2 := Lib.hid (HX1.out.trans hE); clear hE))
    go_ret
    exact ⟨rfl, HX2.out⟩
  case pos =>
    have HN := Lib.hid hfew
    clear hfew
    generalize ofF l 6 st t kn = k6 at *
    generalize ofF l 11 st t kn = k11 at *
    generalize rdsF 6 st t = d6 at *
    generalize rdsF 11 st t = d11 at *
    go_enter Try.func5, Try.ntmps5
    go_wp2_with (first
      | (go_at_call 10; refine (HS.out _).mono ?_; rintro e w1 ⟨rfl, hE⟩; have HX1 := Lib.hid hE; clear hE)
      | (go_at_call 13; refine (fewF_any l ao cap _).mono ?_; rintro e w2 ⟨rfl, hE⟩; rw [decide_eq_true HN.out]; have HX2 := Lib.hid (HX1.out.trans hE); clear hE)
      | (go_at_call 17; have hcb := cb_new w2 [.slice none 0 0, .slice none 0 0, .slice none 0 0, .slice ao l.length cap] 41; have b0 := hcb.at_ 0 _ rfl; have b1 := hcb.at_ 1 _ rfl; have b2 := hcb.at_ 2 _ rfl; have b3 := hcb.at_ 3 _ rfl; clear hcb; refine (H0.out _ (HX2.out.alloc (.cells #[.slice none 0 0, .slice none 0 0, .slice none 0 0, .slice ao l.length cap] 41))).mono ?_; rintro e y0 ⟨n0, nc0, r0, rc0, rfl, hK, hQ, hE⟩; have HK0 := Lib.hid hK; have HQ0 := Lib.hid hQ; have HY0 := Lib.hid ((HX2.out.alloc (.cells #[.slice none 0 0, .slice none 0 0, .slice none 0 0, .slice ao l.length cap] 41)).trans hE); replace b0 := hE.cell b0; replace b1 := hE.cell b1; replace b2 := hE.cell b2; replace b3 := hE.cell b3; clear hK hQ hE)
      | (go_at_call 18; have hq := HY0.out; clear hq; refine (H1.out _ (HY0.out)).mono ?_; rintro e y1 ⟨n1, nc1, r1, rc1, rfl, hK, hQ, hE⟩; replace HK0 := Lib.hid (SL.ext HK0.out hE); replace HQ0 := Lib.hid (HQ0.out.ext hE); have HK1 := Lib.hid hK; have HQ1 := Lib.hid hQ; have HY1 := Lib.hid ((HY0.out).trans hE); replace b0 := hE.cell b0; replace b1 := hE.cell b1; replace b2 := hE.cell b2; replace b3 := hE.cell b3; clear hK hQ hE)
      | (go_at_call 19; have hq := HY1.out; clear hq; refine (H2.out _ (HY1.out)).mono ?_; rintro e y2 ⟨n2, nc2, r2, rc2, rfl, hK, hQ, hE⟩; replace HK0 := Lib.hid (SL.ext HK0.out hE); replace HQ0 := Lib.hid (HQ0.out.ext hE); replace HK1 := Lib.hid (SL.ext HK1.out hE); replace HQ1 := Lib.hid (HQ1.out.ext hE); have HK2 := Lib.hid hK; have HQ2 := Lib.hid hQ; have HY2 := Lib.hid ((HY1.out).trans hE); replace b0 := hE.cell b0; replace b1 := hE.cell b1; replace b2 := hE.cell b2; replace b3 := hE.cell b3; clear hK hQ hE)
      | (go_at_call 20; have hq := HY2.out; clear hq; refine (H3.out _ (HY2.out)).mono ?_; rintro e y3 ⟨n3, nc3, r3, rc3, rfl, hK, hQ, hE⟩; replace HK0 := Lib.hid (SL.ext HK0.out hE); replace HQ0 := Lib.hid (HQ0.out.ext hE); replace HK1 := Lib.hid (SL.ext HK1.out hE); replace HQ1 := Lib.hid (HQ1.out.ext hE); replace HK2 := Lib.hid (SL.ext HK2.out hE); replace HQ2 := Lib.hid (HQ2.out.ext hE); have HK3 := Lib.hid hK; have HQ3 := Lib.hid hQ; have HY3 := Lib.hid ((HY2.out).trans hE); replace b0 := hE.cell b0; replace b1 := hE.cell b1; replace b2 := hE.cell b2; replace b3 := hE.cell b3; clear hK hQ hE)
      | (go_at_call 16; have hq := HZ2.out; clear hq; refine (sameR_any _ _ r2 r3 rc2 rc3 _ HQ2.out HQ3.out).mono ?_; rintro e z3 ⟨rfl, hE⟩; replace HK0 := Lib.hid (SL.ext HK0.out hE); replace HQ0 := Lib.hid (HQ0.out.ext hE); replace HK1 := Lib.hid (SL.ext HK1.out hE); replace HQ1 := Lib.hid (HQ1.out.ext hE); replace HK2 := Lib.hid (SL.ext HK2.out hE); replace HQ2 := Lib.hid (HQ2.out.ext hE); replace HK3 := Lib.hid (SL.ext HK3.out hE); replace HQ3 := Lib.hid (HQ3.out.ext hE); rw [decide_eq_true rfl]; have HZ3 := Lib.hid (HZ2.out.trans hE); clear hE)
      | (go_at_call 21; have hq := HZ1.out; clear hq; refine (sameI_any _ _ n2 n3 nc2 nc3 _ HK2.out HK3.out).mono ?_; rintro e z2 ⟨rfl, hE⟩; replace HK0 := Lib.hid (SL.ext HK0.out hE); replace HQ0 := Lib.hid (HQ0.out.ext hE); replace HK1 := Lib.hid (SL.ext HK1.out hE); replace HQ1 := Lib.hid (HQ1.out.ext hE); replace HK2 := Lib.hid (SL.ext HK2.out hE); replace HQ2 := Lib.hid (HQ2.out.ext hE); replace HK3 := Lib.hid (SL.ext HK3.out hE); replace HQ3 := Lib.hid (HQ3.out.ext hE); rw [decide_eq_true rfl]; have HZ2 := Lib.hid (HZ1.out.trans hE); clear hE)
      | (go_at_call 16; have hq := HZ0.out; clear hq; refine (sameR_any _ _ r0 r1 rc0 rc1 _ HQ0.out HQ1.out).mono ?_; rintro e z1 ⟨rfl, hE⟩; replace HK0 := Lib.hid (SL.ext HK0.out hE); replace HQ0 := Lib.hid (HQ0.out.ext hE); replace HK1 := Lib.hid (SL.ext HK1.out hE); replace HQ1 := Lib.hid (HQ1.out.ext hE); replace HK2 := Lib.hid (SL.ext HK2.out hE); replace HQ2 := Lib.hid (HQ2.out.ext hE); replace HK3 := Lib.hid (SL.ext HK3.out hE); replace HQ3 := Lib.hid (HQ3.out.ext hE); rw [decide_eq_true rfl]; have HZ1 := Lib.hid (HZ0.out.trans hE); clear hE)
      | (go_at_call 21; refine (sameI_any _ _ n0 n1 nc0 nc1 _ HK0.out HK1.out).mono ?_; rintro e z0 ⟨rfl, hE⟩; replace HK0 := Lib.hid (SL.ext HK0.out hE); replace HQ0 := Lib.hid (HQ0.out.ext hE); replace HK1 := Lib.hid (SL.ext HK1.out hE); replace HQ1 := Lib.hid (HQ1.out.ext hE); replace HK2 := Lib.hid (SL.ext HK2.out hE); replace HQ2 := Lib.hid (HQ2.out.ext hE); replace HK3 := Lib.hid (SL.ext HK3.out hE); replace HQ3 := Lib.hid (HQ3.out.ext hE); rw [decide_eq_true rfl]; have HZ0 := Lib.hid (HY3.out.trans hE); clear hE))
    go_ret
    exact ⟨by simp, HZ3.out⟩
end Go.Proofs.Ytbniicobkhiniaa
