/- Repeat: the reference's. -/
import Derived.Test.YtdlahgmbilkdcaaNF
namespace Go.Proofs.Ytdlahgmbilkdcaa
open Go.RowKit Go.Sz

set_option maxRecDepth 100000 in
set_option maxHeartbeats 3200000 in
theorem refRepeat_any (n : Nw) (i : Int) (cs : List Value) (w : World) (h : RepN w cs n) : Calls Try.prog 26 #[.agg cs.toArray, .int .i64 i] w (RetN (repeatN n i) w) := by
  have HH := Lib.hid h
  have HC := Lib.hid fun (W : World) (hE : Ext w W) => refAsked_any n i _ W (HH.out.ext hE)
  have HX : Hid (repeatN n i = if askN n i = 0 then sendN n (n.q.getD i.toNat ⟨0, 0, []⟩) else (⟨[], []⟩, askN n i)) := Lib.hid rfl
  have HAS : Hid ((atN n i).2 = askN n i) := Lib.hid rfl
  have HAX : Hid (atN n i = (if askN n i = 0 then n.q.getD i.toNat ⟨0, 0, []⟩ else ⟨0, 0, []⟩, askN n i)) := Lib.hid rfl
  have hs1 := h.sizes
  obtain ⟨ao, cap, bo, cap', rows, rfl, hq, ha⟩ := h
  have HQ := Lib.hid hq
  clear hq ha
  obtain ⟨q, a⟩ := n
  simp only at HX HC HAS HAX HQ hs1 ⊢
  have hX0 := ((Ext.refl w).alloc (.cells #[.slice ao q.length cap, .slice bo a.length cap'] 25)).alloc (.cells #[.slice none 0 0, .slice none 0 0] 25)
  have hbn := (Box2.new w (.slice ao q.length cap) (.slice bo a.length cap') 25).ext ((Ext.refl _).alloc (.cells #[.slice none 0 0, .slice none 0 0] 25))
  have hbr := Box2.new' (w.alloc (.cells #[.slice ao q.length cap, .slice bo a.length cap'] 25)) (.slice none 0 0) (.slice none 0 0) 25 (w.heap.size + 1) (by simp)
  by_cases hak : askN ⟨q, a⟩ i = 0
  · obtain ⟨hok, hi0, hi1⟩ := askN_zero hak
    obtain ⟨k, rfl⟩ : ∃ k : Nat, i = (k : Int) := ⟨i.toNat, by omega⟩
    have hk : k < q.length := by simp only at hi1; omega
    obtain ⟨b, o, rfl, _⟩ := HQ.out.sl.at (by omega) k (by rw [HQ.out.len]; exact hk)
    obtain ⟨f, t, d, co, cap2, hqk, hP, c0, c1, c2⟩ := q_cells HQ.out (Ext.refl w) hk
    have HR : Hid (repeatN ⟨q, a⟩ k = sendN ⟨q, a⟩ ⟨f, t, d⟩) := Lib.hid (by rw [HX.out, if_pos hak, ← hqk]; simp [List.getD, hk])
    have HP : Hid (RepP w [.int .i64 f, .int .i64 t, .slice co d.length cap2] ⟨f, t, d⟩) := Lib.hid (by rw [hqk] at hP; exact hP)
    clear hqk hP
    generalize askN ⟨q, a⟩ k = ak at *
    subst hak
    generalize repeatN ⟨q, a⟩ k = r at *
    obtain rfl := HR.out
    have hk1 : (0 : Int) ≤ (k : Int) := by omega
    have hk2 : (k : Int) < (q.length : Int) := by omega
    clear hok hi0 hi1
    go_enter Try.func26, Try.ntmps26
    go_wp2_with (first
      | (go_at_call 41; refine (HC.out _ hX0).mono ?_; rintro e w1 ⟨rfl, hE1⟩; obtain ⟨n0, n1, _⟩ := hbn.ext hE1; obtain ⟨r0, r1, rz⟩ := hbr.ext hE1))
    have hX1 := hX0.trans hE1
    have HBR := Lib.hid (hbr.ext hE1)
    have gn0 : ∀ X, (w1.drew.grow X).cell? ⟨w.heap.size, 0, none⟩ = some (.slice (some ⟨b, o, none⟩) q.length cap) := fun X => ((Ext.refl w1).drew.trans (ext_grow _ X)).cell n0
    have gn1 : ∀ X, (w1.drew.grow X).cell? ⟨w.heap.size, 1, none⟩ = some (.slice bo a.length cap') := fun X => ((Ext.refl w1).drew.trans (ext_grow _ X)).cell n1
    have gc0 : ∀ X, (w1.drew.grow X).cell? ⟨b, o + k * 3, none⟩ = some (.int .i64 f) := fun X => (hX1.trans ((Ext.refl w1).drew.trans (ext_grow _ X))).cell c0
    have gc1 : ∀ X, (w1.drew.grow X).cell? ⟨b, o + k * 3 + 1, none⟩ = some (.int .i64 t) := fun X => (hX1.trans ((Ext.refl w1).drew.trans (ext_grow _ X))).cell c1
    have gc2 : ∀ X, (w1.drew.grow X).cell? ⟨b, o + k * 3 + 2, none⟩ = some (.slice co d.length cap2) := fun X => (hX1.trans ((Ext.refl w1).drew.trans (ext_grow _ X))).cell c2
    refine wp_region_rel (fun j => if j = 6 then some (spRetN (sendN ⟨q, a⟩ ⟨f, t, d⟩)) else none) 9 2 (by kernel_rfl) (by kernel_rfl) ?_
    simp only [List.take_succ_cons, List.take_zero]
    repeat (first
      | (refine wpRel_quick ?_ ?_ ?_ ?_
         · rfl
         · rfl
         · first | exact noEnter rfl | (intro f args W W'; go_simp)
         intro K hK
         go_big_quiet_op
         go_big_quiet_on)
      | (refine wpRel_skip ?_ ?_
         · rfl
         simp only [Act.put, List.setIfInBounds_toArray, List.set_cons_zero, List.set_cons_succ]))
    refine wpRel_rich _ rfl rfl (fun W hW => ?_) (fun v W2 hW2 hv => ?_)
    · have hx : Ext w W := hX1.trans ((Ext.refl w1).drew.trans hW.1)
      have hc := refSend_any ⟨q, a⟩ ⟨f, t, d⟩ _ _ W (HH.out.ext hx) (HP.out.ext hx)
      go_simp
      refine Calls.mono hc ?_
      rintro e w2 ⟨cs2, rfl, hN2, hE2⟩
      exact ⟨_, rfl, ⟨cs2, rfl, hN2⟩, hE2⟩
    obtain ⟨cs2, rfl, hN2⟩ := hv
    obtain ⟨ao2, cap3, bo2, cap4, rfl⟩ := hN2.open
    simp only [Act.put, List.setIfInBounds_toArray, List.set_cons_zero, List.set_cons_succ]
    repeat (first
      | (refine wpRel_quick ?_ ?_ ?_ ?_
         · rfl
         · rfl
         · first | exact noEnter rfl | (intro f args W W'; go_simp)
         intro K hK
         go_big_quiet_op
         go_big_quiet_on)
      | (refine wpRel_skip ?_ ?_
         · rfl
         simp only [Act.put, List.setIfInBounds_toArray, List.set_cons_zero, List.set_cons_succ]))
    refine wpRel_nil ?_
    intro W hW
    obtain ⟨cs2', hcs, hN2'⟩ := hW.2 6 trivial _ _ rfl rfl
    have hEW := (Ext.refl w1).drew.trans hW.1
    have HN2 : Hid (RepN W [.slice ao2 (sendN ⟨q, a⟩ ⟨f, t, d⟩).1.q.length cap3, .slice bo2 (sendN ⟨q, a⟩ ⟨f, t, d⟩).1.a.length cap4] (sendN ⟨q, a⟩ ⟨f, t, d⟩).1) := Lib.hid (by
      simp only [Value.tuple.injEq, Array.mk.injEq, List.cons.injEq, Value.agg.injEq, and_true] at hcs
      rw [hcs]
      exact hN2')
    clear hcs hN2' hN2
    have HB2 := Lib.hid (HBR.out.ext hEW)
    obtain ⟨t0, t1, tz⟩ := HB2.out
    have hX2 := hX1.trans hEW
    refine wpAny_ready (rs := [9]) (by kernel_rfl) (by simp) ?_
    refine AllReady.cons rfl (fun K hK => ?_) AllReady.nil
    go_simp
    refine hK _ _ ?_
    clear hK K
    refine wpAny_ready (rs := [10]) (by kernel_rfl) (by simp) ?_
    refine AllReady.cons rfl (fun K hK => ?_) AllReady.nil
    go_simp
    refine hK _ _ ?_
    clear hK K
    refine wpAny_done (by kernel_rfl) ?_ _
    go_wp2_with fail
    have hXF := (hX2.setCell (p := ⟨w.heap.size + 1, 0, none⟩) (by simp) (.slice ao2 (sendN ⟨q, a⟩ ⟨f, t, d⟩).1.q.length cap3)).setCell (p := ⟨w.heap.size + 1, 1, none⟩) (by simp) (.slice bo2 (sendN ⟨q, a⟩ ⟨f, t, d⟩).1.a.length cap4)
    refine bodyPost_ret (v := .tuple #[.agg #[.slice ao2 (sendN ⟨q, a⟩ ⟨f, t, d⟩).1.q.length cap3, .slice bo2 (sendN ⟨q, a⟩ ⟨f, t, d⟩).1.a.length cap4], .int .i64 (sendN ⟨q, a⟩ ⟨f, t, d⟩).2]) ?_ rfl ⟨_, rfl, HN2.out.setN HB2.out _ _, hXF⟩
    simp [results, Try.results26, go_sem, t0, t1]
  · have HR : Hid (repeatN ⟨q, a⟩ i = (⟨[], []⟩, askN ⟨q, a⟩ i)) := Lib.hid (by rw [HX.out, if_neg hak])
    generalize askN ⟨q, a⟩ i = ak at *
    generalize repeatN ⟨q, a⟩ i = r at *
    obtain rfl := HR.out
    have hne : (ak != 0) = true := by simpa using hak
    clear hak
    go_enter Try.func26, Try.ntmps26
    go_wp2_with (first
      | (go_at_call 41; refine (HC.out _ hX0).mono ?_; rintro e w1 ⟨rfl, hE1⟩; obtain ⟨n0, n1, _⟩ := hbn.ext hE1; obtain ⟨r0, r1, rz⟩ := hbr.ext hE1))
    refine bodyPost_ret (v := .tuple #[.agg #[.slice none 0 0, .slice none 0 0], .int .i64 ak]) ?_ rfl ⟨_, rfl, RepN.zero _, ?_⟩
    · simp [results, Try.results26, go_sem, r0, r1]
    · exact ((hX0.trans hE1).setCell (by simp) _).setCell (by simp) _
end Go.Proofs.Ytdlahgmbilkdcaa
