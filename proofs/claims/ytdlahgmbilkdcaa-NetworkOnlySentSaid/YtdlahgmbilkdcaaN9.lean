/- Send: the reference's. -/
import Derived.Test.YtdlahgmbilkdcaaN8
import Derived.Test.YtdlahgmbilkdcaaN6
namespace Go.Sz
open Go.RowKit
theorem Ext.trans' {a b c : World} {v v' : Value} (h : Ext a b) (g : Grows b v c v') (hv : ∀ k, v.ownBlock = some k → a.heap.size ≤ k) : Ext a c := Below.trans h (g.below h.size hv)
end Go.Sz
namespace Go.Proofs.Ytdlahgmbilkdcaa
open Go.RowKit Go.Sz

set_option maxRecDepth 100000 in
set_option maxHeartbeats 3200000 in
theorem refSend_any (n : Nw) (p : Pk) (cs cp : List Value) (w : World) (h : RepN w cs n) (hp : RepP w cp p) : Calls Try.prog 12 #[.agg cs.toArray, .agg cp.toArray] w (RetN (sendN n p) w) := by
  have HH := Lib.hid h
  have HP := Lib.hid hp
  obtain ⟨ao, cap, bo, cap', rows, rfl, hq, ha⟩ := h
  obtain ⟨co, cap2, rfl, hf, ht, hd⟩ := hp
  have HC := Lib.hid fun (W : World) (hE : Ext w W) => refCheck_any n _ W (HH.out.ext hE)
  have HK := Lib.hid fun (W : World) (hE : Ext w W) => refPacket_any p _ W (HP.out.ext hE)
  obtain ⟨q, a⟩ := n
  obtain ⟨f, t, d⟩ := p
  simp only at hq ha HC HK ⊢
  have HX : Hid (sendN ⟨q, a⟩ ⟨f, t, d⟩ = if okN ⟨q, a⟩ = true then (if okP ⟨f, t, d⟩ = true then (if q.length = 4096 then (⟨[], []⟩, 2) else (⟨q ++ [⟨f, t, d⟩], a⟩, 0)) else (⟨[], []⟩, 480)) else (⟨[], []⟩, 480)) := Lib.hid rfl
  have HCX := Lib.hid (okN_eq ⟨q, a⟩)
  have hs1 : (q.length : Int) ≤ 9223372036854775807 := by have := hq.sl.max; have := hq.sl.le; have := hq.len; omega
  have HQ := Lib.hid hq
  have HA := Lib.hid ha
  have HPF := Lib.hid HP.out
  clear hq ha hd HH HP
  have hX0 := (((Ext.refl w).alloc (.cells #[.slice ao q.length cap, .slice bo a.length cap'] 25)).alloc (.cells #[.int .i64 f, .int .i64 t, .slice co d.length cap2] 28)).alloc (.cells #[.slice none 0 0, .slice none 0 0] 25)
  have hbn := ((Box2.new w (.slice ao q.length cap) (.slice bo a.length cap') 25).ext ((Ext.refl _).alloc (.cells #[.int .i64 f, .int .i64 t, .slice co d.length cap2] 28))).ext ((Ext.refl _).alloc (.cells #[.slice none 0 0, .slice none 0 0] 25))
  have hbp := (Box3.new' (w.alloc (.cells #[.slice ao q.length cap, .slice bo a.length cap'] 25)) (.int .i64 f) (.int .i64 t) (.slice co d.length cap2) 28 (w.heap.size + 1) (by simp)).ext ((Ext.refl _).alloc (.cells #[.slice none 0 0, .slice none 0 0] 25))
  have hbr := Box2.new' ((w.alloc (.cells #[.slice ao q.length cap, .slice bo a.length cap'] 25)).alloc (.cells #[.int .i64 f, .int .i64 t, .slice co d.length cap2] 28)) (.slice none 0 0) (.slice none 0 0) 25 (w.heap.size + 1 + 1) (by simp)
  have HOKN : Hid (okN ⟨q, a⟩ = true → q.length ≤ 4096) := Lib.hid fun h => by
    simp only [okN, Bool.and_eq_true, decide_eq_true_eq] at h
    exact h.1.1
  generalize okN ⟨q, a⟩ = ok at *
  generalize okP ⟨f, t, d⟩ = okp at *
  generalize checkN ⟨q, a⟩ = ck at *
  generalize sendN ⟨q, a⟩ ⟨f, t, d⟩ = r at *
  obtain ⟨i0, hi, hz0, hz1, hz2⟩ := info_parts infoPk
  cases ok with
  | false =>
    have hck : ck = 480 := by rw [HCX.out]; rfl
    have hr : r = (⟨[], []⟩, 480) := by rw [HX.out]; rfl
    subst hck hr
    go_enter Try.func12, Try.ntmps12
    go_wp2_with (go_at_call 14; refine (HC.out _ hX0).mono ?_; rintro e w1 ⟨rfl, hE1⟩; obtain ⟨r0, r1, rz⟩ := hbr.ext hE1)
    refine bodyPost_ret (v := .tuple #[.agg #[.slice none 0 0, .slice none 0 0], .int .i64 480]) ?_ rfl ⟨_, rfl, RepN.zero _, ?_⟩
    · simp [results, Try.results12, go_sem, r0, r1]
    · exact ((hX0.trans hE1).setCell (by simp; omega) _).setCell (by simp; omega) _
  | true =>
    have hck : ck = 0 := by rw [HCX.out]; rfl
    subst hck
    cases okp with
    | false =>
      have hr : r = (⟨[], []⟩, 480) := by rw [HX.out]; rfl
      subst hr
      go_enter Try.func12, Try.ntmps12
      go_wp2_with (first
        | (go_at_call 14; refine (HC.out _ hX0).mono ?_; rintro e w1 ⟨rfl, hE1⟩; obtain ⟨p0, p1, p2, _⟩ := hbp.ext hE1)
        | (go_at_call 29; refine (HK.out _ (hX0.trans hE1)).mono ?_; rintro e w2 ⟨rfl, hE2⟩; obtain ⟨r0, r1, rz⟩ := hbr.ext (hE1.trans hE2)))
      refine bodyPost_ret (v := .tuple #[.agg #[.slice none 0 0, .slice none 0 0], .int .i64 480]) ?_ rfl ⟨_, rfl, RepN.zero _, ?_⟩
      · simp [results, Try.results12, go_sem, r0, r1]
      · exact (((hX0.trans hE1).trans hE2).setCell (by simp; omega) _).setCell (by simp; omega) _
    | true =>
      by_cases hfull : q.length = 4096
      · have hr : r = (⟨[], []⟩, 2) := by rw [HX.out]; simp [hfull]
        subst hr
        have hqi : ((q.length : Int) == 4096) = true := by simp; omega
        have HF := Lib.hid hfull
        clear hfull
        go_enter Try.func12, Try.ntmps12
        go_wp2_with (first
          | (go_at_call 14; refine (HC.out _ hX0).mono ?_; rintro e w1 ⟨rfl, hE1⟩; obtain ⟨p0, p1, p2, _⟩ := hbp.ext hE1)
          | (go_at_call 29; refine (HK.out _ (hX0.trans hE1)).mono ?_; rintro e w2 ⟨rfl, hE2⟩; obtain ⟨r0, r1, rz⟩ := hbr.ext (hE1.trans hE2); obtain ⟨n0, n1, _⟩ := hbn.ext (hE1.trans hE2)))
        refine bodyPost_ret (v := .tuple #[.agg #[.slice none 0 0, .slice none 0 0], .int .i64 2]) ?_ rfl ⟨_, rfl, RepN.zero _, ?_⟩
        · simp [results, Try.results12, go_sem, r0, r1]
        · exact (((hX0.trans hE1).trans hE2).setCell (by simp; omega) _).setCell (by simp; omega) _
      · have hr : r = (⟨q ++ [⟨f, t, d⟩], a⟩, 0) := by rw [HX.out]; simp [hfull]
        subst hr
        have hql2 : q.length ≤ 4096 := by
          have := HOKN.out rfl
          omega
        have hqi : ((q.length : Int) == 4096) = false := by simp; omega
        have HF := Lib.hid hfull
        clear hfull
        have hql : (0 : Int) ≤ (q.length : Int) := by omega
        go_enter Try.func12, Try.ntmps12
        go_wp2_with (first
          | (go_at_call 14; refine (HC.out _ hX0).mono ?_; rintro e w1 ⟨rfl, hE1⟩; obtain ⟨p0, p1, p2, _⟩ := hbp.ext hE1)
          | (go_at_call 29; refine (HK.out _ (hX0.trans hE1)).mono ?_; rintro e w2 ⟨rfl, hE2⟩; obtain ⟨n0, n1, nz⟩ := hbn.ext (hE1.trans hE2)))
        have hX2 := (hX0.trans hE1).trans hE2
        obtain ⟨p0, p1, p2, _⟩ := hbp.ext (hE1.trans hE2)
        have HBN := Lib.hid (hbn.ext (hE1.trans hE2))
        have hqc : q.length ≤ cap := by have := HQ.out.sl.le; have := HQ.out.len; omega
        have gn0 : ∀ X, (w2.drew.grow X).cell? ⟨w.heap.size, 0, none⟩ = some (.slice ao q.length cap) := fun X => ((Ext.refl w2).drew.trans (ext_grow _ X)).cell n0
        have gp0 : ∀ X, (w2.drew.grow X).cell? ⟨w.heap.size + 1, 0, none⟩ = some (.int .i64 f) := fun X => ((Ext.refl w2).drew.trans (ext_grow _ X)).cell p0
        have gp1 : ∀ X, (w2.drew.grow X).cell? ⟨w.heap.size + 1, 1, none⟩ = some (.int .i64 t) := fun X => ((Ext.refl w2).drew.trans (ext_grow _ X)).cell p1
        have gp2 : ∀ X, (w2.drew.grow X).cell? ⟨w.heap.size + 1, 2, none⟩ = some (.slice co d.length cap2) := fun X => ((Ext.refl w2).drew.trans (ext_grow _ X)).cell p2
        have HZ : Hid (w.heap.size + 3 ≤ w2.heap.size) := Lib.hid (by have h1 := (hE1.trans hE2).size; simp at h1; omega)
        refine wp_region_rel (fun k => if k = 0 then some (spE (w.heap.size + 3) 28 3) else if k = 3 then some (spOwn (w.heap.size + 3) 28 3 q.length rows) else if k = 5 then some (spSL 3 1 1 [[.int .i64 f, .int .i64 t, .slice co d.length cap2]]) else none) 6 3 (by kernel_rfl) (by kernel_rfl) ?_
        simp only [List.take_succ_cons, List.take_zero]
        refine wpRel_rich _ rfl rfl (fun W hW => ?_) (fun v W1 hW1 hv => ?_)
        · go_simp
          exact ⟨⟨_, rfl, own_empty W _ (by have h1 : w2.heap.size ≤ W.heap.size := hW.1.size; have h2 := HZ.out; omega) _ _⟩, (Ext.refl _).alloc _⟩
        obtain ⟨g0, rfl, _⟩ := hv
        simp only [Act.put, List.setIfInBounds_toArray, List.set_cons_zero, List.set_cons_succ]
        repeat (first
          | (refine wpRel_quick ?_ ?_ ?_ ?_
             · rfl
             · rfl
             · first | exact noEnter rfl | (intro f args W W'; go_simp)
             intro K hK
             go_big_quiet_op
             go_big_quiet_on)
          | (refine wpRel_skip ?_ ?_
             · rfl
             simp only [Act.put, List.setIfInBounds_toArray, List.set_cons_zero, List.set_cons_succ]))
        refine wpRel_rich _ rfl rfl (fun W hW => ?_) (fun v W2 hW2 hv => ?_)
        · obtain ⟨g1, hg1, ho⟩ := hW.2 0 (by unfold Anc; kernel_rfl) _ _ rfl rfl
          have hx : Ext w W := hX2.trans ((Ext.refl w2).drew.trans hW.1)
          refine g_append_fresh _ _ 22 22 rfl 28 i0 _ 3 40 Try.underlying22 hi hz0 hz1 hz2 rfl (by omega) _ (by have h1 : w2.heap.size ≤ W.heap.size := hW.1.size; have h2 := HZ.out; omega) g0 rfl ho (.slice ao q.length cap) q.length rows rfl ?_ HQ.out.sl.wid HQ.out.len (by unfold maxLen; omega) (by omega)
          have := (HQ.out.sl.ext hx).src (P := Try.prog) (by omega) Try.underlying22 HQ.out.one
          rwa [HQ.out.len] at this
        obtain ⟨ac, cc, rfl, _, _⟩ := SL.of_own hv HQ.out.sl.wid HQ.out.len
        simp only [Act.put, List.setIfInBounds_toArray, List.set_cons_zero, List.set_cons_succ]
        repeat (first
          | (refine wpRel_quick ?_ ?_ ?_ ?_
             · rfl
             · rfl
             · first | exact noEnter rfl | (intro f args W W'; go_simp)
             intro K hK
             go_big_quiet_op
             go_big_quiet_on)
          | (refine wpRel_skip ?_ ?_
             · rfl
             simp only [Act.put, List.setIfInBounds_toArray, List.set_cons_zero, List.set_cons_succ]))
        refine wpRel_rich _ rfl rfl (fun W hW => ?_) (fun v3 W3 hW3 hv3 => ?_)
        · go_simp
          exact ⟨⟨_, rfl, sl_new W [.int .i64 f, .int .i64 t, .slice co d.length cap2] 3 _ rfl⟩, (Ext.refl _).alloc _⟩
        obtain ⟨ap, rfl, _⟩ := hv3
        simp only [Act.put, List.setIfInBounds_toArray, List.set_cons_zero, List.set_cons_succ]
        refine wpRel_nil ?_
        intro W hW
        have ho3 := hW.2 3 trivial _ _ rfl rfl
        obtain ⟨ap', hap, hs5⟩ := hW.2 5 trivial _ _ rfl rfl
        cases hap
        have hEW := (Ext.refl w2).drew.trans hW.1
        have hXW := hX2.trans hEW
        have hbnW := (hbn.ext (hE1.trans hE2)).ext hEW
        have hbrW := (hbr.ext (hE1.trans hE2)).ext hEW
        have hDW : w.heap.size + 3 ≤ W.heap.size := by have h1 : w2.heap.size ≤ W.heap.size := hW.1.size; have h2 := HZ.out; omega
        have HRB := Lib.hid (ownsRow_blocks ho3)
        refine wpAny_ready (rs := [6]) (by kernel_rfl) (by simp) ?_
        refine AllReady.cons rfl (fun K hK => ?_) AllReady.nil
        refine step_append_S rfl _ _ 22 22 rfl (w.heap.size + 3) 28 i0 _ 3 40 Try.underlying22 hi hz0 hz1 hz2 rfl _ q.length rows.flatten rfl ho3 (.slice ap 1 1) 1 [.int .i64 f, .int .i64 t, .slice co d.length cap2] rfl ?_ (by unfold maxLen; omega) (by omega) hDW ?_
        · have := hs5.src (P := Try.prog) (by omega) Try.underlying22 (by simp [Value.oneCell'])
          simpa using this
        intro v6 w6 ho6 hg6
        have hX6 : Ext w w6 := hXW.trans' hg6 (fun k hk => by have := HRB.out k hk; omega)
        have hbn6 : Box2 w6 w.heap.size (.slice ao q.length cap) (.slice bo a.length cap') := hbnW.keep (hg6.by_.block _ hbnW.lt (fun h => by have := HRB.out _ h.symm; omega))
        have hbr6 : Box2 w6 (w.heap.size + 1 + 1) (.slice none 0 0) (.slice none 0 0) := hbrW.keep (hg6.by_.block _ hbrW.lt (fun h => by have := HRB.out _ h.symm; omega))
        have ho6' : w6.ownsRow (w.heap.size + 3) 28 3 v6 (q.length + 1) (rows ++ [[Value.int .i64 f, Value.int .i64 t, Value.slice co d.length cap2]]).flatten := by simpa using ho6
        obtain ⟨ao3, cap3, rfl, hs6, hfar⟩ := SL.of_own ho6' (by have := HQ.out.sl.wid; intro r hr; rcases List.mem_append.1 hr with h | h; exact this r h; simp at h; subst h; rfl) (by simp [HQ.out.len])
        have HF3 := Lib.hid hfar
        have HS6 := Lib.hid hs6
        have HX6 := Lib.hid hX6
        clear ho6 ho6' ho3 hs5 hfar hs6 hg6 hX6
        refine hK _ _ ?_
        clear hK K
        simp only [Act.put, List.setIfInBounds_toArray]
        obtain ⟨m0, m1, mz⟩ := hbn6
        obtain ⟨r0, r1, rz⟩ := hbr6
        refine wpAny_ready (rs := [7]) (by kernel_rfl) (by simp) ?_
        refine AllReady.cons rfl (fun K hK => ?_) AllReady.nil
        go_simp
        refine hK _ _ ?_
        clear hK K
        refine wpAny_ready (rs := [8]) (by kernel_rfl) (by simp) ?_
        refine AllReady.cons rfl (fun K hK => ?_) AllReady.nil
        go_simp
        refine hK _ _ ?_
        clear hK K
        refine wpAny_done (by kernel_rfl) ?_ _
        go_wp2_with fail
        have hXF := ((HX6.out.setCell (p := ⟨w.heap.size, 0, none⟩) (by simp) (.slice ao3 (q.length + 1) cap3)).setCell (p := ⟨w.heap.size + 1 + 1, 0, none⟩) (by simp; omega) (.slice ao3 (q.length + 1) cap3)).setCell (p := ⟨w.heap.size + 1 + 1, 1, none⟩) (by simp; omega) (.slice bo a.length cap')
        have hSF := ((HS6.out.setCell (p := ⟨w.heap.size, 0, none⟩) (.slice ao3 (q.length + 1) cap3) (fun x hx _ => by have := HF3.out x hx; simp; omega)).setCell (p := ⟨w.heap.size + 1 + 1, 0, none⟩) (.slice ao3 (q.length + 1) cap3) (fun x hx _ => by have := HF3.out x hx; simp; omega)).setCell (p := ⟨w.heap.size + 1 + 1, 1, none⟩) (.slice bo a.length cap') (fun x hx _ => by have := HF3.out x hx; simp; omega)
        refine bodyPost_ret (v := .tuple #[.agg #[.slice ao3 (q.length + 1) cap3, .slice bo a.length cap'], .int .i64 0]) ?_ rfl ⟨[.slice ao3 (q.length + 1) cap3, .slice bo a.length cap'], rfl, ⟨ao3, cap3, bo, cap', _, by simp, HQ.out.snoc hXF hSF (HPF.out.ext hXF), HA.out.ext hXF⟩, hXF⟩
        simp [results, Try.results12, go_sem, r0, r1]
end Go.Proofs.Ytdlahgmbilkdcaa
