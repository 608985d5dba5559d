/- Send, with what it says of where the new queue lies: for the law NetworkAll. -/
import Derived.Test.YtdlahgmbilkdcaaNLb
namespace Go.Proofs.Ytdlahgmbilkdcaa
open Go.RowKit Go.Sz Go.Shelf

set_option maxRecDepth 100000 in
set_option maxHeartbeats 3200000 in
theorem send_far (q : List Pk) (a : List (Int × Int)) (f t : Int) (d : List UInt8) (rows : List (List Value)) (ao bo co : Option Addr) (cap cap' cap2 : Nat) (w : World)
    (hq : RepQ w ao cap rows q) (ha : RepA w bo cap' a) (hp : RepP w [.int .i64 f, .int .i64 t, .slice co d.length cap2] ⟨f, t, d⟩)
    (hok : okN ⟨q, a⟩ = true) (hokp : okP ⟨f, t, d⟩ = true) (hlt : q.length < 4096) :
    Calls Try.prog 11 #[.agg #[.slice ao q.length cap, .slice bo a.length cap'], .agg #[.int .i64 f, .int .i64 t, .slice co d.length cap2]] w fun e w' =>
      ∃ ao3 cap3, e = .returned (.tuple #[.agg #[.slice ao3 (q.length + 1) cap3, .slice bo a.length cap'], .int .i64 0]) ∧ SL w' 3 ao3 cap3 (rows ++ [[.int .i64 f, .int .i64 t, .slice co d.length cap2]]) ∧ (∀ x, ao3 = some x → w.heap.size ≤ x.block) ∧ Ext w w' := by
  have HH : Hid (RepN w [.slice ao q.length cap, .slice bo a.length cap'] ⟨q, a⟩) := Lib.hid ⟨ao, cap, bo, cap', rows, rfl, hq, ha⟩
  have HPF := Lib.hid hp
  have HC := Lib.hid fun (W : World) (hE : Ext w W) => check_any ⟨q, a⟩ _ W (HH.out.ext hE)
  have HK := Lib.hid fun (W : World) (hE : Ext w W) => packet_any ⟨f, t, d⟩ _ W (HPF.out.ext hE)
  have hck : checkN ⟨q, a⟩ = 0 := by unfold checkN; rw [if_pos hok]
  rw [hck] at HC
  rw [hokp] at HK
  have HF := Lib.hid (show ¬ q.length = 4096 by omega)
  have hql2 : q.length ≤ 4096 := by omega
  have hqi : ((q.length : Int) == 4096) = false := by simp; omega
  clear hlt
  have hs1 : (q.length : Int) ≤ 9223372036854775807 := by have := hq.sl.max; have := hq.sl.le; have := hq.len; omega
  have HQ := Lib.hid hq
  clear hq ha hp hck hok hokp
  have hX0 := (((Ext.refl w).alloc (.cells #[.slice ao q.length cap, .slice bo a.length cap'] 25)).alloc (.cells #[.int .i64 f, .int .i64 t, .slice co d.length cap2] 28)).alloc (.cells #[.slice none 0 0, .slice none 0 0] 25)
  have hbn := ((Box2.new w (.slice ao q.length cap) (.slice bo a.length cap') 25).ext ((Ext.refl _).alloc (.cells #[.int .i64 f, .int .i64 t, .slice co d.length cap2] 28))).ext ((Ext.refl _).alloc (.cells #[.slice none 0 0, .slice none 0 0] 25))
  have hbp := (Box3.new' (w.alloc (.cells #[.slice ao q.length cap, .slice bo a.length cap'] 25)) (.int .i64 f) (.int .i64 t) (.slice co d.length cap2) 28 (w.heap.size + 1) (by simp)).ext ((Ext.refl _).alloc (.cells #[.slice none 0 0, .slice none 0 0] 25))
  have hbr := Box2.new' ((w.alloc (.cells #[.slice ao q.length cap, .slice bo a.length cap'] 25)).alloc (.cells #[.int .i64 f, .int .i64 t, .slice co d.length cap2] 28)) (.slice none 0 0) (.slice none 0 0) 25 (w.heap.size + 1 + 1) (by simp)
  obtain ⟨i0, hi, hz0, hz1, hz2⟩ := info_parts infoPk
  have hql : (0 : Int) ≤ (q.length : Int) := by omega
  go_enter Try.func11, Try.ntmps11
  go_wp2_with (first
    | (go_at_call 13; refine (HC.out _ hX0).mono ?_; rintro e w1 ⟨rfl, hE1⟩; obtain ⟨p0, p1, p2, _⟩ := hbp.ext hE1)
    | (go_at_call 28; refine (HK.out _ (hX0.trans hE1)).mono ?_; rintro e w2 ⟨rfl, hE2⟩; obtain ⟨n0, n1, nz⟩ := hbn.ext (hE1.trans hE2)))
  have hX2 := (hX0.trans hE1).trans hE2
  obtain ⟨p0, p1, p2, _⟩ := hbp.ext (hE1.trans hE2)
  have HBN := Lib.hid (hbn.ext (hE1.trans hE2))
  have hqc : q.length ≤ cap := by have := HQ.out.sl.le; have := HQ.out.len; omega
  have gn0 : ∀ X, (w2.drew.grow X).cell? ⟨w.heap.size, 0, none⟩ = some (.slice ao q.length cap) := fun X => ((Ext.refl w2).drew.trans (ext_grow _ X)).cell n0
  have gp0 : ∀ X, (w2.drew.grow X).cell? ⟨w.heap.size + 1, 0, none⟩ = some (.int .i64 f) := fun X => ((Ext.refl w2).drew.trans (ext_grow _ X)).cell p0
  have gp1 : ∀ X, (w2.drew.grow X).cell? ⟨w.heap.size + 1, 1, none⟩ = some (.int .i64 t) := fun X => ((Ext.refl w2).drew.trans (ext_grow _ X)).cell p1
  have gp2 : ∀ X, (w2.drew.grow X).cell? ⟨w.heap.size + 1, 2, none⟩ = some (.slice co d.length cap2) := fun X => ((Ext.refl w2).drew.trans (ext_grow _ X)).cell p2
  have HZ : Hid (w.heap.size + 3 ≤ w2.heap.size) := Lib.hid (by have h1 := (hE1.trans hE2).size; simp at h1; omega)
  refine wp_region_rel (fun k => if k = 10 then some (spSL 3 1 1 [[.int .i64 f, .int .i64 t, .slice co d.length cap2]]) else if k = 11 then some (spAp 3 (q.length + 1) (rows ++ [[.int .i64 f, .int .i64 t, .slice co d.length cap2]]) (w.heap.size + 3) 1 ao) else none) 13 1 (by kernel_rfl) (by kernel_rfl) ?_
  simp only [List.take_succ_cons, List.take_zero]
  repeat (first
    | (refine wpRel_quick ?_ ?_ ?_ ?_
       · rfl
       · rfl
       · first | exact noEnter rfl | (intro f args W W'; go_simp)
       intro K hK
       go_big_quiet_op
       go_big_quiet_on)
    | (refine wpRel_skip ?_ ?_
       · rfl
       simp only [Act.put, List.setIfInBounds_toArray, List.set_cons_zero, List.set_cons_succ]))
  refine wpRel_rich _ rfl rfl (fun W hW => ?_) (fun v W1 hW1 hv => ?_)
  · go_simp
    exact ⟨⟨_, rfl, sl_new W [.int .i64 f, .int .i64 t, .slice co d.length cap2] 3 _ rfl⟩, (Ext.refl _).alloc _⟩
  obtain ⟨ap, rfl, hsp1⟩ := hv
  simp only [Act.put, List.setIfInBounds_toArray, List.set_cons_zero, List.set_cons_succ]
  refine wpRel_rich _ rfl rfl (fun W hW => ?_) (fun v W2 hW2 hv => ?_)
  · obtain ⟨ap', hap, hsp2⟩ := hW.2 10 (by unfold Anc; kernel_rfl) _ _ rfl rfl
    cases hap
    exact g_append_full _ _ 22 22 rfl 28 i0 _ 3 40 Try.underlying22 hi hz0 hz1 hz2 rfl (by omega) ao q.length rows rfl (HQ.out.tight.ext (hX2.trans ((Ext.refl w2).drew.trans hW.1))) HQ.out.len (.slice ap 1 1) 1 (fun h => by omega) [[.int .i64 f, .int .i64 t, .slice co d.length cap2]] rfl (hsp2.src (by omega) Try.underlying22 (by simp [Value.oneCell'])) (by simp) rfl (by unfold maxLen; omega) (by omega) _ (by have h1 : w2.heap.size ≤ W.heap.size := hW.1.size; have h2 := HZ.out; omega)
  obtain ⟨ao3, cap3, rfl, hs3, _⟩ := hv
  simp only [Act.put, List.setIfInBounds_toArray, List.set_cons_zero, List.set_cons_succ]
  repeat (first
    | (refine wpRel_quick ?_ ?_ ?_ ?_
       · rfl
       · rfl
       · first | exact noEnter rfl | (intro f args W W'; go_simp)
       intro K hK
       go_big_quiet_op
       go_big_quiet_on)
    | (refine wpRel_skip ?_ ?_
       · rfl
       simp only [Act.put, List.setIfInBounds_toArray, List.set_cons_zero, List.set_cons_succ]))
  refine wpRel_nil ?_
  intro W hW
  obtain ⟨ao4, cap4, hao, hs4, hfar⟩ := hW.2 11 trivial _ _ rfl rfl
  cases hao
  have hEW := (Ext.refl w2).drew.trans hW.1
  obtain ⟨m0, m1, mz⟩ := HBN.out.ext hEW
  obtain ⟨r0, r1, rz⟩ := (hbr.ext (hE1.trans hE2)).ext hEW
  refine wpAny_ready (rs := [13]) (by kernel_rfl) (by simp) ?_
  refine AllReady.cons rfl (fun K hK => ?_) AllReady.nil
  go_simp
  refine hK _ _ ?_
  clear hK K
  refine wpAny_done (by kernel_rfl) ?_ _
  have hfar' : ∀ a, ao3 = some a → w.heap.size + 3 ≤ a.block := hfar.resolve_left (fun h => by cases h.1)
  have hXW := hX2.trans hEW
  clear hs3 hfar
  have HS4 := Lib.hid hs4
  clear hs4
  have HF3 := Lib.hid hfar'
  clear hfar'
  go_wp2_with fail
  have hXF := ((hXW.setCell (p := ⟨w.heap.size, 0, none⟩) (by simp) (.slice ao3 (q.length + 1) cap3)).setCell (p := ⟨w.heap.size + 1 + 1, 0, none⟩) (by simp; omega) (.slice ao3 (q.length + 1) cap3)).setCell (p := ⟨w.heap.size + 1 + 1, 1, none⟩) (by simp; omega) (.slice bo a.length cap')
  have hSF := ((HS4.out.setCell (p := ⟨w.heap.size, 0, none⟩) (.slice ao3 (q.length + 1) cap3) (fun x hx _ => by have := HF3.out x hx; simp; omega)).setCell (p := ⟨w.heap.size + 1 + 1, 0, none⟩) (.slice ao3 (q.length + 1) cap3) (fun x hx _ => by have := HF3.out x hx; simp; omega)).setCell (p := ⟨w.heap.size + 1 + 1, 1, none⟩) (.slice bo a.length cap') (fun x hx _ => by have := HF3.out x hx; simp; omega)
  refine bodyPost_ret (v := .tuple #[.agg #[.slice ao3 (q.length + 1) cap3, .slice bo a.length cap'], .int .i64 0]) ?_ rfl ⟨ao3, cap3, rfl, hSF, fun x hx => by have := HF3.out x hx; omega, hXF⟩
  simp [results, Try.results11, go_sem, r0, r1]
end Go.Proofs.Ytdlahgmbilkdcaa
