/- Send: the program's. -/
import Derived.Test.YtdlahgmbilkdcaaN3
import Derived.Test.YtdlahgmbilkdcaaRG
namespace Go.Sz
open Go.RowKit
def sendN (n : Nw) (p : Pk) : Nw × Int := if okN n = true then (if okP p = true then (if n.q.length = 4096 then (⟨[], []⟩, 2) else (⟨n.q ++ [p], n.a⟩, 0)) else (⟨[], []⟩, 480)) else (⟨[], []⟩, 480)
def RetN (r : Nw × Int) (w : World) (e : Ending) (w' : World) : Prop := ∃ cs, e = .returned (.tuple #[.agg cs.toArray, .int .i64 r.2]) ∧ RepN w' cs r.1 ∧ Ext w w'
theorem RepN.zero (w : World) : RepN w [.slice none 0 0, .slice none 0 0] ⟨[], []⟩ := ⟨none, 0, none, 0, [], rfl, ⟨SL.empty _ _, rfl, by simp⟩, ⟨SL.empty _ _, by simp⟩⟩
theorem RepQ.tight {w : World} {ao : Option Addr} {cap : Nat} {rows : List (List Value)} {q : List Pk} (h : RepQ w ao cap rows q) : SL w 3 ao q.length rows := by
  have h1 := h.sl.takes (k := q.length) (by rw [h.len]; omega) (fun h0 => by have h2 := h.sl.nil h0; have h3 := h.sl.le; have := h.len; omega)
  rwa [← h.len, List.take_length, h.len] at h1
theorem RepQ.snoc {w W : World} {ao ao' : Option Addr} {cap cap' : Nat} {rows : List (List Value)} {q : List Pk} {r : List Value} {p : Pk} (h : RepQ w ao cap rows q) (hE : Ext w W) (hs : SL W 3 ao' cap' (rows ++ [r])) (hp : RepP W r p) : RepQ W ao' cap' (rows ++ [r]) (q ++ [p]) := by
  refine ⟨hs, by simp [h.len], fun i r' p' h1 h2 => ?_⟩
  rcases Nat.lt_or_ge i q.length with hi | hi
  · rw [List.getElem?_append_left (by rw [h.len]; omega)] at h1
    rw [List.getElem?_append_left hi] at h2
    exact (h.el i r' p' h1 h2).ext hE
  · rw [List.getElem?_append_right (by rw [h.len]; omega), h.len] at h1
    rw [List.getElem?_append_right hi] at h2
    have h0 : i - q.length = 0 := by
      have := (List.getElem?_eq_some_iff.1 h2).1
      simp at this; omega
    rw [h0] at h1 h2
    simp at h1 h2
    subst h1 h2
    exact hp
theorem RepQ.one {w : World} {ao : Option Addr} {cap : Nat} {rows : List (List Value)} {q : List Pk} (h : RepQ w ao cap rows q) : ∀ r ∈ rows, ∀ u ∈ r, u.oneCell' = true := by
  intro r hr u hu
  obtain ⟨i, hi, rfl⟩ := List.mem_iff_getElem.1 hr
  obtain ⟨ao', cap', h1, _⟩ := h.el i _ (q[i]'(by have := h.len; omega)) (List.getElem?_eq_getElem hi) (List.getElem?_eq_getElem _)
  rw [h1] at hu
  simp at hu
  rcases hu with rfl | rfl | rfl <;> rfl
theorem okN_eq (n : Nw) : checkN n = if okN n = true then 0 else 480 := rfl
end Go.Sz
namespace Go.Proofs.Ytdlahgmbilkdcaa
open Go.RowKit Go.Sz

theorem infoPk : (Try.prog.info? 28).map (fun i => (i.zero, i.size, i.bytes)) = some (some (.agg #[.int .i64 0, .int .i64 0, .slice none 0 0]), 3, 40) := by kernel_rfl

set_option maxRecDepth 100000 in
set_option maxHeartbeats 3200000 in
theorem send_any (n : Nw) (p : Pk) (cs cp : List Value) (w : World) (h : RepN w cs n) (hp : RepP w cp p) : Calls Try.prog 11 #[.agg cs.toArray, .agg cp.toArray] w (RetN (sendN n p) w) := by
  have HH := Lib.hid h
  have HP := Lib.hid hp
  obtain ⟨ao, cap, bo, cap', rows, rfl, hq, ha⟩ := h
  obtain ⟨co, cap2, rfl, hf, ht, hd⟩ := hp
  have HC := Lib.hid fun (W : World) (hE : Ext w W) => check_any n _ W (HH.out.ext hE)
  have HK := Lib.hid fun (W : World) (hE : Ext w W) => packet_any p _ W (HP.out.ext hE)
  obtain ⟨q, a⟩ := n
  obtain ⟨f, t, d⟩ := p
  simp only at hq ha HC HK ⊢
  have HX : Hid (sendN ⟨q, a⟩ ⟨f, t, d⟩ = if okN ⟨q, a⟩ = true then (if okP ⟨f, t, d⟩ = true then (if q.length = 4096 then (⟨[], []⟩, 2) else (⟨q ++ [⟨f, t, d⟩], a⟩, 0)) else (⟨[], []⟩, 480)) else (⟨[], []⟩, 480)) := Lib.hid rfl
  have HCX := Lib.hid (okN_eq ⟨q, a⟩)
  have hs1 : (q.length : Int) ≤ 9223372036854775807 := by have := hq.sl.max; have := hq.sl.le; have := hq.len; omega
  have HQ := Lib.hid hq
  have HA := Lib.hid ha
  have HPF := Lib.hid HP.out
  clear hq ha hd HH HP
  have hX0 := (((Ext.refl w).alloc (.cells #[.slice ao q.length cap, .slice bo a.length cap'] 25)).alloc (.cells #[.int .i64 f, .int .i64 t, .slice co d.length cap2] 28)).alloc (.cells #[.slice none 0 0, .slice none 0 0] 25)
  have hbn := ((Box2.new w (.slice ao q.length cap) (.slice bo a.length cap') 25).ext ((Ext.refl _).alloc (.cells #[.int .i64 f, .int .i64 t, .slice co d.length cap2] 28))).ext ((Ext.refl _).alloc (.cells #[.slice none 0 0, .slice none 0 0] 25))
  have hbp := (Box3.new' (w.alloc (.cells #[.slice ao q.length cap, .slice bo a.length cap'] 25)) (.int .i64 f) (.int .i64 t) (.slice co d.length cap2) 28 (w.heap.size + 1) (by simp)).ext ((Ext.refl _).alloc (.cells #[.slice none 0 0, .slice none 0 0] 25))
  have hbr := Box2.new' ((w.alloc (.cells #[.slice ao q.length cap, .slice bo a.length cap'] 25)).alloc (.cells #[.int .i64 f, .int .i64 t, .slice co d.length cap2] 28)) (.slice none 0 0) (.slice none 0 0) 25 (w.heap.size + 1 + 1) (by simp)
  have HOKN : Hid (okN ⟨q, a⟩ = true → q.length ≤ 4096) := Lib.hid fun h => by
    simp only [okN, Bool.and_eq_true, decide_eq_true_eq] at h
    exact h.1.1
  generalize okN ⟨q, a⟩ = ok at *
  generalize okP ⟨f, t, d⟩ = okp at *
  generalize checkN ⟨q, a⟩ = ck at *
  generalize sendN ⟨q, a⟩ ⟨f, t, d⟩ = r at *
  obtain ⟨i0, hi, hz0, hz1, hz2⟩ := info_parts infoPk
  cases ok with
  | false =>
    have hck : ck = 480 := by rw [HCX.out]; rfl
    have hr : r = (⟨[], []⟩, 480) := by rw [HX.out]; rfl
    subst hck hr
    go_enter Try.func11, Try.ntmps11
    go_wp2_with (go_at_call 13; refine (HC.out _ hX0).mono ?_; rintro e w1 ⟨rfl, hE1⟩; obtain ⟨r0, r1, rz⟩ := hbr.ext hE1)
    refine bodyPost_ret (v := .tuple #[.agg #[.slice none 0 0, .slice none 0 0], .int .i64 480]) ?_ rfl ⟨_, rfl, RepN.zero _, ?_⟩
    · simp [results, Try.results11, go_sem, r0, r1]
    · exact ((hX0.trans hE1).setCell (by simp; omega) _).setCell (by simp; omega) _
  | true =>
    have hck : ck = 0 := by rw [HCX.out]; rfl
    subst hck
    cases okp with
    | false =>
      have hr : r = (⟨[], []⟩, 480) := by rw [HX.out]; rfl
      subst hr
      go_enter Try.func11, Try.ntmps11
      go_wp2_with (first
        | (go_at_call 13; refine (HC.out _ hX0).mono ?_; rintro e w1 ⟨rfl, hE1⟩; obtain ⟨p0, p1, p2, _⟩ := hbp.ext hE1)
        | (go_at_call 28; refine (HK.out _ (hX0.trans hE1)).mono ?_; rintro e w2 ⟨rfl, hE2⟩; obtain ⟨r0, r1, rz⟩ := hbr.ext (hE1.trans hE2)))
      refine bodyPost_ret (v := .tuple #[.agg #[.slice none 0 0, .slice none 0 0], .int .i64 480]) ?_ rfl ⟨_, rfl, RepN.zero _, ?_⟩
      · simp [results, Try.results11, go_sem, r0, r1]
      · exact (((hX0.trans hE1).trans hE2).setCell (by simp; omega) _).setCell (by simp; omega) _
    | true =>
      by_cases hfull : q.length = 4096
      · have hr : r = (⟨[], []⟩, 2) := by rw [HX.out]; simp [hfull]
        subst hr
        have hqi : ((q.length : Int) == 4096) = true := by simp; omega
        have HF := Lib.hid hfull
        clear hfull
        go_enter Try.func11, Try.ntmps11
        go_wp2_with (first
          | (go_at_call 13; refine (HC.out _ hX0).mono ?_; rintro e w1 ⟨rfl, hE1⟩; obtain ⟨p0, p1, p2, _⟩ := hbp.ext hE1)
          | (go_at_call 28; refine (HK.out _ (hX0.trans hE1)).mono ?_; rintro e w2 ⟨rfl, hE2⟩; obtain ⟨r0, r1, rz⟩ := hbr.ext (hE1.trans hE2); obtain ⟨n0, n1, _⟩ := hbn.ext (hE1.trans hE2)))
        refine bodyPost_ret (v := .tuple #[.agg #[.slice none 0 0, .slice none 0 0], .int .i64 2]) ?_ rfl ⟨_, rfl, RepN.zero _, ?_⟩
        · simp [results, Try.results11, go_sem, r0, r1]
        · exact (((hX0.trans hE1).trans hE2).setCell (by simp; omega) _).setCell (by simp; omega) _
      · have hr : r = (⟨q ++ [⟨f, t, d⟩], a⟩, 0) := by rw [HX.out]; simp [hfull]
        subst hr
        have hql2 : q.length ≤ 4096 := by
          have := HOKN.out rfl
          omega
        have hqi : ((q.length : Int) == 4096) = false := by simp; omega
        have HF := Lib.hid hfull
        clear hfull
        have hql : (0 : Int) ≤ (q.length : Int) := by omega
        go_enter Try.func11, Try.ntmps11
        go_wp2_with (first
          | (go_at_call 13; refine (HC.out _ hX0).mono ?_; rintro e w1 ⟨rfl, hE1⟩; obtain ⟨p0, p1, p2, _⟩ := hbp.ext hE1)
          | (go_at_call 28; refine (HK.out _ (hX0.trans hE1)).mono ?_; rintro e w2 ⟨rfl, hE2⟩; obtain ⟨n0, n1, nz⟩ := hbn.ext (hE1.trans hE2)))
        have hX2 := (hX0.trans hE1).trans hE2
        obtain ⟨p0, p1, p2, _⟩ := hbp.ext (hE1.trans hE2)
        have HBN := Lib.hid (hbn.ext (hE1.trans hE2))
        have hqc : q.length ≤ cap := by have := HQ.out.sl.le; have := HQ.out.len; omega
        have gn0 : ∀ X, (w2.drew.grow X).cell? ⟨w.heap.size, 0, none⟩ = some (.slice ao q.length cap) := fun X => ((Ext.refl w2).drew.trans (ext_grow _ X)).cell n0
        have gp0 : ∀ X, (w2.drew.grow X).cell? ⟨w.heap.size + 1, 0, none⟩ = some (.int .i64 f) := fun X => ((Ext.refl w2).drew.trans (ext_grow _ X)).cell p0
        have gp1 : ∀ X, (w2.drew.grow X).cell? ⟨w.heap.size + 1, 1, none⟩ = some (.int .i64 t) := fun X => ((Ext.refl w2).drew.trans (ext_grow _ X)).cell p1
        have gp2 : ∀ X, (w2.drew.grow X).cell? ⟨w.heap.size + 1, 2, none⟩ = some (.slice co d.length cap2) := fun X => ((Ext.refl w2).drew.trans (ext_grow _ X)).cell p2
        have HZ : Hid (w.heap.size + 3 ≤ w2.heap.size) := Lib.hid (by have h1 := (hE1.trans hE2).size; simp at h1; omega)
        refine wp_region_rel (fun k => if k = 10 then some (spSL 3 1 1 [[.int .i64 f, .int .i64 t, .slice co d.length cap2]]) else if k = 11 then some (spAp 3 (q.length + 1) (rows ++ [[.int .i64 f, .int .i64 t, .slice co d.length cap2]]) (w.heap.size + 3) 1 ao) else none) 13 1 (by kernel_rfl) (by kernel_rfl) ?_
        simp only [List.take_succ_cons, List.take_zero]
        repeat (first
          | (refine wpRel_quick ?_ ?_ ?_ ?_
             · rfl
             · rfl
             · first | exact noEnter rfl | (intro f args W W'; go_simp)
             intro K hK
             go_big_quiet_op
             go_big_quiet_on)
          | (refine wpRel_skip ?_ ?_
             · rfl
             simp only [Act.put, List.setIfInBounds_toArray, List.set_cons_zero, List.set_cons_succ]))
        refine wpRel_rich _ rfl rfl (fun W hW => ?_) (fun v W1 hW1 hv => ?_)
        · go_simp
          exact ⟨⟨_, rfl, sl_new W [.int .i64 f, .int .i64 t, .slice co d.length cap2] 3 _ rfl⟩, (Ext.refl _).alloc _⟩
        obtain ⟨ap, rfl, hsp1⟩ := hv
        simp only [Act.put, List.setIfInBounds_toArray, List.set_cons_zero, List.set_cons_succ]
        refine wpRel_rich _ rfl rfl (fun W hW => ?_) (fun v W2 hW2 hv => ?_)
        · obtain ⟨ap', hap, hsp2⟩ := hW.2 10 (by unfold Anc; kernel_rfl) _ _ rfl rfl
          cases hap
          exact g_append_full _ _ 22 22 rfl 28 i0 _ 3 40 Try.underlying22 hi hz0 hz1 hz2 rfl (by omega) ao q.length rows rfl (HQ.out.tight.ext (hX2.trans ((Ext.refl w2).drew.trans hW.1))) HQ.out.len (.slice ap 1 1) 1 (fun h => by omega) [[.int .i64 f, .int .i64 t, .slice co d.length cap2]] rfl (hsp2.src (by omega) Try.underlying22 (by simp [Value.oneCell'])) (by simp) rfl (by unfold maxLen; omega) (by omega) _ (by have h1 : w2.heap.size ≤ W.heap.size := hW.1.size; have h2 := HZ.out; omega)
        obtain ⟨ao3, cap3, rfl, hs3, _⟩ := hv
        simp only [Act.put, List.setIfInBounds_toArray, List.set_cons_zero, List.set_cons_succ]
        repeat (first
          | (refine wpRel_quick ?_ ?_ ?_ ?_
             · rfl
             · rfl
             · first | exact noEnter rfl | (intro f args W W'; go_simp)
             intro K hK
             go_big_quiet_op
             go_big_quiet_on)
          | (refine wpRel_skip ?_ ?_
             · rfl
             simp only [Act.put, List.setIfInBounds_toArray, List.set_cons_zero, List.set_cons_succ]))
        refine wpRel_nil ?_
        intro W hW
        obtain ⟨ao4, cap4, hao, hs4, hfar⟩ := hW.2 11 trivial _ _ rfl rfl
        cases hao
        have hEW := (Ext.refl w2).drew.trans hW.1
        obtain ⟨m0, m1, mz⟩ := HBN.out.ext hEW
        obtain ⟨r0, r1, rz⟩ := (hbr.ext (hE1.trans hE2)).ext hEW
        refine wpAny_ready (rs := [13]) (by kernel_rfl) (by simp) ?_
        refine AllReady.cons rfl (fun K hK => ?_) AllReady.nil
        go_simp
        refine hK _ _ ?_
        clear hK K
        refine wpAny_done (by kernel_rfl) ?_ _
        have hfar' : ∀ a, ao3 = some a → w.heap.size + 3 ≤ a.block := hfar.resolve_left (fun h => by cases h.1)
        have hXW := hX2.trans hEW
        clear hs3 hfar
        have HS4 := Lib.hid hs4
        clear hs4
        have HF3 := Lib.hid hfar'
        clear hfar'
        go_wp2_with fail
        have hXF := ((hXW.setCell (p := ⟨w.heap.size, 0, none⟩) (by simp) (.slice ao3 (q.length + 1) cap3)).setCell (p := ⟨w.heap.size + 1 + 1, 0, none⟩) (by simp; omega) (.slice ao3 (q.length + 1) cap3)).setCell (p := ⟨w.heap.size + 1 + 1, 1, none⟩) (by simp; omega) (.slice bo a.length cap')
        have hSF := ((HS4.out.setCell (p := ⟨w.heap.size, 0, none⟩) (.slice ao3 (q.length + 1) cap3) (fun x hx _ => by have := HF3.out x hx; simp; omega)).setCell (p := ⟨w.heap.size + 1 + 1, 0, none⟩) (.slice ao3 (q.length + 1) cap3) (fun x hx _ => by have := HF3.out x hx; simp; omega)).setCell (p := ⟨w.heap.size + 1 + 1, 1, none⟩) (.slice bo a.length cap') (fun x hx _ => by have := HF3.out x hx; simp; omega)
        refine bodyPost_ret (v := .tuple #[.agg #[.slice ao3 (q.length + 1) cap3, .slice bo a.length cap'], .int .i64 0]) ?_ rfl ⟨[.slice ao3 (q.length + 1) cap3, .slice bo a.length cap'], rfl, ⟨ao3, cap3, bo, cap', _, by simp, HQ.out.snoc hXF hSF (HPF.out.ext hXF), HA.out.ext hXF⟩, hXF⟩
        simp [results, Try.results11, go_sem, r0, r1]
end Go.Proofs.Ytdlahgmbilkdcaa
