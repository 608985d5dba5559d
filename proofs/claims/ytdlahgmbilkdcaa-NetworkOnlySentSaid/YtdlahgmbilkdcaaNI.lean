/- Deliver: the reference's. -/
import Derived.Test.YtdlahgmbilkdcaaNH
namespace Go.Proofs.Ytdlahgmbilkdcaa
open Go.RowKit Go.Sz

set_option maxRecDepth 100000 in
set_option maxHeartbeats 6400000 in
theorem refDeliver_any (n : Nw) (i : Int) (cs : List Value) (w : World) (h : RepN w cs n) : Calls Try.prog 22 #[.agg cs.toArray, .int .i64 i] w (RetD (deliverN n i) w) := by
  have HH := Lib.hid h
  have HC := Lib.hid fun (W : World) (hE : Ext w W) => refAsked_any n i _ W (HH.out.ext hE)
  have HX : Hid (deliverN n i = if askN n i = 0 then (if hasL n.a (min (n.q.getD i.toNat ⟨0, 0, []⟩).f (n.q.getD i.toNat ⟨0, 0, []⟩).t) (max (n.q.getD i.toNat ⟨0, 0, []⟩).f (n.q.getD i.toNat ⟨0, 0, []⟩).t) = true then ⟨0, 0, []⟩ else n.q.getD i.toNat ⟨0, 0, []⟩, cutQ n i.toNat, 0) else (⟨0, 0, []⟩, ⟨[], []⟩, askN n i)) := Lib.hid rfl
  have HCN := Lib.hid fun (x y : Int) (W : World) (hE : Ext w W) => isCut_any n x y _ W (HH.out.ext hE)
  have hs1 := h.sizes
  obtain ⟨ao, cap, bo, cap', rows, rfl, hq, ha⟩ := h
  have HQ := Lib.hid hq
  clear hq ha
  obtain ⟨q, a⟩ := n
  simp only at HX HC HQ HCN hs1 ⊢
  have hX0 := (((Ext.refl w).alloc (.cells #[.slice ao q.length cap, .slice bo a.length cap'] 25)).alloc (.cells #[.int .i64 0, .int .i64 0, .slice none 0 0] 28)).alloc (.cells #[.slice none 0 0, .slice none 0 0] 25)
  have hbn := ((Box2.new w (.slice ao q.length cap) (.slice bo a.length cap') 25).ext ((Ext.refl _).alloc (.cells #[.int .i64 0, .int .i64 0, .slice none 0 0] 28))).ext ((Ext.refl _).alloc (.cells #[.slice none 0 0, .slice none 0 0] 25))
  have hbp := (Box3.new' (w.alloc (.cells #[.slice ao q.length cap, .slice bo a.length cap'] 25)) (.int .i64 0) (.int .i64 0) (.slice none 0 0) 28 (w.heap.size + 1) (by simp)).ext ((Ext.refl _).alloc (.cells #[.slice none 0 0, .slice none 0 0] 25))
  have hbr := Box2.new' ((w.alloc (.cells #[.slice ao q.length cap, .slice bo a.length cap'] 25)).alloc (.cells #[.int .i64 0, .int .i64 0, .slice none 0 0] 28)) (.slice none 0 0) (.slice none 0 0) 25 (w.heap.size + 1 + 1) (by simp)
  by_cases hak : askN ⟨q, a⟩ i = 0
  · obtain ⟨hok, hi0, hi1⟩ := askN_zero hak
    obtain ⟨k, rfl⟩ : ∃ k : Nat, i = (k : Int) := ⟨i.toNat, by omega⟩
    have hk : k < q.length := by simp only at hi1; omega
    obtain ⟨b, o, rfl, _⟩ := HQ.out.sl.at (by omega) k (by rw [HQ.out.len]; exact hk)
    obtain ⟨f, t, d, co, cap2, hqk, hP, c0, c1, c2⟩ := q_cells HQ.out (Ext.refl w) hk
    have HR : Hid (deliverN ⟨q, a⟩ k = (if hasL a (min f t) (max f t) = true then ⟨0, 0, []⟩ else ⟨f, t, d⟩, cutQ ⟨q, a⟩ k, 0)) := Lib.hid (by
      have hg : q.getD (k : Int).toNat ⟨0, 0, []⟩ = ⟨f, t, d⟩ := by rw [← hqk]; simp [List.getD, hk]
      rw [HX.out, if_pos hak, hg]; rfl)
    have HP : Hid (RepP w [.int .i64 f, .int .i64 t, .slice co d.length cap2] ⟨f, t, d⟩) := Lib.hid (by rw [hqk] at hP; exact hP)
    have HWO := Lib.hid fun (W : World) (hE : Ext w W) => refWithout_any ⟨q, a⟩ k _ W (HH.out.ext hE) hk (okN_len hok)
    have HQQ : Hid ((∀ x ∈ (cutQ ⟨q, a⟩ k).q, x.f ≠ x.t) ∧ (∀ x ∈ (cutQ ⟨q, a⟩ k).a, x.1 ≠ x.2)) := Lib.hid ⟨fun x hx => okN_q hok x (by
      simp only [cutQ] at hx
      rcases List.mem_append.1 hx with h | h
      · exact List.mem_of_mem_take h
      · exact List.mem_of_mem_drop h), fun x hx => okN_a hok x hx⟩
    clear hqk hP
    generalize askN ⟨q, a⟩ k = ak at *
    subst hak
    generalize hcq : cutQ ⟨q, a⟩ k = cq at *
    generalize deliverN ⟨q, a⟩ k = r at *
    have hk1 : (0 : Int) ≤ (k : Int) := by omega
    have hk2 : (k : Int) < (q.length : Int) := by omega
    clear hok hi0 hi1 hcq
    go_enter Try.func22, Try.ntmps22
    go_wp2_with (first
      | (go_at_call 41; refine (HC.out _ hX0).mono ?_; rintro e w1 ⟨rfl, hE1⟩; obtain ⟨n0, n1, _⟩ := hbn.ext hE1; have c0' := (hX0.trans hE1).cell c0; have c1' := (hX0.trans hE1).cell c1; have c2' := (hX0.trans hE1).cell c2; have hp0 := fun ob => ((Ext.refl w1).alloc ob).cell n0; have hp1 := fun ob => ((Ext.refl w1).alloc ob).cell n1))
    refine (HCN.out f t _ ((hX0.trans hE1).alloc _)).mono ?_
    rintro e w3 ⟨rfl, hE3⟩
    have hA := (Ext.refl w1).alloc (.cells #[.int .i64 f, .int .i64 t, .slice co d.length cap2] 28)
    have hE13 := (hE1.trans hA).trans hE3
    have HBN := Lib.hid (hbn.ext hE13)
    have HB4 := Lib.hid (hbp.ext hE13)
    have HB5 := Lib.hid (hbr.ext hE13)
    have hb8 := (Box3.new w1 (.int .i64 f) (.int .i64 t) (.slice co d.length cap2) 28).ext hE3
    have h8 : w.heap.size + 3 ≤ w1.heap.size := by have := hE1.size; simp at this; omega
    have HXW := Lib.hid (hX0.trans hE13)
    have HPW := Lib.hid (HP.out.ext HXW.out)
    clear hA hE13 hbn hbp hbr hX0 hE1 hE3 c0 c1 c2 c0' c1' c2' n0 n1 hp0 hp1
    generalize w1.heap.size = g8 at *
    have HBP := Lib.hid hb8
    clear hb8
    cases hlk : hasL a (min f t) (max f t) with
    | false =>
      rw [hlk] at HR
      clear hlk
      obtain rfl := HR.out
      obtain ⟨n0, n1, _⟩ := HBN.out
      obtain ⟨p0, p1, p2, _⟩ := HBP.out
      have gn0 : ∀ X, (w3.drew.grow X).cell? ⟨w.heap.size, 0, none⟩ = some (.slice (some ⟨b, o, none⟩) q.length cap) := fun X => ((Ext.refl w3).drew.trans (ext_grow _ X)).cell n0
      have gn1 : ∀ X, (w3.drew.grow X).cell? ⟨w.heap.size, 1, none⟩ = some (.slice bo a.length cap') := fun X => ((Ext.refl w3).drew.trans (ext_grow _ X)).cell n1
      have gp0 : ∀ X, (w3.drew.grow X).cell? ⟨g8, 0, none⟩ = some (.int .i64 f) := fun X => ((Ext.refl w3).drew.trans (ext_grow _ X)).cell p0
      have gp1 : ∀ X, (w3.drew.grow X).cell? ⟨g8, 1, none⟩ = some (.int .i64 t) := fun X => ((Ext.refl w3).drew.trans (ext_grow _ X)).cell p1
      have gp2 : ∀ X, (w3.drew.grow X).cell? ⟨g8, 2, none⟩ = some (.slice co d.length cap2) := fun X => ((Ext.refl w3).drew.trans (ext_grow _ X)).cell p2
      go_wp2_with fail
      refine wp_region_rel (fun j => if j = 3 then some (spRetN1 cq) else none) 4 3 (by kernel_rfl) (by kernel_rfl) ?_
      simp only [List.take_succ_cons, List.take_zero]
      repeat (first
        | (refine wpRel_quick ?_ ?_ ?_ ?_
           · rfl
           · rfl
           · first | exact noEnter rfl | (intro f args W W'; go_simp)
           intro K hK
           go_big_quiet_op
           go_big_quiet_on)
        | (refine wpRel_skip ?_ ?_
           · rfl
           simp only [Act.put, List.setIfInBounds_toArray, List.set_cons_zero, List.set_cons_succ]))
      refine wpRel_rich _ rfl rfl (fun W hW => ?_) (fun v W6 hW6 hv => ?_)
      · have hc := HWO.out W (HXW.out.trans ((Ext.refl w3).drew.trans hW.1))
        go_simp
        refine Calls.mono hc ?_
        rintro e w6 ⟨cs6, rfl, hN6, hE6⟩
        exact ⟨_, rfl, ⟨cs6, rfl, hN6⟩, hE6⟩
      obtain ⟨cs6, rfl, hN6⟩ := hv
      obtain ⟨ao6, cap6, bo6, cap7, rfl⟩ := hN6.open
      simp only [Act.put, List.setIfInBounds_toArray, List.set_cons_zero, List.set_cons_succ]
      refine wpRel_nil ?_
      intro W7 hW7
      obtain ⟨cs7, hcs, hN7⟩ := hW7.2 3 trivial _ _ rfl rfl
      have hE7 := (Ext.refl w3).drew.trans hW7.1
      have HN7 : Hid (RepN W7 [.slice ao6 cq.q.length cap6, .slice bo6 cq.a.length cap7] cq) := Lib.hid (by
        simp only [Value.agg.injEq, Array.mk.injEq] at hcs
        rw [hcs]
        exact hN7)
      clear hcs hN7 hN6
      have HP7 := Lib.hid (HPW.out.ext hE7)
      have hb4 := HB4.out.ext hE7
      have hb5 := HB5.out.ext hE7
      have HB4' := Lib.hid hb4
      have HB5' := Lib.hid hb5
      have hX7 := HXW.out.trans hE7
      clear p0 p1 p2 gp0 gp1 gp2 gn0 gn1 n0 n1
      obtain ⟨p0, p1, p2, pz⟩ := hb4
      obtain ⟨r0, r1, rz⟩ := hb5
      refine wpAny_ready (rs := [4]) (by kernel_rfl) (by simp) ?_
      refine AllReady.cons rfl (fun K hK => ?_) AllReady.nil
      go_simp
      refine hK _ _ ?_
      clear hK K
      refine wpAny_ready (rs := [5]) (by kernel_rfl) (by simp) ?_
      refine AllReady.cons rfl (fun K hK => ?_) AllReady.nil
      go_simp
      refine hK _ _ ?_
      clear hK K
      refine wpAny_ready (rs := [6]) (by kernel_rfl) (by simp) ?_
      refine AllReady.cons rfl (fun K hK => ?_) AllReady.nil
      go_simp
      refine hK _ _ ?_
      clear hK K
      refine wpAny_done (by kernel_rfl) ?_ _
      go_wp2_with fail
      have hXF := ((((hX7.setCell (p := ⟨w.heap.size + 1, 0, none⟩) (by simp) (.int .i64 f)).setCell (p := ⟨w.heap.size + 1, 1, none⟩) (by simp) (.int .i64 t)).setCell (p := ⟨w.heap.size + 1, 2, none⟩) (by simp) (.slice co d.length cap2)).setCell (p := ⟨w.heap.size + 1 + 1, 0, none⟩) (by simp; omega) (.slice ao6 cq.q.length cap6)).setCell (p := ⟨w.heap.size + 1 + 1, 1, none⟩) (by simp; omega) (.slice bo6 cq.a.length cap7)
      have hb5' := ((HB5'.out.far (q := ⟨w.heap.size + 1, 0, none⟩) (.int .i64 f) (by simp)).far (q := ⟨w.heap.size + 1, 1, none⟩) (.int .i64 t) (by simp)).far (q := ⟨w.heap.size + 1, 2, none⟩) (.slice co d.length cap2) (by simp)
      have hPF := (HP7.out.set3 HB4'.out (.int .i64 f) (.int .i64 t) (.slice co d.length cap2)).set2 hb5' (.slice ao6 cq.q.length cap6) (.slice bo6 cq.a.length cap7)
      have hNF := (HN7.out.setP HQQ.out.1 HQQ.out.2 HB4'.out (.int .i64 f) (.int .i64 t) (.slice co d.length cap2)).setN hb5' (.slice ao6 cq.q.length cap6) (.slice bo6 cq.a.length cap7)
      refine bodyPost_ret (v := .tuple #[.agg #[.int .i64 f, .int .i64 t, .slice co d.length cap2], .agg #[.slice ao6 cq.q.length cap6, .slice bo6 cq.a.length cap7], .int .i64 0]) ?_ rfl ⟨_, _, rfl, hPF, hNF, hXF⟩
      simp [results, Try.results22, go_sem, p0, p1, p2, r0, r1]
    | true =>
      rw [hlk] at HR
      clear hlk
      obtain rfl := HR.out
      obtain ⟨p0, p1, p2, pz⟩ := HBP.out
      go_wp2_with fail
      have hbp4 := HBP.out.all (.int .i64 0) (.int .i64 0) (.slice none 0 0)
      have hbn4 := ((HBN.out.far (q := ⟨g8, 0, none⟩) (.int .i64 0) (by simp; omega)).far (q := ⟨g8, 1, none⟩) (.int .i64 0) (by simp; omega)).far (q := ⟨g8, 2, none⟩) (.slice none 0 0) (by simp; omega)
      have hb44 := ((HB4.out.far (q := ⟨g8, 0, none⟩) (.int .i64 0) (by simp; omega)).far (q := ⟨g8, 1, none⟩) (.int .i64 0) (by simp; omega)).far (q := ⟨g8, 2, none⟩) (.slice none 0 0) (by simp; omega)
      have hb54 := ((HB5.out.far (q := ⟨g8, 0, none⟩) (.int .i64 0) (by simp; omega)).far (q := ⟨g8, 1, none⟩) (.int .i64 0) (by simp; omega)).far (q := ⟨g8, 2, none⟩) (.slice none 0 0) (by simp; omega)
      have hX4 := ((HXW.out.setCell (p := ⟨g8, 0, none⟩) (by simp; omega) (.int .i64 0)).setCell (p := ⟨g8, 1, none⟩) (by simp; omega) (.int .i64 0)).setCell (p := ⟨g8, 2, none⟩) (by simp; omega) (.slice none 0 0)
      clear p0 p1 p2 pz HBN HBP HB4 HB5 HXW HPW
      generalize (((w3.setCell ⟨g8, 0, none⟩ (.int .i64 0)).setCell ⟨g8, 1, none⟩ (.int .i64 0)).setCell ⟨g8, 2, none⟩ (.slice none 0 0)) = W4 at *
      have HBN := Lib.hid hbn4
      have HBP := Lib.hid hbp4
      have HB4 := Lib.hid hb44
      have HB5 := Lib.hid hb54
      have HXW := Lib.hid hX4
      have HPW := Lib.hid (RepP.zero W4)
      clear hbn4 hbp4 hb44 hb54 hX4
      obtain ⟨n0, n1, _⟩ := HBN.out
      obtain ⟨p0, p1, p2, _⟩ := HBP.out
      have gn0 : ∀ X, (W4.drew.grow X).cell? ⟨w.heap.size, 0, none⟩ = some (.slice (some ⟨b, o, none⟩) q.length cap) := fun X => ((Ext.refl W4).drew.trans (ext_grow _ X)).cell n0
      have gn1 : ∀ X, (W4.drew.grow X).cell? ⟨w.heap.size, 1, none⟩ = some (.slice bo a.length cap') := fun X => ((Ext.refl W4).drew.trans (ext_grow _ X)).cell n1
      have gp0 : ∀ X, (W4.drew.grow X).cell? ⟨g8, 0, none⟩ = some (.int .i64 0) := fun X => ((Ext.refl W4).drew.trans (ext_grow _ X)).cell p0
      have gp1 : ∀ X, (W4.drew.grow X).cell? ⟨g8, 1, none⟩ = some (.int .i64 0) := fun X => ((Ext.refl W4).drew.trans (ext_grow _ X)).cell p1
      have gp2 : ∀ X, (W4.drew.grow X).cell? ⟨g8, 2, none⟩ = some (.slice none 0 0) := fun X => ((Ext.refl W4).drew.trans (ext_grow _ X)).cell p2
      go_wp2_with fail
      refine wp_region_rel (fun j => if j = 3 then some (spRetN1 cq) else none) 4 3 (by kernel_rfl) (by kernel_rfl) ?_
      simp only [List.take_succ_cons, List.take_zero]
      repeat (first
        | (refine wpRel_quick ?_ ?_ ?_ ?_
           · rfl
           · rfl
           · first | exact noEnter rfl | (intro f args W W'; go_simp)
           intro K hK
           go_big_quiet_op
           go_big_quiet_on)
        | (refine wpRel_skip ?_ ?_
           · rfl
           simp only [Act.put, List.setIfInBounds_toArray, List.set_cons_zero, List.set_cons_succ]))
      refine wpRel_rich _ rfl rfl (fun W hW => ?_) (fun v W6 hW6 hv => ?_)
      · have hc := HWO.out W (HXW.out.trans ((Ext.refl W4).drew.trans hW.1))
        go_simp
        refine Calls.mono hc ?_
        rintro e w6 ⟨cs6, rfl, hN6, hE6⟩
        exact ⟨_, rfl, ⟨cs6, rfl, hN6⟩, hE6⟩
      obtain ⟨cs6, rfl, hN6⟩ := hv
      obtain ⟨ao6, cap6, bo6, cap7, rfl⟩ := hN6.open
      simp only [Act.put, List.setIfInBounds_toArray, List.set_cons_zero, List.set_cons_succ]
      refine wpRel_nil ?_
      intro W7 hW7
      obtain ⟨cs7, hcs, hN7⟩ := hW7.2 3 trivial _ _ rfl rfl
      have hE7 := (Ext.refl W4).drew.trans hW7.1
      have HN7 : Hid (RepN W7 [.slice ao6 cq.q.length cap6, .slice bo6 cq.a.length cap7] cq) := Lib.hid (by
        simp only [Value.agg.injEq, Array.mk.injEq] at hcs
        rw [hcs]
        exact hN7)
      clear hcs hN7 hN6
      have HP7 := Lib.hid (HPW.out.ext hE7)
      have hb4 := HB4.out.ext hE7
      have hb5 := HB5.out.ext hE7
      have HB4' := Lib.hid hb4
      have HB5' := Lib.hid hb5
      have hX7 := HXW.out.trans hE7
      clear p0 p1 p2 gp0 gp1 gp2 gn0 gn1 n0 n1
      obtain ⟨p0, p1, p2, pz⟩ := hb4
      obtain ⟨r0, r1, rz⟩ := hb5
      refine wpAny_ready (rs := [4]) (by kernel_rfl) (by simp) ?_
      refine AllReady.cons rfl (fun K hK => ?_) AllReady.nil
      go_simp
      refine hK _ _ ?_
      clear hK K
      refine wpAny_ready (rs := [5]) (by kernel_rfl) (by simp) ?_
      refine AllReady.cons rfl (fun K hK => ?_) AllReady.nil
      go_simp
      refine hK _ _ ?_
      clear hK K
      refine wpAny_ready (rs := [6]) (by kernel_rfl) (by simp) ?_
      refine AllReady.cons rfl (fun K hK => ?_) AllReady.nil
      go_simp
      refine hK _ _ ?_
      clear hK K
      refine wpAny_done (by kernel_rfl) ?_ _
      go_wp2_with fail
      have hXF := ((((hX7.setCell (p := ⟨w.heap.size + 1, 0, none⟩) (by simp) (.int .i64 0)).setCell (p := ⟨w.heap.size + 1, 1, none⟩) (by simp) (.int .i64 0)).setCell (p := ⟨w.heap.size + 1, 2, none⟩) (by simp) (.slice none 0 0)).setCell (p := ⟨w.heap.size + 1 + 1, 0, none⟩) (by simp; omega) (.slice ao6 cq.q.length cap6)).setCell (p := ⟨w.heap.size + 1 + 1, 1, none⟩) (by simp; omega) (.slice bo6 cq.a.length cap7)
      have hb5' := ((HB5'.out.far (q := ⟨w.heap.size + 1, 0, none⟩) (.int .i64 0) (by simp)).far (q := ⟨w.heap.size + 1, 1, none⟩) (.int .i64 0) (by simp)).far (q := ⟨w.heap.size + 1, 2, none⟩) (.slice none 0 0) (by simp)
      have hPF := (HP7.out.set3 HB4'.out (.int .i64 0) (.int .i64 0) (.slice none 0 0)).set2 hb5' (.slice ao6 cq.q.length cap6) (.slice bo6 cq.a.length cap7)
      have hNF := (HN7.out.setP HQQ.out.1 HQQ.out.2 HB4'.out (.int .i64 0) (.int .i64 0) (.slice none 0 0)).setN hb5' (.slice ao6 cq.q.length cap6) (.slice bo6 cq.a.length cap7)
      refine bodyPost_ret (v := .tuple #[.agg #[.int .i64 0, .int .i64 0, .slice none 0 0], .agg #[.slice ao6 cq.q.length cap6, .slice bo6 cq.a.length cap7], .int .i64 0]) ?_ rfl ⟨_, _, rfl, hPF, hNF, hXF⟩
      simp [results, Try.results22, go_sem, p0, p1, p2, r0, r1]
  · have HR : Hid (deliverN ⟨q, a⟩ i = (⟨0, 0, []⟩, ⟨[], []⟩, askN ⟨q, a⟩ i)) := Lib.hid (by rw [HX.out, if_neg hak])
    generalize askN ⟨q, a⟩ i = ak at *
    generalize deliverN ⟨q, a⟩ i = r at *
    have hne : (ak != 0) = true := by simpa using hak
    clear hak HCN HH
    obtain rfl := HR.out
    go_enter Try.func22, Try.ntmps22
    go_wp2_with (first
      | (go_at_call 41; refine (HC.out _ hX0).mono ?_; rintro e w1 ⟨rfl, hE1⟩; obtain ⟨p0, p1, p2, pz⟩ := hbp.ext hE1; obtain ⟨r0, r1, rz⟩ := hbr.ext hE1))
    refine bodyPost_ret (v := .tuple #[.agg #[.int .i64 0, .int .i64 0, .slice none 0 0], .agg #[.slice none 0 0, .slice none 0 0], .int .i64 ak]) ?_ rfl ⟨_, _, rfl, RepP.zero _, RepN.zero _, ?_⟩
    · simp [results, Try.results22, go_sem, p0, p1, p2, r0, r1]
    · exact (((((hX0.trans hE1).setCell (by simp) _).setCell (by simp) _).setCell (by simp) _).setCell (by simp; omega) _).setCell (by simp; omega) _
end Go.Proofs.Ytdlahgmbilkdcaa
