/- Deliver: the program's. -/
import Derived.Test.YtdlahgmbilkdcaaNH0
namespace Go.Proofs.Ytdlahgmbilkdcaa
open Go.RowKit Go.Sz

set_option maxRecDepth 100000 in
set_option maxHeartbeats 6400000 in
theorem deliver_any (n : Nw) (i : Int) (cs : List Value) (w : World) (h : RepN w cs n) : Calls Try.prog 18 #[.agg cs.toArray, .int .i64 i] w (RetD (deliverN n i) w) := by
  have HH := Lib.hid h
  have HC := Lib.hid fun (W : World) (hE : Ext w W) => at_any n i _ W (HH.out.ext hE)
  have HX : Hid (deliverN n i = if askN n i = 0 then (if hasL n.a (min (n.q.getD i.toNat ⟨0, 0, []⟩).f (n.q.getD i.toNat ⟨0, 0, []⟩).t) (max (n.q.getD i.toNat ⟨0, 0, []⟩).f (n.q.getD i.toNat ⟨0, 0, []⟩).t) = true then ⟨0, 0, []⟩ else n.q.getD i.toNat ⟨0, 0, []⟩, cutQ n i.toNat, 0) else (⟨0, 0, []⟩, ⟨[], []⟩, askN n i)) := Lib.hid rfl
  have HAS : Hid ((atN n i).2 = askN n i) := Lib.hid rfl
  have HAX : Hid (atN n i = (if askN n i = 0 then n.q.getD i.toNat ⟨0, 0, []⟩ else ⟨0, 0, []⟩, askN n i)) := Lib.hid rfl
  have hs1 := h.sizes
  obtain ⟨ao, cap, bo, cap', rows, rfl, hq, ha⟩ := h
  have HA := Lib.hid ha
  clear hq ha
  obtain ⟨q, a⟩ := n
  simp only at HX HC HAS HAX HA hs1 ⊢
  have hX0 := (((Ext.refl w).alloc (.cells #[.slice ao q.length cap, .slice bo a.length cap'] 25)).alloc (.cells #[.int .i64 0, .int .i64 0, .slice none 0 0] 28)).alloc (.cells #[.slice none 0 0, .slice none 0 0] 25)
  have hbn := ((Box2.new w (.slice ao q.length cap) (.slice bo a.length cap') 25).ext ((Ext.refl _).alloc (.cells #[.int .i64 0, .int .i64 0, .slice none 0 0] 28))).ext ((Ext.refl _).alloc (.cells #[.slice none 0 0, .slice none 0 0] 25))
  have hbp := (Box3.new' (w.alloc (.cells #[.slice ao q.length cap, .slice bo a.length cap'] 25)) (.int .i64 0) (.int .i64 0) (.slice none 0 0) 28 (w.heap.size + 1) (by simp)).ext ((Ext.refl _).alloc (.cells #[.slice none 0 0, .slice none 0 0] 25))
  have hbr := Box2.new' ((w.alloc (.cells #[.slice ao q.length cap, .slice bo a.length cap'] 25)).alloc (.cells #[.int .i64 0, .int .i64 0, .slice none 0 0] 28)) (.slice none 0 0) (.slice none 0 0) 25 (w.heap.size + 1 + 1) (by simp)
  have HCN := Lib.hid fun (x y : Int) (W : World) (hE : Ext w W) => contains_any a x y bo cap' W (HA.out.ext hE)
  by_cases hak : askN ⟨q, a⟩ i = 0
  · obtain ⟨hok, hi0, hi1⟩ := askN_zero hak
    obtain ⟨k, rfl⟩ : ∃ k : Nat, i = (k : Int) := ⟨i.toNat, by omega⟩
    have hk : k < q.length := by simp only at hi1; omega
    have HWO := Lib.hid fun (W : World) (hE : Ext w W) => without_any ⟨q, a⟩ k _ W (HH.out.ext hE) hk (okN_len hok)
    have HR : Hid (deliverN ⟨q, a⟩ k = (if hasL a (min (atN ⟨q, a⟩ k).1.f (atN ⟨q, a⟩ k).1.t) (max (atN ⟨q, a⟩ k).1.f (atN ⟨q, a⟩ k).1.t) = true then ⟨0, 0, []⟩ else (atN ⟨q, a⟩ k).1, cutQ ⟨q, a⟩ k, 0)) := Lib.hid (by rw [HX.out, if_pos hak, HAX.out, if_pos hak]; rfl)
    generalize atN ⟨q, a⟩ k = pp at *
    obtain ⟨⟨f, t, d⟩, z⟩ := pp
    generalize askN ⟨q, a⟩ k = ak at *
    simp only at HR HAS
    subst hak
    generalize hcq : cutQ ⟨q, a⟩ k = cq at *
    generalize deliverN ⟨q, a⟩ k = r at *
    clear hok hi0 hi1 hcq
    go_enter Try.func18, Try.ntmps18
    go_wp2_with (first
      | (go_at_call 35; refine (HC.out _ hX0).mono ?_; rintro e w1 ⟨cp, rfl, hP1, hE1⟩; have HP1 := Lib.hid hP1; obtain ⟨co, cap2, rfl⟩ := hP1.open; clear hP1; rw [HAS.out]; obtain ⟨p0, p1, p2, pz⟩ := hbp.ext hE1))
    have hX1 := hX0.trans hE1
    have hX2 := ((hX1.setCell (p := ⟨w.heap.size + 1, 0, none⟩) (by simp) (.int .i64 f)).setCell (p := ⟨w.heap.size + 1, 1, none⟩) (by simp) (.int .i64 t)).setCell (p := ⟨w.heap.size + 1, 2, none⟩) (by simp) (.slice co d.length cap2)
    have hP2 := HP1.out.set3 (hbp.ext hE1) (.int .i64 f) (.int .i64 t) (.slice co d.length cap2)
    have hbp2 := (hbp.ext hE1).all (.int .i64 f) (.int .i64 t) (.slice co d.length cap2)
    have hbn2 := (((hbn.ext hE1).far (q := ⟨w.heap.size + 1, 0, none⟩) (.int .i64 f) (by simp)).far (q := ⟨w.heap.size + 1, 1, none⟩) (.int .i64 t) (by simp)).far (q := ⟨w.heap.size + 1, 2, none⟩) (.slice co d.length cap2) (by simp)
    have hbr2 := (((hbr.ext hE1).far (q := ⟨w.heap.size + 1, 0, none⟩) (.int .i64 f) (by simp)).far (q := ⟨w.heap.size + 1, 1, none⟩) (.int .i64 t) (by simp)).far (q := ⟨w.heap.size + 1, 2, none⟩) (.slice co d.length cap2) (by simp)
    clear hX1 hX0 hbp hbn hbr p0 p1 p2 pz
    generalize (((w1.setCell ⟨w.heap.size + 1, 0, none⟩ (.int .i64 f)).setCell ⟨w.heap.size + 1, 1, none⟩ (.int .i64 t)).setCell ⟨w.heap.size + 1, 2, none⟩ (.slice co d.length cap2)) = w2 at *
    have HP2 := Lib.hid hP2
    have HX2 := Lib.hid hX2
    clear hP2 hX2 HP1 hE1
    have HBN2 := Lib.hid hbn2
    have HBP2 := Lib.hid hbp2
    have HBR2 := Lib.hid hbr2
    clear hbr2
    obtain ⟨n0, n1, _⟩ := hbn2
    obtain ⟨p0, p1, p2, _⟩ := hbp2
    have gn1 : ∀ X, (w2.drew.grow X).cell? ⟨w.heap.size, 1, none⟩ = some (.slice bo a.length cap') := fun X => ((Ext.refl w2).drew.trans (ext_grow _ X)).cell n1
    have gp0 : ∀ X, (w2.drew.grow X).cell? ⟨w.heap.size + 1, 0, none⟩ = some (.int .i64 f) := fun X => ((Ext.refl w2).drew.trans (ext_grow _ X)).cell p0
    have gp1 : ∀ X, (w2.drew.grow X).cell? ⟨w.heap.size + 1, 1, none⟩ = some (.int .i64 t) := fun X => ((Ext.refl w2).drew.trans (ext_grow _ X)).cell p1
    go_wp2_with fail
    refine wp_region_rel_all (fun j => if j = 6 then some (spV (.agg #[.int .i64 (min f t), .int .i64 (max f t)])) else if j = 7 then some (spV (.bool (hasL a (min f t) (max f t)))) else none) (by kernel_rfl) (by kernel_rfl) ?_
    repeat (first
      | (refine wpRel_quick ?_ ?_ ?_ ?_
         · rfl
         · rfl
         · first | exact noEnter rfl | (intro f args W W'; go_simp)
         intro K hK
         go_big_quiet_op
         go_big_quiet_on)
      | (refine wpRel_skip ?_ ?_
         · rfl
         simp only [Act.put, List.setIfInBounds_toArray, List.set_cons_zero, List.set_cons_succ]))
    refine wpRel_rich _ rfl rfl (fun W hW => ?_) (fun v W3 hW3 hv => ?_)
    · have hc := between_any f t W
      go_simp
      refine Calls.mono hc ?_
      rintro e w3 ⟨rfl, hE3⟩
      exact ⟨_, rfl, rfl, hE3⟩
    obtain rfl := hv
    simp only [Act.put, List.setIfInBounds_toArray, List.set_cons_zero, List.set_cons_succ]
    refine wpRel_rich _ rfl rfl (fun W hW => ?_) (fun v W3 hW3 hv => ?_)
    · have hc := HCN.out (min f t) (max f t) W (HX2.out.trans ((Ext.refl w2).drew.trans hW.1))
      go_simp
      refine Calls.mono hc ?_
      rintro e w3 ⟨rfl, hE3⟩
      exact ⟨_, rfl, rfl, hE3⟩
    obtain rfl := hv
    simp only [Act.put, List.setIfInBounds_toArray, List.set_cons_zero, List.set_cons_succ]
    refine wpRel_nil ?_
    intro W3 hW3
    have hE3 := (Ext.refl w2).drew.trans hW3.1
    have HBN := Lib.hid (HBN2.out.ext hE3)
    have HBP := Lib.hid (HBP2.out.ext hE3)
    have HBR := Lib.hid (HBR2.out.ext hE3)
    have HPW := Lib.hid (HP2.out.ext hE3)
    have HXW := Lib.hid (HX2.out.trans hE3)
    clear gn1 gp0 gp1 n0 n1 p0 p1 p2 HBN2 HBP2 HBR2
    cases hlk : hasL a (min f t) (max f t) with
    | false =>
      rw [hlk] at HR
      clear hlk
      obtain rfl := HR.out
      obtain ⟨n0, n1, _⟩ := HBN.out
      obtain ⟨p0, p1, p2, _⟩ := HBP.out
      have gn0 : ∀ X, (W3.drew.grow X).cell? ⟨w.heap.size, 0, none⟩ = some (.slice ao q.length cap) := fun X => ((Ext.refl W3).drew.trans (ext_grow _ X)).cell n0
      have gn1 : ∀ X, (W3.drew.grow X).cell? ⟨w.heap.size, 1, none⟩ = some (.slice bo a.length cap') := fun X => ((Ext.refl W3).drew.trans (ext_grow _ X)).cell n1
      have gp0 : ∀ X, (W3.drew.grow X).cell? ⟨w.heap.size + 1, 0, none⟩ = some (.int .i64 f) := fun X => ((Ext.refl W3).drew.trans (ext_grow _ X)).cell p0
      have gp1 : ∀ X, (W3.drew.grow X).cell? ⟨w.heap.size + 1, 1, none⟩ = some (.int .i64 t) := fun X => ((Ext.refl W3).drew.trans (ext_grow _ X)).cell p1
      have gp2 : ∀ X, (W3.drew.grow X).cell? ⟨w.heap.size + 1, 2, none⟩ = some (.slice co d.length cap2) := fun X => ((Ext.refl W3).drew.trans (ext_grow _ X)).cell p2
      go_wp2_with fail
      refine wp_region_rel (fun j => if j = 3 then some (spRetN1 cq) else none) 4 3 (by kernel_rfl) (by kernel_rfl) ?_
      simp only [List.take_succ_cons, List.take_zero]
      repeat (first
        | (refine wpRel_quick ?_ ?_ ?_ ?_
           · rfl
           · rfl
           · first | exact noEnter rfl | (intro f args W W'; go_simp)
           intro K hK
           go_big_quiet_op
           go_big_quiet_on)
        | (refine wpRel_skip ?_ ?_
           · rfl
           simp only [Act.put, List.setIfInBounds_toArray, List.set_cons_zero, List.set_cons_succ]))
      refine wpRel_rich _ rfl rfl (fun W hW => ?_) (fun v W6 hW6 hv => ?_)
      · have hc := HWO.out W (HXW.out.trans ((Ext.refl W3).drew.trans hW.1))
        go_simp
        refine Calls.mono hc ?_
        rintro e w6 ⟨cs6, rfl, hN6, hE6⟩
        exact ⟨_, rfl, ⟨cs6, rfl, hN6⟩, hE6⟩
      obtain ⟨cs6, rfl, hN6⟩ := hv
      obtain ⟨ao6, cap6, bo6, cap7, rfl⟩ := hN6.open
      simp only [Act.put, List.setIfInBounds_toArray, List.set_cons_zero, List.set_cons_succ]
      refine wpRel_nil ?_
      intro W7 hW7
      obtain ⟨cs7, hcs, hN7⟩ := hW7.2 3 trivial _ _ rfl rfl
      have hE7 := (Ext.refl W3).drew.trans hW7.1
      have HN7 : Hid (RepN W7 [.slice ao6 cq.q.length cap6, .slice bo6 cq.a.length cap7] cq) := Lib.hid (by
        simp only [Value.agg.injEq, Array.mk.injEq] at hcs
        rw [hcs]
        exact hN7)
      clear hcs hN7 hN6
      have HP7 := Lib.hid (HPW.out.ext hE7)
      have hb4 := HBP.out.ext hE7
      have hb5 := HBR.out.ext hE7
      have HB4 := Lib.hid hb4
      have HB5 := Lib.hid hb5
      have hX7 := HXW.out.trans hE7
      obtain ⟨p0, p1, p2, pz⟩ := hb4
      obtain ⟨r0, r1, rz⟩ := hb5
      refine wpAny_ready (rs := [4]) (by kernel_rfl) (by simp) ?_
      refine AllReady.cons rfl (fun K hK => ?_) AllReady.nil
      go_simp
      refine hK _ _ ?_
      clear hK K
      refine wpAny_ready (rs := [5]) (by kernel_rfl) (by simp) ?_
      refine AllReady.cons rfl (fun K hK => ?_) AllReady.nil
      go_simp
      refine hK _ _ ?_
      clear hK K
      refine wpAny_ready (rs := [6]) (by kernel_rfl) (by simp) ?_
      refine AllReady.cons rfl (fun K hK => ?_) AllReady.nil
      go_simp
      refine hK _ _ ?_
      clear hK K
      refine wpAny_done (by kernel_rfl) ?_ _
      go_wp2_with fail
      have hXF := ((((hX7.setCell (p := ⟨w.heap.size + 1, 0, none⟩) (by simp) (.int .i64 f)).setCell (p := ⟨w.heap.size + 1, 1, none⟩) (by simp) (.int .i64 t)).setCell (p := ⟨w.heap.size + 1, 2, none⟩) (by simp) (.slice co d.length cap2)).setCell (p := ⟨w.heap.size + 1 + 1, 0, none⟩) (by simp; omega) (.slice ao6 cq.q.length cap6)).setCell (p := ⟨w.heap.size + 1 + 1, 1, none⟩) (by simp; omega) (.slice bo6 cq.a.length cap7)
      have hb5' := ((HB5.out.far (q := ⟨w.heap.size + 1, 0, none⟩) (.int .i64 f) (by simp)).far (q := ⟨w.heap.size + 1, 1, none⟩) (.int .i64 t) (by simp)).far (q := ⟨w.heap.size + 1, 2, none⟩) (.slice co d.length cap2) (by simp)
      have hPF := (HP7.out.set3 HB4.out (.int .i64 f) (.int .i64 t) (.slice co d.length cap2)).set2 hb5' (.slice ao6 cq.q.length cap6) (.slice bo6 cq.a.length cap7)
      have hNF := (HN7.out.same3 HB4.out).setN hb5' (.slice ao6 cq.q.length cap6) (.slice bo6 cq.a.length cap7)
      refine bodyPost_ret (v := .tuple #[.agg #[.int .i64 f, .int .i64 t, .slice co d.length cap2], .agg #[.slice ao6 cq.q.length cap6, .slice bo6 cq.a.length cap7], .int .i64 0]) ?_ rfl ⟨_, _, rfl, hPF, hNF, hXF⟩
      simp [results, Try.results18, go_sem, p0, p1, p2, r0, r1]
    | true =>
      rw [hlk] at HR
      clear hlk
      obtain rfl := HR.out
      obtain ⟨p0, p1, p2, pz⟩ := HBP.out
      go_wp2_with fail
      have hbp4 := HBP.out.all (.int .i64 0) (.int .i64 0) (.slice none 0 0)
      have hbn4 := ((HBN.out.far (q := ⟨w.heap.size + 1, 0, none⟩) (.int .i64 0) (by simp)).far (q := ⟨w.heap.size + 1, 1, none⟩) (.int .i64 0) (by simp)).far (q := ⟨w.heap.size + 1, 2, none⟩) (.slice none 0 0) (by simp)
      have hbr4 := ((HBR.out.far (q := ⟨w.heap.size + 1, 0, none⟩) (.int .i64 0) (by simp)).far (q := ⟨w.heap.size + 1, 1, none⟩) (.int .i64 0) (by simp)).far (q := ⟨w.heap.size + 1, 2, none⟩) (.slice none 0 0) (by simp)
      have hX4 := ((HXW.out.setCell (p := ⟨w.heap.size + 1, 0, none⟩) (by simp) (.int .i64 0)).setCell (p := ⟨w.heap.size + 1, 1, none⟩) (by simp) (.int .i64 0)).setCell (p := ⟨w.heap.size + 1, 2, none⟩) (by simp) (.slice none 0 0)
      clear p0 p1 p2 pz HBN HBP HBR HXW HPW hE3 hW3
      generalize (((W3.setCell ⟨w.heap.size + 1, 0, none⟩ (.int .i64 0)).setCell ⟨w.heap.size + 1, 1, none⟩ (.int .i64 0)).setCell ⟨w.heap.size + 1, 2, none⟩ (.slice none 0 0)) = W4 at *
      have HBN := Lib.hid hbn4
      have HBP := Lib.hid hbp4
      have HBR := Lib.hid hbr4
      have HXW := Lib.hid hX4
      have HPW := Lib.hid (RepP.zero W4)
      clear hbn4 hbp4 hbr4 hX4
      obtain ⟨n0, n1, _⟩ := HBN.out
      obtain ⟨p0, p1, p2, _⟩ := HBP.out
      have gn0 : ∀ X, (W4.drew.grow X).cell? ⟨w.heap.size, 0, none⟩ = some (.slice ao q.length cap) := fun X => ((Ext.refl W4).drew.trans (ext_grow _ X)).cell n0
      have gn1 : ∀ X, (W4.drew.grow X).cell? ⟨w.heap.size, 1, none⟩ = some (.slice bo a.length cap') := fun X => ((Ext.refl W4).drew.trans (ext_grow _ X)).cell n1
      have gp0 : ∀ X, (W4.drew.grow X).cell? ⟨w.heap.size + 1, 0, none⟩ = some (.int .i64 0) := fun X => ((Ext.refl W4).drew.trans (ext_grow _ X)).cell p0
      have gp1 : ∀ X, (W4.drew.grow X).cell? ⟨w.heap.size + 1, 1, none⟩ = some (.int .i64 0) := fun X => ((Ext.refl W4).drew.trans (ext_grow _ X)).cell p1
      have gp2 : ∀ X, (W4.drew.grow X).cell? ⟨w.heap.size + 1, 2, none⟩ = some (.slice none 0 0) := fun X => ((Ext.refl W4).drew.trans (ext_grow _ X)).cell p2
      go_wp2_with fail
      refine wp_region_rel (fun j => if j = 3 then some (spRetN1 cq) else none) 4 3 (by kernel_rfl) (by kernel_rfl) ?_
      simp only [List.take_succ_cons, List.take_zero]
      repeat (first
        | (refine wpRel_quick ?_ ?_ ?_ ?_
           · rfl
           · rfl
           · first | exact noEnter rfl | (intro f args W W'; go_simp)
           intro K hK
           go_big_quiet_op
           go_big_quiet_on)
        | (refine wpRel_skip ?_ ?_
           · rfl
           simp only [Act.put, List.setIfInBounds_toArray, List.set_cons_zero, List.set_cons_succ]))
      refine wpRel_rich _ rfl rfl (fun W hW => ?_) (fun v W6 hW6 hv => ?_)
      · have hc := HWO.out W (HXW.out.trans ((Ext.refl W4).drew.trans hW.1))
        go_simp
        refine Calls.mono hc ?_
        rintro e w6 ⟨cs6, rfl, hN6, hE6⟩
        exact ⟨_, rfl, ⟨cs6, rfl, hN6⟩, hE6⟩
      obtain ⟨cs6, rfl, hN6⟩ := hv
      obtain ⟨ao6, cap6, bo6, cap7, rfl⟩ := hN6.open
      simp only [Act.put, List.setIfInBounds_toArray, List.set_cons_zero, List.set_cons_succ]
      refine wpRel_nil ?_
      intro W7 hW7
      obtain ⟨cs7, hcs, hN7⟩ := hW7.2 3 trivial _ _ rfl rfl
      have hE7 := (Ext.refl W4).drew.trans hW7.1
      have HN7 : Hid (RepN W7 [.slice ao6 cq.q.length cap6, .slice bo6 cq.a.length cap7] cq) := Lib.hid (by
        simp only [Value.agg.injEq, Array.mk.injEq] at hcs
        rw [hcs]
        exact hN7)
      clear hcs hN7 hN6
      have HP7 := Lib.hid (HPW.out.ext hE7)
      have hb4 := HBP.out.ext hE7
      have hb5 := HBR.out.ext hE7
      have HB4 := Lib.hid hb4
      have HB5 := Lib.hid hb5
      have hX7 := HXW.out.trans hE7
      obtain ⟨p0, p1, p2, pz⟩ := hb4
      obtain ⟨r0, r1, rz⟩ := hb5
      refine wpAny_ready (rs := [4]) (by kernel_rfl) (by simp) ?_
      refine AllReady.cons rfl (fun K hK => ?_) AllReady.nil
      go_simp
      refine hK _ _ ?_
      clear hK K
      refine wpAny_ready (rs := [5]) (by kernel_rfl) (by simp) ?_
      refine AllReady.cons rfl (fun K hK => ?_) AllReady.nil
      go_simp
      refine hK _ _ ?_
      clear hK K
      refine wpAny_ready (rs := [6]) (by kernel_rfl) (by simp) ?_
      refine AllReady.cons rfl (fun K hK => ?_) AllReady.nil
      go_simp
      refine hK _ _ ?_
      clear hK K
      refine wpAny_done (by kernel_rfl) ?_ _
      go_wp2_with fail
      have hXF := ((((hX7.setCell (p := ⟨w.heap.size + 1, 0, none⟩) (by simp) (.int .i64 0)).setCell (p := ⟨w.heap.size + 1, 1, none⟩) (by simp) (.int .i64 0)).setCell (p := ⟨w.heap.size + 1, 2, none⟩) (by simp) (.slice none 0 0)).setCell (p := ⟨w.heap.size + 1 + 1, 0, none⟩) (by simp; omega) (.slice ao6 cq.q.length cap6)).setCell (p := ⟨w.heap.size + 1 + 1, 1, none⟩) (by simp; omega) (.slice bo6 cq.a.length cap7)
      have hb5' := ((HB5.out.far (q := ⟨w.heap.size + 1, 0, none⟩) (.int .i64 0) (by simp)).far (q := ⟨w.heap.size + 1, 1, none⟩) (.int .i64 0) (by simp)).far (q := ⟨w.heap.size + 1, 2, none⟩) (.slice none 0 0) (by simp)
      have hPF := (HP7.out.set3 HB4.out (.int .i64 0) (.int .i64 0) (.slice none 0 0)).set2 hb5' (.slice ao6 cq.q.length cap6) (.slice bo6 cq.a.length cap7)
      have hNF := (HN7.out.same3 HB4.out).setN hb5' (.slice ao6 cq.q.length cap6) (.slice bo6 cq.a.length cap7)
      refine bodyPost_ret (v := .tuple #[.agg #[.int .i64 0, .int .i64 0, .slice none 0 0], .agg #[.slice ao6 cq.q.length cap6, .slice bo6 cq.a.length cap7], .int .i64 0]) ?_ rfl ⟨_, _, rfl, hPF, hNF, hXF⟩
      simp [results, Try.results18, go_sem, p0, p1, p2, r0, r1]
  · have HR : Hid (deliverN ⟨q, a⟩ i = (⟨0, 0, []⟩, ⟨[], []⟩, askN ⟨q, a⟩ i)) := Lib.hid (by rw [HX.out, if_neg hak])
    have HAT : Hid ((atN ⟨q, a⟩ i).1 = ⟨0, 0, []⟩) := Lib.hid (by rw [HAX.out, if_neg hak])
    generalize atN ⟨q, a⟩ i = pp at *
    obtain ⟨⟨f, t, d⟩, z⟩ := pp
    generalize askN ⟨q, a⟩ i = ak at *
    generalize deliverN ⟨q, a⟩ i = r at *
    have hne : (ak != 0) = true := by simpa using hak
    clear hak HCN HH
    simp only at HAS HAT
    have hpz := HAT.out
    simp only [Pk.mk.injEq] at hpz
    obtain ⟨rfl, rfl, rfl⟩ := hpz
    obtain rfl := HR.out
    go_enter Try.func18, Try.ntmps18
    go_wp2_with (first
      | (go_at_call 35; refine (HC.out _ hX0).mono ?_; rintro e w1 ⟨cp, rfl, hP1, hE1⟩; have HP1 := Lib.hid hP1; obtain ⟨co, cap2, rfl⟩ := hP1.open; clear hP1; rw [HAS.out]; obtain ⟨p0, p1, p2, pz⟩ := hbp.ext hE1))
    have hX1 := hX0.trans hE1
    have hX2 := ((hX1.setCell (p := ⟨w.heap.size + 1, 0, none⟩) (by simp) (.int .i64 0)).setCell (p := ⟨w.heap.size + 1, 1, none⟩) (by simp) (.int .i64 0)).setCell (p := ⟨w.heap.size + 1, 2, none⟩) (by simp) (.slice co ([] : List UInt8).length cap2)
    have hP2 := HP1.out.set3 (hbp.ext hE1) (.int .i64 0) (.int .i64 0) (.slice co ([] : List UInt8).length cap2)
    have hbp2 := (hbp.ext hE1).all (.int .i64 0) (.int .i64 0) (.slice co ([] : List UInt8).length cap2)
    have hbn2 := (((hbn.ext hE1).far (q := ⟨w.heap.size + 1, 0, none⟩) (.int .i64 0) (by simp)).far (q := ⟨w.heap.size + 1, 1, none⟩) (.int .i64 0) (by simp)).far (q := ⟨w.heap.size + 1, 2, none⟩) (.slice co ([] : List UInt8).length cap2) (by simp)
    have hbr2 := (((hbr.ext hE1).far (q := ⟨w.heap.size + 1, 0, none⟩) (.int .i64 0) (by simp)).far (q := ⟨w.heap.size + 1, 1, none⟩) (.int .i64 0) (by simp)).far (q := ⟨w.heap.size + 1, 2, none⟩) (.slice co ([] : List UInt8).length cap2) (by simp)
    clear hX1 hX0 hbp hbn hbr p0 p1 p2 pz
    generalize (((w1.setCell ⟨w.heap.size + 1, 0, none⟩ (.int .i64 0)).setCell ⟨w.heap.size + 1, 1, none⟩ (.int .i64 0)).setCell ⟨w.heap.size + 1, 2, none⟩ (.slice co ([] : List UInt8).length cap2)) = w2 at *
    have HP2 := Lib.hid hP2
    have HX2 := Lib.hid hX2
    clear hP2 hX2 HP1 hE1
    have HBN2 := Lib.hid hbn2
    have HBP2 := Lib.hid hbp2
    have HBR2 := Lib.hid hbr2
    clear hbr2
    obtain ⟨n0, n1, _⟩ := hbn2
    obtain ⟨p0, p1, p2, _⟩ := hbp2
    obtain ⟨r0, r1, _⟩ := HBR2.out
    have gp0 : ∀ X, (w2.drew.grow X).cell? ⟨w.heap.size + 1, 0, none⟩ = some (.int .i64 0) := fun X => ((Ext.refl w2).drew.trans (ext_grow _ X)).cell p0
    have gp1 : ∀ X, (w2.drew.grow X).cell? ⟨w.heap.size + 1, 1, none⟩ = some (.int .i64 0) := fun X => ((Ext.refl w2).drew.trans (ext_grow _ X)).cell p1
    have gp2 : ∀ X, (w2.drew.grow X).cell? ⟨w.heap.size + 1, 2, none⟩ = some (.slice co ([] : List UInt8).length cap2) := fun X => ((Ext.refl w2).drew.trans (ext_grow _ X)).cell p2
    have gr0 : ∀ X, (w2.drew.grow X).cell? ⟨w.heap.size + 1 + 1, 0, none⟩ = some (.slice none 0 0) := fun X => ((Ext.refl w2).drew.trans (ext_grow _ X)).cell r0
    have gr1 : ∀ X, (w2.drew.grow X).cell? ⟨w.heap.size + 1 + 1, 1, none⟩ = some (.slice none 0 0) := fun X => ((Ext.refl w2).drew.trans (ext_grow _ X)).cell r1
    go_wp2_with fail
    have HGP : Hid (∀ W, Cl w2.drew (fun _ => none) All (fun _ => none) W → Box3 W (w.heap.size + 1) (.int .i64 0) (.int .i64 0) (.slice co ([] : List UInt8).length cap2) ∧ Box2 W (w.heap.size + 1 + 1) (.slice none 0 0) (.slice none 0 0)) := Lib.hid fun W hW => ⟨HBP2.out.ext ((Ext.refl w2).drew.trans hW.1), HBR2.out.ext ((Ext.refl w2).drew.trans hW.1)⟩
    refine wp_region_rel_all (fun _ => none) (by kernel_rfl) (by kernel_rfl) ?_
    repeat (first
      | (refine wpRel_quick ?_ ?_ ?_ ?_
         · rfl
         · rfl
         · first | exact noEnter rfl | (intro f args W W'; go_simp)
         intro K hK
         go_big_quiet_op
         go_big_quiet_on)
      | (refine wpRel_skip ?_ ?_
         · rfl
         simp only [Act.put, List.setIfInBounds_toArray, List.set_cons_zero, List.set_cons_succ]))
    refine wpRel_quiet undef rfl rfl (fun W hW => ?_) ?_
    · obtain ⟨⟨p0, p1, p2, pz⟩, _⟩ := HGP.out W ⟨hW.1, fun _ _ _ _ h => by cases h⟩
      go_simp
      exact ⟨setCell_id3 p0 p1 p2, rfl⟩
    simp only [Act.put]
    repeat (first
      | (refine wpRel_quick ?_ ?_ ?_ ?_
         · rfl
         · rfl
         · first | exact noEnter rfl | (intro f args W W'; go_simp)
         intro K hK
         go_big_quiet_op
         go_big_quiet_on)
      | (refine wpRel_skip ?_ ?_
         · rfl
         simp only [Act.put, List.setIfInBounds_toArray, List.set_cons_zero, List.set_cons_succ]))
    refine wpRel_quiet undef rfl rfl (fun W hW => ?_) ?_
    · obtain ⟨_, ⟨r0, r1, rz⟩⟩ := HGP.out W ⟨hW.1, fun _ _ _ _ h => by cases h⟩
      go_simp
      exact ⟨setCell_id2 r0 r1, rfl⟩
    simp only [Act.put]
    repeat (first
      | (refine wpRel_quick ?_ ?_ ?_ ?_
         · rfl
         · rfl
         · first | exact noEnter rfl | (intro f args W W'; go_simp)
         intro K hK
         go_big_quiet_op
         go_big_quiet_on)
      | (refine wpRel_skip ?_ ?_
         · rfl
         simp only [Act.put, List.setIfInBounds_toArray, List.set_cons_zero, List.set_cons_succ]))
    refine wpRel_nil ?_
    intro W7 hW7
    have hE7 := (Ext.refl w2).drew.trans hW7.1
    obtain ⟨p0, p1, p2, pz⟩ := HBP2.out.ext hE7
    obtain ⟨r0, r1, rz⟩ := HBR2.out.ext hE7
    go_wp2_with fail
    refine bodyPost_ret (v := .tuple #[.agg #[.int .i64 0, .int .i64 0, .slice co ([] : List UInt8).length cap2], .agg #[.slice none 0 0, .slice none 0 0], .int .i64 ak]) ?_ rfl ⟨_, _, rfl, HP2.out.ext hE7, RepN.zero _, HX2.out.trans hE7⟩
    simp [results, Try.results18, go_sem, p0, p1, p2, r0, r1]
end Go.Proofs.Ytdlahgmbilkdcaa
