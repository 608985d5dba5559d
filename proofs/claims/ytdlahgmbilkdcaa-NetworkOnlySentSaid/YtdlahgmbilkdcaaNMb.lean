/- happens, walked: one theorem for each kind of move (part b). -/
import Derived.Test.YtdlahgmbilkdcaaNM0
namespace Go.Proofs.Ytdlahgmbilkdcaa
open Go.RowKit Go.Sz Go.Shelf

set_option maxRecDepth 100000 in
set_option maxHeartbeats 6400000 in
theorem happens_2 (n : Nw) (m : Mv) (cs : List Value) (w : World) (h : RepN w cs n) (hk : m.kind = 2) (h0 : 0 < n.q.length) : Calls Try.prog 27 #[.agg cs.toArray, .agg #[.int .u8 m.b0.toNat, .int .u8 m.b1.toNat, .int .u8 m.b2.toNat, .int .u8 m.b3.toNat, .int .u8 m.b4.toNat]] w (RetH (happensN n m) w) := by
  have HN := Lib.hid h
  have hs1 := h.sizes
  obtain ⟨a0, c0, b0, d0, rfl⟩ := h.open
  clear h
  have hX0 := ((((Ext.refl w).alloc (.cells #[.slice a0 n.q.length c0, .slice b0 n.a.length d0] 25)).alloc (.cells #[.int .u8 m.b0.toNat, .int .u8 m.b1.toNat, .int .u8 m.b2.toNat, .int .u8 m.b3.toNat, .int .u8 m.b4.toNat] 52)).alloc (.cells #[.slice none 0 0, .slice none 0 0] 25)).alloc (.cells #[.int .i64 0, .int .i64 0, .slice none 0 0] 28)
  have hb4 := (Box2.new' ((w.alloc (.cells #[.slice a0 n.q.length c0, .slice b0 n.a.length d0] 25)).alloc (.cells #[.int .u8 m.b0.toNat, .int .u8 m.b1.toNat, .int .u8 m.b2.toNat, .int .u8 m.b3.toNat, .int .u8 m.b4.toNat] 52)) (.slice none 0 0) (.slice none 0 0) 25 (w.heap.size + 1 + 1) (by simp)).ext ((Ext.refl _).alloc (.cells #[.int .i64 0, .int .i64 0, .slice none 0 0] 28))
  have hb5 := Box3.new' (((w.alloc (.cells #[.slice a0 n.q.length c0, .slice b0 n.a.length d0] 25)).alloc (.cells #[.int .u8 m.b0.toNat, .int .u8 m.b1.toNat, .int .u8 m.b2.toNat, .int .u8 m.b3.toNat, .int .u8 m.b4.toNat] 52)).alloc (.cells #[.slice none 0 0, .slice none 0 0] 25)) (.int .i64 0) (.int .i64 0) (.slice none 0 0) 28 (w.heap.size + 1 + 1 + 1) (by simp)
  have HHB := Lib.hid (And.intro hb4 hb5)
  clear hb4 hb5
  have HKM := Lib.hid (hapK2 n m hk)
  have HAT : Hid (m.at n = if n.q.length = 0 then 0 else ((m.b1.toNat % n.q.length : Nat) : Int)) := Lib.hid rfl
  have HXX : Hid (m.x = ((m.b2.toNat % 7 : Nat) : Int)) := Lib.hid rfl
  have HYY : Hid (m.y = ((m.b3.toNat % 7 : Nat) : Int)) := Lib.hid rfl
  have hkk : m.b0.toNat % 6 = 2 := hk
  generalize happensN n m = hh at *
  generalize hma : m.at n = ma at *
  generalize hmx : m.x = mx at *
  generalize hmy : m.y = my at *
  obtain ⟨m0, m1, m2, m3, m4⟩ := m
  simp only at hkk HAT HXX HYY HHB hX0 ⊢
  have l0 := m0.toNat_lt
  have l1 := m1.toNat_lt
  have l2 := m2.toNat_lt
  have l3 := m3.toNat_lt
  have l4 := m4.toNat_lt
  have g0 : (0 : Int) < (n.q.length : Int) := by omega
  have hk6 : (m0.toNat : Int) % 6 = 2 := by omega
  have hma0 : (m1.toNat : Int) % (n.q.length : Int) = ma := by rw [HAT.out, if_neg (by omega)]; simp
  have HM0 := Lib.hid hma0
  clear h0 hma0 hma hmx hmy
  go_enter Try.func27, Try.ntmps27
  go_wp2_with (go_quiet (fail))
  rw [HM0.out]
  refine (lose_any n ma _ _ (HN.out.ext (hX0.drewN _))).mono ?_
  have hX1 := hX0.drewN nq
  rintro e w3 ⟨cs3, rfl, hN3, hE3⟩
  have hX3 := hX1.trans hE3
  have hb4 := HHB.out.1.ext (((Ext.refl _).drewN nq).trans hE3)
  have hb5 := HHB.out.2.ext (((Ext.refl _).drewN nq).trans hE3)
  obtain ⟨a3, c3, b3, d3, rfl⟩ := hN3.open
  generalize loseN n ma = r at *
  obtain ⟨r1, r2⟩ := r
  obtain rfl := HKM.out
  simp only at hN3 hb4 hb5 ⊢
  have HN3 := Lib.hid hN3
  have HB4' := Lib.hid hb4
  have HB5' := Lib.hid hb5
  have HX3 := Lib.hid hX3
  obtain ⟨r0, r1', rz⟩ := hb4
  clear hN3 hb5 hX3 hX1 hE3 hX0
  go_wp2_with fail
  have hN5 := HN3.out.setN HB4'.out (.slice a3 r1.q.length c3) (.slice b3 r1.a.length d3)
  have hX5 := (HX3.out.setCell (p := ⟨w.heap.size + 1 + 1, 0, none⟩) (by simp; omega) (.slice a3 r1.q.length c3)).setCell (p := ⟨w.heap.size + 1 + 1, 1, none⟩) (by simp; omega) (.slice b3 r1.a.length d3)
  have hb4 := (HB4'.out.set0 (.slice a3 r1.q.length c3)).set1 (.slice b3 r1.a.length d3)
  have hb5 := (HB5'.out.far (q := ⟨w.heap.size + 1 + 1, 0, none⟩) (.slice a3 r1.q.length c3) (by simp)).far (q := ⟨w.heap.size + 1 + 1, 1, none⟩) (.slice b3 r1.a.length d3) (by simp)
  clear r0 r1' rz HB4' HB5' HX3 HN3 HHB
  generalize hW5e : ((w3.setCell ⟨w.heap.size + 1 + 1, 0, none⟩ (.slice a3 r1.q.length c3)).setCell ⟨w.heap.size + 1 + 1, 1, none⟩ (.slice b3 r1.a.length d3)) = W5 at *
  have hP5 := RepP.zero W5
  clear hW5e
  have HB4 := Lib.hid hb4
  have HB5 := Lib.hid hb5
  have HN5 := Lib.hid hN5
  have HP5 := Lib.hid hP5
  have HX5 := Lib.hid hX5
  clear hb4 hb5 hN5 hP5 hX5
  obtain ⟨k0, k1, kz⟩ := HB4.out
  obtain ⟨p0, p1, p2, pz⟩ := HB5.out
  have gr0 : ∀ X, (W5.drew.grow X).cell? ⟨w.heap.size + 1 + 1, 0, none⟩ = some (.slice a3 r1.q.length c3) := fun X => ((Ext.refl W5).drew.trans (ext_grow _ X)).cell k0
  have gr1 : ∀ X, (W5.drew.grow X).cell? ⟨w.heap.size + 1 + 1, 1, none⟩ = some (.slice b3 r1.a.length d3) := fun X => ((Ext.refl W5).drew.trans (ext_grow _ X)).cell k1
  have gp0 : ∀ X, (W5.drew.grow X).cell? ⟨w.heap.size + 1 + 1 + 1, 0, none⟩ = some (.int .i64 0) := fun X => ((Ext.refl W5).drew.trans (ext_grow _ X)).cell p0
  have gp1 : ∀ X, (W5.drew.grow X).cell? ⟨w.heap.size + 1 + 1 + 1, 1, none⟩ = some (.int .i64 0) := fun X => ((Ext.refl W5).drew.trans (ext_grow _ X)).cell p1
  have gp2 : ∀ X, (W5.drew.grow X).cell? ⟨w.heap.size + 1 + 1 + 1, 2, none⟩ = some (.slice none 0 0) := fun X => ((Ext.refl W5).drew.trans (ext_grow _ X)).cell p2
  go_wp2_with fail
  have HGP : Hid (∀ W, Cl W5.drew (fun _ => none) All (fun _ => none) W → Box2 W (w.heap.size + 1 + 1) (.slice a3 r1.q.length c3) (.slice b3 r1.a.length d3) ∧ Box3 W (w.heap.size + 1 + 1 + 1) (.int .i64 0) (.int .i64 0) (.slice none 0 0)) := Lib.hid fun W hW => ⟨HB4.out.ext ((Ext.refl W5).drew.trans hW.1), HB5.out.ext ((Ext.refl W5).drew.trans hW.1)⟩
  refine wp_region_rel_all (fun _ => none) (by kernel_rfl) (by kernel_rfl) ?_
  repeat (first
    | (refine wpRel_quick ?_ ?_ ?_ ?_
       · rfl
       · rfl
       · first | exact noEnter rfl | (intro f args W W'; go_simp)
       intro K hK
       go_big_quiet_op
       go_big_quiet_on)
    | (refine wpRel_skip ?_ ?_
       · rfl
       simp only [Act.put, List.setIfInBounds_toArray, List.set_cons_zero, List.set_cons_succ]))
  refine wpRel_quiet undef rfl rfl (fun W hW => ?_) ?_
  · obtain ⟨⟨k0, k1, kz⟩, _⟩ := HGP.out W ⟨hW.1, fun _ _ _ _ h => by cases h⟩
    go_simp
    exact ⟨setCell_id2 k0 k1, rfl⟩
  simp only [Act.put]
  repeat (first
    | (refine wpRel_quick ?_ ?_ ?_ ?_
       · rfl
       · rfl
       · first | exact noEnter rfl | (intro f args W W'; go_simp)
       intro K hK
       go_big_quiet_op
       go_big_quiet_on)
    | (refine wpRel_skip ?_ ?_
       · rfl
       simp only [Act.put, List.setIfInBounds_toArray, List.set_cons_zero, List.set_cons_succ]))
  refine wpRel_quiet undef rfl rfl (fun W hW => ?_) ?_
  · obtain ⟨_, ⟨p0, p1, p2, pz⟩⟩ := HGP.out W ⟨hW.1, fun _ _ _ _ h => by cases h⟩
    go_simp
    exact ⟨setCell_id3 p0 p1 p2, rfl⟩
  simp only [Act.put]
  repeat (first
    | (refine wpRel_quick ?_ ?_ ?_ ?_
       · rfl
       · rfl
       · first | exact noEnter rfl | (intro f args W W'; go_simp)
       intro K hK
       go_big_quiet_op
       go_big_quiet_on)
    | (refine wpRel_skip ?_ ?_
       · rfl
       simp only [Act.put, List.setIfInBounds_toArray, List.set_cons_zero, List.set_cons_succ]))
  refine wpRel_nil ?_
  intro W7 hW7
  have hE7 := (Ext.refl W5).drew.trans hW7.1
  obtain ⟨k0, k1, kz⟩ := HB4.out.ext hE7
  obtain ⟨p0, p1, p2, pz⟩ := HB5.out.ext hE7
  clear gr0 gr1 gp0 gp1 gp2
  go_wp2_with fail
  refine bodyPost_ret (v := .tuple #[.agg #[.slice a3 r1.q.length c3, .slice b3 r1.a.length d3], .agg #[.int .i64 0, .int .i64 0, .slice none 0 0], .int .i64 r2]) ?_ rfl ⟨_, _, rfl, HN5.out.ext hE7, HP5.out.ext hE7, HX5.out.trans hE7⟩
  simp [results, Try.results27, go_sem, k0, k1, p0, p1, p2]

set_option maxRecDepth 100000 in
set_option maxHeartbeats 6400000 in
theorem happens_3z (n : Nw) (m : Mv) (cs : List Value) (w : World) (h : RepN w cs n) (hk : m.kind = 3) (h0 : n.q.length = 0) : Calls Try.prog 27 #[.agg cs.toArray, .agg #[.int .u8 m.b0.toNat, .int .u8 m.b1.toNat, .int .u8 m.b2.toNat, .int .u8 m.b3.toNat, .int .u8 m.b4.toNat]] w (RetH (happensN n m) w) := by
  have HN := Lib.hid h
  have hs1 := h.sizes
  obtain ⟨a0, c0, b0, d0, rfl⟩ := h.open
  clear h
  have hX0 := ((((Ext.refl w).alloc (.cells #[.slice a0 n.q.length c0, .slice b0 n.a.length d0] 25)).alloc (.cells #[.int .u8 m.b0.toNat, .int .u8 m.b1.toNat, .int .u8 m.b2.toNat, .int .u8 m.b3.toNat, .int .u8 m.b4.toNat] 52)).alloc (.cells #[.slice none 0 0, .slice none 0 0] 25)).alloc (.cells #[.int .i64 0, .int .i64 0, .slice none 0 0] 28)
  have hb4 := (Box2.new' ((w.alloc (.cells #[.slice a0 n.q.length c0, .slice b0 n.a.length d0] 25)).alloc (.cells #[.int .u8 m.b0.toNat, .int .u8 m.b1.toNat, .int .u8 m.b2.toNat, .int .u8 m.b3.toNat, .int .u8 m.b4.toNat] 52)) (.slice none 0 0) (.slice none 0 0) 25 (w.heap.size + 1 + 1) (by simp)).ext ((Ext.refl _).alloc (.cells #[.int .i64 0, .int .i64 0, .slice none 0 0] 28))
  have hb5 := Box3.new' (((w.alloc (.cells #[.slice a0 n.q.length c0, .slice b0 n.a.length d0] 25)).alloc (.cells #[.int .u8 m.b0.toNat, .int .u8 m.b1.toNat, .int .u8 m.b2.toNat, .int .u8 m.b3.toNat, .int .u8 m.b4.toNat] 52)).alloc (.cells #[.slice none 0 0, .slice none 0 0] 25)) (.int .i64 0) (.int .i64 0) (.slice none 0 0) 28 (w.heap.size + 1 + 1 + 1) (by simp)
  have HHB := Lib.hid (And.intro hb4 hb5)
  clear hb4 hb5
  have HKM := Lib.hid (hapK3 n m hk)
  have HAT : Hid (m.at n = if n.q.length = 0 then 0 else ((m.b1.toNat % n.q.length : Nat) : Int)) := Lib.hid rfl
  have HXX : Hid (m.x = ((m.b2.toNat % 7 : Nat) : Int)) := Lib.hid rfl
  have HYY : Hid (m.y = ((m.b3.toNat % 7 : Nat) : Int)) := Lib.hid rfl
  have hkk : m.b0.toNat % 6 = 3 := hk
  generalize happensN n m = hh at *
  generalize hma : m.at n = ma at *
  generalize hmx : m.x = mx at *
  generalize hmy : m.y = my at *
  obtain ⟨m0, m1, m2, m3, m4⟩ := m
  simp only at hkk HAT HXX HYY HHB hX0 ⊢
  have l0 := m0.toNat_lt
  have l1 := m1.toNat_lt
  have l2 := m2.toNat_lt
  have l3 := m3.toNat_lt
  have l4 := m4.toNat_lt
  have g0 : ¬ (0 : Int) < (n.q.length : Int) := by omega
  have hk6 : (m0.toNat : Int) % 6 = 3 := by omega
  have hma0 : ma = 0 := by rw [HAT.out, if_pos h0]
  have H0 := Lib.hid h0
  have HM0 := Lib.hid hma0
  clear h0 hma0 hma hmx hmy
  go_enter Try.func27, Try.ntmps27
  go_wp2_with (go_quiet (fail))
  obtain rfl := HM0.out
  refine (repeat_any n 0 _ _ (HN.out.ext (hX0.drewN _))).mono ?_
  have hX1 := hX0.drewN nq
  rintro e w3 ⟨cs3, rfl, hN3, hE3⟩
  have hX3 := hX1.trans hE3
  have hb4 := HHB.out.1.ext (((Ext.refl _).drewN nq).trans hE3)
  have hb5 := HHB.out.2.ext (((Ext.refl _).drewN nq).trans hE3)
  obtain ⟨a3, c3, b3, d3, rfl⟩ := hN3.open
  generalize repeatN n 0 = r at *
  obtain ⟨r1, r2⟩ := r
  obtain rfl := HKM.out
  simp only at hN3 hb4 hb5 ⊢
  have HN3 := Lib.hid hN3
  have HB4' := Lib.hid hb4
  have HB5' := Lib.hid hb5
  have HX3 := Lib.hid hX3
  obtain ⟨r0, r1', rz⟩ := hb4
  clear hN3 hb5 hX3 hX1 hE3 hX0
  go_wp2_with fail
  have hN5 := HN3.out.setN HB4'.out (.slice a3 r1.q.length c3) (.slice b3 r1.a.length d3)
  have hX5 := (HX3.out.setCell (p := ⟨w.heap.size + 1 + 1, 0, none⟩) (by simp; omega) (.slice a3 r1.q.length c3)).setCell (p := ⟨w.heap.size + 1 + 1, 1, none⟩) (by simp; omega) (.slice b3 r1.a.length d3)
  have hb4 := (HB4'.out.set0 (.slice a3 r1.q.length c3)).set1 (.slice b3 r1.a.length d3)
  have hb5 := (HB5'.out.far (q := ⟨w.heap.size + 1 + 1, 0, none⟩) (.slice a3 r1.q.length c3) (by simp)).far (q := ⟨w.heap.size + 1 + 1, 1, none⟩) (.slice b3 r1.a.length d3) (by simp)
  clear r0 r1' rz HB4' HB5' HX3 HN3 HHB
  generalize hW5e : ((w3.setCell ⟨w.heap.size + 1 + 1, 0, none⟩ (.slice a3 r1.q.length c3)).setCell ⟨w.heap.size + 1 + 1, 1, none⟩ (.slice b3 r1.a.length d3)) = W5 at *
  have hP5 := RepP.zero W5
  clear hW5e
  have HB4 := Lib.hid hb4
  have HB5 := Lib.hid hb5
  have HN5 := Lib.hid hN5
  have HP5 := Lib.hid hP5
  have HX5 := Lib.hid hX5
  clear hb4 hb5 hN5 hP5 hX5
  obtain ⟨k0, k1, kz⟩ := HB4.out
  obtain ⟨p0, p1, p2, pz⟩ := HB5.out
  have gr0 : ∀ X, (W5.drew.grow X).cell? ⟨w.heap.size + 1 + 1, 0, none⟩ = some (.slice a3 r1.q.length c3) := fun X => ((Ext.refl W5).drew.trans (ext_grow _ X)).cell k0
  have gr1 : ∀ X, (W5.drew.grow X).cell? ⟨w.heap.size + 1 + 1, 1, none⟩ = some (.slice b3 r1.a.length d3) := fun X => ((Ext.refl W5).drew.trans (ext_grow _ X)).cell k1
  have gp0 : ∀ X, (W5.drew.grow X).cell? ⟨w.heap.size + 1 + 1 + 1, 0, none⟩ = some (.int .i64 0) := fun X => ((Ext.refl W5).drew.trans (ext_grow _ X)).cell p0
  have gp1 : ∀ X, (W5.drew.grow X).cell? ⟨w.heap.size + 1 + 1 + 1, 1, none⟩ = some (.int .i64 0) := fun X => ((Ext.refl W5).drew.trans (ext_grow _ X)).cell p1
  have gp2 : ∀ X, (W5.drew.grow X).cell? ⟨w.heap.size + 1 + 1 + 1, 2, none⟩ = some (.slice none 0 0) := fun X => ((Ext.refl W5).drew.trans (ext_grow _ X)).cell p2
  go_wp2_with fail
  have HGP : Hid (∀ W, Cl W5.drew (fun _ => none) All (fun _ => none) W → Box2 W (w.heap.size + 1 + 1) (.slice a3 r1.q.length c3) (.slice b3 r1.a.length d3) ∧ Box3 W (w.heap.size + 1 + 1 + 1) (.int .i64 0) (.int .i64 0) (.slice none 0 0)) := Lib.hid fun W hW => ⟨HB4.out.ext ((Ext.refl W5).drew.trans hW.1), HB5.out.ext ((Ext.refl W5).drew.trans hW.1)⟩
  refine wp_region_rel_all (fun _ => none) (by kernel_rfl) (by kernel_rfl) ?_
  repeat (first
    | (refine wpRel_quick ?_ ?_ ?_ ?_
       · rfl
       · rfl
       · first | exact noEnter rfl | (intro f args W W'; go_simp)
       intro K hK
       go_big_quiet_op
       go_big_quiet_on)
    | (refine wpRel_skip ?_ ?_
       · rfl
       simp only [Act.put, List.setIfInBounds_toArray, List.set_cons_zero, List.set_cons_succ]))
  refine wpRel_quiet undef rfl rfl (fun W hW => ?_) ?_
  · obtain ⟨⟨k0, k1, kz⟩, _⟩ := HGP.out W ⟨hW.1, fun _ _ _ _ h => by cases h⟩
    go_simp
    exact ⟨setCell_id2 k0 k1, rfl⟩
  simp only [Act.put]
  repeat (first
    | (refine wpRel_quick ?_ ?_ ?_ ?_
       · rfl
       · rfl
       · first | exact noEnter rfl | (intro f args W W'; go_simp)
       intro K hK
       go_big_quiet_op
       go_big_quiet_on)
    | (refine wpRel_skip ?_ ?_
       · rfl
       simp only [Act.put, List.setIfInBounds_toArray, List.set_cons_zero, List.set_cons_succ]))
  refine wpRel_quiet undef rfl rfl (fun W hW => ?_) ?_
  · obtain ⟨_, ⟨p0, p1, p2, pz⟩⟩ := HGP.out W ⟨hW.1, fun _ _ _ _ h => by cases h⟩
    go_simp
    exact ⟨setCell_id3 p0 p1 p2, rfl⟩
  simp only [Act.put]
  repeat (first
    | (refine wpRel_quick ?_ ?_ ?_ ?_
       · rfl
       · rfl
       · first | exact noEnter rfl | (intro f args W W'; go_simp)
       intro K hK
       go_big_quiet_op
       go_big_quiet_on)
    | (refine wpRel_skip ?_ ?_
       · rfl
       simp only [Act.put, List.setIfInBounds_toArray, List.set_cons_zero, List.set_cons_succ]))
  refine wpRel_nil ?_
  intro W7 hW7
  have hE7 := (Ext.refl W5).drew.trans hW7.1
  obtain ⟨k0, k1, kz⟩ := HB4.out.ext hE7
  obtain ⟨p0, p1, p2, pz⟩ := HB5.out.ext hE7
  clear gr0 gr1 gp0 gp1 gp2
  go_wp2_with fail
  refine bodyPost_ret (v := .tuple #[.agg #[.slice a3 r1.q.length c3, .slice b3 r1.a.length d3], .agg #[.int .i64 0, .int .i64 0, .slice none 0 0], .int .i64 r2]) ?_ rfl ⟨_, _, rfl, HN5.out.ext hE7, HP5.out.ext hE7, HX5.out.trans hE7⟩
  simp [results, Try.results27, go_sem, k0, k1, p0, p1, p2]

set_option maxRecDepth 100000 in
set_option maxHeartbeats 6400000 in
theorem happens_3 (n : Nw) (m : Mv) (cs : List Value) (w : World) (h : RepN w cs n) (hk : m.kind = 3) (h0 : 0 < n.q.length) : Calls Try.prog 27 #[.agg cs.toArray, .agg #[.int .u8 m.b0.toNat, .int .u8 m.b1.toNat, .int .u8 m.b2.toNat, .int .u8 m.b3.toNat, .int .u8 m.b4.toNat]] w (RetH (happensN n m) w) := by
  have HN := Lib.hid h
  have hs1 := h.sizes
  obtain ⟨a0, c0, b0, d0, rfl⟩ := h.open
  clear h
  have hX0 := ((((Ext.refl w).alloc (.cells #[.slice a0 n.q.length c0, .slice b0 n.a.length d0] 25)).alloc (.cells #[.int .u8 m.b0.toNat, .int .u8 m.b1.toNat, .int .u8 m.b2.toNat, .int .u8 m.b3.toNat, .int .u8 m.b4.toNat] 52)).alloc (.cells #[.slice none 0 0, .slice none 0 0] 25)).alloc (.cells #[.int .i64 0, .int .i64 0, .slice none 0 0] 28)
  have hb4 := (Box2.new' ((w.alloc (.cells #[.slice a0 n.q.length c0, .slice b0 n.a.length d0] 25)).alloc (.cells #[.int .u8 m.b0.toNat, .int .u8 m.b1.toNat, .int .u8 m.b2.toNat, .int .u8 m.b3.toNat, .int .u8 m.b4.toNat] 52)) (.slice none 0 0) (.slice none 0 0) 25 (w.heap.size + 1 + 1) (by simp)).ext ((Ext.refl _).alloc (.cells #[.int .i64 0, .int .i64 0, .slice none 0 0] 28))
  have hb5 := Box3.new' (((w.alloc (.cells #[.slice a0 n.q.length c0, .slice b0 n.a.length d0] 25)).alloc (.cells #[.int .u8 m.b0.toNat, .int .u8 m.b1.toNat, .int .u8 m.b2.toNat, .int .u8 m.b3.toNat, .int .u8 m.b4.toNat] 52)).alloc (.cells #[.slice none 0 0, .slice none 0 0] 25)) (.int .i64 0) (.int .i64 0) (.slice none 0 0) 28 (w.heap.size + 1 + 1 + 1) (by simp)
  have HHB := Lib.hid (And.intro hb4 hb5)
  clear hb4 hb5
  have HKM := Lib.hid (hapK3 n m hk)
  have HAT : Hid (m.at n = if n.q.length = 0 then 0 else ((m.b1.toNat % n.q.length : Nat) : Int)) := Lib.hid rfl
  have HXX : Hid (m.x = ((m.b2.toNat % 7 : Nat) : Int)) := Lib.hid rfl
  have HYY : Hid (m.y = ((m.b3.toNat % 7 : Nat) : Int)) := Lib.hid rfl
  have hkk : m.b0.toNat % 6 = 3 := hk
  generalize happensN n m = hh at *
  generalize hma : m.at n = ma at *
  generalize hmx : m.x = mx at *
  generalize hmy : m.y = my at *
  obtain ⟨m0, m1, m2, m3, m4⟩ := m
  simp only at hkk HAT HXX HYY HHB hX0 ⊢
  have l0 := m0.toNat_lt
  have l1 := m1.toNat_lt
  have l2 := m2.toNat_lt
  have l3 := m3.toNat_lt
  have l4 := m4.toNat_lt
  have g0 : (0 : Int) < (n.q.length : Int) := by omega
  have hk6 : (m0.toNat : Int) % 6 = 3 := by omega
  have hma0 : (m1.toNat : Int) % (n.q.length : Int) = ma := by rw [HAT.out, if_neg (by omega)]; simp
  have HM0 := Lib.hid hma0
  clear h0 hma0 hma hmx hmy
  go_enter Try.func27, Try.ntmps27
  go_wp2_with (go_quiet (fail))
  rw [HM0.out]
  refine (repeat_any n ma _ _ (HN.out.ext (hX0.drewN _))).mono ?_
  have hX1 := hX0.drewN nq
  rintro e w3 ⟨cs3, rfl, hN3, hE3⟩
  have hX3 := hX1.trans hE3
  have hb4 := HHB.out.1.ext (((Ext.refl _).drewN nq).trans hE3)
  have hb5 := HHB.out.2.ext (((Ext.refl _).drewN nq).trans hE3)
  obtain ⟨a3, c3, b3, d3, rfl⟩ := hN3.open
  generalize repeatN n ma = r at *
  obtain ⟨r1, r2⟩ := r
  obtain rfl := HKM.out
  simp only at hN3 hb4 hb5 ⊢
  have HN3 := Lib.hid hN3
  have HB4' := Lib.hid hb4
  have HB5' := Lib.hid hb5
  have HX3 := Lib.hid hX3
  obtain ⟨r0, r1', rz⟩ := hb4
  clear hN3 hb5 hX3 hX1 hE3 hX0
  go_wp2_with fail
  have hN5 := HN3.out.setN HB4'.out (.slice a3 r1.q.length c3) (.slice b3 r1.a.length d3)
  have hX5 := (HX3.out.setCell (p := ⟨w.heap.size + 1 + 1, 0, none⟩) (by simp; omega) (.slice a3 r1.q.length c3)).setCell (p := ⟨w.heap.size + 1 + 1, 1, none⟩) (by simp; omega) (.slice b3 r1.a.length d3)
  have hb4 := (HB4'.out.set0 (.slice a3 r1.q.length c3)).set1 (.slice b3 r1.a.length d3)
  have hb5 := (HB5'.out.far (q := ⟨w.heap.size + 1 + 1, 0, none⟩) (.slice a3 r1.q.length c3) (by simp)).far (q := ⟨w.heap.size + 1 + 1, 1, none⟩) (.slice b3 r1.a.length d3) (by simp)
  clear r0 r1' rz HB4' HB5' HX3 HN3 HHB
  generalize hW5e : ((w3.setCell ⟨w.heap.size + 1 + 1, 0, none⟩ (.slice a3 r1.q.length c3)).setCell ⟨w.heap.size + 1 + 1, 1, none⟩ (.slice b3 r1.a.length d3)) = W5 at *
  have hP5 := RepP.zero W5
  clear hW5e
  have HB4 := Lib.hid hb4
  have HB5 := Lib.hid hb5
  have HN5 := Lib.hid hN5
  have HP5 := Lib.hid hP5
  have HX5 := Lib.hid hX5
  clear hb4 hb5 hN5 hP5 hX5
  obtain ⟨k0, k1, kz⟩ := HB4.out
  obtain ⟨p0, p1, p2, pz⟩ := HB5.out
  have gr0 : ∀ X, (W5.drew.grow X).cell? ⟨w.heap.size + 1 + 1, 0, none⟩ = some (.slice a3 r1.q.length c3) := fun X => ((Ext.refl W5).drew.trans (ext_grow _ X)).cell k0
  have gr1 : ∀ X, (W5.drew.grow X).cell? ⟨w.heap.size + 1 + 1, 1, none⟩ = some (.slice b3 r1.a.length d3) := fun X => ((Ext.refl W5).drew.trans (ext_grow _ X)).cell k1
  have gp0 : ∀ X, (W5.drew.grow X).cell? ⟨w.heap.size + 1 + 1 + 1, 0, none⟩ = some (.int .i64 0) := fun X => ((Ext.refl W5).drew.trans (ext_grow _ X)).cell p0
  have gp1 : ∀ X, (W5.drew.grow X).cell? ⟨w.heap.size + 1 + 1 + 1, 1, none⟩ = some (.int .i64 0) := fun X => ((Ext.refl W5).drew.trans (ext_grow _ X)).cell p1
  have gp2 : ∀ X, (W5.drew.grow X).cell? ⟨w.heap.size + 1 + 1 + 1, 2, none⟩ = some (.slice none 0 0) := fun X => ((Ext.refl W5).drew.trans (ext_grow _ X)).cell p2
  go_wp2_with fail
  have HGP : Hid (∀ W, Cl W5.drew (fun _ => none) All (fun _ => none) W → Box2 W (w.heap.size + 1 + 1) (.slice a3 r1.q.length c3) (.slice b3 r1.a.length d3) ∧ Box3 W (w.heap.size + 1 + 1 + 1) (.int .i64 0) (.int .i64 0) (.slice none 0 0)) := Lib.hid fun W hW => ⟨HB4.out.ext ((Ext.refl W5).drew.trans hW.1), HB5.out.ext ((Ext.refl W5).drew.trans hW.1)⟩
  refine wp_region_rel_all (fun _ => none) (by kernel_rfl) (by kernel_rfl) ?_
  repeat (first
    | (refine wpRel_quick ?_ ?_ ?_ ?_
       · rfl
       · rfl
       · first | exact noEnter rfl | (intro f args W W'; go_simp)
       intro K hK
       go_big_quiet_op
       go_big_quiet_on)
    | (refine wpRel_skip ?_ ?_
       · rfl
       simp only [Act.put, List.setIfInBounds_toArray, List.set_cons_zero, List.set_cons_succ]))
  refine wpRel_quiet undef rfl rfl (fun W hW => ?_) ?_
  · obtain ⟨⟨k0, k1, kz⟩, _⟩ := HGP.out W ⟨hW.1, fun _ _ _ _ h => by cases h⟩
    go_simp
    exact ⟨setCell_id2 k0 k1, rfl⟩
  simp only [Act.put]
  repeat (first
    | (refine wpRel_quick ?_ ?_ ?_ ?_
       · rfl
       · rfl
       · first | exact noEnter rfl | (intro f args W W'; go_simp)
       intro K hK
       go_big_quiet_op
       go_big_quiet_on)
    | (refine wpRel_skip ?_ ?_
       · rfl
       simp only [Act.put, List.setIfInBounds_toArray, List.set_cons_zero, List.set_cons_succ]))
  refine wpRel_quiet undef rfl rfl (fun W hW => ?_) ?_
  · obtain ⟨_, ⟨p0, p1, p2, pz⟩⟩ := HGP.out W ⟨hW.1, fun _ _ _ _ h => by cases h⟩
    go_simp
    exact ⟨setCell_id3 p0 p1 p2, rfl⟩
  simp only [Act.put]
  repeat (first
    | (refine wpRel_quick ?_ ?_ ?_ ?_
       · rfl
       · rfl
       · first | exact noEnter rfl | (intro f args W W'; go_simp)
       intro K hK
       go_big_quiet_op
       go_big_quiet_on)
    | (refine wpRel_skip ?_ ?_
       · rfl
       simp only [Act.put, List.setIfInBounds_toArray, List.set_cons_zero, List.set_cons_succ]))
  refine wpRel_nil ?_
  intro W7 hW7
  have hE7 := (Ext.refl W5).drew.trans hW7.1
  obtain ⟨k0, k1, kz⟩ := HB4.out.ext hE7
  obtain ⟨p0, p1, p2, pz⟩ := HB5.out.ext hE7
  clear gr0 gr1 gp0 gp1 gp2
  go_wp2_with fail
  refine bodyPost_ret (v := .tuple #[.agg #[.slice a3 r1.q.length c3, .slice b3 r1.a.length d3], .agg #[.int .i64 0, .int .i64 0, .slice none 0 0], .int .i64 r2]) ?_ rfl ⟨_, _, rfl, HN5.out.ext hE7, HP5.out.ext hE7, HX5.out.trans hE7⟩
  simp [results, Try.results27, go_sem, k0, k1, p0, p1, p2]
end Go.Proofs.Ytdlahgmbilkdcaa
