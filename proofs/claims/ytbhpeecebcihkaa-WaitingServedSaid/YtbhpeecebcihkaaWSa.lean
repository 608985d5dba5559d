/- Waiting: sane. -/
import Derived.Test.YtbhpeecebcihkaaWS
namespace Go.Proofs.Ytbhpeecebcihkaa
open Go.RowKit Go.Sz
set_option maxRecDepth 100000 in
set_option maxHeartbeats 25600000 in
theorem sane_any (w : World) : Calls Try.prog 10 #[] w fun e w' => e = .returned (.bool true) ∧ Ext w w' := by
  go_enter Try.func10, Try.ntmps10
  go_wp2_with fail
  refine (wait_any 7 3 5 1 _).mono ?_
  rintro e w1 ⟨rfl, hE1⟩
  go_wp2_with fail
  refine (wait_any 8 3 4 2 _).mono ?_
  rintro e w2 ⟨rfl, hE2⟩
  have HX0 := Lib.hid (((hE1.trans hE2).alloc (.cells #[.int .i64 7, .int .i64 3, .int .i64 (-1), .int .i64 5, .int .i64 1] 26)).alloc (.cells #[.int .i64 8, .int .i64 3, .int .i64 (-1), .int .i64 4, .int .i64 2] 26))
  clear hE1 hE2
  have hT : TwoW oA oB w2.heap.size (w2.heap.size + 1) ((w2.alloc (.cells #[.int .i64 7, .int .i64 3, .int .i64 (-1), .int .i64 5, .int .i64 1] 26)).alloc (.cells #[.int .i64 8, .int .i64 3, .int .i64 (-1), .int .i64 4, .int .i64 2] 26)) := by unfold TwoW; simp
  have HD := Lib.hid hT
  obtain ⟨t0, t1, t2, t3, t4, t5, t6, t7, t8, t9⟩ := hT
  go_wp2_with fail
  clear t0 t1 t2 t3 t4 t5 t6 t7 t8 t9
  generalize ((w2.alloc (.cells #[.int .i64 7, .int .i64 3, .int .i64 (-1), .int .i64 5, .int .i64 1] 26)).alloc (.cells #[.int .i64 8, .int .i64 3, .int .i64 (-1), .int .i64 4, .int .i64 2] 26)) = w0 at *
  have HX := Lib.hid (Ext.refl w0)
  refine (jn_as sn1 (RepW.empty _) (by decide)).mono ?_
  rintro e v1 ⟨a1, c1, rfl, hR1, hE⟩
  have HR1 := Lib.hid (show RepW v1 a1 c1 [oA] from hR1)
  have HX := Lib.hid (HX.out.trans hE)
  clear hE
  obtain ⟨t0, t1, t2, t3, t4, t5, t6, t7, t8, t9⟩ := HD.out.ext (HX.out)
  go_wp2_with fail
  clear t0 t1 t2 t3 t4 t5 t6 t7 t8 t9
  refine (jn_as sn2 HR1.out (by decide)).mono ?_
  rintro e v2 ⟨a2, c2, rfl, hR2, hE⟩
  have HR1 := Lib.hid (HR1.out.ext hE)
  have HR := Lib.hid (show RepW v2 a2 c2 [oB, oA] from hR2)
  have HX := Lib.hid (HX.out.trans hE)
  clear hE
  go_wp2_with fail
  refine (wait_any 7 3 9 9 _).mono ?_
  rintro e v3 ⟨rfl, hE⟩
  have HR1 := Lib.hid (HR1.out.ext hE)
  have HR := Lib.hid (HR.out.ext hE)
  have HX := Lib.hid (HX.out.trans hE)
  clear hE
  go_wp2_with fail
  refine (jn_as sn3 HR.out (by decide)).mono ?_
  rintro e v4 ⟨a4, c4, rfl, hR4, hE⟩
  have HR1 := Lib.hid (HR1.out.ext hE)
  have HR := Lib.hid (HR.out.ext hE)
  have HX := Lib.hid (HX.out.trans hE)
  clear hE
  obtain ⟨t0, t1, t2, t3, t4, t5, t6, t7, t8, t9⟩ := HD.out.ext (HX.out)
  go_wp2_with fail
  clear t0 t1 t2 t3 t4 t5 t6 t7 t8 t9
  refine (lv_as sn4 HR.out (by decide)).mono ?_
  rintro e v5 ⟨a5, c5, rfl, hR5, hE⟩
  have HR1 := Lib.hid (HR1.out.ext hE)
  have HR := Lib.hid (HR.out.ext hE)
  have HY := Lib.hid (show RepW v5 a5 c5 [oA] from hR5)
  have HX := Lib.hid (HX.out.trans hE)
  clear hE
  obtain ⟨t0, t1, t2, t3, t4, t5, t6, t7, t8, t9⟩ := HD.out.ext (HX.out)
  go_wp2_with fail
  clear t0 t1 t2 t3 t4 t5 t6 t7 t8 t9
  refine (lv_as sn5 (RepW.empty _) (by decide)).mono ?_
  rintro e v6 ⟨a6, c6, rfl, hR6, hE⟩
  have HR1 := Lib.hid (HR1.out.ext hE)
  have HR := Lib.hid (HR.out.ext hE)
  have HY := Lib.hid (HY.out.ext hE)
  have HX := Lib.hid (HX.out.trans hE)
  clear hE
  obtain ⟨t0, t1, t2, t3, t4, t5, t6, t7, t8, t9⟩ := HD.out.ext (HX.out)
  go_wp2_with fail
  clear t0 t1 t2 t3 t4 t5 t6 t7 t8 t9
  refine (show Calls Try.prog 19 _ v6 (fun e w' => e = .returned (.tuple #[.agg #[.int .i64 8, .int .i64 3, .int .i64 (-1), .int .i64 4, .int .i64 2], .bool true]) ∧ Ext v6 w') from fs_as sn6 HR.out).mono ?_
  rintro e v7 ⟨rfl, hE⟩
  have HR1 := Lib.hid (HR1.out.ext hE)
  have HR := Lib.hid (HR.out.ext hE)
  have HY := Lib.hid (HY.out.ext hE)
  have HX := Lib.hid (HX.out.trans hE)
  clear hE
  have hA : Ext v7 (v7.alloc (.cells #[.int .i64 8, .int .i64 3, .int .i64 (-1), .int .i64 4, .int .i64 2] 26)) := (Ext.refl _).alloc _
  have hB : BoxW (v7.alloc (.cells #[.int .i64 8, .int .i64 3, .int .i64 (-1), .int .i64 4, .int .i64 2] 26)) v7.heap.size oB := BoxW.new _ oB _ _ rfl
  obtain ⟨t0, t1, t2, t3, t4, t5, t6, t7, t8, t9⟩ := HD.out.ext (HX.out.trans hA)
  go_wp2_with fail
  clear t0 t1 t2 t3 t4 t5 t6 t7 t8 t9
  generalize (v7.alloc (.cells #[.int .i64 8, .int .i64 3, .int .i64 (-1), .int .i64 4, .int .i64 2] 26)) = u7 at *
  have HR1 := Lib.hid (HR1.out.ext hA)
  have HR := Lib.hid (HR.out.ext hA)
  have HY := Lib.hid (HY.out.ext hA)
  have HW1 := Lib.hid hB
  have HX := Lib.hid (HX.out.trans hA)
  clear hA hB
  refine (show Calls Try.prog 19 _ u7 (fun e w' => e = .returned (.tuple #[.agg #[.int .i64 0, .int .i64 0, .int .i64 0, .int .i64 0, .int .i64 0], .bool false]) ∧ Ext u7 w') from fs_as sn7 (RepW.empty _)).mono ?_
  rintro e v8 ⟨rfl, hE⟩
  have HR1 := Lib.hid (HR1.out.ext hE)
  have HR := Lib.hid (HR.out.ext hE)
  have HY := Lib.hid (HY.out.ext hE)
  have HW1 := Lib.hid (HW1.out.ext hE)
  have HX := Lib.hid (HX.out.trans hE)
  clear hE
  have hA : Ext v8 (v8.alloc (.cells #[.int .i64 0, .int .i64 0, .int .i64 0, .int .i64 0, .int .i64 0] 26)) := (Ext.refl _).alloc _
  have hB : BoxW (v8.alloc (.cells #[.int .i64 0, .int .i64 0, .int .i64 0, .int .i64 0, .int .i64 0] 26)) v8.heap.size Go.Sz.w0 := BoxW.new _ Go.Sz.w0 _ _ rfl
  obtain ⟨t0, t1, t2, t3, t4, t5, t6, t7, t8, t9⟩ := HD.out.ext (HX.out.trans hA)
  go_wp2_with fail
  clear t0 t1 t2 t3 t4 t5 t6 t7 t8 t9
  generalize (v8.alloc (.cells #[.int .i64 0, .int .i64 0, .int .i64 0, .int .i64 0, .int .i64 0] 26)) = u8 at *
  have HR1 := Lib.hid (HR1.out.ext hA)
  have HR := Lib.hid (HR.out.ext hA)
  have HY := Lib.hid (HY.out.ext hA)
  have HW1 := Lib.hid (HW1.out.ext hA)
  have HW2 := Lib.hid hB
  have HX := Lib.hid (HX.out.trans hA)
  clear hA hB
  refine (pl_as sn8 HR.out (by decide)).mono ?_
  rintro e v9 ⟨rfl, hE⟩
  have HR1 := Lib.hid (HR1.out.ext hE)
  have HR := Lib.hid (HR.out.ext hE)
  have HY := Lib.hid (HY.out.ext hE)
  have HW1 := Lib.hid (HW1.out.ext hE)
  have HW2 := Lib.hid (HW2.out.ext hE)
  have HX := Lib.hid (HX.out.trans hE)
  clear hE
  go_wp2_with fail
  refine (jn_as sn9 (RepW.empty _) (by decide)).mono ?_
  rintro e v10 ⟨a10, c10, rfl, hR10, hE⟩
  have HR1 := Lib.hid (HR1.out.ext hE)
  have HR := Lib.hid (HR.out.ext hE)
  have HY := Lib.hid (HY.out.ext hE)
  have HW1 := Lib.hid (HW1.out.ext hE)
  have HW2 := Lib.hid (HW2.out.ext hE)
  have HX := Lib.hid (HX.out.trans hE)
  clear hE
  obtain ⟨t0, t1, t2, t3, t4, t5, t6, t7, t8, t9⟩ := HD.out.ext (HX.out)
  go_wp2_with fail
  clear t0 t1 t2 t3 t4 t5 t6 t7 t8 t9
  simp only [List.append]
  obtain ⟨t0, t1, t2, t3, t4, t5, t6, t7, t8, t9⟩ := HD.out.ext HX.out
  obtain ⟨z0, z1, z2, z3, z4, -⟩ := HW1.out
  have he := eqW oB oB
  rw [show eqWt oB oB = true from decide_eq_true rfl] at he
  have gt0 := grow_cell t0
  have gt1 := grow_cell t1
  have gt2 := grow_cell t2
  have gt3 := grow_cell t3
  have gt4 := grow_cell t4
  have gt5 := grow_cell t5
  have gt6 := grow_cell t6
  have gt7 := grow_cell t7
  have gt8 := grow_cell t8
  have gt9 := grow_cell t9
  have gz0 := grow_cell z0
  have gz1 := grow_cell z1
  have gz2 := grow_cell z2
  have gz3 := grow_cell z3
  have gz4 := grow_cell z4
  refine wp_region_rel_all (fun i => if i = 10 then some (spSL 5 2 2 (wrows [oB, oA])) else if i = 11 then some (spV (.bool true)) else if i = 24 then some (spSL 5 1 1 (wrows [oA])) else if i = 25 then some (spV (.bool true)) else if i = 55 then some (spV (.int .i64 0)) else if i = 61 then some (spSL 5 2 2 (wrows [oA, oB])) else if i = 62 then some (spV (.int .i64 260)) else if i = 67 then some (spSL' 2 1 (brows [(3, -1)])) else if i = 70 then some (spSL 2 1 1 (brows [(3, -1)])) else if i = 71 then some (spV (.bool true)) else none) (by kernel_rfl) (by kernel_rfl) ?_
  repeat (first
    | (refine wpRel_quick ?_ ?_ ?_ ?_
       · rfl
       · rfl
       · first | exact noEnter rfl | (intro f args W W'; go_simp)
       intro K hK
       go_big_quiet_op
       go_big_quiet_on)
    | (refine wpRel_skip ?_ ?_
       · rfl
       simp only [Act.put, List.setIfInBounds_toArray, List.set_cons_zero, List.set_cons_succ]))
  refine wpRel_rich _ rfl rfl (fun W hW => ?_) (fun v W3 hW3 hv => ?_)
  · go_simp
    exact ⟨⟨_, rfl, two_rep W oB oA _ _ rfl⟩, (Ext.refl _).alloc _⟩
  obtain ⟨qa, rfl, -⟩ := hv
  clear hW3
  simp only [Act.put, List.setIfInBounds_toArray, List.set_cons_zero, List.set_cons_succ]
  repeat (first
    | (refine wpRel_quick ?_ ?_ ?_ ?_
       · rfl
       · rfl
       · first | exact noEnter rfl | (intro f args W W'; go_simp)
       intro K hK
       go_big_quiet_op
       go_big_quiet_on)
    | (refine wpRel_skip ?_ ?_
       · rfl
       simp only [Act.put, List.setIfInBounds_toArray, List.set_cons_zero, List.set_cons_succ]))
  refine wpRel_rich _ rfl rfl (fun W hW => ?_) (fun v W3 hW3 hv => ?_)
  · have hx : Ext v10 W := (Ext.refl v10).drew.trans hW.1
    obtain ⟨q10, hq10, hs⟩ := hW.2 10 (by unfold Anc; kernel_rfl) _ _ rfl rfl
    cases hq10
    have hc := sm_as sn10 (HR.out.ext hx) hs
    go_simp
    refine Calls.mono hc ?_
    rintro e w' ⟨rfl, h⟩
    exact ⟨_, rfl, rfl, h⟩
  obtain rfl := hv
  clear hW3
  simp only [Act.put, List.setIfInBounds_toArray, List.set_cons_zero, List.set_cons_succ]
  repeat (first
    | (refine wpRel_quick ?_ ?_ ?_ ?_
       · rfl
       · rfl
       · first | exact noEnter rfl | (intro f args W W'; go_simp)
       intro K hK
       go_big_quiet_op
       go_big_quiet_on)
    | (refine wpRel_skip ?_ ?_
       · rfl
       simp only [Act.put, List.setIfInBounds_toArray, List.set_cons_zero, List.set_cons_succ]))
  refine wpRel_rich _ rfl rfl (fun W hW => ?_) (fun v W3 hW3 hv => ?_)
  · go_simp
    exact ⟨⟨_, rfl, one_rep W oA _ _ rfl⟩, (Ext.refl _).alloc _⟩
  obtain ⟨qa, rfl, -⟩ := hv
  clear hW3
  simp only [Act.put, List.setIfInBounds_toArray, List.set_cons_zero, List.set_cons_succ]
  repeat (first
    | (refine wpRel_quick ?_ ?_ ?_ ?_
       · rfl
       · rfl
       · first | exact noEnter rfl | (intro f args W W'; go_simp)
       intro K hK
       go_big_quiet_op
       go_big_quiet_on)
    | (refine wpRel_skip ?_ ?_
       · rfl
       simp only [Act.put, List.setIfInBounds_toArray, List.set_cons_zero, List.set_cons_succ]))
  refine wpRel_rich _ rfl rfl (fun W hW => ?_) (fun v W3 hW3 hv => ?_)
  · have hx : Ext v10 W := (Ext.refl v10).drew.trans hW.1
    obtain ⟨q24, hq24, hs⟩ := hW.2 24 (by unfold Anc; kernel_rfl) _ _ rfl rfl
    cases hq24
    have hc := sm_as sn11 (HY.out.ext hx) hs
    go_simp
    refine Calls.mono hc ?_
    rintro e w' ⟨rfl, h⟩
    exact ⟨_, rfl, rfl, h⟩
  obtain rfl := hv
  clear hW3
  simp only [Act.put, List.setIfInBounds_toArray, List.set_cons_zero, List.set_cons_succ]
  repeat (first
    | (refine wpRel_quick ?_ ?_ ?_ ?_
       · rfl
       · rfl
       · first | exact noEnter rfl | (intro f args W W'; go_simp)
       intro K hK
       go_big_quiet_op
       go_big_quiet_on)
    | (refine wpRel_skip ?_ ?_
       · rfl
       simp only [Act.put, List.setIfInBounds_toArray, List.set_cons_zero, List.set_cons_succ]))
  refine wpRel_rich _ rfl rfl (fun W hW => ?_) (fun v W3 hW3 hv => ?_)
  · have hx : Ext v10 W := (Ext.refl v10).drew.trans hW.1
    have hc := ck_as (w := W) sn12 (RepW.empty _) (by decide)
    go_simp
    refine Calls.mono hc ?_
    rintro e w' ⟨rfl, h⟩
    exact ⟨_, rfl, rfl, h⟩
  obtain rfl := hv
  clear hW3
  simp only [Act.put, List.setIfInBounds_toArray, List.set_cons_zero, List.set_cons_succ]
  repeat (first
    | (refine wpRel_quick ?_ ?_ ?_ ?_
       · rfl
       · rfl
       · first | exact noEnter rfl | (intro f args W W'; go_simp)
       intro K hK
       go_big_quiet_op
       go_big_quiet_on)
    | (refine wpRel_skip ?_ ?_
       · rfl
       simp only [Act.put, List.setIfInBounds_toArray, List.set_cons_zero, List.set_cons_succ]))
  refine wpRel_rich _ rfl rfl (fun W hW => ?_) (fun v W3 hW3 hv => ?_)
  · go_simp
    exact ⟨⟨_, rfl, two_rep W oA oB _ _ rfl⟩, (Ext.refl _).alloc _⟩
  obtain ⟨qa, rfl, -⟩ := hv
  clear hW3
  simp only [Act.put, List.setIfInBounds_toArray, List.set_cons_zero, List.set_cons_succ]
  repeat (first
    | (refine wpRel_quick ?_ ?_ ?_ ?_
       · rfl
       · rfl
       · first | exact noEnter rfl | (intro f args W W'; go_simp)
       intro K hK
       go_big_quiet_op
       go_big_quiet_on)
    | (refine wpRel_skip ?_ ?_
       · rfl
       simp only [Act.put, List.setIfInBounds_toArray, List.set_cons_zero, List.set_cons_succ]))
  refine wpRel_rich _ rfl rfl (fun W hW => ?_) (fun v W3 hW3 hv => ?_)
  · have hx : Ext v10 W := (Ext.refl v10).drew.trans hW.1
    obtain ⟨q61, hq61, hs⟩ := hW.2 61 (by unfold Anc; kernel_rfl) _ _ rfl rfl
    cases hq61
    have hc := ck_as sn13 hs (by decide)
    go_simp
    refine Calls.mono hc ?_
    rintro e w' ⟨rfl, h⟩
    exact ⟨_, rfl, rfl, h⟩
  obtain rfl := hv
  clear hW3
  simp only [Act.put, List.setIfInBounds_toArray, List.set_cons_zero, List.set_cons_succ]
  repeat (first
    | (refine wpRel_quick ?_ ?_ ?_ ?_
       · rfl
       · rfl
       · first | exact noEnter rfl | (intro f args W W'; go_simp)
       intro K hK
       go_big_quiet_op
       go_big_quiet_on)
    | (refine wpRel_skip ?_ ?_
       · rfl
       simp only [Act.put, List.setIfInBounds_toArray, List.set_cons_zero, List.set_cons_succ]))
  refine wpRel_rich _ rfl rfl (fun W hW => ?_) (fun v W3 hW3 hv => ?_)
  · have hx : Ext v10 W := (Ext.refl v10).drew.trans hW.1
    have hc := of_as sn14 (HR.out.ext hx) (by decide)
    go_simp
    refine Calls.mono hc ?_
    rintro e w' ⟨aq, cq, rfl, hr, h⟩
    exact ⟨_, rfl, ⟨aq, cq, rfl, hr⟩, h⟩
  obtain ⟨aq, cq, rfl, -⟩ := hv
  clear hW3
  simp only [Act.put, List.setIfInBounds_toArray, List.set_cons_zero, List.set_cons_succ]
  repeat (first
    | (refine wpRel_quick ?_ ?_ ?_ ?_
       · rfl
       · rfl
       · first | exact noEnter rfl | (intro f args W W'; go_simp)
       intro K hK
       go_big_quiet_op
       go_big_quiet_on)
    | (refine wpRel_skip ?_ ?_
       · rfl
       simp only [Act.put, List.setIfInBounds_toArray, List.set_cons_zero, List.set_cons_succ]))
  refine wpRel_rich _ rfl rfl (fun W hW => ?_) (fun v W3 hW3 hv => ?_)
  · go_simp
    exact ⟨⟨_, rfl, oneB_rep W 3 (-1) _ _ rfl⟩, (Ext.refl _).alloc _⟩
  obtain ⟨qa, rfl, -⟩ := hv
  clear hW3
  simp only [Act.put, List.setIfInBounds_toArray, List.set_cons_zero, List.set_cons_succ]
  repeat (first
    | (refine wpRel_quick ?_ ?_ ?_ ?_
       · rfl
       · rfl
       · first | exact noEnter rfl | (intro f args W W'; go_simp)
       intro K hK
       go_big_quiet_op
       go_big_quiet_on)
    | (refine wpRel_skip ?_ ?_
       · rfl
       simp only [Act.put, List.setIfInBounds_toArray, List.set_cons_zero, List.set_cons_succ]))
  refine wpRel_rich _ rfl rfl (fun W hW => ?_) (fun v W3 hW3 hv => ?_)
  · have hx : Ext v10 W := (Ext.refl v10).drew.trans hW.1
    obtain ⟨q67, p67, hq67, hs67⟩ := hW.2 67 (by unfold Anc; kernel_rfl) _ _ rfl rfl
    cases hq67
    obtain ⟨q70, hq70, hs70⟩ := hW.2 70 (by unfold Anc; kernel_rfl) _ _ rfl rfl
    cases hq70
    have hc := sb_as (l := [((3 : Int), (-1 : Int))]) sn15 hs67 hs70
    go_simp
    refine Calls.mono hc ?_
    rintro e w' ⟨rfl, h⟩
    exact ⟨_, rfl, rfl, h⟩
  obtain rfl := hv
  clear hW3
  simp only [Act.put, List.setIfInBounds_toArray, List.set_cons_zero, List.set_cons_succ]
  repeat (first
    | (refine wpRel_quick ?_ ?_ ?_ ?_
       · rfl
       · rfl
       · first | exact noEnter rfl | (intro f args W W'; go_simp)
       intro K hK
       go_big_quiet_op
       go_big_quiet_on)
    | (refine wpRel_skip ?_ ?_
       · rfl
       simp only [Act.put, List.setIfInBounds_toArray, List.set_cons_zero, List.set_cons_succ]))
  refine wpRel_nil ?_
  intro W3 hW3
  have HE3 := Lib.hid ((Ext.refl _).drew.trans hW3.1)
  clear hW3
  go_wp2_with fail
  go_ret
  exact ⟨rfl, HX0.out.trans (HX.out.trans HE3.out)⟩
end Go.Proofs.Ytbhpeecebcihkaa
