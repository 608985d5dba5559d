/- Requests: the law Kinds, kind 1. -/
import Derived.Test.YtahaplioegeloaaDoorQI
namespace Go.Proofs.YtahaplioegeloaaDoor
open Go.RowKit Go.Sz
set_option maxRecDepth 100000 in
set_option maxHeartbeats 12800000 in
theorem lawq_kinds1_11 (r : Rq) (ao : Option Addr) (cap : Nat) (kind : Int) (w : World) (hr : RepB w ao cap r.ch) (ht : r.ok) (hl : r.ch.length ≤ 20) (hv : validQ r = true) (hK : r.k = 1) (hyz : r.y = 0) (hn : r.ch.length = 1) (hk : Kinds w) : Calls Tryd.prog 8 #[.agg (r.cells ao cap).toArray, .int .i64 kind] w fun e w' => e = .returned (.bool true) ∧ Ext w w' := by
  obtain ⟨c, n, s, k, t, ch, g, h, y⟩ := r
  change k = 1 at hK
  subst hK
  dsimp only at hl
  obtain ⟨hh, hgd, -, -⟩ := headQ_any hv
  have hv0 := (vq hh hgd _ _ _ _).1 hv
  unfold needB at hv0
  rcases hv0 with ⟨-, hn1, hn8, rfl, rfl, hy0, hy1⟩ | ⟨h0, -⟩ | ⟨h0, -⟩ | ⟨h0, -⟩
  rotate_left
  · exact absurd h0 (by decide)
  · exact absurd h0 (by decide)
  · exact absurd h0 (by decide)
  change y = 0 at hyz
  change ch.length = 1 at hn
  have HYZ := Lib.hid hyz
  have HN := Lib.hid hn
  clear hyz hn
  show Calls Tryd.prog 8 #[.agg #[.int .i64 c, .int .i64 n, .int .i64 s, .int .i64 1, .int .i64 t, .slice ao ch.length cap, .int .i64 0, .int .i64 0, .int .i64 y], .int .i64 kind] w _
  have hX : Ext w (w.alloc (.cells #[.int .i64 c, .int .i64 n, .int .i64 s, .int .i64 1, .int .i64 t, .slice ao ch.length cap, .int .i64 0, .int .i64 0, .int .i64 y] 26)) := (Ext.refl w).alloc _
  have HD : Hid (BoxQ (w.alloc (.cells #[.int .i64 c, .int .i64 n, .int .i64 s, .int .i64 1, .int .i64 t, .slice ao ch.length cap, .int .i64 0, .int .i64 0, .int .i64 y] 26)) (w.heap.size) ⟨c, n, s, 1, t, ch, 0, 0, y⟩ ao cap) := Lib.hid (BoxQ.new w ⟨c, n, s, 1, t, ch, 0, 0, y⟩ ao cap 26 (w.heap.size) (by simp))
  have HR : Hid (RepB (w.alloc (.cells #[.int .i64 c, .int .i64 n, .int .i64 s, .int .i64 1, .int .i64 t, .slice ao ch.length cap, .int .i64 0, .int .i64 0, .int .i64 y] 26)) ao cap ch) := Lib.hid (RepB.ext hr hX)
  have HT := Lib.hid ht
  clear hr ht
  have HK := Lib.hid (hk.ext hX)
  have HX := Lib.hid hX
  clear hk hX
  go_enter Tryd.func8, Tryd.ntmps8
  go_wp2_with fail
  generalize (w.alloc (.cells #[.int .i64 c, .int .i64 n, .int .i64 s, .int .i64 1, .int .i64 t, .slice ao ch.length cap, .int .i64 0, .int .i64 0, .int .i64 y] 26)) = w0 at *
  have he := eqB 0 0 0 0
  have HEQ := Lib.hid he
  clear he
  have HH := Lib.hid hh
  have HGD := Lib.hid hgd
  have HC : Hid (checkQ ⟨c, n, s, 1, t, ch, 0, 0, y⟩ = 0) := Lib.hid (by unfold checkQ; rw [hv]; rfl)
  have hf := decide_eq_true hl
  have HL : Hid ((ch).length ≤ 1000000) := Lib.hid (by omega)
  have HY : Hid (checkQ ⟨c, n, s, 1, t, ch, 0, 0, y⟩ = 0) := HC
  have HZ : Hid (checkQ ⟨c, n, s, 1, t, [], 0, 0, y⟩ = 290) := Lib.hid (vqzx hh (by decide))
  clear hv hl hh hgd
  refine (saneQ_any _ HK.out).mono ?_
  rintro e v1 ⟨rfl, hE⟩
  have HD := Lib.hid (HD.out.ext hE)
  have HR := Lib.hid (HR.out.ext hE)
  have HK := Lib.hid (HK.out.ext hE)
  have HX := Lib.hid (HX.out.trans hE)
  clear hE
  obtain ⟨z0, z1, z2, z3, z4, z5, z6, z7, z8, -⟩ := HD.out
  try dsimp only at z0 z1 z2 z3 z4 z5 z6 z7 z8
  go_wp2_with fail
  clear z0 z1 z2 z3 z4 z5 z6 z7 z8
  refine (fw_as (r := ⟨c, n, s, 1, t, ch, 0, 0, y⟩) hf HR.out).mono ?_
  rintro e v2 ⟨rfl, hE⟩
  have HD := Lib.hid (HD.out.ext hE)
  have HR := Lib.hid (HR.out.ext hE)
  have HK := Lib.hid (HK.out.ext hE)
  have HX := Lib.hid (HX.out.trans hE)
  clear hE
  obtain ⟨z0, z1, z2, z3, z4, z5, z6, z7, z8, -⟩ := HD.out
  try dsimp only at z0 z1 z2 z3 z4 z5 z6 z7 z8
  go_wp2_with fail
  clear z0 z1 z2 z3 z4 z5 z6 z7 z8
  refine (ck_as (r := ⟨c, n, s, 1, t, ch, 0, 0, y⟩) HC.out HR.out HL.out HK.out).mono ?_
  rintro e v3 ⟨rfl, hE⟩
  have HD := Lib.hid (HD.out.ext hE)
  have HR := Lib.hid (HR.out.ext hE)
  have HK := Lib.hid (HK.out.ext hE)
  have HX := Lib.hid (HX.out.trans hE)
  clear hE
  have y1 : (y != 0) = false := by have := HYZ.out; simpa using this
  have y2 : (y == 0) = true := by have := HYZ.out; simpa using this
  have n1 : (((ch.length : Nat) : Int) == 1) = true := by have := HN.out; rw [beq_iff_eq]; omega
  by_cases hk1 : kind = 1
  · subst hk1
    have hn := HN.out
    have hyz := HYZ.out
    have n4 : ¬ (((ch.length : Nat) : Int) < 1) := by omega
    have n5 : ¬ ((8 : Int) < ((ch.length : Nat) : Int)) := by omega
    have k1 : ¬ (y < 0) := by omega
    have HXC : Hid (checkQ ⟨c, n, s, 1, t, ch, 0, 0, y⟩ = 0) := Lib.hid ((vq1x HH.out HGD.out hn1 hn8 hy0 hy1 _).trans (if_pos (by omega)))
    clear hn hyz
    obtain ⟨z0, z1, z2, z3, z4, z5, z6, z7, z8, -⟩ := HD.out
    try dsimp only at z0 z1 z2 z3 z4 z5 z6 z7 z8
    have he := HEQ.out
    have hA : Ext v3 (v3.alloc (.cells #[.int .i64 c, .int .i64 n, .int .i64 s, .int .i64 1, .int .i64 t, .slice ao ch.length cap, .int .i64 0, .int .i64 0, .int .i64 y] 26)) := (Ext.refl _).alloc _
    have hB : BoxQ (v3.alloc (.cells #[.int .i64 c, .int .i64 n, .int .i64 s, .int .i64 1, .int .i64 t, .slice ao ch.length cap, .int .i64 0, .int .i64 0, .int .i64 y] 26)) v3.heap.size ⟨c, n, s, 1, t, ch, 0, 0, y⟩ ao cap := BoxQ.new _ ⟨c, n, s, 1, t, ch, 0, 0, y⟩ ao cap _ _ rfl
    obtain ⟨a0, a1, a2, a3, a4, a5, a6, a7, a8, -⟩ := HD.out.ext ((Ext.refl v3).alloc (.cells #[.int .i64 c, .int .i64 n, .int .i64 s, .int .i64 1, .int .i64 t, .slice ao ch.length cap, .int .i64 0, .int .i64 0, .int .i64 y] 26))
    try dsimp only at a0 a1 a2 a3 a4 a5 a6 a7 a8
    have ne1 : ¬ w.heap.size = v3.heap.size := by have := HD.out.lt; omega
    have ne2 : ¬ v3.heap.size = w.heap.size := by have := HD.out.lt; omega
    obtain ⟨f0, f1, f2, f3, f4, f5, f6, f7, f8, -⟩ := HD.out.ext hA
    try dsimp only at f0 f1 f2 f3 f4 f5 f6 f7 f8
    go_wp2_with fail
    clear z0 z1 z2 z3 z4 z5 z6 z7 z8 f0 f1 f2 f3 f4 f5 f6 f7 f8 a0 a1 a2 a3 a4 a5 a6 a7 a8 he ne1 ne2
    generalize (v3.alloc (.cells #[.int .i64 c, .int .i64 n, .int .i64 s, .int .i64 1, .int .i64 t, .slice ao ch.length cap, .int .i64 0, .int .i64 0, .int .i64 y] 26)) = x3 at *
    have HD := Lib.hid (HD.out.ext hA)
    have HR := Lib.hid (HR.out.ext hA)
    have HK := Lib.hid (HK.out.ext hA)
    have HX := Lib.hid (HX.out.trans hA)
    have HDX := Lib.hid hB
    clear hA hB
    refine (ck_as (r := ⟨c, n, s, 1, t, ch, 0, 0, y⟩) HXC.out HR.out HL.out HK.out).mono ?_
    rintro e v4 ⟨rfl, hE⟩
    have HD := Lib.hid (HD.out.ext hE)
    have HR := Lib.hid (HR.out.ext hE)
    have HK := Lib.hid (HK.out.ext hE)
    have HDX := Lib.hid (HDX.out.ext hE)
    have HX := Lib.hid (HX.out.trans hE)
    clear hE
    obtain ⟨z0, z1, z2, z3, z4, z5, z6, z7, z8, -⟩ := HD.out
    try dsimp only at z0 z1 z2 z3 z4 z5 z6 z7 z8
    have hA : Ext v4 (v4.alloc (.cells #[.int .i64 c, .int .i64 n, .int .i64 s, .int .i64 1, .int .i64 t, .slice ao ch.length cap, .int .i64 0, .int .i64 0, .int .i64 y] 26)) := (Ext.refl _).alloc _
    have hB : BoxQ (v4.alloc (.cells #[.int .i64 c, .int .i64 n, .int .i64 s, .int .i64 1, .int .i64 t, .slice ao ch.length cap, .int .i64 0, .int .i64 0, .int .i64 y] 26)) v4.heap.size ⟨c, n, s, 1, t, ch, 0, 0, y⟩ ao cap := BoxQ.new _ ⟨c, n, s, 1, t, ch, 0, 0, y⟩ ao cap _ _ rfl
    go_wp2_with fail
    clear z0 z1 z2 z3 z4 z5 z6 z7 z8
    generalize (v4.alloc (.cells #[.int .i64 c, .int .i64 n, .int .i64 s, .int .i64 1, .int .i64 t, .slice ao ch.length cap, .int .i64 0, .int .i64 0, .int .i64 y] 26)) = x4 at *
    have HD := Lib.hid (HD.out.ext hA)
    have HR := Lib.hid (HR.out.ext hA)
    have HK := Lib.hid (HK.out.ext hA)
    have HDX := Lib.hid (HDX.out.ext hA)
    have HX := Lib.hid (HX.out.trans hA)
    have HDY := Lib.hid hB
    clear hA hB
    refine (ck_as (r := ⟨c, n, s, 1, t, ch, 0, 0, y⟩) HY.out HR.out HL.out HK.out).mono ?_
    rintro e v5 ⟨rfl, hE⟩
    have HD := Lib.hid (HD.out.ext hE)
    have HR := Lib.hid (HR.out.ext hE)
    have HK := Lib.hid (HK.out.ext hE)
    have HDX := Lib.hid (HDX.out.ext hE)
    have HDY := Lib.hid (HDY.out.ext hE)
    have HX := Lib.hid (HX.out.trans hE)
    clear hE
    obtain ⟨z0, z1, z2, z3, z4, z5, z6, z7, z8, -⟩ := HDY.out
    try dsimp only at z0 z1 z2 z3 z4 z5 z6 z7 z8
    go_wp2_with fail
    clear z0 z1 z2 z3 z4 z5 z6 z7 z8
    refine (ck_as (r := ⟨c, n, s, 1, t, ch, 0, 0, y⟩) HY.out HR.out HL.out HK.out).mono ?_
    rintro e v6 ⟨rfl, hE⟩
    have HD := Lib.hid (HD.out.ext hE)
    have HR := Lib.hid (HR.out.ext hE)
    have HK := Lib.hid (HK.out.ext hE)
    have HDX := Lib.hid (HDX.out.ext hE)
    have HDY := Lib.hid (HDY.out.ext hE)
    have HX := Lib.hid (HX.out.trans hE)
    clear hE
    obtain ⟨z0, z1, z2, z3, z4, z5, z6, z7, z8, -⟩ := HD.out
    try dsimp only at z0 z1 z2 z3 z4 z5 z6 z7 z8
    have hA : Ext v6 (v6.alloc (.cells #[.int .i64 c, .int .i64 n, .int .i64 s, .int .i64 1, .int .i64 t, .slice none 0 0, .int .i64 0, .int .i64 0, .int .i64 y] 26)) := (Ext.refl _).alloc _
    have hB : BoxQ (v6.alloc (.cells #[.int .i64 c, .int .i64 n, .int .i64 s, .int .i64 1, .int .i64 t, .slice none 0 0, .int .i64 0, .int .i64 0, .int .i64 y] 26)) v6.heap.size ⟨c, n, s, 1, t, [], 0, 0, y⟩ none 0 := BoxQ.new _ ⟨c, n, s, 1, t, [], 0, 0, y⟩ none 0 _ _ rfl
    go_wp2_with fail
    clear z0 z1 z2 z3 z4 z5 z6 z7 z8
    generalize (v6.alloc (.cells #[.int .i64 c, .int .i64 n, .int .i64 s, .int .i64 1, .int .i64 t, .slice none 0 0, .int .i64 0, .int .i64 0, .int .i64 y] 26)) = x6 at *
    have HD := Lib.hid (HD.out.ext hA)
    have HR := Lib.hid (HR.out.ext hA)
    have HK := Lib.hid (HK.out.ext hA)
    have HDX := Lib.hid (HDX.out.ext hA)
    have HDY := Lib.hid (HDY.out.ext hA)
    have HX := Lib.hid (HX.out.trans hA)
    have HDZ := Lib.hid hB
    clear hA hB
    obtain ⟨z0, z1, z2, z3, z4, z5, z6, z7, z8, -⟩ := HD.out
    try dsimp only at z0 z1 z2 z3 z4 z5 z6 z7 z8
    obtain ⟨f0, f1, f2, f3, f4, f5, f6, f7, f8, -⟩ := HDZ.out
    try dsimp only at f0 f1 f2 f3 f4 f5 f6 f7 f8
    have gz0 := grow_cell z0
    have gz1 := grow_cell z1
    have gz2 := grow_cell z2
    have gz3 := grow_cell z3
    have gz4 := grow_cell z4
    have gz5 := grow_cell z5
    have gz6 := grow_cell z6
    have gz7 := grow_cell z7
    have gz8 := grow_cell z8
    have gf0 := grow_cell f0
    have gf1 := grow_cell f1
    have gf2 := grow_cell f2
    have gf3 := grow_cell f3
    have gf4 := grow_cell f4
    have gf5 := grow_cell f5
    have gf6 := grow_cell f6
    have gf7 := grow_cell f7
    have gf8 := grow_cell f8
    refine wp_region_rel_all (fun i => if i = 1 then some (spV (.int .i64 290)) else none) (by kernel_rfl) (by kernel_rfl) ?_
    repeat (first
      | (refine wpRel_quick ?_ ?_ ?_ ?_
         · rfl
         · rfl
         · first | exact noEnter rfl | (intro f args W W'; go_simp)
         intro K hK
         go_big_quiet_op
         go_big_quiet_on)
      | (refine wpRel_skip ?_ ?_
         · rfl
         simp only [Act.put, List.setIfInBounds_toArray, List.set_cons_zero, List.set_cons_succ]))
    refine wpRel_rich _ rfl rfl (fun W hW => ?_) (fun v W3 hW3 hv => ?_)
    · have hc := ck_as (r := ⟨c, n, s, 1, t, [], 0, 0, y⟩) (w := W) HZ.out (SL.empty _ _) (Nat.zero_le _) (HK.out.ext ((Ext.refl x6).drew.trans hW.1))
      go_simp
      refine Calls.mono hc ?_
      rintro e w' ⟨rfl, h⟩
      exact ⟨_, rfl, rfl, by first | exact h | (subst h; exact Ext.refl _)⟩
    obtain rfl := hv
    clear hW3
    simp only [Act.put, List.setIfInBounds_toArray, List.set_cons_zero, List.set_cons_succ]
    repeat (first
      | (refine wpRel_quick ?_ ?_ ?_ ?_
         · rfl
         · rfl
         · first | exact noEnter rfl | (intro f args W W'; go_simp)
         intro K hK
         go_big_quiet_op
         go_big_quiet_on)
      | (refine wpRel_skip ?_ ?_
         · rfl
         simp only [Act.put, List.setIfInBounds_toArray, List.set_cons_zero, List.set_cons_succ]))
    refine wpRel_nil ?_
    intro W3 hW3
    have HE3 := Lib.hid ((Ext.refl x6).drew.trans hW3.1)
    clear hW3
    go_wp2_with fail
    go_ret
    exact ⟨rfl, HX.out.trans HE3.out⟩
  by_cases hk4 : kind = 4
  · subst hk4
    have hn := HN.out
    have hyz := HYZ.out
    have n4 : ¬ (((ch.length : Nat) : Int) < 1) := by omega
    have n5 : ¬ ((8 : Int) < ((ch.length : Nat) : Int)) := by omega
    have k1 : ¬ (y < 0) := by omega
    have HXC : Hid (checkQ ⟨c, n, s, 4, t, ch, 0, 0, y⟩ = 0) := Lib.hid ((vq1x HH.out HGD.out hn1 hn8 hy0 hy1 _).trans (if_pos (by omega)))
    clear hn hyz
    obtain ⟨z0, z1, z2, z3, z4, z5, z6, z7, z8, -⟩ := HD.out
    try dsimp only at z0 z1 z2 z3 z4 z5 z6 z7 z8
    have he := HEQ.out
    have hA : Ext v3 (v3.alloc (.cells #[.int .i64 c, .int .i64 n, .int .i64 s, .int .i64 4, .int .i64 t, .slice ao ch.length cap, .int .i64 0, .int .i64 0, .int .i64 y] 26)) := (Ext.refl _).alloc _
    have hB : BoxQ (v3.alloc (.cells #[.int .i64 c, .int .i64 n, .int .i64 s, .int .i64 4, .int .i64 t, .slice ao ch.length cap, .int .i64 0, .int .i64 0, .int .i64 y] 26)) v3.heap.size ⟨c, n, s, 4, t, ch, 0, 0, y⟩ ao cap := BoxQ.new _ ⟨c, n, s, 4, t, ch, 0, 0, y⟩ ao cap _ _ rfl
    obtain ⟨a0, a1, a2, a3, a4, a5, a6, a7, a8, -⟩ := HD.out.ext ((Ext.refl v3).alloc (.cells #[.int .i64 c, .int .i64 n, .int .i64 s, .int .i64 1, .int .i64 t, .slice ao ch.length cap, .int .i64 0, .int .i64 0, .int .i64 y] 26))
    try dsimp only at a0 a1 a2 a3 a4 a5 a6 a7 a8
    have ne1 : ¬ w.heap.size = v3.heap.size := by have := HD.out.lt; omega
    have ne2 : ¬ v3.heap.size = w.heap.size := by have := HD.out.lt; omega
    obtain ⟨f0, f1, f2, f3, f4, f5, f6, f7, f8, -⟩ := HD.out.ext hA
    try dsimp only at f0 f1 f2 f3 f4 f5 f6 f7 f8
    go_wp2_with fail
    clear z0 z1 z2 z3 z4 z5 z6 z7 z8 f0 f1 f2 f3 f4 f5 f6 f7 f8 a0 a1 a2 a3 a4 a5 a6 a7 a8 he ne1 ne2
    generalize (v3.alloc (.cells #[.int .i64 c, .int .i64 n, .int .i64 s, .int .i64 4, .int .i64 t, .slice ao ch.length cap, .int .i64 0, .int .i64 0, .int .i64 y] 26)) = x3 at *
    have HD := Lib.hid (HD.out.ext hA)
    have HR := Lib.hid (HR.out.ext hA)
    have HK := Lib.hid (HK.out.ext hA)
    have HX := Lib.hid (HX.out.trans hA)
    have HDX := Lib.hid hB
    clear hA hB
    refine (ck_as (r := ⟨c, n, s, 4, t, ch, 0, 0, y⟩) HXC.out HR.out HL.out HK.out).mono ?_
    rintro e v4 ⟨rfl, hE⟩
    have HD := Lib.hid (HD.out.ext hE)
    have HR := Lib.hid (HR.out.ext hE)
    have HK := Lib.hid (HK.out.ext hE)
    have HDX := Lib.hid (HDX.out.ext hE)
    have HX := Lib.hid (HX.out.trans hE)
    clear hE
    obtain ⟨z0, z1, z2, z3, z4, z5, z6, z7, z8, -⟩ := HD.out
    try dsimp only at z0 z1 z2 z3 z4 z5 z6 z7 z8
    have hA : Ext v4 (v4.alloc (.cells #[.int .i64 c, .int .i64 n, .int .i64 s, .int .i64 1, .int .i64 t, .slice ao ch.length cap, .int .i64 0, .int .i64 0, .int .i64 y] 26)) := (Ext.refl _).alloc _
    have hB : BoxQ (v4.alloc (.cells #[.int .i64 c, .int .i64 n, .int .i64 s, .int .i64 1, .int .i64 t, .slice ao ch.length cap, .int .i64 0, .int .i64 0, .int .i64 y] 26)) v4.heap.size ⟨c, n, s, 1, t, ch, 0, 0, y⟩ ao cap := BoxQ.new _ ⟨c, n, s, 1, t, ch, 0, 0, y⟩ ao cap _ _ rfl
    go_wp2_with fail
    clear z0 z1 z2 z3 z4 z5 z6 z7 z8
    generalize (v4.alloc (.cells #[.int .i64 c, .int .i64 n, .int .i64 s, .int .i64 1, .int .i64 t, .slice ao ch.length cap, .int .i64 0, .int .i64 0, .int .i64 y] 26)) = x4 at *
    have HD := Lib.hid (HD.out.ext hA)
    have HR := Lib.hid (HR.out.ext hA)
    have HK := Lib.hid (HK.out.ext hA)
    have HDX := Lib.hid (HDX.out.ext hA)
    have HX := Lib.hid (HX.out.trans hA)
    have HDY := Lib.hid hB
    clear hA hB
    refine (ck_as (r := ⟨c, n, s, 1, t, ch, 0, 0, y⟩) HY.out HR.out HL.out HK.out).mono ?_
    rintro e v5 ⟨rfl, hE⟩
    have HD := Lib.hid (HD.out.ext hE)
    have HR := Lib.hid (HR.out.ext hE)
    have HK := Lib.hid (HK.out.ext hE)
    have HDX := Lib.hid (HDX.out.ext hE)
    have HDY := Lib.hid (HDY.out.ext hE)
    have HX := Lib.hid (HX.out.trans hE)
    clear hE
    obtain ⟨z0, z1, z2, z3, z4, z5, z6, z7, z8, -⟩ := HDY.out
    try dsimp only at z0 z1 z2 z3 z4 z5 z6 z7 z8
    go_wp2_with fail
    clear z0 z1 z2 z3 z4 z5 z6 z7 z8
    refine (ck_as (r := ⟨c, n, s, 1, t, ch, 0, 0, y⟩) HY.out HR.out HL.out HK.out).mono ?_
    rintro e v6 ⟨rfl, hE⟩
    have HD := Lib.hid (HD.out.ext hE)
    have HR := Lib.hid (HR.out.ext hE)
    have HK := Lib.hid (HK.out.ext hE)
    have HDX := Lib.hid (HDX.out.ext hE)
    have HDY := Lib.hid (HDY.out.ext hE)
    have HX := Lib.hid (HX.out.trans hE)
    clear hE
    obtain ⟨z0, z1, z2, z3, z4, z5, z6, z7, z8, -⟩ := HD.out
    try dsimp only at z0 z1 z2 z3 z4 z5 z6 z7 z8
    have hA : Ext v6 (v6.alloc (.cells #[.int .i64 c, .int .i64 n, .int .i64 s, .int .i64 1, .int .i64 t, .slice none 0 0, .int .i64 0, .int .i64 0, .int .i64 y] 26)) := (Ext.refl _).alloc _
    have hB : BoxQ (v6.alloc (.cells #[.int .i64 c, .int .i64 n, .int .i64 s, .int .i64 1, .int .i64 t, .slice none 0 0, .int .i64 0, .int .i64 0, .int .i64 y] 26)) v6.heap.size ⟨c, n, s, 1, t, [], 0, 0, y⟩ none 0 := BoxQ.new _ ⟨c, n, s, 1, t, [], 0, 0, y⟩ none 0 _ _ rfl
    go_wp2_with fail
    clear z0 z1 z2 z3 z4 z5 z6 z7 z8
    generalize (v6.alloc (.cells #[.int .i64 c, .int .i64 n, .int .i64 s, .int .i64 1, .int .i64 t, .slice none 0 0, .int .i64 0, .int .i64 0, .int .i64 y] 26)) = x6 at *
    have HD := Lib.hid (HD.out.ext hA)
    have HR := Lib.hid (HR.out.ext hA)
    have HK := Lib.hid (HK.out.ext hA)
    have HDX := Lib.hid (HDX.out.ext hA)
    have HDY := Lib.hid (HDY.out.ext hA)
    have HX := Lib.hid (HX.out.trans hA)
    have HDZ := Lib.hid hB
    clear hA hB
    obtain ⟨z0, z1, z2, z3, z4, z5, z6, z7, z8, -⟩ := HD.out
    try dsimp only at z0 z1 z2 z3 z4 z5 z6 z7 z8
    obtain ⟨f0, f1, f2, f3, f4, f5, f6, f7, f8, -⟩ := HDZ.out
    try dsimp only at f0 f1 f2 f3 f4 f5 f6 f7 f8
    have gz0 := grow_cell z0
    have gz1 := grow_cell z1
    have gz2 := grow_cell z2
    have gz3 := grow_cell z3
    have gz4 := grow_cell z4
    have gz5 := grow_cell z5
    have gz6 := grow_cell z6
    have gz7 := grow_cell z7
    have gz8 := grow_cell z8
    have gf0 := grow_cell f0
    have gf1 := grow_cell f1
    have gf2 := grow_cell f2
    have gf3 := grow_cell f3
    have gf4 := grow_cell f4
    have gf5 := grow_cell f5
    have gf6 := grow_cell f6
    have gf7 := grow_cell f7
    have gf8 := grow_cell f8
    refine wp_region_rel_all (fun i => if i = 1 then some (spV (.int .i64 290)) else none) (by kernel_rfl) (by kernel_rfl) ?_
    repeat (first
      | (refine wpRel_quick ?_ ?_ ?_ ?_
         · rfl
         · rfl
         · first | exact noEnter rfl | (intro f args W W'; go_simp)
         intro K hK
         go_big_quiet_op
         go_big_quiet_on)
      | (refine wpRel_skip ?_ ?_
         · rfl
         simp only [Act.put, List.setIfInBounds_toArray, List.set_cons_zero, List.set_cons_succ]))
    refine wpRel_rich _ rfl rfl (fun W hW => ?_) (fun v W3 hW3 hv => ?_)
    · have hc := ck_as (r := ⟨c, n, s, 1, t, [], 0, 0, y⟩) (w := W) HZ.out (SL.empty _ _) (Nat.zero_le _) (HK.out.ext ((Ext.refl x6).drew.trans hW.1))
      go_simp
      refine Calls.mono hc ?_
      rintro e w' ⟨rfl, h⟩
      exact ⟨_, rfl, rfl, by first | exact h | (subst h; exact Ext.refl _)⟩
    obtain rfl := hv
    clear hW3
    simp only [Act.put, List.setIfInBounds_toArray, List.set_cons_zero, List.set_cons_succ]
    repeat (first
      | (refine wpRel_quick ?_ ?_ ?_ ?_
         · rfl
         · rfl
         · first | exact noEnter rfl | (intro f args W W'; go_simp)
         intro K hK
         go_big_quiet_op
         go_big_quiet_on)
      | (refine wpRel_skip ?_ ?_
         · rfl
         simp only [Act.put, List.setIfInBounds_toArray, List.set_cons_zero, List.set_cons_succ]))
    refine wpRel_nil ?_
    intro W3 hW3
    have HE3 := Lib.hid ((Ext.refl x6).drew.trans hW3.1)
    clear hW3
    go_wp2_with fail
    go_ret
    exact ⟨rfl, HX.out.trans HE3.out⟩
  by_cases hk5 : kind = 5
  · subst hk5
    have hn := HN.out
    have hyz := HYZ.out
    have n4 : ¬ (((ch.length : Nat) : Int) < 1) := by omega
    have n5 : ¬ ((8 : Int) < ((ch.length : Nat) : Int)) := by omega
    have k1 : ¬ (y < 0) := by omega
    have HXC : Hid (checkQ ⟨c, n, s, 5, t, ch, 0, 0, y⟩ = 0) := Lib.hid ((vq1x HH.out HGD.out hn1 hn8 hy0 hy1 _).trans (if_pos (by omega)))
    clear hn hyz
    obtain ⟨z0, z1, z2, z3, z4, z5, z6, z7, z8, -⟩ := HD.out
    try dsimp only at z0 z1 z2 z3 z4 z5 z6 z7 z8
    have he := HEQ.out
    have hA : Ext v3 (v3.alloc (.cells #[.int .i64 c, .int .i64 n, .int .i64 s, .int .i64 5, .int .i64 t, .slice ao ch.length cap, .int .i64 0, .int .i64 0, .int .i64 y] 26)) := (Ext.refl _).alloc _
    have hB : BoxQ (v3.alloc (.cells #[.int .i64 c, .int .i64 n, .int .i64 s, .int .i64 5, .int .i64 t, .slice ao ch.length cap, .int .i64 0, .int .i64 0, .int .i64 y] 26)) v3.heap.size ⟨c, n, s, 5, t, ch, 0, 0, y⟩ ao cap := BoxQ.new _ ⟨c, n, s, 5, t, ch, 0, 0, y⟩ ao cap _ _ rfl
    obtain ⟨a0, a1, a2, a3, a4, a5, a6, a7, a8, -⟩ := HD.out.ext ((Ext.refl v3).alloc (.cells #[.int .i64 c, .int .i64 n, .int .i64 s, .int .i64 1, .int .i64 t, .slice ao ch.length cap, .int .i64 0, .int .i64 0, .int .i64 y] 26))
    try dsimp only at a0 a1 a2 a3 a4 a5 a6 a7 a8
    have ne1 : ¬ w.heap.size = v3.heap.size := by have := HD.out.lt; omega
    have ne2 : ¬ v3.heap.size = w.heap.size := by have := HD.out.lt; omega
    obtain ⟨f0, f1, f2, f3, f4, f5, f6, f7, f8, -⟩ := HD.out.ext hA
    try dsimp only at f0 f1 f2 f3 f4 f5 f6 f7 f8
    go_wp2_with fail
    clear z0 z1 z2 z3 z4 z5 z6 z7 z8 f0 f1 f2 f3 f4 f5 f6 f7 f8 a0 a1 a2 a3 a4 a5 a6 a7 a8 he ne1 ne2
    generalize (v3.alloc (.cells #[.int .i64 c, .int .i64 n, .int .i64 s, .int .i64 5, .int .i64 t, .slice ao ch.length cap, .int .i64 0, .int .i64 0, .int .i64 y] 26)) = x3 at *
    have HD := Lib.hid (HD.out.ext hA)
    have HR := Lib.hid (HR.out.ext hA)
    have HK := Lib.hid (HK.out.ext hA)
    have HX := Lib.hid (HX.out.trans hA)
    have HDX := Lib.hid hB
    clear hA hB
    refine (ck_as (r := ⟨c, n, s, 5, t, ch, 0, 0, y⟩) HXC.out HR.out HL.out HK.out).mono ?_
    rintro e v4 ⟨rfl, hE⟩
    have HD := Lib.hid (HD.out.ext hE)
    have HR := Lib.hid (HR.out.ext hE)
    have HK := Lib.hid (HK.out.ext hE)
    have HDX := Lib.hid (HDX.out.ext hE)
    have HX := Lib.hid (HX.out.trans hE)
    clear hE
    obtain ⟨z0, z1, z2, z3, z4, z5, z6, z7, z8, -⟩ := HD.out
    try dsimp only at z0 z1 z2 z3 z4 z5 z6 z7 z8
    have hA : Ext v4 (v4.alloc (.cells #[.int .i64 c, .int .i64 n, .int .i64 s, .int .i64 1, .int .i64 t, .slice ao ch.length cap, .int .i64 0, .int .i64 0, .int .i64 y] 26)) := (Ext.refl _).alloc _
    have hB : BoxQ (v4.alloc (.cells #[.int .i64 c, .int .i64 n, .int .i64 s, .int .i64 1, .int .i64 t, .slice ao ch.length cap, .int .i64 0, .int .i64 0, .int .i64 y] 26)) v4.heap.size ⟨c, n, s, 1, t, ch, 0, 0, y⟩ ao cap := BoxQ.new _ ⟨c, n, s, 1, t, ch, 0, 0, y⟩ ao cap _ _ rfl
    go_wp2_with fail
    clear z0 z1 z2 z3 z4 z5 z6 z7 z8
    generalize (v4.alloc (.cells #[.int .i64 c, .int .i64 n, .int .i64 s, .int .i64 1, .int .i64 t, .slice ao ch.length cap, .int .i64 0, .int .i64 0, .int .i64 y] 26)) = x4 at *
    have HD := Lib.hid (HD.out.ext hA)
    have HR := Lib.hid (HR.out.ext hA)
    have HK := Lib.hid (HK.out.ext hA)
    have HDX := Lib.hid (HDX.out.ext hA)
    have HX := Lib.hid (HX.out.trans hA)
    have HDY := Lib.hid hB
    clear hA hB
    refine (ck_as (r := ⟨c, n, s, 1, t, ch, 0, 0, y⟩) HY.out HR.out HL.out HK.out).mono ?_
    rintro e v5 ⟨rfl, hE⟩
    have HD := Lib.hid (HD.out.ext hE)
    have HR := Lib.hid (HR.out.ext hE)
    have HK := Lib.hid (HK.out.ext hE)
    have HDX := Lib.hid (HDX.out.ext hE)
    have HDY := Lib.hid (HDY.out.ext hE)
    have HX := Lib.hid (HX.out.trans hE)
    clear hE
    obtain ⟨z0, z1, z2, z3, z4, z5, z6, z7, z8, -⟩ := HDY.out
    try dsimp only at z0 z1 z2 z3 z4 z5 z6 z7 z8
    go_wp2_with fail
    clear z0 z1 z2 z3 z4 z5 z6 z7 z8
    refine (ck_as (r := ⟨c, n, s, 1, t, ch, 0, 0, y⟩) HY.out HR.out HL.out HK.out).mono ?_
    rintro e v6 ⟨rfl, hE⟩
    have HD := Lib.hid (HD.out.ext hE)
    have HR := Lib.hid (HR.out.ext hE)
    have HK := Lib.hid (HK.out.ext hE)
    have HDX := Lib.hid (HDX.out.ext hE)
    have HDY := Lib.hid (HDY.out.ext hE)
    have HX := Lib.hid (HX.out.trans hE)
    clear hE
    obtain ⟨z0, z1, z2, z3, z4, z5, z6, z7, z8, -⟩ := HD.out
    try dsimp only at z0 z1 z2 z3 z4 z5 z6 z7 z8
    have hA : Ext v6 (v6.alloc (.cells #[.int .i64 c, .int .i64 n, .int .i64 s, .int .i64 1, .int .i64 t, .slice none 0 0, .int .i64 0, .int .i64 0, .int .i64 y] 26)) := (Ext.refl _).alloc _
    have hB : BoxQ (v6.alloc (.cells #[.int .i64 c, .int .i64 n, .int .i64 s, .int .i64 1, .int .i64 t, .slice none 0 0, .int .i64 0, .int .i64 0, .int .i64 y] 26)) v6.heap.size ⟨c, n, s, 1, t, [], 0, 0, y⟩ none 0 := BoxQ.new _ ⟨c, n, s, 1, t, [], 0, 0, y⟩ none 0 _ _ rfl
    go_wp2_with fail
    clear z0 z1 z2 z3 z4 z5 z6 z7 z8
    generalize (v6.alloc (.cells #[.int .i64 c, .int .i64 n, .int .i64 s, .int .i64 1, .int .i64 t, .slice none 0 0, .int .i64 0, .int .i64 0, .int .i64 y] 26)) = x6 at *
    have HD := Lib.hid (HD.out.ext hA)
    have HR := Lib.hid (HR.out.ext hA)
    have HK := Lib.hid (HK.out.ext hA)
    have HDX := Lib.hid (HDX.out.ext hA)
    have HDY := Lib.hid (HDY.out.ext hA)
    have HX := Lib.hid (HX.out.trans hA)
    have HDZ := Lib.hid hB
    clear hA hB
    obtain ⟨z0, z1, z2, z3, z4, z5, z6, z7, z8, -⟩ := HD.out
    try dsimp only at z0 z1 z2 z3 z4 z5 z6 z7 z8
    obtain ⟨f0, f1, f2, f3, f4, f5, f6, f7, f8, -⟩ := HDZ.out
    try dsimp only at f0 f1 f2 f3 f4 f5 f6 f7 f8
    have gz0 := grow_cell z0
    have gz1 := grow_cell z1
    have gz2 := grow_cell z2
    have gz3 := grow_cell z3
    have gz4 := grow_cell z4
    have gz5 := grow_cell z5
    have gz6 := grow_cell z6
    have gz7 := grow_cell z7
    have gz8 := grow_cell z8
    have gf0 := grow_cell f0
    have gf1 := grow_cell f1
    have gf2 := grow_cell f2
    have gf3 := grow_cell f3
    have gf4 := grow_cell f4
    have gf5 := grow_cell f5
    have gf6 := grow_cell f6
    have gf7 := grow_cell f7
    have gf8 := grow_cell f8
    refine wp_region_rel_all (fun i => if i = 1 then some (spV (.int .i64 290)) else none) (by kernel_rfl) (by kernel_rfl) ?_
    repeat (first
      | (refine wpRel_quick ?_ ?_ ?_ ?_
         · rfl
         · rfl
         · first | exact noEnter rfl | (intro f args W W'; go_simp)
         intro K hK
         go_big_quiet_op
         go_big_quiet_on)
      | (refine wpRel_skip ?_ ?_
         · rfl
         simp only [Act.put, List.setIfInBounds_toArray, List.set_cons_zero, List.set_cons_succ]))
    refine wpRel_rich _ rfl rfl (fun W hW => ?_) (fun v W3 hW3 hv => ?_)
    · have hc := ck_as (r := ⟨c, n, s, 1, t, [], 0, 0, y⟩) (w := W) HZ.out (SL.empty _ _) (Nat.zero_le _) (HK.out.ext ((Ext.refl x6).drew.trans hW.1))
      go_simp
      refine Calls.mono hc ?_
      rintro e w' ⟨rfl, h⟩
      exact ⟨_, rfl, rfl, by first | exact h | (subst h; exact Ext.refl _)⟩
    obtain rfl := hv
    clear hW3
    simp only [Act.put, List.setIfInBounds_toArray, List.set_cons_zero, List.set_cons_succ]
    repeat (first
      | (refine wpRel_quick ?_ ?_ ?_ ?_
         · rfl
         · rfl
         · first | exact noEnter rfl | (intro f args W W'; go_simp)
         intro K hK
         go_big_quiet_op
         go_big_quiet_on)
      | (refine wpRel_skip ?_ ?_
         · rfl
         simp only [Act.put, List.setIfInBounds_toArray, List.set_cons_zero, List.set_cons_succ]))
    refine wpRel_nil ?_
    intro W3 hW3
    have HE3 := Lib.hid ((Ext.refl x6).drew.trans hW3.1)
    clear hW3
    go_wp2_with fail
    go_ret
    exact ⟨rfl, HX.out.trans HE3.out⟩
  have hn := HN.out
  have hyz := HYZ.out
  have e1 : (kind == 1) = false := by simpa using hk1
  have e4 : (kind == 4) = false := by simpa using hk4
  have e5 : (kind == 5) = false := by simpa using hk5
  have n4 : ¬ (((ch.length : Nat) : Int) < 1) := by omega
  have n5 : ¬ ((8 : Int) < ((ch.length : Nat) : Int)) := by omega
  have k1 : ¬ (y < 0) := by omega
  have HXC : Hid (checkQ ⟨c, n, s, kind, t, ch, 0, 0, y⟩ = 290) := Lib.hid ((vq1x HH.out HGD.out hn1 hn8 hy0 hy1 _).trans (if_neg (by omega)))
  clear hn hyz
  obtain ⟨z0, z1, z2, z3, z4, z5, z6, z7, z8, -⟩ := HD.out
  try dsimp only at z0 z1 z2 z3 z4 z5 z6 z7 z8
  have he := HEQ.out
  have hA : Ext v3 (v3.alloc (.cells #[.int .i64 c, .int .i64 n, .int .i64 s, .int .i64 kind, .int .i64 t, .slice ao ch.length cap, .int .i64 0, .int .i64 0, .int .i64 y] 26)) := (Ext.refl _).alloc _
  have hB : BoxQ (v3.alloc (.cells #[.int .i64 c, .int .i64 n, .int .i64 s, .int .i64 kind, .int .i64 t, .slice ao ch.length cap, .int .i64 0, .int .i64 0, .int .i64 y] 26)) v3.heap.size ⟨c, n, s, kind, t, ch, 0, 0, y⟩ ao cap := BoxQ.new _ ⟨c, n, s, kind, t, ch, 0, 0, y⟩ ao cap _ _ rfl
  obtain ⟨a0, a1, a2, a3, a4, a5, a6, a7, a8, -⟩ := HD.out.ext ((Ext.refl v3).alloc (.cells #[.int .i64 c, .int .i64 n, .int .i64 s, .int .i64 1, .int .i64 t, .slice ao ch.length cap, .int .i64 0, .int .i64 0, .int .i64 y] 26))
  try dsimp only at a0 a1 a2 a3 a4 a5 a6 a7 a8
  have ne1 : ¬ w.heap.size = v3.heap.size := by have := HD.out.lt; omega
  have ne2 : ¬ v3.heap.size = w.heap.size := by have := HD.out.lt; omega
  obtain ⟨f0, f1, f2, f3, f4, f5, f6, f7, f8, -⟩ := HD.out.ext hA
  try dsimp only at f0 f1 f2 f3 f4 f5 f6 f7 f8
  go_wp2_with fail
  clear z0 z1 z2 z3 z4 z5 z6 z7 z8 f0 f1 f2 f3 f4 f5 f6 f7 f8 a0 a1 a2 a3 a4 a5 a6 a7 a8 he ne1 ne2
  generalize (v3.alloc (.cells #[.int .i64 c, .int .i64 n, .int .i64 s, .int .i64 kind, .int .i64 t, .slice ao ch.length cap, .int .i64 0, .int .i64 0, .int .i64 y] 26)) = x3 at *
  have HD := Lib.hid (HD.out.ext hA)
  have HR := Lib.hid (HR.out.ext hA)
  have HK := Lib.hid (HK.out.ext hA)
  have HX := Lib.hid (HX.out.trans hA)
  have HDX := Lib.hid hB
  clear hA hB
  refine (ck_as (r := ⟨c, n, s, kind, t, ch, 0, 0, y⟩) HXC.out HR.out HL.out HK.out).mono ?_
  rintro e v4 ⟨rfl, hE⟩
  have HD := Lib.hid (HD.out.ext hE)
  have HR := Lib.hid (HR.out.ext hE)
  have HK := Lib.hid (HK.out.ext hE)
  have HDX := Lib.hid (HDX.out.ext hE)
  have HX := Lib.hid (HX.out.trans hE)
  clear hE
  obtain ⟨z0, z1, z2, z3, z4, z5, z6, z7, z8, -⟩ := HD.out
  try dsimp only at z0 z1 z2 z3 z4 z5 z6 z7 z8
  have hA : Ext v4 (v4.alloc (.cells #[.int .i64 c, .int .i64 n, .int .i64 s, .int .i64 1, .int .i64 t, .slice ao ch.length cap, .int .i64 0, .int .i64 0, .int .i64 y] 26)) := (Ext.refl _).alloc _
  have hB : BoxQ (v4.alloc (.cells #[.int .i64 c, .int .i64 n, .int .i64 s, .int .i64 1, .int .i64 t, .slice ao ch.length cap, .int .i64 0, .int .i64 0, .int .i64 y] 26)) v4.heap.size ⟨c, n, s, 1, t, ch, 0, 0, y⟩ ao cap := BoxQ.new _ ⟨c, n, s, 1, t, ch, 0, 0, y⟩ ao cap _ _ rfl
  go_wp2_with fail
  clear z0 z1 z2 z3 z4 z5 z6 z7 z8
  generalize (v4.alloc (.cells #[.int .i64 c, .int .i64 n, .int .i64 s, .int .i64 1, .int .i64 t, .slice ao ch.length cap, .int .i64 0, .int .i64 0, .int .i64 y] 26)) = x4 at *
  have HD := Lib.hid (HD.out.ext hA)
  have HR := Lib.hid (HR.out.ext hA)
  have HK := Lib.hid (HK.out.ext hA)
  have HDX := Lib.hid (HDX.out.ext hA)
  have HX := Lib.hid (HX.out.trans hA)
  have HDY := Lib.hid hB
  clear hA hB
  refine (ck_as (r := ⟨c, n, s, 1, t, ch, 0, 0, y⟩) HY.out HR.out HL.out HK.out).mono ?_
  rintro e v5 ⟨rfl, hE⟩
  have HD := Lib.hid (HD.out.ext hE)
  have HR := Lib.hid (HR.out.ext hE)
  have HK := Lib.hid (HK.out.ext hE)
  have HDX := Lib.hid (HDX.out.ext hE)
  have HDY := Lib.hid (HDY.out.ext hE)
  have HX := Lib.hid (HX.out.trans hE)
  clear hE
  obtain ⟨z0, z1, z2, z3, z4, z5, z6, z7, z8, -⟩ := HDY.out
  try dsimp only at z0 z1 z2 z3 z4 z5 z6 z7 z8
  go_wp2_with fail
  clear z0 z1 z2 z3 z4 z5 z6 z7 z8
  refine (ck_as (r := ⟨c, n, s, 1, t, ch, 0, 0, y⟩) HY.out HR.out HL.out HK.out).mono ?_
  rintro e v6 ⟨rfl, hE⟩
  have HD := Lib.hid (HD.out.ext hE)
  have HR := Lib.hid (HR.out.ext hE)
  have HK := Lib.hid (HK.out.ext hE)
  have HDX := Lib.hid (HDX.out.ext hE)
  have HDY := Lib.hid (HDY.out.ext hE)
  have HX := Lib.hid (HX.out.trans hE)
  clear hE
  obtain ⟨z0, z1, z2, z3, z4, z5, z6, z7, z8, -⟩ := HD.out
  try dsimp only at z0 z1 z2 z3 z4 z5 z6 z7 z8
  have hA : Ext v6 (v6.alloc (.cells #[.int .i64 c, .int .i64 n, .int .i64 s, .int .i64 1, .int .i64 t, .slice none 0 0, .int .i64 0, .int .i64 0, .int .i64 y] 26)) := (Ext.refl _).alloc _
  have hB : BoxQ (v6.alloc (.cells #[.int .i64 c, .int .i64 n, .int .i64 s, .int .i64 1, .int .i64 t, .slice none 0 0, .int .i64 0, .int .i64 0, .int .i64 y] 26)) v6.heap.size ⟨c, n, s, 1, t, [], 0, 0, y⟩ none 0 := BoxQ.new _ ⟨c, n, s, 1, t, [], 0, 0, y⟩ none 0 _ _ rfl
  go_wp2_with fail
  clear z0 z1 z2 z3 z4 z5 z6 z7 z8
  generalize (v6.alloc (.cells #[.int .i64 c, .int .i64 n, .int .i64 s, .int .i64 1, .int .i64 t, .slice none 0 0, .int .i64 0, .int .i64 0, .int .i64 y] 26)) = x6 at *
  have HD := Lib.hid (HD.out.ext hA)
  have HR := Lib.hid (HR.out.ext hA)
  have HK := Lib.hid (HK.out.ext hA)
  have HDX := Lib.hid (HDX.out.ext hA)
  have HDY := Lib.hid (HDY.out.ext hA)
  have HX := Lib.hid (HX.out.trans hA)
  have HDZ := Lib.hid hB
  clear hA hB
  obtain ⟨z0, z1, z2, z3, z4, z5, z6, z7, z8, -⟩ := HD.out
  try dsimp only at z0 z1 z2 z3 z4 z5 z6 z7 z8
  obtain ⟨f0, f1, f2, f3, f4, f5, f6, f7, f8, -⟩ := HDZ.out
  try dsimp only at f0 f1 f2 f3 f4 f5 f6 f7 f8
  have gz0 := grow_cell z0
  have gz1 := grow_cell z1
  have gz2 := grow_cell z2
  have gz3 := grow_cell z3
  have gz4 := grow_cell z4
  have gz5 := grow_cell z5
  have gz6 := grow_cell z6
  have gz7 := grow_cell z7
  have gz8 := grow_cell z8
  have gf0 := grow_cell f0
  have gf1 := grow_cell f1
  have gf2 := grow_cell f2
  have gf3 := grow_cell f3
  have gf4 := grow_cell f4
  have gf5 := grow_cell f5
  have gf6 := grow_cell f6
  have gf7 := grow_cell f7
  have gf8 := grow_cell f8
  refine wp_region_rel_all (fun i => if i = 1 then some (spV (.int .i64 290)) else none) (by kernel_rfl) (by kernel_rfl) ?_
  repeat (first
    | (refine wpRel_quick ?_ ?_ ?_ ?_
       · rfl
       · rfl
       · first | exact noEnter rfl | (intro f args W W'; go_simp)
       intro K hK
       go_big_quiet_op
       go_big_quiet_on)
    | (refine wpRel_skip ?_ ?_
       · rfl
       simp only [Act.put, List.setIfInBounds_toArray, List.set_cons_zero, List.set_cons_succ]))
  refine wpRel_rich _ rfl rfl (fun W hW => ?_) (fun v W3 hW3 hv => ?_)
  · have hc := ck_as (r := ⟨c, n, s, 1, t, [], 0, 0, y⟩) (w := W) HZ.out (SL.empty _ _) (Nat.zero_le _) (HK.out.ext ((Ext.refl x6).drew.trans hW.1))
    go_simp
    refine Calls.mono hc ?_
    rintro e w' ⟨rfl, h⟩
    exact ⟨_, rfl, rfl, by first | exact h | (subst h; exact Ext.refl _)⟩
  obtain rfl := hv
  clear hW3
  simp only [Act.put, List.setIfInBounds_toArray, List.set_cons_zero, List.set_cons_succ]
  repeat (first
    | (refine wpRel_quick ?_ ?_ ?_ ?_
       · rfl
       · rfl
       · first | exact noEnter rfl | (intro f args W W'; go_simp)
       intro K hK
       go_big_quiet_op
       go_big_quiet_on)
    | (refine wpRel_skip ?_ ?_
       · rfl
       simp only [Act.put, List.setIfInBounds_toArray, List.set_cons_zero, List.set_cons_succ]))
  refine wpRel_nil ?_
  intro W3 hW3
  have HE3 := Lib.hid ((Ext.refl x6).drew.trans hW3.1)
  clear hW3
  go_wp2_with fail
  go_ret
  exact ⟨rfl, HX.out.trans HE3.out⟩
set_option maxRecDepth 100000 in
set_option maxHeartbeats 12800000 in
theorem lawq_kinds1_10 (r : Rq) (ao : Option Addr) (cap : Nat) (kind : Int) (w : World) (hr : RepB w ao cap r.ch) (ht : r.ok) (hl : r.ch.length ≤ 20) (hv : validQ r = true) (hK : r.k = 1) (hyz : r.y = 0) (hn : ¬ r.ch.length = 1) (hk : Kinds w) : Calls Tryd.prog 8 #[.agg (r.cells ao cap).toArray, .int .i64 kind] w fun e w' => e = .returned (.bool true) ∧ Ext w w' := by
  obtain ⟨c, n, s, k, t, ch, g, h, y⟩ := r
  change k = 1 at hK
  subst hK
  dsimp only at hl
  obtain ⟨hh, hgd, -, -⟩ := headQ_any hv
  have hv0 := (vq hh hgd _ _ _ _).1 hv
  unfold needB at hv0
  rcases hv0 with ⟨-, hn1, hn8, rfl, rfl, hy0, hy1⟩ | ⟨h0, -⟩ | ⟨h0, -⟩ | ⟨h0, -⟩
  rotate_left
  · exact absurd h0 (by decide)
  · exact absurd h0 (by decide)
  · exact absurd h0 (by decide)
  change y = 0 at hyz
  change ¬ ch.length = 1 at hn
  have HYZ := Lib.hid hyz
  have HN := Lib.hid hn
  clear hyz hn
  show Calls Tryd.prog 8 #[.agg #[.int .i64 c, .int .i64 n, .int .i64 s, .int .i64 1, .int .i64 t, .slice ao ch.length cap, .int .i64 0, .int .i64 0, .int .i64 y], .int .i64 kind] w _
  have hX : Ext w (w.alloc (.cells #[.int .i64 c, .int .i64 n, .int .i64 s, .int .i64 1, .int .i64 t, .slice ao ch.length cap, .int .i64 0, .int .i64 0, .int .i64 y] 26)) := (Ext.refl w).alloc _
  have HD : Hid (BoxQ (w.alloc (.cells #[.int .i64 c, .int .i64 n, .int .i64 s, .int .i64 1, .int .i64 t, .slice ao ch.length cap, .int .i64 0, .int .i64 0, .int .i64 y] 26)) (w.heap.size) ⟨c, n, s, 1, t, ch, 0, 0, y⟩ ao cap) := Lib.hid (BoxQ.new w ⟨c, n, s, 1, t, ch, 0, 0, y⟩ ao cap 26 (w.heap.size) (by simp))
  have HR : Hid (RepB (w.alloc (.cells #[.int .i64 c, .int .i64 n, .int .i64 s, .int .i64 1, .int .i64 t, .slice ao ch.length cap, .int .i64 0, .int .i64 0, .int .i64 y] 26)) ao cap ch) := Lib.hid (RepB.ext hr hX)
  have HT := Lib.hid ht
  clear hr ht
  have HK := Lib.hid (hk.ext hX)
  have HX := Lib.hid hX
  clear hk hX
  go_enter Tryd.func8, Tryd.ntmps8
  go_wp2_with fail
  generalize (w.alloc (.cells #[.int .i64 c, .int .i64 n, .int .i64 s, .int .i64 1, .int .i64 t, .slice ao ch.length cap, .int .i64 0, .int .i64 0, .int .i64 y] 26)) = w0 at *
  have he := eqB 0 0 0 0
  have HEQ := Lib.hid he
  clear he
  have HH := Lib.hid hh
  have HGD := Lib.hid hgd
  have HC : Hid (checkQ ⟨c, n, s, 1, t, ch, 0, 0, y⟩ = 0) := Lib.hid (by unfold checkQ; rw [hv]; rfl)
  have hf := decide_eq_true hl
  have HL : Hid ((ch).length ≤ 1000000) := Lib.hid (by omega)
  have HY : Hid (checkQ ⟨c, n, s, 1, t, ch, 0, 0, y⟩ = 0) := HC
  have HZ : Hid (checkQ ⟨c, n, s, 1, t, [], 0, 0, y⟩ = 290) := Lib.hid (vqzx hh (by decide))
  clear hv hl hh hgd
  refine (saneQ_any _ HK.out).mono ?_
  rintro e v1 ⟨rfl, hE⟩
  have HD := Lib.hid (HD.out.ext hE)
  have HR := Lib.hid (HR.out.ext hE)
  have HK := Lib.hid (HK.out.ext hE)
  have HX := Lib.hid (HX.out.trans hE)
  clear hE
  obtain ⟨z0, z1, z2, z3, z4, z5, z6, z7, z8, -⟩ := HD.out
  try dsimp only at z0 z1 z2 z3 z4 z5 z6 z7 z8
  go_wp2_with fail
  clear z0 z1 z2 z3 z4 z5 z6 z7 z8
  refine (fw_as (r := ⟨c, n, s, 1, t, ch, 0, 0, y⟩) hf HR.out).mono ?_
  rintro e v2 ⟨rfl, hE⟩
  have HD := Lib.hid (HD.out.ext hE)
  have HR := Lib.hid (HR.out.ext hE)
  have HK := Lib.hid (HK.out.ext hE)
  have HX := Lib.hid (HX.out.trans hE)
  clear hE
  obtain ⟨z0, z1, z2, z3, z4, z5, z6, z7, z8, -⟩ := HD.out
  try dsimp only at z0 z1 z2 z3 z4 z5 z6 z7 z8
  go_wp2_with fail
  clear z0 z1 z2 z3 z4 z5 z6 z7 z8
  refine (ck_as (r := ⟨c, n, s, 1, t, ch, 0, 0, y⟩) HC.out HR.out HL.out HK.out).mono ?_
  rintro e v3 ⟨rfl, hE⟩
  have HD := Lib.hid (HD.out.ext hE)
  have HR := Lib.hid (HR.out.ext hE)
  have HK := Lib.hid (HK.out.ext hE)
  have HX := Lib.hid (HX.out.trans hE)
  clear hE
  have y1 : (y != 0) = false := by have := HYZ.out; simpa using this
  have y2 : (y == 0) = true := by have := HYZ.out; simpa using this
  have n1 : (((ch.length : Nat) : Int) == 1) = false := by have := HN.out; rw [beq_eq_false_iff_ne]; omega
  by_cases hk1 : kind = 1
  · subst hk1
    have hn := HN.out
    have hyz := HYZ.out
    have n4 : ¬ (((ch.length : Nat) : Int) < 1) := by omega
    have n5 : ¬ ((8 : Int) < ((ch.length : Nat) : Int)) := by omega
    have k1 : ¬ (y < 0) := by omega
    have HXC : Hid (checkQ ⟨c, n, s, 1, t, ch, 0, 0, y⟩ = 0) := Lib.hid ((vq1x HH.out HGD.out hn1 hn8 hy0 hy1 _).trans (if_pos (by omega)))
    clear hn hyz
    obtain ⟨z0, z1, z2, z3, z4, z5, z6, z7, z8, -⟩ := HD.out
    try dsimp only at z0 z1 z2 z3 z4 z5 z6 z7 z8
    have he := HEQ.out
    have hA : Ext v3 (v3.alloc (.cells #[.int .i64 c, .int .i64 n, .int .i64 s, .int .i64 1, .int .i64 t, .slice ao ch.length cap, .int .i64 0, .int .i64 0, .int .i64 y] 26)) := (Ext.refl _).alloc _
    have hB : BoxQ (v3.alloc (.cells #[.int .i64 c, .int .i64 n, .int .i64 s, .int .i64 1, .int .i64 t, .slice ao ch.length cap, .int .i64 0, .int .i64 0, .int .i64 y] 26)) v3.heap.size ⟨c, n, s, 1, t, ch, 0, 0, y⟩ ao cap := BoxQ.new _ ⟨c, n, s, 1, t, ch, 0, 0, y⟩ ao cap _ _ rfl
    obtain ⟨a0, a1, a2, a3, a4, a5, a6, a7, a8, -⟩ := HD.out.ext ((Ext.refl v3).alloc (.cells #[.int .i64 c, .int .i64 n, .int .i64 s, .int .i64 1, .int .i64 t, .slice ao ch.length cap, .int .i64 0, .int .i64 0, .int .i64 y] 26))
    try dsimp only at a0 a1 a2 a3 a4 a5 a6 a7 a8
    have ne1 : ¬ w.heap.size = v3.heap.size := by have := HD.out.lt; omega
    have ne2 : ¬ v3.heap.size = w.heap.size := by have := HD.out.lt; omega
    obtain ⟨f0, f1, f2, f3, f4, f5, f6, f7, f8, -⟩ := HD.out.ext hA
    try dsimp only at f0 f1 f2 f3 f4 f5 f6 f7 f8
    go_wp2_with fail
    clear z0 z1 z2 z3 z4 z5 z6 z7 z8 f0 f1 f2 f3 f4 f5 f6 f7 f8 a0 a1 a2 a3 a4 a5 a6 a7 a8 he ne1 ne2
    generalize (v3.alloc (.cells #[.int .i64 c, .int .i64 n, .int .i64 s, .int .i64 1, .int .i64 t, .slice ao ch.length cap, .int .i64 0, .int .i64 0, .int .i64 y] 26)) = x3 at *
    have HD := Lib.hid (HD.out.ext hA)
    have HR := Lib.hid (HR.out.ext hA)
    have HK := Lib.hid (HK.out.ext hA)
    have HX := Lib.hid (HX.out.trans hA)
    have HDX := Lib.hid hB
    clear hA hB
    refine (ck_as (r := ⟨c, n, s, 1, t, ch, 0, 0, y⟩) HXC.out HR.out HL.out HK.out).mono ?_
    rintro e v4 ⟨rfl, hE⟩
    have HD := Lib.hid (HD.out.ext hE)
    have HR := Lib.hid (HR.out.ext hE)
    have HK := Lib.hid (HK.out.ext hE)
    have HDX := Lib.hid (HDX.out.ext hE)
    have HX := Lib.hid (HX.out.trans hE)
    clear hE
    obtain ⟨z0, z1, z2, z3, z4, z5, z6, z7, z8, -⟩ := HD.out
    try dsimp only at z0 z1 z2 z3 z4 z5 z6 z7 z8
    have hA : Ext v4 (v4.alloc (.cells #[.int .i64 c, .int .i64 n, .int .i64 s, .int .i64 1, .int .i64 t, .slice ao ch.length cap, .int .i64 0, .int .i64 0, .int .i64 y] 26)) := (Ext.refl _).alloc _
    have hB : BoxQ (v4.alloc (.cells #[.int .i64 c, .int .i64 n, .int .i64 s, .int .i64 1, .int .i64 t, .slice ao ch.length cap, .int .i64 0, .int .i64 0, .int .i64 y] 26)) v4.heap.size ⟨c, n, s, 1, t, ch, 0, 0, y⟩ ao cap := BoxQ.new _ ⟨c, n, s, 1, t, ch, 0, 0, y⟩ ao cap _ _ rfl
    go_wp2_with fail
    clear z0 z1 z2 z3 z4 z5 z6 z7 z8
    generalize (v4.alloc (.cells #[.int .i64 c, .int .i64 n, .int .i64 s, .int .i64 1, .int .i64 t, .slice ao ch.length cap, .int .i64 0, .int .i64 0, .int .i64 y] 26)) = x4 at *
    have HD := Lib.hid (HD.out.ext hA)
    have HR := Lib.hid (HR.out.ext hA)
    have HK := Lib.hid (HK.out.ext hA)
    have HDX := Lib.hid (HDX.out.ext hA)
    have HX := Lib.hid (HX.out.trans hA)
    have HDY := Lib.hid hB
    clear hA hB
    refine (ck_as (r := ⟨c, n, s, 1, t, ch, 0, 0, y⟩) HY.out HR.out HL.out HK.out).mono ?_
    rintro e v5 ⟨rfl, hE⟩
    have HD := Lib.hid (HD.out.ext hE)
    have HR := Lib.hid (HR.out.ext hE)
    have HK := Lib.hid (HK.out.ext hE)
    have HDX := Lib.hid (HDX.out.ext hE)
    have HDY := Lib.hid (HDY.out.ext hE)
    have HX := Lib.hid (HX.out.trans hE)
    clear hE
    obtain ⟨z0, z1, z2, z3, z4, z5, z6, z7, z8, -⟩ := HDY.out
    try dsimp only at z0 z1 z2 z3 z4 z5 z6 z7 z8
    go_wp2_with fail
    clear z0 z1 z2 z3 z4 z5 z6 z7 z8
    refine (ck_as (r := ⟨c, n, s, 1, t, ch, 0, 0, y⟩) HY.out HR.out HL.out HK.out).mono ?_
    rintro e v6 ⟨rfl, hE⟩
    have HD := Lib.hid (HD.out.ext hE)
    have HR := Lib.hid (HR.out.ext hE)
    have HK := Lib.hid (HK.out.ext hE)
    have HDX := Lib.hid (HDX.out.ext hE)
    have HDY := Lib.hid (HDY.out.ext hE)
    have HX := Lib.hid (HX.out.trans hE)
    clear hE
    obtain ⟨z0, z1, z2, z3, z4, z5, z6, z7, z8, -⟩ := HD.out
    try dsimp only at z0 z1 z2 z3 z4 z5 z6 z7 z8
    have hA : Ext v6 (v6.alloc (.cells #[.int .i64 c, .int .i64 n, .int .i64 s, .int .i64 1, .int .i64 t, .slice none 0 0, .int .i64 0, .int .i64 0, .int .i64 y] 26)) := (Ext.refl _).alloc _
    have hB : BoxQ (v6.alloc (.cells #[.int .i64 c, .int .i64 n, .int .i64 s, .int .i64 1, .int .i64 t, .slice none 0 0, .int .i64 0, .int .i64 0, .int .i64 y] 26)) v6.heap.size ⟨c, n, s, 1, t, [], 0, 0, y⟩ none 0 := BoxQ.new _ ⟨c, n, s, 1, t, [], 0, 0, y⟩ none 0 _ _ rfl
    go_wp2_with fail
    clear z0 z1 z2 z3 z4 z5 z6 z7 z8
    generalize (v6.alloc (.cells #[.int .i64 c, .int .i64 n, .int .i64 s, .int .i64 1, .int .i64 t, .slice none 0 0, .int .i64 0, .int .i64 0, .int .i64 y] 26)) = x6 at *
    have HD := Lib.hid (HD.out.ext hA)
    have HR := Lib.hid (HR.out.ext hA)
    have HK := Lib.hid (HK.out.ext hA)
    have HDX := Lib.hid (HDX.out.ext hA)
    have HDY := Lib.hid (HDY.out.ext hA)
    have HX := Lib.hid (HX.out.trans hA)
    have HDZ := Lib.hid hB
    clear hA hB
    obtain ⟨z0, z1, z2, z3, z4, z5, z6, z7, z8, -⟩ := HD.out
    try dsimp only at z0 z1 z2 z3 z4 z5 z6 z7 z8
    obtain ⟨f0, f1, f2, f3, f4, f5, f6, f7, f8, -⟩ := HDZ.out
    try dsimp only at f0 f1 f2 f3 f4 f5 f6 f7 f8
    have gz0 := grow_cell z0
    have gz1 := grow_cell z1
    have gz2 := grow_cell z2
    have gz3 := grow_cell z3
    have gz4 := grow_cell z4
    have gz5 := grow_cell z5
    have gz6 := grow_cell z6
    have gz7 := grow_cell z7
    have gz8 := grow_cell z8
    have gf0 := grow_cell f0
    have gf1 := grow_cell f1
    have gf2 := grow_cell f2
    have gf3 := grow_cell f3
    have gf4 := grow_cell f4
    have gf5 := grow_cell f5
    have gf6 := grow_cell f6
    have gf7 := grow_cell f7
    have gf8 := grow_cell f8
    refine wp_region_rel_all (fun i => if i = 1 then some (spV (.int .i64 290)) else none) (by kernel_rfl) (by kernel_rfl) ?_
    repeat (first
      | (refine wpRel_quick ?_ ?_ ?_ ?_
         · rfl
         · rfl
         · first | exact noEnter rfl | (intro f args W W'; go_simp)
         intro K hK
         go_big_quiet_op
         go_big_quiet_on)
      | (refine wpRel_skip ?_ ?_
         · rfl
         simp only [Act.put, List.setIfInBounds_toArray, List.set_cons_zero, List.set_cons_succ]))
    refine wpRel_rich _ rfl rfl (fun W hW => ?_) (fun v W3 hW3 hv => ?_)
    · have hc := ck_as (r := ⟨c, n, s, 1, t, [], 0, 0, y⟩) (w := W) HZ.out (SL.empty _ _) (Nat.zero_le _) (HK.out.ext ((Ext.refl x6).drew.trans hW.1))
      go_simp
      refine Calls.mono hc ?_
      rintro e w' ⟨rfl, h⟩
      exact ⟨_, rfl, rfl, by first | exact h | (subst h; exact Ext.refl _)⟩
    obtain rfl := hv
    clear hW3
    simp only [Act.put, List.setIfInBounds_toArray, List.set_cons_zero, List.set_cons_succ]
    repeat (first
      | (refine wpRel_quick ?_ ?_ ?_ ?_
         · rfl
         · rfl
         · first | exact noEnter rfl | (intro f args W W'; go_simp)
         intro K hK
         go_big_quiet_op
         go_big_quiet_on)
      | (refine wpRel_skip ?_ ?_
         · rfl
         simp only [Act.put, List.setIfInBounds_toArray, List.set_cons_zero, List.set_cons_succ]))
    refine wpRel_nil ?_
    intro W3 hW3
    have HE3 := Lib.hid ((Ext.refl x6).drew.trans hW3.1)
    clear hW3
    go_wp2_with fail
    go_ret
    exact ⟨rfl, HX.out.trans HE3.out⟩
  by_cases hk4 : kind = 4
  · subst hk4
    have hn := HN.out
    have hyz := HYZ.out
    have n4 : ¬ (((ch.length : Nat) : Int) < 1) := by omega
    have n5 : ¬ ((8 : Int) < ((ch.length : Nat) : Int)) := by omega
    have k1 : ¬ (y < 0) := by omega
    have HXC : Hid (checkQ ⟨c, n, s, 4, t, ch, 0, 0, y⟩ = 290) := Lib.hid ((vq1x HH.out HGD.out hn1 hn8 hy0 hy1 _).trans (if_neg (by omega)))
    clear hn hyz
    obtain ⟨z0, z1, z2, z3, z4, z5, z6, z7, z8, -⟩ := HD.out
    try dsimp only at z0 z1 z2 z3 z4 z5 z6 z7 z8
    have he := HEQ.out
    have hA : Ext v3 (v3.alloc (.cells #[.int .i64 c, .int .i64 n, .int .i64 s, .int .i64 4, .int .i64 t, .slice ao ch.length cap, .int .i64 0, .int .i64 0, .int .i64 y] 26)) := (Ext.refl _).alloc _
    have hB : BoxQ (v3.alloc (.cells #[.int .i64 c, .int .i64 n, .int .i64 s, .int .i64 4, .int .i64 t, .slice ao ch.length cap, .int .i64 0, .int .i64 0, .int .i64 y] 26)) v3.heap.size ⟨c, n, s, 4, t, ch, 0, 0, y⟩ ao cap := BoxQ.new _ ⟨c, n, s, 4, t, ch, 0, 0, y⟩ ao cap _ _ rfl
    obtain ⟨a0, a1, a2, a3, a4, a5, a6, a7, a8, -⟩ := HD.out.ext ((Ext.refl v3).alloc (.cells #[.int .i64 c, .int .i64 n, .int .i64 s, .int .i64 1, .int .i64 t, .slice ao ch.length cap, .int .i64 0, .int .i64 0, .int .i64 y] 26))
    try dsimp only at a0 a1 a2 a3 a4 a5 a6 a7 a8
    have ne1 : ¬ w.heap.size = v3.heap.size := by have := HD.out.lt; omega
    have ne2 : ¬ v3.heap.size = w.heap.size := by have := HD.out.lt; omega
    obtain ⟨f0, f1, f2, f3, f4, f5, f6, f7, f8, -⟩ := HD.out.ext hA
    try dsimp only at f0 f1 f2 f3 f4 f5 f6 f7 f8
    go_wp2_with fail
    clear z0 z1 z2 z3 z4 z5 z6 z7 z8 f0 f1 f2 f3 f4 f5 f6 f7 f8 a0 a1 a2 a3 a4 a5 a6 a7 a8 he ne1 ne2
    generalize (v3.alloc (.cells #[.int .i64 c, .int .i64 n, .int .i64 s, .int .i64 4, .int .i64 t, .slice ao ch.length cap, .int .i64 0, .int .i64 0, .int .i64 y] 26)) = x3 at *
    have HD := Lib.hid (HD.out.ext hA)
    have HR := Lib.hid (HR.out.ext hA)
    have HK := Lib.hid (HK.out.ext hA)
    have HX := Lib.hid (HX.out.trans hA)
    have HDX := Lib.hid hB
    clear hA hB
    refine (ck_as (r := ⟨c, n, s, 4, t, ch, 0, 0, y⟩) HXC.out HR.out HL.out HK.out).mono ?_
    rintro e v4 ⟨rfl, hE⟩
    have HD := Lib.hid (HD.out.ext hE)
    have HR := Lib.hid (HR.out.ext hE)
    have HK := Lib.hid (HK.out.ext hE)
    have HDX := Lib.hid (HDX.out.ext hE)
    have HX := Lib.hid (HX.out.trans hE)
    clear hE
    obtain ⟨z0, z1, z2, z3, z4, z5, z6, z7, z8, -⟩ := HD.out
    try dsimp only at z0 z1 z2 z3 z4 z5 z6 z7 z8
    have hA : Ext v4 (v4.alloc (.cells #[.int .i64 c, .int .i64 n, .int .i64 s, .int .i64 1, .int .i64 t, .slice ao ch.length cap, .int .i64 0, .int .i64 0, .int .i64 y] 26)) := (Ext.refl _).alloc _
    have hB : BoxQ (v4.alloc (.cells #[.int .i64 c, .int .i64 n, .int .i64 s, .int .i64 1, .int .i64 t, .slice ao ch.length cap, .int .i64 0, .int .i64 0, .int .i64 y] 26)) v4.heap.size ⟨c, n, s, 1, t, ch, 0, 0, y⟩ ao cap := BoxQ.new _ ⟨c, n, s, 1, t, ch, 0, 0, y⟩ ao cap _ _ rfl
    go_wp2_with fail
    clear z0 z1 z2 z3 z4 z5 z6 z7 z8
    generalize (v4.alloc (.cells #[.int .i64 c, .int .i64 n, .int .i64 s, .int .i64 1, .int .i64 t, .slice ao ch.length cap, .int .i64 0, .int .i64 0, .int .i64 y] 26)) = x4 at *
    have HD := Lib.hid (HD.out.ext hA)
    have HR := Lib.hid (HR.out.ext hA)
    have HK := Lib.hid (HK.out.ext hA)
    have HDX := Lib.hid (HDX.out.ext hA)
    have HX := Lib.hid (HX.out.trans hA)
    have HDY := Lib.hid hB
    clear hA hB
    refine (ck_as (r := ⟨c, n, s, 1, t, ch, 0, 0, y⟩) HY.out HR.out HL.out HK.out).mono ?_
    rintro e v5 ⟨rfl, hE⟩
    have HD := Lib.hid (HD.out.ext hE)
    have HR := Lib.hid (HR.out.ext hE)
    have HK := Lib.hid (HK.out.ext hE)
    have HDX := Lib.hid (HDX.out.ext hE)
    have HDY := Lib.hid (HDY.out.ext hE)
    have HX := Lib.hid (HX.out.trans hE)
    clear hE
    obtain ⟨z0, z1, z2, z3, z4, z5, z6, z7, z8, -⟩ := HDY.out
    try dsimp only at z0 z1 z2 z3 z4 z5 z6 z7 z8
    go_wp2_with fail
    clear z0 z1 z2 z3 z4 z5 z6 z7 z8
    refine (ck_as (r := ⟨c, n, s, 1, t, ch, 0, 0, y⟩) HY.out HR.out HL.out HK.out).mono ?_
    rintro e v6 ⟨rfl, hE⟩
    have HD := Lib.hid (HD.out.ext hE)
    have HR := Lib.hid (HR.out.ext hE)
    have HK := Lib.hid (HK.out.ext hE)
    have HDX := Lib.hid (HDX.out.ext hE)
    have HDY := Lib.hid (HDY.out.ext hE)
    have HX := Lib.hid (HX.out.trans hE)
    clear hE
    obtain ⟨z0, z1, z2, z3, z4, z5, z6, z7, z8, -⟩ := HD.out
    try dsimp only at z0 z1 z2 z3 z4 z5 z6 z7 z8
    have hA : Ext v6 (v6.alloc (.cells #[.int .i64 c, .int .i64 n, .int .i64 s, .int .i64 1, .int .i64 t, .slice none 0 0, .int .i64 0, .int .i64 0, .int .i64 y] 26)) := (Ext.refl _).alloc _
    have hB : BoxQ (v6.alloc (.cells #[.int .i64 c, .int .i64 n, .int .i64 s, .int .i64 1, .int .i64 t, .slice none 0 0, .int .i64 0, .int .i64 0, .int .i64 y] 26)) v6.heap.size ⟨c, n, s, 1, t, [], 0, 0, y⟩ none 0 := BoxQ.new _ ⟨c, n, s, 1, t, [], 0, 0, y⟩ none 0 _ _ rfl
    go_wp2_with fail
    clear z0 z1 z2 z3 z4 z5 z6 z7 z8
    generalize (v6.alloc (.cells #[.int .i64 c, .int .i64 n, .int .i64 s, .int .i64 1, .int .i64 t, .slice none 0 0, .int .i64 0, .int .i64 0, .int .i64 y] 26)) = x6 at *
    have HD := Lib.hid (HD.out.ext hA)
    have HR := Lib.hid (HR.out.ext hA)
    have HK := Lib.hid (HK.out.ext hA)
    have HDX := Lib.hid (HDX.out.ext hA)
    have HDY := Lib.hid (HDY.out.ext hA)
    have HX := Lib.hid (HX.out.trans hA)
    have HDZ := Lib.hid hB
    clear hA hB
    obtain ⟨z0, z1, z2, z3, z4, z5, z6, z7, z8, -⟩ := HD.out
    try dsimp only at z0 z1 z2 z3 z4 z5 z6 z7 z8
    obtain ⟨f0, f1, f2, f3, f4, f5, f6, f7, f8, -⟩ := HDZ.out
    try dsimp only at f0 f1 f2 f3 f4 f5 f6 f7 f8
    have gz0 := grow_cell z0
    have gz1 := grow_cell z1
    have gz2 := grow_cell z2
    have gz3 := grow_cell z3
    have gz4 := grow_cell z4
    have gz5 := grow_cell z5
    have gz6 := grow_cell z6
    have gz7 := grow_cell z7
    have gz8 := grow_cell z8
    have gf0 := grow_cell f0
    have gf1 := grow_cell f1
    have gf2 := grow_cell f2
    have gf3 := grow_cell f3
    have gf4 := grow_cell f4
    have gf5 := grow_cell f5
    have gf6 := grow_cell f6
    have gf7 := grow_cell f7
    have gf8 := grow_cell f8
    refine wp_region_rel_all (fun i => if i = 1 then some (spV (.int .i64 290)) else none) (by kernel_rfl) (by kernel_rfl) ?_
    repeat (first
      | (refine wpRel_quick ?_ ?_ ?_ ?_
         · rfl
         · rfl
         · first | exact noEnter rfl | (intro f args W W'; go_simp)
         intro K hK
         go_big_quiet_op
         go_big_quiet_on)
      | (refine wpRel_skip ?_ ?_
         · rfl
         simp only [Act.put, List.setIfInBounds_toArray, List.set_cons_zero, List.set_cons_succ]))
    refine wpRel_rich _ rfl rfl (fun W hW => ?_) (fun v W3 hW3 hv => ?_)
    · have hc := ck_as (r := ⟨c, n, s, 1, t, [], 0, 0, y⟩) (w := W) HZ.out (SL.empty _ _) (Nat.zero_le _) (HK.out.ext ((Ext.refl x6).drew.trans hW.1))
      go_simp
      refine Calls.mono hc ?_
      rintro e w' ⟨rfl, h⟩
      exact ⟨_, rfl, rfl, by first | exact h | (subst h; exact Ext.refl _)⟩
    obtain rfl := hv
    clear hW3
    simp only [Act.put, List.setIfInBounds_toArray, List.set_cons_zero, List.set_cons_succ]
    repeat (first
      | (refine wpRel_quick ?_ ?_ ?_ ?_
         · rfl
         · rfl
         · first | exact noEnter rfl | (intro f args W W'; go_simp)
         intro K hK
         go_big_quiet_op
         go_big_quiet_on)
      | (refine wpRel_skip ?_ ?_
         · rfl
         simp only [Act.put, List.setIfInBounds_toArray, List.set_cons_zero, List.set_cons_succ]))
    refine wpRel_nil ?_
    intro W3 hW3
    have HE3 := Lib.hid ((Ext.refl x6).drew.trans hW3.1)
    clear hW3
    go_wp2_with fail
    go_ret
    exact ⟨rfl, HX.out.trans HE3.out⟩
  by_cases hk5 : kind = 5
  · subst hk5
    have hn := HN.out
    have hyz := HYZ.out
    have n4 : ¬ (((ch.length : Nat) : Int) < 1) := by omega
    have n5 : ¬ ((8 : Int) < ((ch.length : Nat) : Int)) := by omega
    have k1 : ¬ (y < 0) := by omega
    have HXC : Hid (checkQ ⟨c, n, s, 5, t, ch, 0, 0, y⟩ = 290) := Lib.hid ((vq1x HH.out HGD.out hn1 hn8 hy0 hy1 _).trans (if_neg (by omega)))
    clear hn hyz
    obtain ⟨z0, z1, z2, z3, z4, z5, z6, z7, z8, -⟩ := HD.out
    try dsimp only at z0 z1 z2 z3 z4 z5 z6 z7 z8
    have he := HEQ.out
    have hA : Ext v3 (v3.alloc (.cells #[.int .i64 c, .int .i64 n, .int .i64 s, .int .i64 5, .int .i64 t, .slice ao ch.length cap, .int .i64 0, .int .i64 0, .int .i64 y] 26)) := (Ext.refl _).alloc _
    have hB : BoxQ (v3.alloc (.cells #[.int .i64 c, .int .i64 n, .int .i64 s, .int .i64 5, .int .i64 t, .slice ao ch.length cap, .int .i64 0, .int .i64 0, .int .i64 y] 26)) v3.heap.size ⟨c, n, s, 5, t, ch, 0, 0, y⟩ ao cap := BoxQ.new _ ⟨c, n, s, 5, t, ch, 0, 0, y⟩ ao cap _ _ rfl
    obtain ⟨a0, a1, a2, a3, a4, a5, a6, a7, a8, -⟩ := HD.out.ext ((Ext.refl v3).alloc (.cells #[.int .i64 c, .int .i64 n, .int .i64 s, .int .i64 1, .int .i64 t, .slice ao ch.length cap, .int .i64 0, .int .i64 0, .int .i64 y] 26))
    try dsimp only at a0 a1 a2 a3 a4 a5 a6 a7 a8
    have ne1 : ¬ w.heap.size = v3.heap.size := by have := HD.out.lt; omega
    have ne2 : ¬ v3.heap.size = w.heap.size := by have := HD.out.lt; omega
    obtain ⟨f0, f1, f2, f3, f4, f5, f6, f7, f8, -⟩ := HD.out.ext hA
    try dsimp only at f0 f1 f2 f3 f4 f5 f6 f7 f8
    go_wp2_with fail
    clear z0 z1 z2 z3 z4 z5 z6 z7 z8 f0 f1 f2 f3 f4 f5 f6 f7 f8 a0 a1 a2 a3 a4 a5 a6 a7 a8 he ne1 ne2
    generalize (v3.alloc (.cells #[.int .i64 c, .int .i64 n, .int .i64 s, .int .i64 5, .int .i64 t, .slice ao ch.length cap, .int .i64 0, .int .i64 0, .int .i64 y] 26)) = x3 at *
    have HD := Lib.hid (HD.out.ext hA)
    have HR := Lib.hid (HR.out.ext hA)
    have HK := Lib.hid (HK.out.ext hA)
    have HX := Lib.hid (HX.out.trans hA)
    have HDX := Lib.hid hB
    clear hA hB
    refine (ck_as (r := ⟨c, n, s, 5, t, ch, 0, 0, y⟩) HXC.out HR.out HL.out HK.out).mono ?_
    rintro e v4 ⟨rfl, hE⟩
    have HD := Lib.hid (HD.out.ext hE)
    have HR := Lib.hid (HR.out.ext hE)
    have HK := Lib.hid (HK.out.ext hE)
    have HDX := Lib.hid (HDX.out.ext hE)
    have HX := Lib.hid (HX.out.trans hE)
    clear hE
    obtain ⟨z0, z1, z2, z3, z4, z5, z6, z7, z8, -⟩ := HD.out
    try dsimp only at z0 z1 z2 z3 z4 z5 z6 z7 z8
    have hA : Ext v4 (v4.alloc (.cells #[.int .i64 c, .int .i64 n, .int .i64 s, .int .i64 1, .int .i64 t, .slice ao ch.length cap, .int .i64 0, .int .i64 0, .int .i64 y] 26)) := (Ext.refl _).alloc _
    have hB : BoxQ (v4.alloc (.cells #[.int .i64 c, .int .i64 n, .int .i64 s, .int .i64 1, .int .i64 t, .slice ao ch.length cap, .int .i64 0, .int .i64 0, .int .i64 y] 26)) v4.heap.size ⟨c, n, s, 1, t, ch, 0, 0, y⟩ ao cap := BoxQ.new _ ⟨c, n, s, 1, t, ch, 0, 0, y⟩ ao cap _ _ rfl
    go_wp2_with fail
    clear z0 z1 z2 z3 z4 z5 z6 z7 z8
    generalize (v4.alloc (.cells #[.int .i64 c, .int .i64 n, .int .i64 s, .int .i64 1, .int .i64 t, .slice ao ch.length cap, .int .i64 0, .int .i64 0, .int .i64 y] 26)) = x4 at *
    have HD := Lib.hid (HD.out.ext hA)
    have HR := Lib.hid (HR.out.ext hA)
    have HK := Lib.hid (HK.out.ext hA)
    have HDX := Lib.hid (HDX.out.ext hA)
    have HX := Lib.hid (HX.out.trans hA)
    have HDY := Lib.hid hB
    clear hA hB
    refine (ck_as (r := ⟨c, n, s, 1, t, ch, 0, 0, y⟩) HY.out HR.out HL.out HK.out).mono ?_
    rintro e v5 ⟨rfl, hE⟩
    have HD := Lib.hid (HD.out.ext hE)
    have HR := Lib.hid (HR.out.ext hE)
    have HK := Lib.hid (HK.out.ext hE)
    have HDX := Lib.hid (HDX.out.ext hE)
    have HDY := Lib.hid (HDY.out.ext hE)
    have HX := Lib.hid (HX.out.trans hE)
    clear hE
    obtain ⟨z0, z1, z2, z3, z4, z5, z6, z7, z8, -⟩ := HDY.out
    try dsimp only at z0 z1 z2 z3 z4 z5 z6 z7 z8
    go_wp2_with fail
    clear z0 z1 z2 z3 z4 z5 z6 z7 z8
    refine (ck_as (r := ⟨c, n, s, 1, t, ch, 0, 0, y⟩) HY.out HR.out HL.out HK.out).mono ?_
    rintro e v6 ⟨rfl, hE⟩
    have HD := Lib.hid (HD.out.ext hE)
    have HR := Lib.hid (HR.out.ext hE)
    have HK := Lib.hid (HK.out.ext hE)
    have HDX := Lib.hid (HDX.out.ext hE)
    have HDY := Lib.hid (HDY.out.ext hE)
    have HX := Lib.hid (HX.out.trans hE)
    clear hE
    obtain ⟨z0, z1, z2, z3, z4, z5, z6, z7, z8, -⟩ := HD.out
    try dsimp only at z0 z1 z2 z3 z4 z5 z6 z7 z8
    have hA : Ext v6 (v6.alloc (.cells #[.int .i64 c, .int .i64 n, .int .i64 s, .int .i64 1, .int .i64 t, .slice none 0 0, .int .i64 0, .int .i64 0, .int .i64 y] 26)) := (Ext.refl _).alloc _
    have hB : BoxQ (v6.alloc (.cells #[.int .i64 c, .int .i64 n, .int .i64 s, .int .i64 1, .int .i64 t, .slice none 0 0, .int .i64 0, .int .i64 0, .int .i64 y] 26)) v6.heap.size ⟨c, n, s, 1, t, [], 0, 0, y⟩ none 0 := BoxQ.new _ ⟨c, n, s, 1, t, [], 0, 0, y⟩ none 0 _ _ rfl
    go_wp2_with fail
    clear z0 z1 z2 z3 z4 z5 z6 z7 z8
    generalize (v6.alloc (.cells #[.int .i64 c, .int .i64 n, .int .i64 s, .int .i64 1, .int .i64 t, .slice none 0 0, .int .i64 0, .int .i64 0, .int .i64 y] 26)) = x6 at *
    have HD := Lib.hid (HD.out.ext hA)
    have HR := Lib.hid (HR.out.ext hA)
    have HK := Lib.hid (HK.out.ext hA)
    have HDX := Lib.hid (HDX.out.ext hA)
    have HDY := Lib.hid (HDY.out.ext hA)
    have HX := Lib.hid (HX.out.trans hA)
    have HDZ := Lib.hid hB
    clear hA hB
    obtain ⟨z0, z1, z2, z3, z4, z5, z6, z7, z8, -⟩ := HD.out
    try dsimp only at z0 z1 z2 z3 z4 z5 z6 z7 z8
    obtain ⟨f0, f1, f2, f3, f4, f5, f6, f7, f8, -⟩ := HDZ.out
    try dsimp only at f0 f1 f2 f3 f4 f5 f6 f7 f8
    have gz0 := grow_cell z0
    have gz1 := grow_cell z1
    have gz2 := grow_cell z2
    have gz3 := grow_cell z3
    have gz4 := grow_cell z4
    have gz5 := grow_cell z5
    have gz6 := grow_cell z6
    have gz7 := grow_cell z7
    have gz8 := grow_cell z8
    have gf0 := grow_cell f0
    have gf1 := grow_cell f1
    have gf2 := grow_cell f2
    have gf3 := grow_cell f3
    have gf4 := grow_cell f4
    have gf5 := grow_cell f5
    have gf6 := grow_cell f6
    have gf7 := grow_cell f7
    have gf8 := grow_cell f8
    refine wp_region_rel_all (fun i => if i = 1 then some (spV (.int .i64 290)) else none) (by kernel_rfl) (by kernel_rfl) ?_
    repeat (first
      | (refine wpRel_quick ?_ ?_ ?_ ?_
         · rfl
         · rfl
         · first | exact noEnter rfl | (intro f args W W'; go_simp)
         intro K hK
         go_big_quiet_op
         go_big_quiet_on)
      | (refine wpRel_skip ?_ ?_
         · rfl
         simp only [Act.put, List.setIfInBounds_toArray, List.set_cons_zero, List.set_cons_succ]))
    refine wpRel_rich _ rfl rfl (fun W hW => ?_) (fun v W3 hW3 hv => ?_)
    · have hc := ck_as (r := ⟨c, n, s, 1, t, [], 0, 0, y⟩) (w := W) HZ.out (SL.empty _ _) (Nat.zero_le _) (HK.out.ext ((Ext.refl x6).drew.trans hW.1))
      go_simp
      refine Calls.mono hc ?_
      rintro e w' ⟨rfl, h⟩
      exact ⟨_, rfl, rfl, by first | exact h | (subst h; exact Ext.refl _)⟩
    obtain rfl := hv
    clear hW3
    simp only [Act.put, List.setIfInBounds_toArray, List.set_cons_zero, List.set_cons_succ]
    repeat (first
      | (refine wpRel_quick ?_ ?_ ?_ ?_
         · rfl
         · rfl
         · first | exact noEnter rfl | (intro f args W W'; go_simp)
         intro K hK
         go_big_quiet_op
         go_big_quiet_on)
      | (refine wpRel_skip ?_ ?_
         · rfl
         simp only [Act.put, List.setIfInBounds_toArray, List.set_cons_zero, List.set_cons_succ]))
    refine wpRel_nil ?_
    intro W3 hW3
    have HE3 := Lib.hid ((Ext.refl x6).drew.trans hW3.1)
    clear hW3
    go_wp2_with fail
    go_ret
    exact ⟨rfl, HX.out.trans HE3.out⟩
  have hn := HN.out
  have hyz := HYZ.out
  have e1 : (kind == 1) = false := by simpa using hk1
  have e4 : (kind == 4) = false := by simpa using hk4
  have e5 : (kind == 5) = false := by simpa using hk5
  have n4 : ¬ (((ch.length : Nat) : Int) < 1) := by omega
  have n5 : ¬ ((8 : Int) < ((ch.length : Nat) : Int)) := by omega
  have k1 : ¬ (y < 0) := by omega
  have HXC : Hid (checkQ ⟨c, n, s, kind, t, ch, 0, 0, y⟩ = 290) := Lib.hid ((vq1x HH.out HGD.out hn1 hn8 hy0 hy1 _).trans (if_neg (by omega)))
  clear hn hyz
  obtain ⟨z0, z1, z2, z3, z4, z5, z6, z7, z8, -⟩ := HD.out
  try dsimp only at z0 z1 z2 z3 z4 z5 z6 z7 z8
  have he := HEQ.out
  have hA : Ext v3 (v3.alloc (.cells #[.int .i64 c, .int .i64 n, .int .i64 s, .int .i64 kind, .int .i64 t, .slice ao ch.length cap, .int .i64 0, .int .i64 0, .int .i64 y] 26)) := (Ext.refl _).alloc _
  have hB : BoxQ (v3.alloc (.cells #[.int .i64 c, .int .i64 n, .int .i64 s, .int .i64 kind, .int .i64 t, .slice ao ch.length cap, .int .i64 0, .int .i64 0, .int .i64 y] 26)) v3.heap.size ⟨c, n, s, kind, t, ch, 0, 0, y⟩ ao cap := BoxQ.new _ ⟨c, n, s, kind, t, ch, 0, 0, y⟩ ao cap _ _ rfl
  obtain ⟨a0, a1, a2, a3, a4, a5, a6, a7, a8, -⟩ := HD.out.ext ((Ext.refl v3).alloc (.cells #[.int .i64 c, .int .i64 n, .int .i64 s, .int .i64 1, .int .i64 t, .slice ao ch.length cap, .int .i64 0, .int .i64 0, .int .i64 y] 26))
  try dsimp only at a0 a1 a2 a3 a4 a5 a6 a7 a8
  have ne1 : ¬ w.heap.size = v3.heap.size := by have := HD.out.lt; omega
  have ne2 : ¬ v3.heap.size = w.heap.size := by have := HD.out.lt; omega
  obtain ⟨f0, f1, f2, f3, f4, f5, f6, f7, f8, -⟩ := HD.out.ext hA
  try dsimp only at f0 f1 f2 f3 f4 f5 f6 f7 f8
  go_wp2_with fail
  clear z0 z1 z2 z3 z4 z5 z6 z7 z8 f0 f1 f2 f3 f4 f5 f6 f7 f8 a0 a1 a2 a3 a4 a5 a6 a7 a8 he ne1 ne2
  generalize (v3.alloc (.cells #[.int .i64 c, .int .i64 n, .int .i64 s, .int .i64 kind, .int .i64 t, .slice ao ch.length cap, .int .i64 0, .int .i64 0, .int .i64 y] 26)) = x3 at *
  have HD := Lib.hid (HD.out.ext hA)
  have HR := Lib.hid (HR.out.ext hA)
  have HK := Lib.hid (HK.out.ext hA)
  have HX := Lib.hid (HX.out.trans hA)
  have HDX := Lib.hid hB
  clear hA hB
  refine (ck_as (r := ⟨c, n, s, kind, t, ch, 0, 0, y⟩) HXC.out HR.out HL.out HK.out).mono ?_
  rintro e v4 ⟨rfl, hE⟩
  have HD := Lib.hid (HD.out.ext hE)
  have HR := Lib.hid (HR.out.ext hE)
  have HK := Lib.hid (HK.out.ext hE)
  have HDX := Lib.hid (HDX.out.ext hE)
  have HX := Lib.hid (HX.out.trans hE)
  clear hE
  obtain ⟨z0, z1, z2, z3, z4, z5, z6, z7, z8, -⟩ := HD.out
  try dsimp only at z0 z1 z2 z3 z4 z5 z6 z7 z8
  have hA : Ext v4 (v4.alloc (.cells #[.int .i64 c, .int .i64 n, .int .i64 s, .int .i64 1, .int .i64 t, .slice ao ch.length cap, .int .i64 0, .int .i64 0, .int .i64 y] 26)) := (Ext.refl _).alloc _
  have hB : BoxQ (v4.alloc (.cells #[.int .i64 c, .int .i64 n, .int .i64 s, .int .i64 1, .int .i64 t, .slice ao ch.length cap, .int .i64 0, .int .i64 0, .int .i64 y] 26)) v4.heap.size ⟨c, n, s, 1, t, ch, 0, 0, y⟩ ao cap := BoxQ.new _ ⟨c, n, s, 1, t, ch, 0, 0, y⟩ ao cap _ _ rfl
  go_wp2_with fail
  clear z0 z1 z2 z3 z4 z5 z6 z7 z8
  generalize (v4.alloc (.cells #[.int .i64 c, .int .i64 n, .int .i64 s, .int .i64 1, .int .i64 t, .slice ao ch.length cap, .int .i64 0, .int .i64 0, .int .i64 y] 26)) = x4 at *
  have HD := Lib.hid (HD.out.ext hA)
  have HR := Lib.hid (HR.out.ext hA)
  have HK := Lib.hid (HK.out.ext hA)
  have HDX := Lib.hid (HDX.out.ext hA)
  have HX := Lib.hid (HX.out.trans hA)
  have HDY := Lib.hid hB
  clear hA hB
  refine (ck_as (r := ⟨c, n, s, 1, t, ch, 0, 0, y⟩) HY.out HR.out HL.out HK.out).mono ?_
  rintro e v5 ⟨rfl, hE⟩
  have HD := Lib.hid (HD.out.ext hE)
  have HR := Lib.hid (HR.out.ext hE)
  have HK := Lib.hid (HK.out.ext hE)
  have HDX := Lib.hid (HDX.out.ext hE)
  have HDY := Lib.hid (HDY.out.ext hE)
  have HX := Lib.hid (HX.out.trans hE)
  clear hE
  obtain ⟨z0, z1, z2, z3, z4, z5, z6, z7, z8, -⟩ := HDY.out
  try dsimp only at z0 z1 z2 z3 z4 z5 z6 z7 z8
  go_wp2_with fail
  clear z0 z1 z2 z3 z4 z5 z6 z7 z8
  refine (ck_as (r := ⟨c, n, s, 1, t, ch, 0, 0, y⟩) HY.out HR.out HL.out HK.out).mono ?_
  rintro e v6 ⟨rfl, hE⟩
  have HD := Lib.hid (HD.out.ext hE)
  have HR := Lib.hid (HR.out.ext hE)
  have HK := Lib.hid (HK.out.ext hE)
  have HDX := Lib.hid (HDX.out.ext hE)
  have HDY := Lib.hid (HDY.out.ext hE)
  have HX := Lib.hid (HX.out.trans hE)
  clear hE
  obtain ⟨z0, z1, z2, z3, z4, z5, z6, z7, z8, -⟩ := HD.out
  try dsimp only at z0 z1 z2 z3 z4 z5 z6 z7 z8
  have hA : Ext v6 (v6.alloc (.cells #[.int .i64 c, .int .i64 n, .int .i64 s, .int .i64 1, .int .i64 t, .slice none 0 0, .int .i64 0, .int .i64 0, .int .i64 y] 26)) := (Ext.refl _).alloc _
  have hB : BoxQ (v6.alloc (.cells #[.int .i64 c, .int .i64 n, .int .i64 s, .int .i64 1, .int .i64 t, .slice none 0 0, .int .i64 0, .int .i64 0, .int .i64 y] 26)) v6.heap.size ⟨c, n, s, 1, t, [], 0, 0, y⟩ none 0 := BoxQ.new _ ⟨c, n, s, 1, t, [], 0, 0, y⟩ none 0 _ _ rfl
  go_wp2_with fail
  clear z0 z1 z2 z3 z4 z5 z6 z7 z8
  generalize (v6.alloc (.cells #[.int .i64 c, .int .i64 n, .int .i64 s, .int .i64 1, .int .i64 t, .slice none 0 0, .int .i64 0, .int .i64 0, .int .i64 y] 26)) = x6 at *
  have HD := Lib.hid (HD.out.ext hA)
  have HR := Lib.hid (HR.out.ext hA)
  have HK := Lib.hid (HK.out.ext hA)
  have HDX := Lib.hid (HDX.out.ext hA)
  have HDY := Lib.hid (HDY.out.ext hA)
  have HX := Lib.hid (HX.out.trans hA)
  have HDZ := Lib.hid hB
  clear hA hB
  obtain ⟨z0, z1, z2, z3, z4, z5, z6, z7, z8, -⟩ := HD.out
  try dsimp only at z0 z1 z2 z3 z4 z5 z6 z7 z8
  obtain ⟨f0, f1, f2, f3, f4, f5, f6, f7, f8, -⟩ := HDZ.out
  try dsimp only at f0 f1 f2 f3 f4 f5 f6 f7 f8
  have gz0 := grow_cell z0
  have gz1 := grow_cell z1
  have gz2 := grow_cell z2
  have gz3 := grow_cell z3
  have gz4 := grow_cell z4
  have gz5 := grow_cell z5
  have gz6 := grow_cell z6
  have gz7 := grow_cell z7
  have gz8 := grow_cell z8
  have gf0 := grow_cell f0
  have gf1 := grow_cell f1
  have gf2 := grow_cell f2
  have gf3 := grow_cell f3
  have gf4 := grow_cell f4
  have gf5 := grow_cell f5
  have gf6 := grow_cell f6
  have gf7 := grow_cell f7
  have gf8 := grow_cell f8
  refine wp_region_rel_all (fun i => if i = 1 then some (spV (.int .i64 290)) else none) (by kernel_rfl) (by kernel_rfl) ?_
  repeat (first
    | (refine wpRel_quick ?_ ?_ ?_ ?_
       · rfl
       · rfl
       · first | exact noEnter rfl | (intro f args W W'; go_simp)
       intro K hK
       go_big_quiet_op
       go_big_quiet_on)
    | (refine wpRel_skip ?_ ?_
       · rfl
       simp only [Act.put, List.setIfInBounds_toArray, List.set_cons_zero, List.set_cons_succ]))
  refine wpRel_rich _ rfl rfl (fun W hW => ?_) (fun v W3 hW3 hv => ?_)
  · have hc := ck_as (r := ⟨c, n, s, 1, t, [], 0, 0, y⟩) (w := W) HZ.out (SL.empty _ _) (Nat.zero_le _) (HK.out.ext ((Ext.refl x6).drew.trans hW.1))
    go_simp
    refine Calls.mono hc ?_
    rintro e w' ⟨rfl, h⟩
    exact ⟨_, rfl, rfl, by first | exact h | (subst h; exact Ext.refl _)⟩
  obtain rfl := hv
  clear hW3
  simp only [Act.put, List.setIfInBounds_toArray, List.set_cons_zero, List.set_cons_succ]
  repeat (first
    | (refine wpRel_quick ?_ ?_ ?_ ?_
       · rfl
       · rfl
       · first | exact noEnter rfl | (intro f args W W'; go_simp)
       intro K hK
       go_big_quiet_op
       go_big_quiet_on)
    | (refine wpRel_skip ?_ ?_
       · rfl
       simp only [Act.put, List.setIfInBounds_toArray, List.set_cons_zero, List.set_cons_succ]))
  refine wpRel_nil ?_
  intro W3 hW3
  have HE3 := Lib.hid ((Ext.refl x6).drew.trans hW3.1)
  clear hW3
  go_wp2_with fail
  go_ret
  exact ⟨rfl, HX.out.trans HE3.out⟩
set_option maxRecDepth 100000 in
set_option maxHeartbeats 12800000 in
theorem lawq_kinds1_01 (r : Rq) (ao : Option Addr) (cap : Nat) (kind : Int) (w : World) (hr : RepB w ao cap r.ch) (ht : r.ok) (hl : r.ch.length ≤ 20) (hv : validQ r = true) (hK : r.k = 1) (hyz : ¬ r.y = 0) (hn : r.ch.length = 1) (hk : Kinds w) : Calls Tryd.prog 8 #[.agg (r.cells ao cap).toArray, .int .i64 kind] w fun e w' => e = .returned (.bool true) ∧ Ext w w' := by
  obtain ⟨c, n, s, k, t, ch, g, h, y⟩ := r
  change k = 1 at hK
  subst hK
  dsimp only at hl
  obtain ⟨hh, hgd, -, -⟩ := headQ_any hv
  have hv0 := (vq hh hgd _ _ _ _).1 hv
  unfold needB at hv0
  rcases hv0 with ⟨-, hn1, hn8, rfl, rfl, hy0, hy1⟩ | ⟨h0, -⟩ | ⟨h0, -⟩ | ⟨h0, -⟩
  rotate_left
  · exact absurd h0 (by decide)
  · exact absurd h0 (by decide)
  · exact absurd h0 (by decide)
  change ¬ y = 0 at hyz
  change ch.length = 1 at hn
  have HYZ := Lib.hid hyz
  have HN := Lib.hid hn
  clear hyz hn
  show Calls Tryd.prog 8 #[.agg #[.int .i64 c, .int .i64 n, .int .i64 s, .int .i64 1, .int .i64 t, .slice ao ch.length cap, .int .i64 0, .int .i64 0, .int .i64 y], .int .i64 kind] w _
  have hX : Ext w (w.alloc (.cells #[.int .i64 c, .int .i64 n, .int .i64 s, .int .i64 1, .int .i64 t, .slice ao ch.length cap, .int .i64 0, .int .i64 0, .int .i64 y] 26)) := (Ext.refl w).alloc _
  have HD : Hid (BoxQ (w.alloc (.cells #[.int .i64 c, .int .i64 n, .int .i64 s, .int .i64 1, .int .i64 t, .slice ao ch.length cap, .int .i64 0, .int .i64 0, .int .i64 y] 26)) (w.heap.size) ⟨c, n, s, 1, t, ch, 0, 0, y⟩ ao cap) := Lib.hid (BoxQ.new w ⟨c, n, s, 1, t, ch, 0, 0, y⟩ ao cap 26 (w.heap.size) (by simp))
  have HR : Hid (RepB (w.alloc (.cells #[.int .i64 c, .int .i64 n, .int .i64 s, .int .i64 1, .int .i64 t, .slice ao ch.length cap, .int .i64 0, .int .i64 0, .int .i64 y] 26)) ao cap ch) := Lib.hid (RepB.ext hr hX)
  have HT := Lib.hid ht
  clear hr ht
  have HK := Lib.hid (hk.ext hX)
  have HX := Lib.hid hX
  clear hk hX
  go_enter Tryd.func8, Tryd.ntmps8
  go_wp2_with fail
  generalize (w.alloc (.cells #[.int .i64 c, .int .i64 n, .int .i64 s, .int .i64 1, .int .i64 t, .slice ao ch.length cap, .int .i64 0, .int .i64 0, .int .i64 y] 26)) = w0 at *
  have he := eqB 0 0 0 0
  have HEQ := Lib.hid he
  clear he
  have HH := Lib.hid hh
  have HGD := Lib.hid hgd
  have HC : Hid (checkQ ⟨c, n, s, 1, t, ch, 0, 0, y⟩ = 0) := Lib.hid (by unfold checkQ; rw [hv]; rfl)
  have hf := decide_eq_true hl
  have HL : Hid ((ch).length ≤ 1000000) := Lib.hid (by omega)
  have HY : Hid (checkQ ⟨c, n, s, 1, t, ch, 0, 0, y⟩ = 0) := HC
  have HZ : Hid (checkQ ⟨c, n, s, 1, t, [], 0, 0, y⟩ = 290) := Lib.hid (vqzx hh (by decide))
  clear hv hl hh hgd
  refine (saneQ_any _ HK.out).mono ?_
  rintro e v1 ⟨rfl, hE⟩
  have HD := Lib.hid (HD.out.ext hE)
  have HR := Lib.hid (HR.out.ext hE)
  have HK := Lib.hid (HK.out.ext hE)
  have HX := Lib.hid (HX.out.trans hE)
  clear hE
  obtain ⟨z0, z1, z2, z3, z4, z5, z6, z7, z8, -⟩ := HD.out
  try dsimp only at z0 z1 z2 z3 z4 z5 z6 z7 z8
  go_wp2_with fail
  clear z0 z1 z2 z3 z4 z5 z6 z7 z8
  refine (fw_as (r := ⟨c, n, s, 1, t, ch, 0, 0, y⟩) hf HR.out).mono ?_
  rintro e v2 ⟨rfl, hE⟩
  have HD := Lib.hid (HD.out.ext hE)
  have HR := Lib.hid (HR.out.ext hE)
  have HK := Lib.hid (HK.out.ext hE)
  have HX := Lib.hid (HX.out.trans hE)
  clear hE
  obtain ⟨z0, z1, z2, z3, z4, z5, z6, z7, z8, -⟩ := HD.out
  try dsimp only at z0 z1 z2 z3 z4 z5 z6 z7 z8
  go_wp2_with fail
  clear z0 z1 z2 z3 z4 z5 z6 z7 z8
  refine (ck_as (r := ⟨c, n, s, 1, t, ch, 0, 0, y⟩) HC.out HR.out HL.out HK.out).mono ?_
  rintro e v3 ⟨rfl, hE⟩
  have HD := Lib.hid (HD.out.ext hE)
  have HR := Lib.hid (HR.out.ext hE)
  have HK := Lib.hid (HK.out.ext hE)
  have HX := Lib.hid (HX.out.trans hE)
  clear hE
  have y1 : (y != 0) = true := by have := HYZ.out; simpa using this
  have y2 : (y == 0) = false := by have := HYZ.out; simpa using this
  have n1 : (((ch.length : Nat) : Int) == 1) = true := by have := HN.out; rw [beq_iff_eq]; omega
  by_cases hk1 : kind = 1
  · subst hk1
    have hn := HN.out
    have hyz := HYZ.out
    have n4 : ¬ (((ch.length : Nat) : Int) < 1) := by omega
    have n5 : ¬ ((8 : Int) < ((ch.length : Nat) : Int)) := by omega
    have k1 : ¬ (y < 0) := by omega
    have HXC : Hid (checkQ ⟨c, n, s, 1, t, ch, 0, 0, y⟩ = 0) := Lib.hid ((vq1x HH.out HGD.out hn1 hn8 hy0 hy1 _).trans (if_pos (by omega)))
    clear hn hyz
    obtain ⟨z0, z1, z2, z3, z4, z5, z6, z7, z8, -⟩ := HD.out
    try dsimp only at z0 z1 z2 z3 z4 z5 z6 z7 z8
    have he := HEQ.out
    have hA : Ext v3 (v3.alloc (.cells #[.int .i64 c, .int .i64 n, .int .i64 s, .int .i64 1, .int .i64 t, .slice ao ch.length cap, .int .i64 0, .int .i64 0, .int .i64 y] 26)) := (Ext.refl _).alloc _
    have hB : BoxQ (v3.alloc (.cells #[.int .i64 c, .int .i64 n, .int .i64 s, .int .i64 1, .int .i64 t, .slice ao ch.length cap, .int .i64 0, .int .i64 0, .int .i64 y] 26)) v3.heap.size ⟨c, n, s, 1, t, ch, 0, 0, y⟩ ao cap := BoxQ.new _ ⟨c, n, s, 1, t, ch, 0, 0, y⟩ ao cap _ _ rfl
    obtain ⟨a0, a1, a2, a3, a4, a5, a6, a7, a8, -⟩ := HD.out.ext ((Ext.refl v3).alloc (.cells #[.int .i64 c, .int .i64 n, .int .i64 s, .int .i64 1, .int .i64 t, .slice ao ch.length cap, .int .i64 0, .int .i64 0, .int .i64 y] 26))
    try dsimp only at a0 a1 a2 a3 a4 a5 a6 a7 a8
    have ne1 : ¬ w.heap.size = v3.heap.size := by have := HD.out.lt; omega
    have ne2 : ¬ v3.heap.size = w.heap.size := by have := HD.out.lt; omega
    obtain ⟨f0, f1, f2, f3, f4, f5, f6, f7, f8, -⟩ := HD.out.ext hA
    try dsimp only at f0 f1 f2 f3 f4 f5 f6 f7 f8
    go_wp2_with fail
    clear z0 z1 z2 z3 z4 z5 z6 z7 z8 f0 f1 f2 f3 f4 f5 f6 f7 f8 a0 a1 a2 a3 a4 a5 a6 a7 a8 he ne1 ne2
    generalize (v3.alloc (.cells #[.int .i64 c, .int .i64 n, .int .i64 s, .int .i64 1, .int .i64 t, .slice ao ch.length cap, .int .i64 0, .int .i64 0, .int .i64 y] 26)) = x3 at *
    have HD := Lib.hid (HD.out.ext hA)
    have HR := Lib.hid (HR.out.ext hA)
    have HK := Lib.hid (HK.out.ext hA)
    have HX := Lib.hid (HX.out.trans hA)
    have HDX := Lib.hid hB
    clear hA hB
    refine (ck_as (r := ⟨c, n, s, 1, t, ch, 0, 0, y⟩) HXC.out HR.out HL.out HK.out).mono ?_
    rintro e v4 ⟨rfl, hE⟩
    have HD := Lib.hid (HD.out.ext hE)
    have HR := Lib.hid (HR.out.ext hE)
    have HK := Lib.hid (HK.out.ext hE)
    have HDX := Lib.hid (HDX.out.ext hE)
    have HX := Lib.hid (HX.out.trans hE)
    clear hE
    obtain ⟨z0, z1, z2, z3, z4, z5, z6, z7, z8, -⟩ := HD.out
    try dsimp only at z0 z1 z2 z3 z4 z5 z6 z7 z8
    have hA : Ext v4 (v4.alloc (.cells #[.int .i64 c, .int .i64 n, .int .i64 s, .int .i64 1, .int .i64 t, .slice ao ch.length cap, .int .i64 0, .int .i64 0, .int .i64 y] 26)) := (Ext.refl _).alloc _
    have hB : BoxQ (v4.alloc (.cells #[.int .i64 c, .int .i64 n, .int .i64 s, .int .i64 1, .int .i64 t, .slice ao ch.length cap, .int .i64 0, .int .i64 0, .int .i64 y] 26)) v4.heap.size ⟨c, n, s, 1, t, ch, 0, 0, y⟩ ao cap := BoxQ.new _ ⟨c, n, s, 1, t, ch, 0, 0, y⟩ ao cap _ _ rfl
    go_wp2_with fail
    clear z0 z1 z2 z3 z4 z5 z6 z7 z8
    generalize (v4.alloc (.cells #[.int .i64 c, .int .i64 n, .int .i64 s, .int .i64 1, .int .i64 t, .slice ao ch.length cap, .int .i64 0, .int .i64 0, .int .i64 y] 26)) = x4 at *
    have HD := Lib.hid (HD.out.ext hA)
    have HR := Lib.hid (HR.out.ext hA)
    have HK := Lib.hid (HK.out.ext hA)
    have HDX := Lib.hid (HDX.out.ext hA)
    have HX := Lib.hid (HX.out.trans hA)
    have HDY := Lib.hid hB
    clear hA hB
    refine (ck_as (r := ⟨c, n, s, 1, t, ch, 0, 0, y⟩) HY.out HR.out HL.out HK.out).mono ?_
    rintro e v5 ⟨rfl, hE⟩
    have HD := Lib.hid (HD.out.ext hE)
    have HR := Lib.hid (HR.out.ext hE)
    have HK := Lib.hid (HK.out.ext hE)
    have HDX := Lib.hid (HDX.out.ext hE)
    have HDY := Lib.hid (HDY.out.ext hE)
    have HX := Lib.hid (HX.out.trans hE)
    clear hE
    obtain ⟨z0, z1, z2, z3, z4, z5, z6, z7, z8, -⟩ := HDY.out
    try dsimp only at z0 z1 z2 z3 z4 z5 z6 z7 z8
    go_wp2_with fail
    clear z0 z1 z2 z3 z4 z5 z6 z7 z8
    refine (ck_as (r := ⟨c, n, s, 1, t, ch, 0, 0, y⟩) HY.out HR.out HL.out HK.out).mono ?_
    rintro e v6 ⟨rfl, hE⟩
    have HD := Lib.hid (HD.out.ext hE)
    have HR := Lib.hid (HR.out.ext hE)
    have HK := Lib.hid (HK.out.ext hE)
    have HDX := Lib.hid (HDX.out.ext hE)
    have HDY := Lib.hid (HDY.out.ext hE)
    have HX := Lib.hid (HX.out.trans hE)
    clear hE
    obtain ⟨z0, z1, z2, z3, z4, z5, z6, z7, z8, -⟩ := HD.out
    try dsimp only at z0 z1 z2 z3 z4 z5 z6 z7 z8
    have hA : Ext v6 (v6.alloc (.cells #[.int .i64 c, .int .i64 n, .int .i64 s, .int .i64 1, .int .i64 t, .slice none 0 0, .int .i64 0, .int .i64 0, .int .i64 y] 26)) := (Ext.refl _).alloc _
    have hB : BoxQ (v6.alloc (.cells #[.int .i64 c, .int .i64 n, .int .i64 s, .int .i64 1, .int .i64 t, .slice none 0 0, .int .i64 0, .int .i64 0, .int .i64 y] 26)) v6.heap.size ⟨c, n, s, 1, t, [], 0, 0, y⟩ none 0 := BoxQ.new _ ⟨c, n, s, 1, t, [], 0, 0, y⟩ none 0 _ _ rfl
    go_wp2_with fail
    clear z0 z1 z2 z3 z4 z5 z6 z7 z8
    generalize (v6.alloc (.cells #[.int .i64 c, .int .i64 n, .int .i64 s, .int .i64 1, .int .i64 t, .slice none 0 0, .int .i64 0, .int .i64 0, .int .i64 y] 26)) = x6 at *
    have HD := Lib.hid (HD.out.ext hA)
    have HR := Lib.hid (HR.out.ext hA)
    have HK := Lib.hid (HK.out.ext hA)
    have HDX := Lib.hid (HDX.out.ext hA)
    have HDY := Lib.hid (HDY.out.ext hA)
    have HX := Lib.hid (HX.out.trans hA)
    have HDZ := Lib.hid hB
    clear hA hB
    obtain ⟨z0, z1, z2, z3, z4, z5, z6, z7, z8, -⟩ := HD.out
    try dsimp only at z0 z1 z2 z3 z4 z5 z6 z7 z8
    obtain ⟨f0, f1, f2, f3, f4, f5, f6, f7, f8, -⟩ := HDZ.out
    try dsimp only at f0 f1 f2 f3 f4 f5 f6 f7 f8
    have gz0 := grow_cell z0
    have gz1 := grow_cell z1
    have gz2 := grow_cell z2
    have gz3 := grow_cell z3
    have gz4 := grow_cell z4
    have gz5 := grow_cell z5
    have gz6 := grow_cell z6
    have gz7 := grow_cell z7
    have gz8 := grow_cell z8
    have gf0 := grow_cell f0
    have gf1 := grow_cell f1
    have gf2 := grow_cell f2
    have gf3 := grow_cell f3
    have gf4 := grow_cell f4
    have gf5 := grow_cell f5
    have gf6 := grow_cell f6
    have gf7 := grow_cell f7
    have gf8 := grow_cell f8
    refine wp_region_rel_all (fun i => if i = 1 then some (spV (.int .i64 290)) else none) (by kernel_rfl) (by kernel_rfl) ?_
    repeat (first
      | (refine wpRel_quick ?_ ?_ ?_ ?_
         · rfl
         · rfl
         · first | exact noEnter rfl | (intro f args W W'; go_simp)
         intro K hK
         go_big_quiet_op
         go_big_quiet_on)
      | (refine wpRel_skip ?_ ?_
         · rfl
         simp only [Act.put, List.setIfInBounds_toArray, List.set_cons_zero, List.set_cons_succ]))
    refine wpRel_rich _ rfl rfl (fun W hW => ?_) (fun v W3 hW3 hv => ?_)
    · have hc := ck_as (r := ⟨c, n, s, 1, t, [], 0, 0, y⟩) (w := W) HZ.out (SL.empty _ _) (Nat.zero_le _) (HK.out.ext ((Ext.refl x6).drew.trans hW.1))
      go_simp
      refine Calls.mono hc ?_
      rintro e w' ⟨rfl, h⟩
      exact ⟨_, rfl, rfl, by first | exact h | (subst h; exact Ext.refl _)⟩
    obtain rfl := hv
    clear hW3
    simp only [Act.put, List.setIfInBounds_toArray, List.set_cons_zero, List.set_cons_succ]
    repeat (first
      | (refine wpRel_quick ?_ ?_ ?_ ?_
         · rfl
         · rfl
         · first | exact noEnter rfl | (intro f args W W'; go_simp)
         intro K hK
         go_big_quiet_op
         go_big_quiet_on)
      | (refine wpRel_skip ?_ ?_
         · rfl
         simp only [Act.put, List.setIfInBounds_toArray, List.set_cons_zero, List.set_cons_succ]))
    refine wpRel_nil ?_
    intro W3 hW3
    have HE3 := Lib.hid ((Ext.refl x6).drew.trans hW3.1)
    clear hW3
    go_wp2_with fail
    go_ret
    exact ⟨rfl, HX.out.trans HE3.out⟩
  by_cases hk4 : kind = 4
  · subst hk4
    have hn := HN.out
    have hyz := HYZ.out
    have n4 : ¬ (((ch.length : Nat) : Int) < 1) := by omega
    have n5 : ¬ ((8 : Int) < ((ch.length : Nat) : Int)) := by omega
    have k1 : ¬ (y < 0) := by omega
    have HXC : Hid (checkQ ⟨c, n, s, 4, t, ch, 0, 0, y⟩ = 290) := Lib.hid ((vq1x HH.out HGD.out hn1 hn8 hy0 hy1 _).trans (if_neg (by omega)))
    clear hn hyz
    obtain ⟨z0, z1, z2, z3, z4, z5, z6, z7, z8, -⟩ := HD.out
    try dsimp only at z0 z1 z2 z3 z4 z5 z6 z7 z8
    have he := HEQ.out
    have hA : Ext v3 (v3.alloc (.cells #[.int .i64 c, .int .i64 n, .int .i64 s, .int .i64 4, .int .i64 t, .slice ao ch.length cap, .int .i64 0, .int .i64 0, .int .i64 y] 26)) := (Ext.refl _).alloc _
    have hB : BoxQ (v3.alloc (.cells #[.int .i64 c, .int .i64 n, .int .i64 s, .int .i64 4, .int .i64 t, .slice ao ch.length cap, .int .i64 0, .int .i64 0, .int .i64 y] 26)) v3.heap.size ⟨c, n, s, 4, t, ch, 0, 0, y⟩ ao cap := BoxQ.new _ ⟨c, n, s, 4, t, ch, 0, 0, y⟩ ao cap _ _ rfl
    obtain ⟨a0, a1, a2, a3, a4, a5, a6, a7, a8, -⟩ := HD.out.ext ((Ext.refl v3).alloc (.cells #[.int .i64 c, .int .i64 n, .int .i64 s, .int .i64 1, .int .i64 t, .slice ao ch.length cap, .int .i64 0, .int .i64 0, .int .i64 y] 26))
    try dsimp only at a0 a1 a2 a3 a4 a5 a6 a7 a8
    have ne1 : ¬ w.heap.size = v3.heap.size := by have := HD.out.lt; omega
    have ne2 : ¬ v3.heap.size = w.heap.size := by have := HD.out.lt; omega
    obtain ⟨f0, f1, f2, f3, f4, f5, f6, f7, f8, -⟩ := HD.out.ext hA
    try dsimp only at f0 f1 f2 f3 f4 f5 f6 f7 f8
    go_wp2_with fail
    clear z0 z1 z2 z3 z4 z5 z6 z7 z8 f0 f1 f2 f3 f4 f5 f6 f7 f8 a0 a1 a2 a3 a4 a5 a6 a7 a8 he ne1 ne2
    generalize (v3.alloc (.cells #[.int .i64 c, .int .i64 n, .int .i64 s, .int .i64 4, .int .i64 t, .slice ao ch.length cap, .int .i64 0, .int .i64 0, .int .i64 y] 26)) = x3 at *
    have HD := Lib.hid (HD.out.ext hA)
    have HR := Lib.hid (HR.out.ext hA)
    have HK := Lib.hid (HK.out.ext hA)
    have HX := Lib.hid (HX.out.trans hA)
    have HDX := Lib.hid hB
    clear hA hB
    refine (ck_as (r := ⟨c, n, s, 4, t, ch, 0, 0, y⟩) HXC.out HR.out HL.out HK.out).mono ?_
    rintro e v4 ⟨rfl, hE⟩
    have HD := Lib.hid (HD.out.ext hE)
    have HR := Lib.hid (HR.out.ext hE)
    have HK := Lib.hid (HK.out.ext hE)
    have HDX := Lib.hid (HDX.out.ext hE)
    have HX := Lib.hid (HX.out.trans hE)
    clear hE
    obtain ⟨z0, z1, z2, z3, z4, z5, z6, z7, z8, -⟩ := HD.out
    try dsimp only at z0 z1 z2 z3 z4 z5 z6 z7 z8
    have hA : Ext v4 (v4.alloc (.cells #[.int .i64 c, .int .i64 n, .int .i64 s, .int .i64 1, .int .i64 t, .slice ao ch.length cap, .int .i64 0, .int .i64 0, .int .i64 y] 26)) := (Ext.refl _).alloc _
    have hB : BoxQ (v4.alloc (.cells #[.int .i64 c, .int .i64 n, .int .i64 s, .int .i64 1, .int .i64 t, .slice ao ch.length cap, .int .i64 0, .int .i64 0, .int .i64 y] 26)) v4.heap.size ⟨c, n, s, 1, t, ch, 0, 0, y⟩ ao cap := BoxQ.new _ ⟨c, n, s, 1, t, ch, 0, 0, y⟩ ao cap _ _ rfl
    go_wp2_with fail
    clear z0 z1 z2 z3 z4 z5 z6 z7 z8
    generalize (v4.alloc (.cells #[.int .i64 c, .int .i64 n, .int .i64 s, .int .i64 1, .int .i64 t, .slice ao ch.length cap, .int .i64 0, .int .i64 0, .int .i64 y] 26)) = x4 at *
    have HD := Lib.hid (HD.out.ext hA)
    have HR := Lib.hid (HR.out.ext hA)
    have HK := Lib.hid (HK.out.ext hA)
    have HDX := Lib.hid (HDX.out.ext hA)
    have HX := Lib.hid (HX.out.trans hA)
    have HDY := Lib.hid hB
    clear hA hB
    refine (ck_as (r := ⟨c, n, s, 1, t, ch, 0, 0, y⟩) HY.out HR.out HL.out HK.out).mono ?_
    rintro e v5 ⟨rfl, hE⟩
    have HD := Lib.hid (HD.out.ext hE)
    have HR := Lib.hid (HR.out.ext hE)
    have HK := Lib.hid (HK.out.ext hE)
    have HDX := Lib.hid (HDX.out.ext hE)
    have HDY := Lib.hid (HDY.out.ext hE)
    have HX := Lib.hid (HX.out.trans hE)
    clear hE
    obtain ⟨z0, z1, z2, z3, z4, z5, z6, z7, z8, -⟩ := HDY.out
    try dsimp only at z0 z1 z2 z3 z4 z5 z6 z7 z8
    go_wp2_with fail
    clear z0 z1 z2 z3 z4 z5 z6 z7 z8
    refine (ck_as (r := ⟨c, n, s, 1, t, ch, 0, 0, y⟩) HY.out HR.out HL.out HK.out).mono ?_
    rintro e v6 ⟨rfl, hE⟩
    have HD := Lib.hid (HD.out.ext hE)
    have HR := Lib.hid (HR.out.ext hE)
    have HK := Lib.hid (HK.out.ext hE)
    have HDX := Lib.hid (HDX.out.ext hE)
    have HDY := Lib.hid (HDY.out.ext hE)
    have HX := Lib.hid (HX.out.trans hE)
    clear hE
    obtain ⟨z0, z1, z2, z3, z4, z5, z6, z7, z8, -⟩ := HD.out
    try dsimp only at z0 z1 z2 z3 z4 z5 z6 z7 z8
    have hA : Ext v6 (v6.alloc (.cells #[.int .i64 c, .int .i64 n, .int .i64 s, .int .i64 1, .int .i64 t, .slice none 0 0, .int .i64 0, .int .i64 0, .int .i64 y] 26)) := (Ext.refl _).alloc _
    have hB : BoxQ (v6.alloc (.cells #[.int .i64 c, .int .i64 n, .int .i64 s, .int .i64 1, .int .i64 t, .slice none 0 0, .int .i64 0, .int .i64 0, .int .i64 y] 26)) v6.heap.size ⟨c, n, s, 1, t, [], 0, 0, y⟩ none 0 := BoxQ.new _ ⟨c, n, s, 1, t, [], 0, 0, y⟩ none 0 _ _ rfl
    go_wp2_with fail
    clear z0 z1 z2 z3 z4 z5 z6 z7 z8
    generalize (v6.alloc (.cells #[.int .i64 c, .int .i64 n, .int .i64 s, .int .i64 1, .int .i64 t, .slice none 0 0, .int .i64 0, .int .i64 0, .int .i64 y] 26)) = x6 at *
    have HD := Lib.hid (HD.out.ext hA)
    have HR := Lib.hid (HR.out.ext hA)
    have HK := Lib.hid (HK.out.ext hA)
    have HDX := Lib.hid (HDX.out.ext hA)
    have HDY := Lib.hid (HDY.out.ext hA)
    have HX := Lib.hid (HX.out.trans hA)
    have HDZ := Lib.hid hB
    clear hA hB
    obtain ⟨z0, z1, z2, z3, z4, z5, z6, z7, z8, -⟩ := HD.out
    try dsimp only at z0 z1 z2 z3 z4 z5 z6 z7 z8
    obtain ⟨f0, f1, f2, f3, f4, f5, f6, f7, f8, -⟩ := HDZ.out
    try dsimp only at f0 f1 f2 f3 f4 f5 f6 f7 f8
    have gz0 := grow_cell z0
    have gz1 := grow_cell z1
    have gz2 := grow_cell z2
    have gz3 := grow_cell z3
    have gz4 := grow_cell z4
    have gz5 := grow_cell z5
    have gz6 := grow_cell z6
    have gz7 := grow_cell z7
    have gz8 := grow_cell z8
    have gf0 := grow_cell f0
    have gf1 := grow_cell f1
    have gf2 := grow_cell f2
    have gf3 := grow_cell f3
    have gf4 := grow_cell f4
    have gf5 := grow_cell f5
    have gf6 := grow_cell f6
    have gf7 := grow_cell f7
    have gf8 := grow_cell f8
    refine wp_region_rel_all (fun i => if i = 1 then some (spV (.int .i64 290)) else none) (by kernel_rfl) (by kernel_rfl) ?_
    repeat (first
      | (refine wpRel_quick ?_ ?_ ?_ ?_
         · rfl
         · rfl
         · first | exact noEnter rfl | (intro f args W W'; go_simp)
         intro K hK
         go_big_quiet_op
         go_big_quiet_on)
      | (refine wpRel_skip ?_ ?_
         · rfl
         simp only [Act.put, List.setIfInBounds_toArray, List.set_cons_zero, List.set_cons_succ]))
    refine wpRel_rich _ rfl rfl (fun W hW => ?_) (fun v W3 hW3 hv => ?_)
    · have hc := ck_as (r := ⟨c, n, s, 1, t, [], 0, 0, y⟩) (w := W) HZ.out (SL.empty _ _) (Nat.zero_le _) (HK.out.ext ((Ext.refl x6).drew.trans hW.1))
      go_simp
      refine Calls.mono hc ?_
      rintro e w' ⟨rfl, h⟩
      exact ⟨_, rfl, rfl, by first | exact h | (subst h; exact Ext.refl _)⟩
    obtain rfl := hv
    clear hW3
    simp only [Act.put, List.setIfInBounds_toArray, List.set_cons_zero, List.set_cons_succ]
    repeat (first
      | (refine wpRel_quick ?_ ?_ ?_ ?_
         · rfl
         · rfl
         · first | exact noEnter rfl | (intro f args W W'; go_simp)
         intro K hK
         go_big_quiet_op
         go_big_quiet_on)
      | (refine wpRel_skip ?_ ?_
         · rfl
         simp only [Act.put, List.setIfInBounds_toArray, List.set_cons_zero, List.set_cons_succ]))
    refine wpRel_nil ?_
    intro W3 hW3
    have HE3 := Lib.hid ((Ext.refl x6).drew.trans hW3.1)
    clear hW3
    go_wp2_with fail
    go_ret
    exact ⟨rfl, HX.out.trans HE3.out⟩
  by_cases hk5 : kind = 5
  · subst hk5
    have hn := HN.out
    have hyz := HYZ.out
    have n4 : ¬ (((ch.length : Nat) : Int) < 1) := by omega
    have n5 : ¬ ((8 : Int) < ((ch.length : Nat) : Int)) := by omega
    have k1 : ¬ (y < 0) := by omega
    have HXC : Hid (checkQ ⟨c, n, s, 5, t, ch, 0, 0, y⟩ = 290) := Lib.hid ((vq1x HH.out HGD.out hn1 hn8 hy0 hy1 _).trans (if_neg (by omega)))
    clear hn hyz
    obtain ⟨z0, z1, z2, z3, z4, z5, z6, z7, z8, -⟩ := HD.out
    try dsimp only at z0 z1 z2 z3 z4 z5 z6 z7 z8
    have he := HEQ.out
    have hA : Ext v3 (v3.alloc (.cells #[.int .i64 c, .int .i64 n, .int .i64 s, .int .i64 5, .int .i64 t, .slice ao ch.length cap, .int .i64 0, .int .i64 0, .int .i64 y] 26)) := (Ext.refl _).alloc _
    have hB : BoxQ (v3.alloc (.cells #[.int .i64 c, .int .i64 n, .int .i64 s, .int .i64 5, .int .i64 t, .slice ao ch.length cap, .int .i64 0, .int .i64 0, .int .i64 y] 26)) v3.heap.size ⟨c, n, s, 5, t, ch, 0, 0, y⟩ ao cap := BoxQ.new _ ⟨c, n, s, 5, t, ch, 0, 0, y⟩ ao cap _ _ rfl
    obtain ⟨a0, a1, a2, a3, a4, a5, a6, a7, a8, -⟩ := HD.out.ext ((Ext.refl v3).alloc (.cells #[.int .i64 c, .int .i64 n, .int .i64 s, .int .i64 1, .int .i64 t, .slice ao ch.length cap, .int .i64 0, .int .i64 0, .int .i64 y] 26))
    try dsimp only at a0 a1 a2 a3 a4 a5 a6 a7 a8
    have ne1 : ¬ w.heap.size = v3.heap.size := by have := HD.out.lt; omega
    have ne2 : ¬ v3.heap.size = w.heap.size := by have := HD.out.lt; omega
    obtain ⟨f0, f1, f2, f3, f4, f5, f6, f7, f8, -⟩ := HD.out.ext hA
    try dsimp only at f0 f1 f2 f3 f4 f5 f6 f7 f8
    go_wp2_with fail
    clear z0 z1 z2 z3 z4 z5 z6 z7 z8 f0 f1 f2 f3 f4 f5 f6 f7 f8 a0 a1 a2 a3 a4 a5 a6 a7 a8 he ne1 ne2
    generalize (v3.alloc (.cells #[.int .i64 c, .int .i64 n, .int .i64 s, .int .i64 5, .int .i64 t, .slice ao ch.length cap, .int .i64 0, .int .i64 0, .int .i64 y] 26)) = x3 at *
    have HD := Lib.hid (HD.out.ext hA)
    have HR := Lib.hid (HR.out.ext hA)
    have HK := Lib.hid (HK.out.ext hA)
    have HX := Lib.hid (HX.out.trans hA)
    have HDX := Lib.hid hB
    clear hA hB
    refine (ck_as (r := ⟨c, n, s, 5, t, ch, 0, 0, y⟩) HXC.out HR.out HL.out HK.out).mono ?_
    rintro e v4 ⟨rfl, hE⟩
    have HD := Lib.hid (HD.out.ext hE)
    have HR := Lib.hid (HR.out.ext hE)
    have HK := Lib.hid (HK.out.ext hE)
    have HDX := Lib.hid (HDX.out.ext hE)
    have HX := Lib.hid (HX.out.trans hE)
    clear hE
    obtain ⟨z0, z1, z2, z3, z4, z5, z6, z7, z8, -⟩ := HD.out
    try dsimp only at z0 z1 z2 z3 z4 z5 z6 z7 z8
    have hA : Ext v4 (v4.alloc (.cells #[.int .i64 c, .int .i64 n, .int .i64 s, .int .i64 1, .int .i64 t, .slice ao ch.length cap, .int .i64 0, .int .i64 0, .int .i64 y] 26)) := (Ext.refl _).alloc _
    have hB : BoxQ (v4.alloc (.cells #[.int .i64 c, .int .i64 n, .int .i64 s, .int .i64 1, .int .i64 t, .slice ao ch.length cap, .int .i64 0, .int .i64 0, .int .i64 y] 26)) v4.heap.size ⟨c, n, s, 1, t, ch, 0, 0, y⟩ ao cap := BoxQ.new _ ⟨c, n, s, 1, t, ch, 0, 0, y⟩ ao cap _ _ rfl
    go_wp2_with fail
    clear z0 z1 z2 z3 z4 z5 z6 z7 z8
    generalize (v4.alloc (.cells #[.int .i64 c, .int .i64 n, .int .i64 s, .int .i64 1, .int .i64 t, .slice ao ch.length cap, .int .i64 0, .int .i64 0, .int .i64 y] 26)) = x4 at *
    have HD := Lib.hid (HD.out.ext hA)
    have HR := Lib.hid (HR.out.ext hA)
    have HK := Lib.hid (HK.out.ext hA)
    have HDX := Lib.hid (HDX.out.ext hA)
    have HX := Lib.hid (HX.out.trans hA)
    have HDY := Lib.hid hB
    clear hA hB
    refine (ck_as (r := ⟨c, n, s, 1, t, ch, 0, 0, y⟩) HY.out HR.out HL.out HK.out).mono ?_
    rintro e v5 ⟨rfl, hE⟩
    have HD := Lib.hid (HD.out.ext hE)
    have HR := Lib.hid (HR.out.ext hE)
    have HK := Lib.hid (HK.out.ext hE)
    have HDX := Lib.hid (HDX.out.ext hE)
    have HDY := Lib.hid (HDY.out.ext hE)
    have HX := Lib.hid (HX.out.trans hE)
    clear hE
    obtain ⟨z0, z1, z2, z3, z4, z5, z6, z7, z8, -⟩ := HDY.out
    try dsimp only at z0 z1 z2 z3 z4 z5 z6 z7 z8
    go_wp2_with fail
    clear z0 z1 z2 z3 z4 z5 z6 z7 z8
    refine (ck_as (r := ⟨c, n, s, 1, t, ch, 0, 0, y⟩) HY.out HR.out HL.out HK.out).mono ?_
    rintro e v6 ⟨rfl, hE⟩
    have HD := Lib.hid (HD.out.ext hE)
    have HR := Lib.hid (HR.out.ext hE)
    have HK := Lib.hid (HK.out.ext hE)
    have HDX := Lib.hid (HDX.out.ext hE)
    have HDY := Lib.hid (HDY.out.ext hE)
    have HX := Lib.hid (HX.out.trans hE)
    clear hE
    obtain ⟨z0, z1, z2, z3, z4, z5, z6, z7, z8, -⟩ := HD.out
    try dsimp only at z0 z1 z2 z3 z4 z5 z6 z7 z8
    have hA : Ext v6 (v6.alloc (.cells #[.int .i64 c, .int .i64 n, .int .i64 s, .int .i64 1, .int .i64 t, .slice none 0 0, .int .i64 0, .int .i64 0, .int .i64 y] 26)) := (Ext.refl _).alloc _
    have hB : BoxQ (v6.alloc (.cells #[.int .i64 c, .int .i64 n, .int .i64 s, .int .i64 1, .int .i64 t, .slice none 0 0, .int .i64 0, .int .i64 0, .int .i64 y] 26)) v6.heap.size ⟨c, n, s, 1, t, [], 0, 0, y⟩ none 0 := BoxQ.new _ ⟨c, n, s, 1, t, [], 0, 0, y⟩ none 0 _ _ rfl
    go_wp2_with fail
    clear z0 z1 z2 z3 z4 z5 z6 z7 z8
    generalize (v6.alloc (.cells #[.int .i64 c, .int .i64 n, .int .i64 s, .int .i64 1, .int .i64 t, .slice none 0 0, .int .i64 0, .int .i64 0, .int .i64 y] 26)) = x6 at *
    have HD := Lib.hid (HD.out.ext hA)
    have HR := Lib.hid (HR.out.ext hA)
    have HK := Lib.hid (HK.out.ext hA)
    have HDX := Lib.hid (HDX.out.ext hA)
    have HDY := Lib.hid (HDY.out.ext hA)
    have HX := Lib.hid (HX.out.trans hA)
    have HDZ := Lib.hid hB
    clear hA hB
    obtain ⟨z0, z1, z2, z3, z4, z5, z6, z7, z8, -⟩ := HD.out
    try dsimp only at z0 z1 z2 z3 z4 z5 z6 z7 z8
    obtain ⟨f0, f1, f2, f3, f4, f5, f6, f7, f8, -⟩ := HDZ.out
    try dsimp only at f0 f1 f2 f3 f4 f5 f6 f7 f8
    have gz0 := grow_cell z0
    have gz1 := grow_cell z1
    have gz2 := grow_cell z2
    have gz3 := grow_cell z3
    have gz4 := grow_cell z4
    have gz5 := grow_cell z5
    have gz6 := grow_cell z6
    have gz7 := grow_cell z7
    have gz8 := grow_cell z8
    have gf0 := grow_cell f0
    have gf1 := grow_cell f1
    have gf2 := grow_cell f2
    have gf3 := grow_cell f3
    have gf4 := grow_cell f4
    have gf5 := grow_cell f5
    have gf6 := grow_cell f6
    have gf7 := grow_cell f7
    have gf8 := grow_cell f8
    refine wp_region_rel_all (fun i => if i = 1 then some (spV (.int .i64 290)) else none) (by kernel_rfl) (by kernel_rfl) ?_
    repeat (first
      | (refine wpRel_quick ?_ ?_ ?_ ?_
         · rfl
         · rfl
         · first | exact noEnter rfl | (intro f args W W'; go_simp)
         intro K hK
         go_big_quiet_op
         go_big_quiet_on)
      | (refine wpRel_skip ?_ ?_
         · rfl
         simp only [Act.put, List.setIfInBounds_toArray, List.set_cons_zero, List.set_cons_succ]))
    refine wpRel_rich _ rfl rfl (fun W hW => ?_) (fun v W3 hW3 hv => ?_)
    · have hc := ck_as (r := ⟨c, n, s, 1, t, [], 0, 0, y⟩) (w := W) HZ.out (SL.empty _ _) (Nat.zero_le _) (HK.out.ext ((Ext.refl x6).drew.trans hW.1))
      go_simp
      refine Calls.mono hc ?_
      rintro e w' ⟨rfl, h⟩
      exact ⟨_, rfl, rfl, by first | exact h | (subst h; exact Ext.refl _)⟩
    obtain rfl := hv
    clear hW3
    simp only [Act.put, List.setIfInBounds_toArray, List.set_cons_zero, List.set_cons_succ]
    repeat (first
      | (refine wpRel_quick ?_ ?_ ?_ ?_
         · rfl
         · rfl
         · first | exact noEnter rfl | (intro f args W W'; go_simp)
         intro K hK
         go_big_quiet_op
         go_big_quiet_on)
      | (refine wpRel_skip ?_ ?_
         · rfl
         simp only [Act.put, List.setIfInBounds_toArray, List.set_cons_zero, List.set_cons_succ]))
    refine wpRel_nil ?_
    intro W3 hW3
    have HE3 := Lib.hid ((Ext.refl x6).drew.trans hW3.1)
    clear hW3
    go_wp2_with fail
    go_ret
    exact ⟨rfl, HX.out.trans HE3.out⟩
  have hn := HN.out
  have hyz := HYZ.out
  have e1 : (kind == 1) = false := by simpa using hk1
  have e4 : (kind == 4) = false := by simpa using hk4
  have e5 : (kind == 5) = false := by simpa using hk5
  have n4 : ¬ (((ch.length : Nat) : Int) < 1) := by omega
  have n5 : ¬ ((8 : Int) < ((ch.length : Nat) : Int)) := by omega
  have k1 : ¬ (y < 0) := by omega
  have HXC : Hid (checkQ ⟨c, n, s, kind, t, ch, 0, 0, y⟩ = 290) := Lib.hid ((vq1x HH.out HGD.out hn1 hn8 hy0 hy1 _).trans (if_neg (by omega)))
  clear hn hyz
  obtain ⟨z0, z1, z2, z3, z4, z5, z6, z7, z8, -⟩ := HD.out
  try dsimp only at z0 z1 z2 z3 z4 z5 z6 z7 z8
  have he := HEQ.out
  have hA : Ext v3 (v3.alloc (.cells #[.int .i64 c, .int .i64 n, .int .i64 s, .int .i64 kind, .int .i64 t, .slice ao ch.length cap, .int .i64 0, .int .i64 0, .int .i64 y] 26)) := (Ext.refl _).alloc _
  have hB : BoxQ (v3.alloc (.cells #[.int .i64 c, .int .i64 n, .int .i64 s, .int .i64 kind, .int .i64 t, .slice ao ch.length cap, .int .i64 0, .int .i64 0, .int .i64 y] 26)) v3.heap.size ⟨c, n, s, kind, t, ch, 0, 0, y⟩ ao cap := BoxQ.new _ ⟨c, n, s, kind, t, ch, 0, 0, y⟩ ao cap _ _ rfl
  obtain ⟨a0, a1, a2, a3, a4, a5, a6, a7, a8, -⟩ := HD.out.ext ((Ext.refl v3).alloc (.cells #[.int .i64 c, .int .i64 n, .int .i64 s, .int .i64 1, .int .i64 t, .slice ao ch.length cap, .int .i64 0, .int .i64 0, .int .i64 y] 26))
  try dsimp only at a0 a1 a2 a3 a4 a5 a6 a7 a8
  have ne1 : ¬ w.heap.size = v3.heap.size := by have := HD.out.lt; omega
  have ne2 : ¬ v3.heap.size = w.heap.size := by have := HD.out.lt; omega
  obtain ⟨f0, f1, f2, f3, f4, f5, f6, f7, f8, -⟩ := HD.out.ext hA
  try dsimp only at f0 f1 f2 f3 f4 f5 f6 f7 f8
  go_wp2_with fail
  clear z0 z1 z2 z3 z4 z5 z6 z7 z8 f0 f1 f2 f3 f4 f5 f6 f7 f8 a0 a1 a2 a3 a4 a5 a6 a7 a8 he ne1 ne2
  generalize (v3.alloc (.cells #[.int .i64 c, .int .i64 n, .int .i64 s, .int .i64 kind, .int .i64 t, .slice ao ch.length cap, .int .i64 0, .int .i64 0, .int .i64 y] 26)) = x3 at *
  have HD := Lib.hid (HD.out.ext hA)
  have HR := Lib.hid (HR.out.ext hA)
  have HK := Lib.hid (HK.out.ext hA)
  have HX := Lib.hid (HX.out.trans hA)
  have HDX := Lib.hid hB
  clear hA hB
  refine (ck_as (r := ⟨c, n, s, kind, t, ch, 0, 0, y⟩) HXC.out HR.out HL.out HK.out).mono ?_
  rintro e v4 ⟨rfl, hE⟩
  have HD := Lib.hid (HD.out.ext hE)
  have HR := Lib.hid (HR.out.ext hE)
  have HK := Lib.hid (HK.out.ext hE)
  have HDX := Lib.hid (HDX.out.ext hE)
  have HX := Lib.hid (HX.out.trans hE)
  clear hE
  obtain ⟨z0, z1, z2, z3, z4, z5, z6, z7, z8, -⟩ := HD.out
  try dsimp only at z0 z1 z2 z3 z4 z5 z6 z7 z8
  have hA : Ext v4 (v4.alloc (.cells #[.int .i64 c, .int .i64 n, .int .i64 s, .int .i64 1, .int .i64 t, .slice ao ch.length cap, .int .i64 0, .int .i64 0, .int .i64 y] 26)) := (Ext.refl _).alloc _
  have hB : BoxQ (v4.alloc (.cells #[.int .i64 c, .int .i64 n, .int .i64 s, .int .i64 1, .int .i64 t, .slice ao ch.length cap, .int .i64 0, .int .i64 0, .int .i64 y] 26)) v4.heap.size ⟨c, n, s, 1, t, ch, 0, 0, y⟩ ao cap := BoxQ.new _ ⟨c, n, s, 1, t, ch, 0, 0, y⟩ ao cap _ _ rfl
  go_wp2_with fail
  clear z0 z1 z2 z3 z4 z5 z6 z7 z8
  generalize (v4.alloc (.cells #[.int .i64 c, .int .i64 n, .int .i64 s, .int .i64 1, .int .i64 t, .slice ao ch.length cap, .int .i64 0, .int .i64 0, .int .i64 y] 26)) = x4 at *
  have HD := Lib.hid (HD.out.ext hA)
  have HR := Lib.hid (HR.out.ext hA)
  have HK := Lib.hid (HK.out.ext hA)
  have HDX := Lib.hid (HDX.out.ext hA)
  have HX := Lib.hid (HX.out.trans hA)
  have HDY := Lib.hid hB
  clear hA hB
  refine (ck_as (r := ⟨c, n, s, 1, t, ch, 0, 0, y⟩) HY.out HR.out HL.out HK.out).mono ?_
  rintro e v5 ⟨rfl, hE⟩
  have HD := Lib.hid (HD.out.ext hE)
  have HR := Lib.hid (HR.out.ext hE)
  have HK := Lib.hid (HK.out.ext hE)
  have HDX := Lib.hid (HDX.out.ext hE)
  have HDY := Lib.hid (HDY.out.ext hE)
  have HX := Lib.hid (HX.out.trans hE)
  clear hE
  obtain ⟨z0, z1, z2, z3, z4, z5, z6, z7, z8, -⟩ := HDY.out
  try dsimp only at z0 z1 z2 z3 z4 z5 z6 z7 z8
  go_wp2_with fail
  clear z0 z1 z2 z3 z4 z5 z6 z7 z8
  refine (ck_as (r := ⟨c, n, s, 1, t, ch, 0, 0, y⟩) HY.out HR.out HL.out HK.out).mono ?_
  rintro e v6 ⟨rfl, hE⟩
  have HD := Lib.hid (HD.out.ext hE)
  have HR := Lib.hid (HR.out.ext hE)
  have HK := Lib.hid (HK.out.ext hE)
  have HDX := Lib.hid (HDX.out.ext hE)
  have HDY := Lib.hid (HDY.out.ext hE)
  have HX := Lib.hid (HX.out.trans hE)
  clear hE
  obtain ⟨z0, z1, z2, z3, z4, z5, z6, z7, z8, -⟩ := HD.out
  try dsimp only at z0 z1 z2 z3 z4 z5 z6 z7 z8
  have hA : Ext v6 (v6.alloc (.cells #[.int .i64 c, .int .i64 n, .int .i64 s, .int .i64 1, .int .i64 t, .slice none 0 0, .int .i64 0, .int .i64 0, .int .i64 y] 26)) := (Ext.refl _).alloc _
  have hB : BoxQ (v6.alloc (.cells #[.int .i64 c, .int .i64 n, .int .i64 s, .int .i64 1, .int .i64 t, .slice none 0 0, .int .i64 0, .int .i64 0, .int .i64 y] 26)) v6.heap.size ⟨c, n, s, 1, t, [], 0, 0, y⟩ none 0 := BoxQ.new _ ⟨c, n, s, 1, t, [], 0, 0, y⟩ none 0 _ _ rfl
  go_wp2_with fail
  clear z0 z1 z2 z3 z4 z5 z6 z7 z8
  generalize (v6.alloc (.cells #[.int .i64 c, .int .i64 n, .int .i64 s, .int .i64 1, .int .i64 t, .slice none 0 0, .int .i64 0, .int .i64 0, .int .i64 y] 26)) = x6 at *
  have HD := Lib.hid (HD.out.ext hA)
  have HR := Lib.hid (HR.out.ext hA)
  have HK := Lib.hid (HK.out.ext hA)
  have HDX := Lib.hid (HDX.out.ext hA)
  have HDY := Lib.hid (HDY.out.ext hA)
  have HX := Lib.hid (HX.out.trans hA)
  have HDZ := Lib.hid hB
  clear hA hB
  obtain ⟨z0, z1, z2, z3, z4, z5, z6, z7, z8, -⟩ := HD.out
  try dsimp only at z0 z1 z2 z3 z4 z5 z6 z7 z8
  obtain ⟨f0, f1, f2, f3, f4, f5, f6, f7, f8, -⟩ := HDZ.out
  try dsimp only at f0 f1 f2 f3 f4 f5 f6 f7 f8
  have gz0 := grow_cell z0
  have gz1 := grow_cell z1
  have gz2 := grow_cell z2
  have gz3 := grow_cell z3
  have gz4 := grow_cell z4
  have gz5 := grow_cell z5
  have gz6 := grow_cell z6
  have gz7 := grow_cell z7
  have gz8 := grow_cell z8
  have gf0 := grow_cell f0
  have gf1 := grow_cell f1
  have gf2 := grow_cell f2
  have gf3 := grow_cell f3
  have gf4 := grow_cell f4
  have gf5 := grow_cell f5
  have gf6 := grow_cell f6
  have gf7 := grow_cell f7
  have gf8 := grow_cell f8
  refine wp_region_rel_all (fun i => if i = 1 then some (spV (.int .i64 290)) else none) (by kernel_rfl) (by kernel_rfl) ?_
  repeat (first
    | (refine wpRel_quick ?_ ?_ ?_ ?_
       · rfl
       · rfl
       · first | exact noEnter rfl | (intro f args W W'; go_simp)
       intro K hK
       go_big_quiet_op
       go_big_quiet_on)
    | (refine wpRel_skip ?_ ?_
       · rfl
       simp only [Act.put, List.setIfInBounds_toArray, List.set_cons_zero, List.set_cons_succ]))
  refine wpRel_rich _ rfl rfl (fun W hW => ?_) (fun v W3 hW3 hv => ?_)
  · have hc := ck_as (r := ⟨c, n, s, 1, t, [], 0, 0, y⟩) (w := W) HZ.out (SL.empty _ _) (Nat.zero_le _) (HK.out.ext ((Ext.refl x6).drew.trans hW.1))
    go_simp
    refine Calls.mono hc ?_
    rintro e w' ⟨rfl, h⟩
    exact ⟨_, rfl, rfl, by first | exact h | (subst h; exact Ext.refl _)⟩
  obtain rfl := hv
  clear hW3
  simp only [Act.put, List.setIfInBounds_toArray, List.set_cons_zero, List.set_cons_succ]
  repeat (first
    | (refine wpRel_quick ?_ ?_ ?_ ?_
       · rfl
       · rfl
       · first | exact noEnter rfl | (intro f args W W'; go_simp)
       intro K hK
       go_big_quiet_op
       go_big_quiet_on)
    | (refine wpRel_skip ?_ ?_
       · rfl
       simp only [Act.put, List.setIfInBounds_toArray, List.set_cons_zero, List.set_cons_succ]))
  refine wpRel_nil ?_
  intro W3 hW3
  have HE3 := Lib.hid ((Ext.refl x6).drew.trans hW3.1)
  clear hW3
  go_wp2_with fail
  go_ret
  exact ⟨rfl, HX.out.trans HE3.out⟩
set_option maxRecDepth 100000 in
set_option maxHeartbeats 12800000 in
theorem lawq_kinds1_00 (r : Rq) (ao : Option Addr) (cap : Nat) (kind : Int) (w : World) (hr : RepB w ao cap r.ch) (ht : r.ok) (hl : r.ch.length ≤ 20) (hv : validQ r = true) (hK : r.k = 1) (hyz : ¬ r.y = 0) (hn : ¬ r.ch.length = 1) (hk : Kinds w) : Calls Tryd.prog 8 #[.agg (r.cells ao cap).toArray, .int .i64 kind] w fun e w' => e = .returned (.bool true) ∧ Ext w w' := by
  obtain ⟨c, n, s, k, t, ch, g, h, y⟩ := r
  change k = 1 at hK
  subst hK
  dsimp only at hl
  obtain ⟨hh, hgd, -, -⟩ := headQ_any hv
  have hv0 := (vq hh hgd _ _ _ _).1 hv
  unfold needB at hv0
  rcases hv0 with ⟨-, hn1, hn8, rfl, rfl, hy0, hy1⟩ | ⟨h0, -⟩ | ⟨h0, -⟩ | ⟨h0, -⟩
  rotate_left
  · exact absurd h0 (by decide)
  · exact absurd h0 (by decide)
  · exact absurd h0 (by decide)
  change ¬ y = 0 at hyz
  change ¬ ch.length = 1 at hn
  have HYZ := Lib.hid hyz
  have HN := Lib.hid hn
  clear hyz hn
  show Calls Tryd.prog 8 #[.agg #[.int .i64 c, .int .i64 n, .int .i64 s, .int .i64 1, .int .i64 t, .slice ao ch.length cap, .int .i64 0, .int .i64 0, .int .i64 y], .int .i64 kind] w _
  have hX : Ext w (w.alloc (.cells #[.int .i64 c, .int .i64 n, .int .i64 s, .int .i64 1, .int .i64 t, .slice ao ch.length cap, .int .i64 0, .int .i64 0, .int .i64 y] 26)) := (Ext.refl w).alloc _
  have HD : Hid (BoxQ (w.alloc (.cells #[.int .i64 c, .int .i64 n, .int .i64 s, .int .i64 1, .int .i64 t, .slice ao ch.length cap, .int .i64 0, .int .i64 0, .int .i64 y] 26)) (w.heap.size) ⟨c, n, s, 1, t, ch, 0, 0, y⟩ ao cap) := Lib.hid (BoxQ.new w ⟨c, n, s, 1, t, ch, 0, 0, y⟩ ao cap 26 (w.heap.size) (by simp))
  have HR : Hid (RepB (w.alloc (.cells #[.int .i64 c, .int .i64 n, .int .i64 s, .int .i64 1, .int .i64 t, .slice ao ch.length cap, .int .i64 0, .int .i64 0, .int .i64 y] 26)) ao cap ch) := Lib.hid (RepB.ext hr hX)
  have HT := Lib.hid ht
  clear hr ht
  have HK := Lib.hid (hk.ext hX)
  have HX := Lib.hid hX
  clear hk hX
  go_enter Tryd.func8, Tryd.ntmps8
  go_wp2_with fail
  generalize (w.alloc (.cells #[.int .i64 c, .int .i64 n, .int .i64 s, .int .i64 1, .int .i64 t, .slice ao ch.length cap, .int .i64 0, .int .i64 0, .int .i64 y] 26)) = w0 at *
  have he := eqB 0 0 0 0
  have HEQ := Lib.hid he
  clear he
  have HH := Lib.hid hh
  have HGD := Lib.hid hgd
  have HC : Hid (checkQ ⟨c, n, s, 1, t, ch, 0, 0, y⟩ = 0) := Lib.hid (by unfold checkQ; rw [hv]; rfl)
  have hf := decide_eq_true hl
  have HL : Hid ((ch).length ≤ 1000000) := Lib.hid (by omega)
  have HY : Hid (checkQ ⟨c, n, s, 1, t, ch, 0, 0, y⟩ = 0) := HC
  have HZ : Hid (checkQ ⟨c, n, s, 1, t, [], 0, 0, y⟩ = 290) := Lib.hid (vqzx hh (by decide))
  clear hv hl hh hgd
  refine (saneQ_any _ HK.out).mono ?_
  rintro e v1 ⟨rfl, hE⟩
  have HD := Lib.hid (HD.out.ext hE)
  have HR := Lib.hid (HR.out.ext hE)
  have HK := Lib.hid (HK.out.ext hE)
  have HX := Lib.hid (HX.out.trans hE)
  clear hE
  obtain ⟨z0, z1, z2, z3, z4, z5, z6, z7, z8, -⟩ := HD.out
  try dsimp only at z0 z1 z2 z3 z4 z5 z6 z7 z8
  go_wp2_with fail
  clear z0 z1 z2 z3 z4 z5 z6 z7 z8
  refine (fw_as (r := ⟨c, n, s, 1, t, ch, 0, 0, y⟩) hf HR.out).mono ?_
  rintro e v2 ⟨rfl, hE⟩
  have HD := Lib.hid (HD.out.ext hE)
  have HR := Lib.hid (HR.out.ext hE)
  have HK := Lib.hid (HK.out.ext hE)
  have HX := Lib.hid (HX.out.trans hE)
  clear hE
  obtain ⟨z0, z1, z2, z3, z4, z5, z6, z7, z8, -⟩ := HD.out
  try dsimp only at z0 z1 z2 z3 z4 z5 z6 z7 z8
  go_wp2_with fail
  clear z0 z1 z2 z3 z4 z5 z6 z7 z8
  refine (ck_as (r := ⟨c, n, s, 1, t, ch, 0, 0, y⟩) HC.out HR.out HL.out HK.out).mono ?_
  rintro e v3 ⟨rfl, hE⟩
  have HD := Lib.hid (HD.out.ext hE)
  have HR := Lib.hid (HR.out.ext hE)
  have HK := Lib.hid (HK.out.ext hE)
  have HX := Lib.hid (HX.out.trans hE)
  clear hE
  have y1 : (y != 0) = true := by have := HYZ.out; simpa using this
  have y2 : (y == 0) = false := by have := HYZ.out; simpa using this
  have n1 : (((ch.length : Nat) : Int) == 1) = false := by have := HN.out; rw [beq_eq_false_iff_ne]; omega
  by_cases hk1 : kind = 1
  · subst hk1
    have hn := HN.out
    have hyz := HYZ.out
    have n4 : ¬ (((ch.length : Nat) : Int) < 1) := by omega
    have n5 : ¬ ((8 : Int) < ((ch.length : Nat) : Int)) := by omega
    have k1 : ¬ (y < 0) := by omega
    have HXC : Hid (checkQ ⟨c, n, s, 1, t, ch, 0, 0, y⟩ = 0) := Lib.hid ((vq1x HH.out HGD.out hn1 hn8 hy0 hy1 _).trans (if_pos (by omega)))
    clear hn hyz
    obtain ⟨z0, z1, z2, z3, z4, z5, z6, z7, z8, -⟩ := HD.out
    try dsimp only at z0 z1 z2 z3 z4 z5 z6 z7 z8
    have he := HEQ.out
    have hA : Ext v3 (v3.alloc (.cells #[.int .i64 c, .int .i64 n, .int .i64 s, .int .i64 1, .int .i64 t, .slice ao ch.length cap, .int .i64 0, .int .i64 0, .int .i64 y] 26)) := (Ext.refl _).alloc _
    have hB : BoxQ (v3.alloc (.cells #[.int .i64 c, .int .i64 n, .int .i64 s, .int .i64 1, .int .i64 t, .slice ao ch.length cap, .int .i64 0, .int .i64 0, .int .i64 y] 26)) v3.heap.size ⟨c, n, s, 1, t, ch, 0, 0, y⟩ ao cap := BoxQ.new _ ⟨c, n, s, 1, t, ch, 0, 0, y⟩ ao cap _ _ rfl
    obtain ⟨a0, a1, a2, a3, a4, a5, a6, a7, a8, -⟩ := HD.out.ext ((Ext.refl v3).alloc (.cells #[.int .i64 c, .int .i64 n, .int .i64 s, .int .i64 1, .int .i64 t, .slice ao ch.length cap, .int .i64 0, .int .i64 0, .int .i64 y] 26))
    try dsimp only at a0 a1 a2 a3 a4 a5 a6 a7 a8
    have ne1 : ¬ w.heap.size = v3.heap.size := by have := HD.out.lt; omega
    have ne2 : ¬ v3.heap.size = w.heap.size := by have := HD.out.lt; omega
    obtain ⟨f0, f1, f2, f3, f4, f5, f6, f7, f8, -⟩ := HD.out.ext hA
    try dsimp only at f0 f1 f2 f3 f4 f5 f6 f7 f8
    go_wp2_with fail
    clear z0 z1 z2 z3 z4 z5 z6 z7 z8 f0 f1 f2 f3 f4 f5 f6 f7 f8 a0 a1 a2 a3 a4 a5 a6 a7 a8 he ne1 ne2
    generalize (v3.alloc (.cells #[.int .i64 c, .int .i64 n, .int .i64 s, .int .i64 1, .int .i64 t, .slice ao ch.length cap, .int .i64 0, .int .i64 0, .int .i64 y] 26)) = x3 at *
    have HD := Lib.hid (HD.out.ext hA)
    have HR := Lib.hid (HR.out.ext hA)
    have HK := Lib.hid (HK.out.ext hA)
    have HX := Lib.hid (HX.out.trans hA)
    have HDX := Lib.hid hB
    clear hA hB
    refine (ck_as (r := ⟨c, n, s, 1, t, ch, 0, 0, y⟩) HXC.out HR.out HL.out HK.out).mono ?_
    rintro e v4 ⟨rfl, hE⟩
    have HD := Lib.hid (HD.out.ext hE)
    have HR := Lib.hid (HR.out.ext hE)
    have HK := Lib.hid (HK.out.ext hE)
    have HDX := Lib.hid (HDX.out.ext hE)
    have HX := Lib.hid (HX.out.trans hE)
    clear hE
    obtain ⟨z0, z1, z2, z3, z4, z5, z6, z7, z8, -⟩ := HD.out
    try dsimp only at z0 z1 z2 z3 z4 z5 z6 z7 z8
    have hA : Ext v4 (v4.alloc (.cells #[.int .i64 c, .int .i64 n, .int .i64 s, .int .i64 1, .int .i64 t, .slice ao ch.length cap, .int .i64 0, .int .i64 0, .int .i64 y] 26)) := (Ext.refl _).alloc _
    have hB : BoxQ (v4.alloc (.cells #[.int .i64 c, .int .i64 n, .int .i64 s, .int .i64 1, .int .i64 t, .slice ao ch.length cap, .int .i64 0, .int .i64 0, .int .i64 y] 26)) v4.heap.size ⟨c, n, s, 1, t, ch, 0, 0, y⟩ ao cap := BoxQ.new _ ⟨c, n, s, 1, t, ch, 0, 0, y⟩ ao cap _ _ rfl
    go_wp2_with fail
    clear z0 z1 z2 z3 z4 z5 z6 z7 z8
    generalize (v4.alloc (.cells #[.int .i64 c, .int .i64 n, .int .i64 s, .int .i64 1, .int .i64 t, .slice ao ch.length cap, .int .i64 0, .int .i64 0, .int .i64 y] 26)) = x4 at *
    have HD := Lib.hid (HD.out.ext hA)
    have HR := Lib.hid (HR.out.ext hA)
    have HK := Lib.hid (HK.out.ext hA)
    have HDX := Lib.hid (HDX.out.ext hA)
    have HX := Lib.hid (HX.out.trans hA)
    have HDY := Lib.hid hB
    clear hA hB
    refine (ck_as (r := ⟨c, n, s, 1, t, ch, 0, 0, y⟩) HY.out HR.out HL.out HK.out).mono ?_
    rintro e v5 ⟨rfl, hE⟩
    have HD := Lib.hid (HD.out.ext hE)
    have HR := Lib.hid (HR.out.ext hE)
    have HK := Lib.hid (HK.out.ext hE)
    have HDX := Lib.hid (HDX.out.ext hE)
    have HDY := Lib.hid (HDY.out.ext hE)
    have HX := Lib.hid (HX.out.trans hE)
    clear hE
    obtain ⟨z0, z1, z2, z3, z4, z5, z6, z7, z8, -⟩ := HDY.out
    try dsimp only at z0 z1 z2 z3 z4 z5 z6 z7 z8
    go_wp2_with fail
    clear z0 z1 z2 z3 z4 z5 z6 z7 z8
    refine (ck_as (r := ⟨c, n, s, 1, t, ch, 0, 0, y⟩) HY.out HR.out HL.out HK.out).mono ?_
    rintro e v6 ⟨rfl, hE⟩
    have HD := Lib.hid (HD.out.ext hE)
    have HR := Lib.hid (HR.out.ext hE)
    have HK := Lib.hid (HK.out.ext hE)
    have HDX := Lib.hid (HDX.out.ext hE)
    have HDY := Lib.hid (HDY.out.ext hE)
    have HX := Lib.hid (HX.out.trans hE)
    clear hE
    obtain ⟨z0, z1, z2, z3, z4, z5, z6, z7, z8, -⟩ := HD.out
    try dsimp only at z0 z1 z2 z3 z4 z5 z6 z7 z8
    have hA : Ext v6 (v6.alloc (.cells #[.int .i64 c, .int .i64 n, .int .i64 s, .int .i64 1, .int .i64 t, .slice none 0 0, .int .i64 0, .int .i64 0, .int .i64 y] 26)) := (Ext.refl _).alloc _
    have hB : BoxQ (v6.alloc (.cells #[.int .i64 c, .int .i64 n, .int .i64 s, .int .i64 1, .int .i64 t, .slice none 0 0, .int .i64 0, .int .i64 0, .int .i64 y] 26)) v6.heap.size ⟨c, n, s, 1, t, [], 0, 0, y⟩ none 0 := BoxQ.new _ ⟨c, n, s, 1, t, [], 0, 0, y⟩ none 0 _ _ rfl
    go_wp2_with fail
    clear z0 z1 z2 z3 z4 z5 z6 z7 z8
    generalize (v6.alloc (.cells #[.int .i64 c, .int .i64 n, .int .i64 s, .int .i64 1, .int .i64 t, .slice none 0 0, .int .i64 0, .int .i64 0, .int .i64 y] 26)) = x6 at *
    have HD := Lib.hid (HD.out.ext hA)
    have HR := Lib.hid (HR.out.ext hA)
    have HK := Lib.hid (HK.out.ext hA)
    have HDX := Lib.hid (HDX.out.ext hA)
    have HDY := Lib.hid (HDY.out.ext hA)
    have HX := Lib.hid (HX.out.trans hA)
    have HDZ := Lib.hid hB
    clear hA hB
    obtain ⟨z0, z1, z2, z3, z4, z5, z6, z7, z8, -⟩ := HD.out
    try dsimp only at z0 z1 z2 z3 z4 z5 z6 z7 z8
    obtain ⟨f0, f1, f2, f3, f4, f5, f6, f7, f8, -⟩ := HDZ.out
    try dsimp only at f0 f1 f2 f3 f4 f5 f6 f7 f8
    have gz0 := grow_cell z0
    have gz1 := grow_cell z1
    have gz2 := grow_cell z2
    have gz3 := grow_cell z3
    have gz4 := grow_cell z4
    have gz5 := grow_cell z5
    have gz6 := grow_cell z6
    have gz7 := grow_cell z7
    have gz8 := grow_cell z8
    have gf0 := grow_cell f0
    have gf1 := grow_cell f1
    have gf2 := grow_cell f2
    have gf3 := grow_cell f3
    have gf4 := grow_cell f4
    have gf5 := grow_cell f5
    have gf6 := grow_cell f6
    have gf7 := grow_cell f7
    have gf8 := grow_cell f8
    refine wp_region_rel_all (fun i => if i = 1 then some (spV (.int .i64 290)) else none) (by kernel_rfl) (by kernel_rfl) ?_
    repeat (first
      | (refine wpRel_quick ?_ ?_ ?_ ?_
         · rfl
         · rfl
         · first | exact noEnter rfl | (intro f args W W'; go_simp)
         intro K hK
         go_big_quiet_op
         go_big_quiet_on)
      | (refine wpRel_skip ?_ ?_
         · rfl
         simp only [Act.put, List.setIfInBounds_toArray, List.set_cons_zero, List.set_cons_succ]))
    refine wpRel_rich _ rfl rfl (fun W hW => ?_) (fun v W3 hW3 hv => ?_)
    · have hc := ck_as (r := ⟨c, n, s, 1, t, [], 0, 0, y⟩) (w := W) HZ.out (SL.empty _ _) (Nat.zero_le _) (HK.out.ext ((Ext.refl x6).drew.trans hW.1))
      go_simp
      refine Calls.mono hc ?_
      rintro e w' ⟨rfl, h⟩
      exact ⟨_, rfl, rfl, by first | exact h | (subst h; exact Ext.refl _)⟩
    obtain rfl := hv
    clear hW3
    simp only [Act.put, List.setIfInBounds_toArray, List.set_cons_zero, List.set_cons_succ]
    repeat (first
      | (refine wpRel_quick ?_ ?_ ?_ ?_
         · rfl
         · rfl
         · first | exact noEnter rfl | (intro f args W W'; go_simp)
         intro K hK
         go_big_quiet_op
         go_big_quiet_on)
      | (refine wpRel_skip ?_ ?_
         · rfl
         simp only [Act.put, List.setIfInBounds_toArray, List.set_cons_zero, List.set_cons_succ]))
    refine wpRel_nil ?_
    intro W3 hW3
    have HE3 := Lib.hid ((Ext.refl x6).drew.trans hW3.1)
    clear hW3
    go_wp2_with fail
    go_ret
    exact ⟨rfl, HX.out.trans HE3.out⟩
  by_cases hk4 : kind = 4
  · subst hk4
    have hn := HN.out
    have hyz := HYZ.out
    have n4 : ¬ (((ch.length : Nat) : Int) < 1) := by omega
    have n5 : ¬ ((8 : Int) < ((ch.length : Nat) : Int)) := by omega
    have k1 : ¬ (y < 0) := by omega
    have HXC : Hid (checkQ ⟨c, n, s, 4, t, ch, 0, 0, y⟩ = 290) := Lib.hid ((vq1x HH.out HGD.out hn1 hn8 hy0 hy1 _).trans (if_neg (by omega)))
    clear hn hyz
    obtain ⟨z0, z1, z2, z3, z4, z5, z6, z7, z8, -⟩ := HD.out
    try dsimp only at z0 z1 z2 z3 z4 z5 z6 z7 z8
    have he := HEQ.out
    have hA : Ext v3 (v3.alloc (.cells #[.int .i64 c, .int .i64 n, .int .i64 s, .int .i64 4, .int .i64 t, .slice ao ch.length cap, .int .i64 0, .int .i64 0, .int .i64 y] 26)) := (Ext.refl _).alloc _
    have hB : BoxQ (v3.alloc (.cells #[.int .i64 c, .int .i64 n, .int .i64 s, .int .i64 4, .int .i64 t, .slice ao ch.length cap, .int .i64 0, .int .i64 0, .int .i64 y] 26)) v3.heap.size ⟨c, n, s, 4, t, ch, 0, 0, y⟩ ao cap := BoxQ.new _ ⟨c, n, s, 4, t, ch, 0, 0, y⟩ ao cap _ _ rfl
    obtain ⟨a0, a1, a2, a3, a4, a5, a6, a7, a8, -⟩ := HD.out.ext ((Ext.refl v3).alloc (.cells #[.int .i64 c, .int .i64 n, .int .i64 s, .int .i64 1, .int .i64 t, .slice ao ch.length cap, .int .i64 0, .int .i64 0, .int .i64 y] 26))
    try dsimp only at a0 a1 a2 a3 a4 a5 a6 a7 a8
    have ne1 : ¬ w.heap.size = v3.heap.size := by have := HD.out.lt; omega
    have ne2 : ¬ v3.heap.size = w.heap.size := by have := HD.out.lt; omega
    obtain ⟨f0, f1, f2, f3, f4, f5, f6, f7, f8, -⟩ := HD.out.ext hA
    try dsimp only at f0 f1 f2 f3 f4 f5 f6 f7 f8
    go_wp2_with fail
    clear z0 z1 z2 z3 z4 z5 z6 z7 z8 f0 f1 f2 f3 f4 f5 f6 f7 f8 a0 a1 a2 a3 a4 a5 a6 a7 a8 he ne1 ne2
    generalize (v3.alloc (.cells #[.int .i64 c, .int .i64 n, .int .i64 s, .int .i64 4, .int .i64 t, .slice ao ch.length cap, .int .i64 0, .int .i64 0, .int .i64 y] 26)) = x3 at *
    have HD := Lib.hid (HD.out.ext hA)
    have HR := Lib.hid (HR.out.ext hA)
    have HK := Lib.hid (HK.out.ext hA)
    have HX := Lib.hid (HX.out.trans hA)
    have HDX := Lib.hid hB
    clear hA hB
    refine (ck_as (r := ⟨c, n, s, 4, t, ch, 0, 0, y⟩) HXC.out HR.out HL.out HK.out).mono ?_
    rintro e v4 ⟨rfl, hE⟩
    have HD := Lib.hid (HD.out.ext hE)
    have HR := Lib.hid (HR.out.ext hE)
    have HK := Lib.hid (HK.out.ext hE)
    have HDX := Lib.hid (HDX.out.ext hE)
    have HX := Lib.hid (HX.out.trans hE)
    clear hE
    obtain ⟨z0, z1, z2, z3, z4, z5, z6, z7, z8, -⟩ := HD.out
    try dsimp only at z0 z1 z2 z3 z4 z5 z6 z7 z8
    have hA : Ext v4 (v4.alloc (.cells #[.int .i64 c, .int .i64 n, .int .i64 s, .int .i64 1, .int .i64 t, .slice ao ch.length cap, .int .i64 0, .int .i64 0, .int .i64 y] 26)) := (Ext.refl _).alloc _
    have hB : BoxQ (v4.alloc (.cells #[.int .i64 c, .int .i64 n, .int .i64 s, .int .i64 1, .int .i64 t, .slice ao ch.length cap, .int .i64 0, .int .i64 0, .int .i64 y] 26)) v4.heap.size ⟨c, n, s, 1, t, ch, 0, 0, y⟩ ao cap := BoxQ.new _ ⟨c, n, s, 1, t, ch, 0, 0, y⟩ ao cap _ _ rfl
    go_wp2_with fail
    clear z0 z1 z2 z3 z4 z5 z6 z7 z8
    generalize (v4.alloc (.cells #[.int .i64 c, .int .i64 n, .int .i64 s, .int .i64 1, .int .i64 t, .slice ao ch.length cap, .int .i64 0, .int .i64 0, .int .i64 y] 26)) = x4 at *
    have HD := Lib.hid (HD.out.ext hA)
    have HR := Lib.hid (HR.out.ext hA)
    have HK := Lib.hid (HK.out.ext hA)
    have HDX := Lib.hid (HDX.out.ext hA)
    have HX := Lib.hid (HX.out.trans hA)
    have HDY := Lib.hid hB
    clear hA hB
    refine (ck_as (r := ⟨c, n, s, 1, t, ch, 0, 0, y⟩) HY.out HR.out HL.out HK.out).mono ?_
    rintro e v5 ⟨rfl, hE⟩
    have HD := Lib.hid (HD.out.ext hE)
    have HR := Lib.hid (HR.out.ext hE)
    have HK := Lib.hid (HK.out.ext hE)
    have HDX := Lib.hid (HDX.out.ext hE)
    have HDY := Lib.hid (HDY.out.ext hE)
    have HX := Lib.hid (HX.out.trans hE)
    clear hE
    obtain ⟨z0, z1, z2, z3, z4, z5, z6, z7, z8, -⟩ := HDY.out
    try dsimp only at z0 z1 z2 z3 z4 z5 z6 z7 z8
    go_wp2_with fail
    clear z0 z1 z2 z3 z4 z5 z6 z7 z8
    refine (ck_as (r := ⟨c, n, s, 1, t, ch, 0, 0, y⟩) HY.out HR.out HL.out HK.out).mono ?_
    rintro e v6 ⟨rfl, hE⟩
    have HD := Lib.hid (HD.out.ext hE)
    have HR := Lib.hid (HR.out.ext hE)
    have HK := Lib.hid (HK.out.ext hE)
    have HDX := Lib.hid (HDX.out.ext hE)
    have HDY := Lib.hid (HDY.out.ext hE)
    have HX := Lib.hid (HX.out.trans hE)
    clear hE
    obtain ⟨z0, z1, z2, z3, z4, z5, z6, z7, z8, -⟩ := HD.out
    try dsimp only at z0 z1 z2 z3 z4 z5 z6 z7 z8
    have hA : Ext v6 (v6.alloc (.cells #[.int .i64 c, .int .i64 n, .int .i64 s, .int .i64 1, .int .i64 t, .slice none 0 0, .int .i64 0, .int .i64 0, .int .i64 y] 26)) := (Ext.refl _).alloc _
    have hB : BoxQ (v6.alloc (.cells #[.int .i64 c, .int .i64 n, .int .i64 s, .int .i64 1, .int .i64 t, .slice none 0 0, .int .i64 0, .int .i64 0, .int .i64 y] 26)) v6.heap.size ⟨c, n, s, 1, t, [], 0, 0, y⟩ none 0 := BoxQ.new _ ⟨c, n, s, 1, t, [], 0, 0, y⟩ none 0 _ _ rfl
    go_wp2_with fail
    clear z0 z1 z2 z3 z4 z5 z6 z7 z8
    generalize (v6.alloc (.cells #[.int .i64 c, .int .i64 n, .int .i64 s, .int .i64 1, .int .i64 t, .slice none 0 0, .int .i64 0, .int .i64 0, .int .i64 y] 26)) = x6 at *
    have HD := Lib.hid (HD.out.ext hA)
    have HR := Lib.hid (HR.out.ext hA)
    have HK := Lib.hid (HK.out.ext hA)
    have HDX := Lib.hid (HDX.out.ext hA)
    have HDY := Lib.hid (HDY.out.ext hA)
    have HX := Lib.hid (HX.out.trans hA)
    have HDZ := Lib.hid hB
    clear hA hB
    obtain ⟨z0, z1, z2, z3, z4, z5, z6, z7, z8, -⟩ := HD.out
    try dsimp only at z0 z1 z2 z3 z4 z5 z6 z7 z8
    obtain ⟨f0, f1, f2, f3, f4, f5, f6, f7, f8, -⟩ := HDZ.out
    try dsimp only at f0 f1 f2 f3 f4 f5 f6 f7 f8
    have gz0 := grow_cell z0
    have gz1 := grow_cell z1
    have gz2 := grow_cell z2
    have gz3 := grow_cell z3
    have gz4 := grow_cell z4
    have gz5 := grow_cell z5
    have gz6 := grow_cell z6
    have gz7 := grow_cell z7
    have gz8 := grow_cell z8
    have gf0 := grow_cell f0
    have gf1 := grow_cell f1
    have gf2 := grow_cell f2
    have gf3 := grow_cell f3
    have gf4 := grow_cell f4
    have gf5 := grow_cell f5
    have gf6 := grow_cell f6
    have gf7 := grow_cell f7
    have gf8 := grow_cell f8
    refine wp_region_rel_all (fun i => if i = 1 then some (spV (.int .i64 290)) else none) (by kernel_rfl) (by kernel_rfl) ?_
    repeat (first
      | (refine wpRel_quick ?_ ?_ ?_ ?_
         · rfl
         · rfl
         · first | exact noEnter rfl | (intro f args W W'; go_simp)
         intro K hK
         go_big_quiet_op
         go_big_quiet_on)
      | (refine wpRel_skip ?_ ?_
         · rfl
         simp only [Act.put, List.setIfInBounds_toArray, List.set_cons_zero, List.set_cons_succ]))
    refine wpRel_rich _ rfl rfl (fun W hW => ?_) (fun v W3 hW3 hv => ?_)
    · have hc := ck_as (r := ⟨c, n, s, 1, t, [], 0, 0, y⟩) (w := W) HZ.out (SL.empty _ _) (Nat.zero_le _) (HK.out.ext ((Ext.refl x6).drew.trans hW.1))
      go_simp
      refine Calls.mono hc ?_
      rintro e w' ⟨rfl, h⟩
      exact ⟨_, rfl, rfl, by first | exact h | (subst h; exact Ext.refl _)⟩
    obtain rfl := hv
    clear hW3
    simp only [Act.put, List.setIfInBounds_toArray, List.set_cons_zero, List.set_cons_succ]
    repeat (first
      | (refine wpRel_quick ?_ ?_ ?_ ?_
         · rfl
         · rfl
         · first | exact noEnter rfl | (intro f args W W'; go_simp)
         intro K hK
         go_big_quiet_op
         go_big_quiet_on)
      | (refine wpRel_skip ?_ ?_
         · rfl
         simp only [Act.put, List.setIfInBounds_toArray, List.set_cons_zero, List.set_cons_succ]))
    refine wpRel_nil ?_
    intro W3 hW3
    have HE3 := Lib.hid ((Ext.refl x6).drew.trans hW3.1)
    clear hW3
    go_wp2_with fail
    go_ret
    exact ⟨rfl, HX.out.trans HE3.out⟩
  by_cases hk5 : kind = 5
  · subst hk5
    have hn := HN.out
    have hyz := HYZ.out
    have n4 : ¬ (((ch.length : Nat) : Int) < 1) := by omega
    have n5 : ¬ ((8 : Int) < ((ch.length : Nat) : Int)) := by omega
    have k1 : ¬ (y < 0) := by omega
    have HXC : Hid (checkQ ⟨c, n, s, 5, t, ch, 0, 0, y⟩ = 290) := Lib.hid ((vq1x HH.out HGD.out hn1 hn8 hy0 hy1 _).trans (if_neg (by omega)))
    clear hn hyz
    obtain ⟨z0, z1, z2, z3, z4, z5, z6, z7, z8, -⟩ := HD.out
    try dsimp only at z0 z1 z2 z3 z4 z5 z6 z7 z8
    have he := HEQ.out
    have hA : Ext v3 (v3.alloc (.cells #[.int .i64 c, .int .i64 n, .int .i64 s, .int .i64 5, .int .i64 t, .slice ao ch.length cap, .int .i64 0, .int .i64 0, .int .i64 y] 26)) := (Ext.refl _).alloc _
    have hB : BoxQ (v3.alloc (.cells #[.int .i64 c, .int .i64 n, .int .i64 s, .int .i64 5, .int .i64 t, .slice ao ch.length cap, .int .i64 0, .int .i64 0, .int .i64 y] 26)) v3.heap.size ⟨c, n, s, 5, t, ch, 0, 0, y⟩ ao cap := BoxQ.new _ ⟨c, n, s, 5, t, ch, 0, 0, y⟩ ao cap _ _ rfl
    obtain ⟨a0, a1, a2, a3, a4, a5, a6, a7, a8, -⟩ := HD.out.ext ((Ext.refl v3).alloc (.cells #[.int .i64 c, .int .i64 n, .int .i64 s, .int .i64 1, .int .i64 t, .slice ao ch.length cap, .int .i64 0, .int .i64 0, .int .i64 y] 26))
    try dsimp only at a0 a1 a2 a3 a4 a5 a6 a7 a8
    have ne1 : ¬ w.heap.size = v3.heap.size := by have := HD.out.lt; omega
    have ne2 : ¬ v3.heap.size = w.heap.size := by have := HD.out.lt; omega
    obtain ⟨f0, f1, f2, f3, f4, f5, f6, f7, f8, -⟩ := HD.out.ext hA
    try dsimp only at f0 f1 f2 f3 f4 f5 f6 f7 f8
    go_wp2_with fail
    clear z0 z1 z2 z3 z4 z5 z6 z7 z8 f0 f1 f2 f3 f4 f5 f6 f7 f8 a0 a1 a2 a3 a4 a5 a6 a7 a8 he ne1 ne2
    generalize (v3.alloc (.cells #[.int .i64 c, .int .i64 n, .int .i64 s, .int .i64 5, .int .i64 t, .slice ao ch.length cap, .int .i64 0, .int .i64 0, .int .i64 y] 26)) = x3 at *
    have HD := Lib.hid (HD.out.ext hA)
    have HR := Lib.hid (HR.out.ext hA)
    have HK := Lib.hid (HK.out.ext hA)
    have HX := Lib.hid (HX.out.trans hA)
    have HDX := Lib.hid hB
    clear hA hB
    refine (ck_as (r := ⟨c, n, s, 5, t, ch, 0, 0, y⟩) HXC.out HR.out HL.out HK.out).mono ?_
    rintro e v4 ⟨rfl, hE⟩
    have HD := Lib.hid (HD.out.ext hE)
    have HR := Lib.hid (HR.out.ext hE)
    have HK := Lib.hid (HK.out.ext hE)
    have HDX := Lib.hid (HDX.out.ext hE)
    have HX := Lib.hid (HX.out.trans hE)
    clear hE
    obtain ⟨z0, z1, z2, z3, z4, z5, z6, z7, z8, -⟩ := HD.out
    try dsimp only at z0 z1 z2 z3 z4 z5 z6 z7 z8
    have hA : Ext v4 (v4.alloc (.cells #[.int .i64 c, .int .i64 n, .int .i64 s, .int .i64 1, .int .i64 t, .slice ao ch.length cap, .int .i64 0, .int .i64 0, .int .i64 y] 26)) := (Ext.refl _).alloc _
    have hB : BoxQ (v4.alloc (.cells #[.int .i64 c, .int .i64 n, .int .i64 s, .int .i64 1, .int .i64 t, .slice ao ch.length cap, .int .i64 0, .int .i64 0, .int .i64 y] 26)) v4.heap.size ⟨c, n, s, 1, t, ch, 0, 0, y⟩ ao cap := BoxQ.new _ ⟨c, n, s, 1, t, ch, 0, 0, y⟩ ao cap _ _ rfl
    go_wp2_with fail
    clear z0 z1 z2 z3 z4 z5 z6 z7 z8
    generalize (v4.alloc (.cells #[.int .i64 c, .int .i64 n, .int .i64 s, .int .i64 1, .int .i64 t, .slice ao ch.length cap, .int .i64 0, .int .i64 0, .int .i64 y] 26)) = x4 at *
    have HD := Lib.hid (HD.out.ext hA)
    have HR := Lib.hid (HR.out.ext hA)
    have HK := Lib.hid (HK.out.ext hA)
    have HDX := Lib.hid (HDX.out.ext hA)
    have HX := Lib.hid (HX.out.trans hA)
    have HDY := Lib.hid hB
    clear hA hB
    refine (ck_as (r := ⟨c, n, s, 1, t, ch, 0, 0, y⟩) HY.out HR.out HL.out HK.out).mono ?_
    rintro e v5 ⟨rfl, hE⟩
    have HD := Lib.hid (HD.out.ext hE)
    have HR := Lib.hid (HR.out.ext hE)
    have HK := Lib.hid (HK.out.ext hE)
    have HDX := Lib.hid (HDX.out.ext hE)
    have HDY := Lib.hid (HDY.out.ext hE)
    have HX := Lib.hid (HX.out.trans hE)
    clear hE
    obtain ⟨z0, z1, z2, z3, z4, z5, z6, z7, z8, -⟩ := HDY.out
    try dsimp only at z0 z1 z2 z3 z4 z5 z6 z7 z8
    go_wp2_with fail
    clear z0 z1 z2 z3 z4 z5 z6 z7 z8
    refine (ck_as (r := ⟨c, n, s, 1, t, ch, 0, 0, y⟩) HY.out HR.out HL.out HK.out).mono ?_
    rintro e v6 ⟨rfl, hE⟩
    have HD := Lib.hid (HD.out.ext hE)
    have HR := Lib.hid (HR.out.ext hE)
    have HK := Lib.hid (HK.out.ext hE)
    have HDX := Lib.hid (HDX.out.ext hE)
    have HDY := Lib.hid (HDY.out.ext hE)
    have HX := Lib.hid (HX.out.trans hE)
    clear hE
    obtain ⟨z0, z1, z2, z3, z4, z5, z6, z7, z8, -⟩ := HD.out
    try dsimp only at z0 z1 z2 z3 z4 z5 z6 z7 z8
    have hA : Ext v6 (v6.alloc (.cells #[.int .i64 c, .int .i64 n, .int .i64 s, .int .i64 1, .int .i64 t, .slice none 0 0, .int .i64 0, .int .i64 0, .int .i64 y] 26)) := (Ext.refl _).alloc _
    have hB : BoxQ (v6.alloc (.cells #[.int .i64 c, .int .i64 n, .int .i64 s, .int .i64 1, .int .i64 t, .slice none 0 0, .int .i64 0, .int .i64 0, .int .i64 y] 26)) v6.heap.size ⟨c, n, s, 1, t, [], 0, 0, y⟩ none 0 := BoxQ.new _ ⟨c, n, s, 1, t, [], 0, 0, y⟩ none 0 _ _ rfl
    go_wp2_with fail
    clear z0 z1 z2 z3 z4 z5 z6 z7 z8
    generalize (v6.alloc (.cells #[.int .i64 c, .int .i64 n, .int .i64 s, .int .i64 1, .int .i64 t, .slice none 0 0, .int .i64 0, .int .i64 0, .int .i64 y] 26)) = x6 at *
    have HD := Lib.hid (HD.out.ext hA)
    have HR := Lib.hid (HR.out.ext hA)
    have HK := Lib.hid (HK.out.ext hA)
    have HDX := Lib.hid (HDX.out.ext hA)
    have HDY := Lib.hid (HDY.out.ext hA)
    have HX := Lib.hid (HX.out.trans hA)
    have HDZ := Lib.hid hB
    clear hA hB
    obtain ⟨z0, z1, z2, z3, z4, z5, z6, z7, z8, -⟩ := HD.out
    try dsimp only at z0 z1 z2 z3 z4 z5 z6 z7 z8
    obtain ⟨f0, f1, f2, f3, f4, f5, f6, f7, f8, -⟩ := HDZ.out
    try dsimp only at f0 f1 f2 f3 f4 f5 f6 f7 f8
    have gz0 := grow_cell z0
    have gz1 := grow_cell z1
    have gz2 := grow_cell z2
    have gz3 := grow_cell z3
    have gz4 := grow_cell z4
    have gz5 := grow_cell z5
    have gz6 := grow_cell z6
    have gz7 := grow_cell z7
    have gz8 := grow_cell z8
    have gf0 := grow_cell f0
    have gf1 := grow_cell f1
    have gf2 := grow_cell f2
    have gf3 := grow_cell f3
    have gf4 := grow_cell f4
    have gf5 := grow_cell f5
    have gf6 := grow_cell f6
    have gf7 := grow_cell f7
    have gf8 := grow_cell f8
    refine wp_region_rel_all (fun i => if i = 1 then some (spV (.int .i64 290)) else none) (by kernel_rfl) (by kernel_rfl) ?_
    repeat (first
      | (refine wpRel_quick ?_ ?_ ?_ ?_
         · rfl
         · rfl
         · first | exact noEnter rfl | (intro f args W W'; go_simp)
         intro K hK
         go_big_quiet_op
         go_big_quiet_on)
      | (refine wpRel_skip ?_ ?_
         · rfl
         simp only [Act.put, List.setIfInBounds_toArray, List.set_cons_zero, List.set_cons_succ]))
    refine wpRel_rich _ rfl rfl (fun W hW => ?_) (fun v W3 hW3 hv => ?_)
    · have hc := ck_as (r := ⟨c, n, s, 1, t, [], 0, 0, y⟩) (w := W) HZ.out (SL.empty _ _) (Nat.zero_le _) (HK.out.ext ((Ext.refl x6).drew.trans hW.1))
      go_simp
      refine Calls.mono hc ?_
      rintro e w' ⟨rfl, h⟩
      exact ⟨_, rfl, rfl, by first | exact h | (subst h; exact Ext.refl _)⟩
    obtain rfl := hv
    clear hW3
    simp only [Act.put, List.setIfInBounds_toArray, List.set_cons_zero, List.set_cons_succ]
    repeat (first
      | (refine wpRel_quick ?_ ?_ ?_ ?_
         · rfl
         · rfl
         · first | exact noEnter rfl | (intro f args W W'; go_simp)
         intro K hK
         go_big_quiet_op
         go_big_quiet_on)
      | (refine wpRel_skip ?_ ?_
         · rfl
         simp only [Act.put, List.setIfInBounds_toArray, List.set_cons_zero, List.set_cons_succ]))
    refine wpRel_nil ?_
    intro W3 hW3
    have HE3 := Lib.hid ((Ext.refl x6).drew.trans hW3.1)
    clear hW3
    go_wp2_with fail
    go_ret
    exact ⟨rfl, HX.out.trans HE3.out⟩
  have hn := HN.out
  have hyz := HYZ.out
  have e1 : (kind == 1) = false := by simpa using hk1
  have e4 : (kind == 4) = false := by simpa using hk4
  have e5 : (kind == 5) = false := by simpa using hk5
  have n4 : ¬ (((ch.length : Nat) : Int) < 1) := by omega
  have n5 : ¬ ((8 : Int) < ((ch.length : Nat) : Int)) := by omega
  have k1 : ¬ (y < 0) := by omega
  have HXC : Hid (checkQ ⟨c, n, s, kind, t, ch, 0, 0, y⟩ = 290) := Lib.hid ((vq1x HH.out HGD.out hn1 hn8 hy0 hy1 _).trans (if_neg (by omega)))
  clear hn hyz
  obtain ⟨z0, z1, z2, z3, z4, z5, z6, z7, z8, -⟩ := HD.out
  try dsimp only at z0 z1 z2 z3 z4 z5 z6 z7 z8
  have he := HEQ.out
  have hA : Ext v3 (v3.alloc (.cells #[.int .i64 c, .int .i64 n, .int .i64 s, .int .i64 kind, .int .i64 t, .slice ao ch.length cap, .int .i64 0, .int .i64 0, .int .i64 y] 26)) := (Ext.refl _).alloc _
  have hB : BoxQ (v3.alloc (.cells #[.int .i64 c, .int .i64 n, .int .i64 s, .int .i64 kind, .int .i64 t, .slice ao ch.length cap, .int .i64 0, .int .i64 0, .int .i64 y] 26)) v3.heap.size ⟨c, n, s, kind, t, ch, 0, 0, y⟩ ao cap := BoxQ.new _ ⟨c, n, s, kind, t, ch, 0, 0, y⟩ ao cap _ _ rfl
  obtain ⟨a0, a1, a2, a3, a4, a5, a6, a7, a8, -⟩ := HD.out.ext ((Ext.refl v3).alloc (.cells #[.int .i64 c, .int .i64 n, .int .i64 s, .int .i64 1, .int .i64 t, .slice ao ch.length cap, .int .i64 0, .int .i64 0, .int .i64 y] 26))
  try dsimp only at a0 a1 a2 a3 a4 a5 a6 a7 a8
  have ne1 : ¬ w.heap.size = v3.heap.size := by have := HD.out.lt; omega
  have ne2 : ¬ v3.heap.size = w.heap.size := by have := HD.out.lt; omega
  obtain ⟨f0, f1, f2, f3, f4, f5, f6, f7, f8, -⟩ := HD.out.ext hA
  try dsimp only at f0 f1 f2 f3 f4 f5 f6 f7 f8
  go_wp2_with fail
  clear z0 z1 z2 z3 z4 z5 z6 z7 z8 f0 f1 f2 f3 f4 f5 f6 f7 f8 a0 a1 a2 a3 a4 a5 a6 a7 a8 he ne1 ne2
  generalize (v3.alloc (.cells #[.int .i64 c, .int .i64 n, .int .i64 s, .int .i64 kind, .int .i64 t, .slice ao ch.length cap, .int .i64 0, .int .i64 0, .int .i64 y] 26)) = x3 at *
  have HD := Lib.hid (HD.out.ext hA)
  have HR := Lib.hid (HR.out.ext hA)
  have HK := Lib.hid (HK.out.ext hA)
  have HX := Lib.hid (HX.out.trans hA)
  have HDX := Lib.hid hB
  clear hA hB
  refine (ck_as (r := ⟨c, n, s, kind, t, ch, 0, 0, y⟩) HXC.out HR.out HL.out HK.out).mono ?_
  rintro e v4 ⟨rfl, hE⟩
  have HD := Lib.hid (HD.out.ext hE)
  have HR := Lib.hid (HR.out.ext hE)
  have HK := Lib.hid (HK.out.ext hE)
  have HDX := Lib.hid (HDX.out.ext hE)
  have HX := Lib.hid (HX.out.trans hE)
  clear hE
  obtain ⟨z0, z1, z2, z3, z4, z5, z6, z7, z8, -⟩ := HD.out
  try dsimp only at z0 z1 z2 z3 z4 z5 z6 z7 z8
  have hA : Ext v4 (v4.alloc (.cells #[.int .i64 c, .int .i64 n, .int .i64 s, .int .i64 1, .int .i64 t, .slice ao ch.length cap, .int .i64 0, .int .i64 0, .int .i64 y] 26)) := (Ext.refl _).alloc _
  have hB : BoxQ (v4.alloc (.cells #[.int .i64 c, .int .i64 n, .int .i64 s, .int .i64 1, .int .i64 t, .slice ao ch.length cap, .int .i64 0, .int .i64 0, .int .i64 y] 26)) v4.heap.size ⟨c, n, s, 1, t, ch, 0, 0, y⟩ ao cap := BoxQ.new _ ⟨c, n, s, 1, t, ch, 0, 0, y⟩ ao cap _ _ rfl
  go_wp2_with fail
  clear z0 z1 z2 z3 z4 z5 z6 z7 z8
  generalize (v4.alloc (.cells #[.int .i64 c, .int .i64 n, .int .i64 s, .int .i64 1, .int .i64 t, .slice ao ch.length cap, .int .i64 0, .int .i64 0, .int .i64 y] 26)) = x4 at *
  have HD := Lib.hid (HD.out.ext hA)
  have HR := Lib.hid (HR.out.ext hA)
  have HK := Lib.hid (HK.out.ext hA)
  have HDX := Lib.hid (HDX.out.ext hA)
  have HX := Lib.hid (HX.out.trans hA)
  have HDY := Lib.hid hB
  clear hA hB
  refine (ck_as (r := ⟨c, n, s, 1, t, ch, 0, 0, y⟩) HY.out HR.out HL.out HK.out).mono ?_
  rintro e v5 ⟨rfl, hE⟩
  have HD := Lib.hid (HD.out.ext hE)
  have HR := Lib.hid (HR.out.ext hE)
  have HK := Lib.hid (HK.out.ext hE)
  have HDX := Lib.hid (HDX.out.ext hE)
  have HDY := Lib.hid (HDY.out.ext hE)
  have HX := Lib.hid (HX.out.trans hE)
  clear hE
  obtain ⟨z0, z1, z2, z3, z4, z5, z6, z7, z8, -⟩ := HDY.out
  try dsimp only at z0 z1 z2 z3 z4 z5 z6 z7 z8
  go_wp2_with fail
  clear z0 z1 z2 z3 z4 z5 z6 z7 z8
  refine (ck_as (r := ⟨c, n, s, 1, t, ch, 0, 0, y⟩) HY.out HR.out HL.out HK.out).mono ?_
  rintro e v6 ⟨rfl, hE⟩
  have HD := Lib.hid (HD.out.ext hE)
  have HR := Lib.hid (HR.out.ext hE)
  have HK := Lib.hid (HK.out.ext hE)
  have HDX := Lib.hid (HDX.out.ext hE)
  have HDY := Lib.hid (HDY.out.ext hE)
  have HX := Lib.hid (HX.out.trans hE)
  clear hE
  obtain ⟨z0, z1, z2, z3, z4, z5, z6, z7, z8, -⟩ := HD.out
  try dsimp only at z0 z1 z2 z3 z4 z5 z6 z7 z8
  have hA : Ext v6 (v6.alloc (.cells #[.int .i64 c, .int .i64 n, .int .i64 s, .int .i64 1, .int .i64 t, .slice none 0 0, .int .i64 0, .int .i64 0, .int .i64 y] 26)) := (Ext.refl _).alloc _
  have hB : BoxQ (v6.alloc (.cells #[.int .i64 c, .int .i64 n, .int .i64 s, .int .i64 1, .int .i64 t, .slice none 0 0, .int .i64 0, .int .i64 0, .int .i64 y] 26)) v6.heap.size ⟨c, n, s, 1, t, [], 0, 0, y⟩ none 0 := BoxQ.new _ ⟨c, n, s, 1, t, [], 0, 0, y⟩ none 0 _ _ rfl
  go_wp2_with fail
  clear z0 z1 z2 z3 z4 z5 z6 z7 z8
  generalize (v6.alloc (.cells #[.int .i64 c, .int .i64 n, .int .i64 s, .int .i64 1, .int .i64 t, .slice none 0 0, .int .i64 0, .int .i64 0, .int .i64 y] 26)) = x6 at *
  have HD := Lib.hid (HD.out.ext hA)
  have HR := Lib.hid (HR.out.ext hA)
  have HK := Lib.hid (HK.out.ext hA)
  have HDX := Lib.hid (HDX.out.ext hA)
  have HDY := Lib.hid (HDY.out.ext hA)
  have HX := Lib.hid (HX.out.trans hA)
  have HDZ := Lib.hid hB
  clear hA hB
  obtain ⟨z0, z1, z2, z3, z4, z5, z6, z7, z8, -⟩ := HD.out
  try dsimp only at z0 z1 z2 z3 z4 z5 z6 z7 z8
  obtain ⟨f0, f1, f2, f3, f4, f5, f6, f7, f8, -⟩ := HDZ.out
  try dsimp only at f0 f1 f2 f3 f4 f5 f6 f7 f8
  have gz0 := grow_cell z0
  have gz1 := grow_cell z1
  have gz2 := grow_cell z2
  have gz3 := grow_cell z3
  have gz4 := grow_cell z4
  have gz5 := grow_cell z5
  have gz6 := grow_cell z6
  have gz7 := grow_cell z7
  have gz8 := grow_cell z8
  have gf0 := grow_cell f0
  have gf1 := grow_cell f1
  have gf2 := grow_cell f2
  have gf3 := grow_cell f3
  have gf4 := grow_cell f4
  have gf5 := grow_cell f5
  have gf6 := grow_cell f6
  have gf7 := grow_cell f7
  have gf8 := grow_cell f8
  refine wp_region_rel_all (fun i => if i = 1 then some (spV (.int .i64 290)) else none) (by kernel_rfl) (by kernel_rfl) ?_
  repeat (first
    | (refine wpRel_quick ?_ ?_ ?_ ?_
       · rfl
       · rfl
       · first | exact noEnter rfl | (intro f args W W'; go_simp)
       intro K hK
       go_big_quiet_op
       go_big_quiet_on)
    | (refine wpRel_skip ?_ ?_
       · rfl
       simp only [Act.put, List.setIfInBounds_toArray, List.set_cons_zero, List.set_cons_succ]))
  refine wpRel_rich _ rfl rfl (fun W hW => ?_) (fun v W3 hW3 hv => ?_)
  · have hc := ck_as (r := ⟨c, n, s, 1, t, [], 0, 0, y⟩) (w := W) HZ.out (SL.empty _ _) (Nat.zero_le _) (HK.out.ext ((Ext.refl x6).drew.trans hW.1))
    go_simp
    refine Calls.mono hc ?_
    rintro e w' ⟨rfl, h⟩
    exact ⟨_, rfl, rfl, by first | exact h | (subst h; exact Ext.refl _)⟩
  obtain rfl := hv
  clear hW3
  simp only [Act.put, List.setIfInBounds_toArray, List.set_cons_zero, List.set_cons_succ]
  repeat (first
    | (refine wpRel_quick ?_ ?_ ?_ ?_
       · rfl
       · rfl
       · first | exact noEnter rfl | (intro f args W W'; go_simp)
       intro K hK
       go_big_quiet_op
       go_big_quiet_on)
    | (refine wpRel_skip ?_ ?_
       · rfl
       simp only [Act.put, List.setIfInBounds_toArray, List.set_cons_zero, List.set_cons_succ]))
  refine wpRel_nil ?_
  intro W3 hW3
  have HE3 := Lib.hid ((Ext.refl x6).drew.trans hW3.1)
  clear hW3
  go_wp2_with fail
  go_ret
  exact ⟨rfl, HX.out.trans HE3.out⟩
theorem lawq_kinds1 (r : Rq) (ao : Option Addr) (cap : Nat) (kind : Int) (w : World) (hr : RepB w ao cap r.ch) (ht : r.ok) (hl : r.ch.length ≤ 20) (hv : validQ r = true) (hK : r.k = 1) (hk : Kinds w) : Calls Tryd.prog 8 #[.agg (r.cells ao cap).toArray, .int .i64 kind] w fun e w' => e = .returned (.bool true) ∧ Ext w w' := by
  by_cases hyz : r.y = 0
  · by_cases hn : r.ch.length = 1
    · exact lawq_kinds1_11 r ao cap kind w hr ht hl hv hK hyz hn hk
    · exact lawq_kinds1_10 r ao cap kind w hr ht hl hv hK hyz hn hk
  · by_cases hn : r.ch.length = 1
    · exact lawq_kinds1_01 r ao cap kind w hr ht hl hv hK hyz hn hk
    · exact lawq_kinds1_00 r ao cap kind w hr ht hl hv hK hyz hn hk
end Go.Proofs.YtahaplioegeloaaDoor
namespace Go.Proofs.YtahaplioegeloaaDoor
open Go.RowKit Go.Sz
set_option maxRecDepth 100000 in
set_option maxHeartbeats 12800000 in
theorem lawq_kinds (r : Rq) (ao : Option Addr) (cap : Nat) (kind : Int) (w : World) (hr : RepB w ao cap r.ch) (ht : r.ok) (hk : Kinds w) : Calls Tryd.prog 8 #[.agg (r.cells ao cap).toArray, .int .i64 kind] w fun e w' => e = .returned (.bool true) ∧ Ext w w' := by
  by_cases hl0 : r.ch.length ≤ 20 ∧ validQ r = true
  · have h1 : 1 ≤ r.k ∧ r.k ≤ 5 := (headQ_any hl0.2).2.2
    by_cases k1 : r.k = 1
    · exact lawq_kinds1 r ao cap kind w hr ht hl0.1 hl0.2 k1 hk
    by_cases k2 : r.k = 2
    · exact lawq_kinds2 r ao cap kind w hr ht hl0.1 hl0.2 k2 hk
    by_cases k3 : r.k = 3
    · exact lawq_kinds3 r ao cap kind w hr ht hl0.1 hl0.2 k3 hk
    by_cases k4 : r.k = 4
    · exact lawq_kinds4 r ao cap kind w hr ht hl0.1 hl0.2 k4 hk
    exact lawq_kinds5 r ao cap kind w hr ht hl0.1 hl0.2 (by omega) hk
  obtain ⟨c, n, s, k, t, ch, g, h, y⟩ := r
  show Calls Tryd.prog 8 #[.agg #[.int .i64 c, .int .i64 n, .int .i64 s, .int .i64 k, .int .i64 t, .slice ao ch.length cap, .int .i64 g, .int .i64 h, .int .i64 y], .int .i64 kind] w _
  have hX : Ext w (w.alloc (.cells #[.int .i64 c, .int .i64 n, .int .i64 s, .int .i64 k, .int .i64 t, .slice ao ch.length cap, .int .i64 g, .int .i64 h, .int .i64 y] 26)) := (Ext.refl w).alloc _
  have HD : Hid (BoxQ (w.alloc (.cells #[.int .i64 c, .int .i64 n, .int .i64 s, .int .i64 k, .int .i64 t, .slice ao ch.length cap, .int .i64 g, .int .i64 h, .int .i64 y] 26)) (w.heap.size) ⟨c, n, s, k, t, ch, g, h, y⟩ ao cap) := Lib.hid (BoxQ.new w ⟨c, n, s, k, t, ch, g, h, y⟩ ao cap 26 (w.heap.size) (by simp))
  have HR : Hid (RepB (w.alloc (.cells #[.int .i64 c, .int .i64 n, .int .i64 s, .int .i64 k, .int .i64 t, .slice ao ch.length cap, .int .i64 g, .int .i64 h, .int .i64 y] 26)) ao cap ch) := Lib.hid (RepB.ext hr hX)
  have HT := Lib.hid ht
  clear hr ht
  have HK := Lib.hid (hk.ext hX)
  have HX := Lib.hid hX
  clear hk hX
  go_enter Tryd.func8, Tryd.ntmps8
  go_wp2_with fail
  generalize (w.alloc (.cells #[.int .i64 c, .int .i64 n, .int .i64 s, .int .i64 k, .int .i64 t, .slice ao ch.length cap, .int .i64 g, .int .i64 h, .int .i64 y] 26)) = w0 at *
  refine (saneQ_any _ HK.out).mono ?_
  rintro e v1 ⟨rfl, hE⟩
  have HD := Lib.hid (HD.out.ext hE)
  have HR := Lib.hid (HR.out.ext hE)
  have HK := Lib.hid (HK.out.ext hE)
  have HX := Lib.hid (HX.out.trans hE)
  clear hE
  obtain ⟨z0, z1, z2, z3, z4, z5, z6, z7, z8, -⟩ := HD.out
  try dsimp only at z0 z1 z2 z3 z4 z5 z6 z7 z8
  go_wp2_with fail
  clear z0 z1 z2 z3 z4 z5 z6 z7 z8
  by_cases hl : ch.length ≤ 20
  · have hf := decide_eq_true hl
    have HC : Hid (checkQ ⟨c, n, s, k, t, ch, g, h, y⟩ = 290) := Lib.hid (by unfold checkQ; cases hv : validQ ⟨c, n, s, k, t, ch, g, h, y⟩ with | true => exact absurd ⟨hl, hv⟩ hl0 | false => rfl)
    have HL : Hid (ch.length ≤ 1000000) := Lib.hid (by omega)
    clear hl hl0
    refine (fw_as (r := ⟨c, n, s, k, t, ch, g, h, y⟩) hf HR.out).mono ?_
    rintro e v2 ⟨rfl, hE⟩
    have HD := Lib.hid (HD.out.ext hE)
    have HR := Lib.hid (HR.out.ext hE)
    have HK := Lib.hid (HK.out.ext hE)
    have HX := Lib.hid (HX.out.trans hE)
    clear hE
    obtain ⟨z0, z1, z2, z3, z4, z5, z6, z7, z8, -⟩ := HD.out
    try dsimp only at z0 z1 z2 z3 z4 z5 z6 z7 z8
    go_wp2_with fail
    clear z0 z1 z2 z3 z4 z5 z6 z7 z8
    refine (ck_as (r := ⟨c, n, s, k, t, ch, g, h, y⟩) HC.out HR.out HL.out HK.out).mono ?_
    rintro e v3 ⟨rfl, hE⟩
    have HD := Lib.hid (HD.out.ext hE)
    have HR := Lib.hid (HR.out.ext hE)
    have HK := Lib.hid (HK.out.ext hE)
    have HX := Lib.hid (HX.out.trans hE)
    clear hE
    go_wp2_with fail
    go_ret
    exact ⟨rfl, HX.out⟩
  · have hf := decide_eq_false hl
    clear hl hl0
    refine (fw_as (r := ⟨c, n, s, k, t, ch, g, h, y⟩) hf HR.out).mono ?_
    rintro e v2 ⟨rfl, hE⟩
    have HD := Lib.hid (HD.out.ext hE)
    have HR := Lib.hid (HR.out.ext hE)
    have HK := Lib.hid (HK.out.ext hE)
    have HX := Lib.hid (HX.out.trans hE)
    clear hE
    go_wp2_with fail
    go_ret
    exact ⟨rfl, HX.out⟩
end Go.Proofs.YtahaplioegeloaaDoor
