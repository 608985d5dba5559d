/- Requests: the laws Spec, DecodeSpec, Stale. -/
import Derived.Test.YtahaplioegeloaaDoorQG
import Derived.Test.YtahaplioegeloaaDoorRows
import Derived.Test.YtahaplioegeloaaDoorQ2
import Derived.Test.YtahaplioegeloaaDoorQB
import Derived.OpenShut
import Derived.LaidMore
namespace Go.Proofs.YtahaplioegeloaaDoor
open Go.RowKit Go.Sz
set_option maxRecDepth 100000 in
set_option maxHeartbeats 12800000 in
theorem lawq_spec (r : Rq) (ao : Option Addr) (cap : Nat) (now : Int) (w : World) (hr : RepB w ao cap r.ch) (ht : r.ok) (hk : Kinds w) : Calls Tryd.prog 3 #[.agg (r.cells ao cap).toArray, .int .i64 now] w fun e w' => e = .returned (.bool true) ∧ Ext w w' := by
  obtain ⟨c, n, s, k, t, ch, g, h, y⟩ := r
  show Calls Tryd.prog 3 #[.agg #[.int .i64 c, .int .i64 n, .int .i64 s, .int .i64 k, .int .i64 t, .slice ao ch.length cap, .int .i64 g, .int .i64 h, .int .i64 y], .int .i64 now] w _
  have hX : Ext w (w.alloc (.cells #[.int .i64 c, .int .i64 n, .int .i64 s, .int .i64 k, .int .i64 t, .slice ao ch.length cap, .int .i64 g, .int .i64 h, .int .i64 y] 26)) := (Ext.refl w).alloc _
  have HD : Hid (BoxQ (w.alloc (.cells #[.int .i64 c, .int .i64 n, .int .i64 s, .int .i64 k, .int .i64 t, .slice ao ch.length cap, .int .i64 g, .int .i64 h, .int .i64 y] 26)) (w.heap.size) ⟨c, n, s, k, t, ch, g, h, y⟩ ao cap) := Lib.hid (BoxQ.new w ⟨c, n, s, k, t, ch, g, h, y⟩ ao cap 26 (w.heap.size) (by simp))
  have HR : Hid (RepB (w.alloc (.cells #[.int .i64 c, .int .i64 n, .int .i64 s, .int .i64 k, .int .i64 t, .slice ao ch.length cap, .int .i64 g, .int .i64 h, .int .i64 y] 26)) ao cap ch) := Lib.hid (RepB.ext hr hX)
  have HT := Lib.hid ht
  clear hr ht
  have HK := Lib.hid (hk.ext hX)
  have HX := Lib.hid hX
  clear hk hX
  go_enter Tryd.func3, Tryd.ntmps3
  go_wp2_with fail
  generalize (w.alloc (.cells #[.int .i64 c, .int .i64 n, .int .i64 s, .int .i64 k, .int .i64 t, .slice ao ch.length cap, .int .i64 g, .int .i64 h, .int .i64 y] 26)) = w0 at *
  refine (saneQ_any _ HK.out).mono ?_
  rintro e v1 ⟨rfl, hE⟩
  have HD := Lib.hid (HD.out.ext hE)
  have HR := Lib.hid (HR.out.ext hE)
  have HK := Lib.hid (HK.out.ext hE)
  have HX := Lib.hid (HX.out.trans hE)
  clear hE
  obtain ⟨z0, z1, z2, z3, z4, z5, z6, z7, z8, -⟩ := HD.out
  try dsimp only at z0 z1 z2 z3 z4 z5 z6 z7 z8
  go_wp2_with fail
  clear z0 z1 z2 z3 z4 z5 z6 z7 z8
  by_cases hl : ch.length ≤ 20
  · obtain ⟨⟨bs, er⟩, hq⟩ : ∃ q, encO ⟨c, n, s, k, t, ch, g, h, y⟩ = q := ⟨_, rfl⟩
    obtain ⟨cq, hc⟩ : ∃ q, checkQ ⟨c, n, s, k, t, ch, g, h, y⟩ = q := ⟨_, rfl⟩
    obtain ⟨sq, hs⟩ : ∃ q, staleQ t now = q := ⟨_, rfl⟩
    have HQ := Lib.hid hq
    have HC := Lib.hid hc
    have HS := Lib.hid hs
    have hf := decide_eq_true hl
    have HL : Hid (ch.length ≤ 1000000) := Lib.hid (by omega)
    clear hq hc hs hl
    refine (fw_as (r := ⟨c, n, s, k, t, ch, g, h, y⟩) hf HR.out).mono ?_
    rintro e v2 ⟨rfl, hE⟩
    have HD := Lib.hid (HD.out.ext hE)
    have HR := Lib.hid (HR.out.ext hE)
    have HK := Lib.hid (HK.out.ext hE)
    have HX := Lib.hid (HX.out.trans hE)
    clear hE
    obtain ⟨z0, z1, z2, z3, z4, z5, z6, z7, z8, -⟩ := HD.out
    try dsimp only at z0 z1 z2 z3 z4 z5 z6 z7 z8
    go_wp2_with fail
    clear z0 z1 z2 z3 z4 z5 z6 z7 z8
    refine (en_as (r := ⟨c, n, s, k, t, ch, g, h, y⟩) HQ.out HR.out HL.out HK.out).mono ?_
    rintro e v3 ⟨a1, d1, rfl, hS, hE⟩
    have HD := Lib.hid (HD.out.ext hE)
    have HR := Lib.hid (HR.out.ext hE)
    have HK := Lib.hid (HK.out.ext hE)
    have HX := Lib.hid (HX.out.trans hE)
    have HS1 := Lib.hid hS
    clear hE hS
    obtain ⟨z0, z1, z2, z3, z4, z5, z6, z7, z8, -⟩ := HD.out
    try dsimp only at z0 z1 z2 z3 z4 z5 z6 z7 z8
    go_wp2_with fail
    clear z0 z1 z2 z3 z4 z5 z6 z7 z8
    refine (ren_as (r := ⟨c, n, s, k, t, ch, g, h, y⟩) HQ.out HR.out).mono ?_
    rintro e v4 ⟨a2, d2, rfl, hS, hE⟩
    have HD := Lib.hid (HD.out.ext hE)
    have HR := Lib.hid (HR.out.ext hE)
    have HK := Lib.hid (HK.out.ext hE)
    have HS1 := Lib.hid (HS1.out.ext hE)
    have HX := Lib.hid (HX.out.trans hE)
    have HS2 := Lib.hid hS
    clear hE hS
    obtain ⟨z0, z1, z2, z3, z4, z5, z6, z7, z8, -⟩ := HD.out
    try dsimp only at z0 z1 z2 z3 z4 z5 z6 z7 z8
    have gz0 := grow_cell z0
    have gz1 := grow_cell z1
    have gz2 := grow_cell z2
    have gz3 := grow_cell z3
    have gz4 := grow_cell z4
    have gz5 := grow_cell z5
    have gz6 := grow_cell z6
    have gz7 := grow_cell z7
    have gz8 := grow_cell z8
    have gs1 := grow_str HS1.out
    have gs2 := grow_str HS2.out
    go_wp2_with fail
    refine wp_region_rel_all (fun i => if i = 1 then some (spV (.int .i64 cq)) else if i = 3 then some (spV (.int .i64 cq)) else if i = 20 then some (spV (.bool sq)) else if i = 23 then some (spV (.bool sq)) else none) (by kernel_rfl) (by kernel_rfl) ?_
    repeat (first
      | (refine wpRel_quick ?_ ?_ ?_ ?_
         · rfl
         · rfl
         · first | exact noEnter rfl | (intro f args W W'; go_simp)
         intro K hK
         go_big_quiet_op
         go_big_quiet_on)
      | (refine wpRel_skip ?_ ?_
         · rfl
         simp only [Act.put, List.setIfInBounds_toArray, List.set_cons_zero, List.set_cons_succ]))
    refine wpRel_rich _ rfl rfl (fun W hW => ?_) (fun v W3 hW3 hv => ?_)
    · have hc := ck_as (r := ⟨c, n, s, k, t, ch, g, h, y⟩) (w := W) HC.out (RepB.ext HR.out ((Ext.refl v4).drew.trans hW.1)) HL.out (HK.out.ext ((Ext.refl v4).drew.trans hW.1))
      go_simp
      refine Calls.mono hc ?_
      rintro e w' ⟨rfl, h⟩
      exact ⟨_, rfl, rfl, by first | exact h | (subst h; exact Ext.refl _)⟩
    obtain rfl := hv
    clear hW3
    simp only [Act.put, List.setIfInBounds_toArray, List.set_cons_zero, List.set_cons_succ]
    repeat (first
      | (refine wpRel_quick ?_ ?_ ?_ ?_
         · rfl
         · rfl
         · first | exact noEnter rfl | (intro f args W W'; go_simp)
         intro K hK
         go_big_quiet_op
         go_big_quiet_on)
      | (refine wpRel_skip ?_ ?_
         · rfl
         simp only [Act.put, List.setIfInBounds_toArray, List.set_cons_zero, List.set_cons_succ]))
    refine wpRel_rich _ rfl rfl (fun W hW => ?_) (fun v W3 hW3 hv => ?_)
    · have hc := rck_as (r := ⟨c, n, s, k, t, ch, g, h, y⟩) (w := W) HC.out (RepB.ext HR.out ((Ext.refl v4).drew.trans hW.1))
      go_simp
      refine Calls.mono hc ?_
      rintro e w' ⟨rfl, h⟩
      exact ⟨_, rfl, rfl, by first | exact h | (subst h; exact Ext.refl _)⟩
    obtain rfl := hv
    clear hW3
    simp only [Act.put, List.setIfInBounds_toArray, List.set_cons_zero, List.set_cons_succ]
    repeat (first
      | (refine wpRel_quick ?_ ?_ ?_ ?_
         · rfl
         · rfl
         · first | exact noEnter rfl | (intro f args W W'; go_simp)
         intro K hK
         go_big_quiet_op
         go_big_quiet_on)
      | (refine wpRel_skip ?_ ?_
         · rfl
         simp only [Act.put, List.setIfInBounds_toArray, List.set_cons_zero, List.set_cons_succ]))
    refine wpRel_rich _ rfl rfl (fun W hW => ?_) (fun v W3 hW3 hv => ?_)
    · have hc := st_as (r := ⟨c, n, s, k, t, ch, g, h, y⟩) (w := W) (ao := ao) (cap := cap) HS.out HT.out.2.2.2.2.1
      go_simp
      refine Calls.mono hc ?_
      rintro e w' ⟨rfl, h⟩
      exact ⟨_, rfl, rfl, by first | exact h | (subst h; exact Ext.refl _)⟩
    obtain rfl := hv
    clear hW3
    simp only [Act.put, List.setIfInBounds_toArray, List.set_cons_zero, List.set_cons_succ]
    repeat (first
      | (refine wpRel_quick ?_ ?_ ?_ ?_
         · rfl
         · rfl
         · first | exact noEnter rfl | (intro f args W W'; go_simp)
         intro K hK
         go_big_quiet_op
         go_big_quiet_on)
      | (refine wpRel_skip ?_ ?_
         · rfl
         simp only [Act.put, List.setIfInBounds_toArray, List.set_cons_zero, List.set_cons_succ]))
    refine wpRel_rich _ rfl rfl (fun W hW => ?_) (fun v W3 hW3 hv => ?_)
    · have hc := rst_as (r := ⟨c, n, s, k, t, ch, g, h, y⟩) (w := W) (ao := ao) (cap := cap) HS.out HT.out.2.2.2.2.1
      go_simp
      refine Calls.mono hc ?_
      rintro e w' ⟨rfl, h⟩
      exact ⟨_, rfl, rfl, by first | exact h | (subst h; exact Ext.refl _)⟩
    obtain rfl := hv
    clear hW3
    simp only [Act.put, List.setIfInBounds_toArray, List.set_cons_zero, List.set_cons_succ]
    repeat (first
      | (refine wpRel_quick ?_ ?_ ?_ ?_
         · rfl
         · rfl
         · first | exact noEnter rfl | (intro f args W W'; go_simp)
         intro K hK
         go_big_quiet_op
         go_big_quiet_on)
      | (refine wpRel_skip ?_ ?_
         · rfl
         simp only [Act.put, List.setIfInBounds_toArray, List.set_cons_zero, List.set_cons_succ]))
    refine wpRel_nil ?_
    intro W3 hW3
    have HE3 := Lib.hid ((Ext.refl v4).drew.trans hW3.1)
    clear hW3
    go_wp2_with fail
    go_ret
    exact ⟨rfl, HX.out.trans HE3.out⟩
  · have hf := decide_eq_false hl
    clear hl
    refine (fw_as (r := ⟨c, n, s, k, t, ch, g, h, y⟩) hf HR.out).mono ?_
    rintro e v2 ⟨rfl, hE⟩
    have HD := Lib.hid (HD.out.ext hE)
    have HR := Lib.hid (HR.out.ext hE)
    have HK := Lib.hid (HK.out.ext hE)
    have HX := Lib.hid (HX.out.trans hE)
    clear hE
    go_wp2_with fail
    go_ret
    exact ⟨rfl, HX.out⟩
set_option maxRecDepth 100000 in
set_option maxHeartbeats 12800000 in
theorem lawq_dec (bs : List UInt8) (ao : Option Addr) (cap : Nat) (w : World) (hb : SL w 1 ao cap (br bs)) (hk : Kinds w) : Calls Tryd.prog 4 #[.slice ao bs.length cap] w fun e w' => e = .returned (.bool true) ∧ Ext w w' := by
  show Calls Tryd.prog 4 #[.slice ao bs.length cap] w _
  have hX := Ext.refl w
  have HB := Lib.hid hb
  clear hb
  have HK := Lib.hid (hk.ext hX)
  have HX := Lib.hid hX
  clear hk hX
  go_enter Tryd.func4, Tryd.ntmps4
  go_wp2_with fail
  refine (saneQ_any _ HK.out).mono ?_
  rintro e v1 ⟨rfl, hE⟩
  have HB := Lib.hid (HB.out.ext hE)
  have HK := Lib.hid (HK.out.ext hE)
  have HX := Lib.hid (HX.out.trans hE)
  clear hE
  by_cases hl : bs.length ≤ 1000
  · obtain ⟨⟨⟨c, n, s, k, t, ch, g, h, y⟩, er⟩, hq⟩ : ∃ q, decQ bs = q := ⟨_, rfl⟩
    have HQ := Lib.hid hq
    have HL : Hid (bs.length ≤ 1000000) := Lib.hid (by omega)
    have hf : ¬ ((1000 : Int) < (bs.length : Int)) := by omega
    clear hq hl
    go_wp2_with fail
    refine (show Calls Tryd.prog 19 #[.slice ao bs.length cap] v1 (fun e w' => ∃ a d, e = .returned (.tuple #[.agg #[.int .i64 c, .int .i64 n, .int .i64 s, .int .i64 k, .int .i64 t, .slice a ch.length d, .int .i64 g, .int .i64 h, .int .i64 y], .int .i64 er]) ∧ RepB w' a d ch ∧ Ext v1 w') from de_as HQ.out HB.out HL.out HK.out).mono ?_
    rintro e v2 ⟨a1, d1, rfl, hR, hE⟩
    have HB := Lib.hid (HB.out.ext hE)
    have HK := Lib.hid (HK.out.ext hE)
    have HX := Lib.hid (HX.out.trans hE)
    have HR1 := Lib.hid hR
    clear hE hR
    have hA : Ext v2 (v2.alloc (.cells #[.int .i64 c, .int .i64 n, .int .i64 s, .int .i64 k, .int .i64 t, .slice a1 ch.length d1, .int .i64 g, .int .i64 h, .int .i64 y] 26)) := (Ext.refl _).alloc _
    have hB : BoxQ (v2.alloc (.cells #[.int .i64 c, .int .i64 n, .int .i64 s, .int .i64 k, .int .i64 t, .slice a1 ch.length d1, .int .i64 g, .int .i64 h, .int .i64 y] 26)) v2.heap.size ⟨c, n, s, k, t, ch, g, h, y⟩ a1 d1 := BoxQ.new _ ⟨c, n, s, k, t, ch, g, h, y⟩ a1 d1 _ _ rfl
    go_wp2_with fail
    generalize (v2.alloc (.cells #[.int .i64 c, .int .i64 n, .int .i64 s, .int .i64 k, .int .i64 t, .slice a1 ch.length d1, .int .i64 g, .int .i64 h, .int .i64 y] 26)) = u2 at *
    have HB := Lib.hid (HB.out.ext hA)
    have HK := Lib.hid (HK.out.ext hA)
    have HR1 := Lib.hid (HR1.out.ext hA)
    have HX := Lib.hid (HX.out.trans hA)
    have HD1 := Lib.hid hB
    clear hA hB
    refine (show Calls Tryd.prog 20 #[.slice ao bs.length cap] u2 (fun e w' => ∃ a d, e = .returned (.tuple #[.agg #[.int .i64 c, .int .i64 n, .int .i64 s, .int .i64 k, .int .i64 t, .slice a ch.length d, .int .i64 g, .int .i64 h, .int .i64 y], .int .i64 er]) ∧ RepB w' a d ch ∧ Ext u2 w') from rde_as HQ.out HB.out HL.out).mono ?_
    rintro e v3 ⟨a2, d2, rfl, hR, hE⟩
    have HB := Lib.hid (HB.out.ext hE)
    have HK := Lib.hid (HK.out.ext hE)
    have HR1 := Lib.hid (HR1.out.ext hE)
    have HD1 := Lib.hid (HD1.out.ext hE)
    have HX := Lib.hid (HX.out.trans hE)
    have HR2 := Lib.hid hR
    clear hE hR
    obtain ⟨z0, z1, z2, z3, z4, z5, z6, z7, z8, -⟩ := HD1.out
    try dsimp only at z0 z1 z2 z3 z4 z5 z6 z7 z8
    have hA : Ext v3 (v3.alloc (.cells #[.int .i64 c, .int .i64 n, .int .i64 s, .int .i64 k, .int .i64 t, .slice a2 ch.length d2, .int .i64 g, .int .i64 h, .int .i64 y] 26)) := (Ext.refl _).alloc _
    have hB : BoxQ (v3.alloc (.cells #[.int .i64 c, .int .i64 n, .int .i64 s, .int .i64 k, .int .i64 t, .slice a2 ch.length d2, .int .i64 g, .int .i64 h, .int .i64 y] 26)) v3.heap.size ⟨c, n, s, k, t, ch, g, h, y⟩ a2 d2 := BoxQ.new _ ⟨c, n, s, k, t, ch, g, h, y⟩ a2 d2 _ _ rfl
    obtain ⟨e0, e1, e2, e3, e4, e5, e6, e7, e8, -⟩ := HD1.out.ext hA
    try dsimp only at e0 e1 e2 e3 e4 e5 e6 e7 e8
    go_wp2_with fail
    clear e0 e1 e2 e3 e4 e5 e6 e7 e8
    generalize (v3.alloc (.cells #[.int .i64 c, .int .i64 n, .int .i64 s, .int .i64 k, .int .i64 t, .slice a2 ch.length d2, .int .i64 g, .int .i64 h, .int .i64 y] 26)) = u3 at *
    have HB := Lib.hid (HB.out.ext hA)
    have HK := Lib.hid (HK.out.ext hA)
    have HR1 := Lib.hid (HR1.out.ext hA)
    have HD1 := Lib.hid (HD1.out.ext hA)
    have HR2 := Lib.hid (HR2.out.ext hA)
    have HX := Lib.hid (HX.out.trans hA)
    have HD2 := Lib.hid hB
    clear hA hB
    clear z0 z1 z2 z3 z4 z5 z6 z7 z8
    refine (sm_as (r := ⟨c, n, s, k, t, ch, g, h, y⟩) (s := ⟨c, n, s, k, t, ch, g, h, y⟩) (decide_eq_true rfl) HR1.out HR2.out).mono ?_
    rintro e v4 ⟨rfl, hE⟩
    have HB := Lib.hid (HB.out.ext hE)
    have HK := Lib.hid (HK.out.ext hE)
    have HR1 := Lib.hid (HR1.out.ext hE)
    have HD1 := Lib.hid (HD1.out.ext hE)
    have HR2 := Lib.hid (HR2.out.ext hE)
    have HD2 := Lib.hid (HD2.out.ext hE)
    have HX := Lib.hid (HX.out.trans hE)
    clear hE
    go_wp2_with fail
    go_ret
    exact ⟨by simp, HX.out⟩
  · have hf : (1000 : Int) < (bs.length : Int) := by omega
    go_wp2_with fail
    go_ret
    exact ⟨rfl, HX.out⟩
end Go.Proofs.YtahaplioegeloaaDoor
namespace Go.Sz
theorem stale_mono {t a b : Int} (h : a ≤ b) (hs : staleQ t a = true) : staleQ t b = true := by
  unfold staleQ at *
  simp only [Bool.and_eq_true, decide_eq_true_eq] at *
  omega
theorem stale_self (t : Int) : staleQ t t = false := by
  unfold staleQ
  rw [Bool.and_eq_false_iff]
  right
  simp
  omega
theorem stale_64 (t : Int) : staleQ t (t + 64) = false := by
  unfold staleQ
  rw [Bool.and_eq_false_iff]
  right
  simp
theorem i64_add (n m : Int) (h : 0 ≤ n ∧ n ≤ 4000000) (h2 : 0 ≤ m ∧ m ≤ 4000000) : IntKind.i64.wrap (n + m) = n + m := by
  have h3 : -4611686018427387904 ≤ n + m ∧ n + m ≤ 4611686018427387904 := by omega
  generalize n + m = q at *
  simp [IntKind.wrap, IntKind.bits, IntKind.signed]; omega
theorem stale_65 {t : Int} (h : t ≤ 1048576) : staleQ t (t + 65) = true := by
  unfold staleQ
  simp only [Bool.and_eq_true, decide_eq_true_eq]
  omega
end Go.Sz
namespace Go.Proofs.YtahaplioegeloaaDoor
open Go.RowKit Go.Sz
set_option maxRecDepth 100000 in
set_option maxHeartbeats 12800000 in
theorem lawq_stale (r : Rq) (ao : Option Addr) (cap : Nat) (now later : Int) (w : World) (hr : RepB w ao cap r.ch) (ht : r.ok) (hk : Kinds w) : Calls Tryd.prog 10 #[.agg (r.cells ao cap).toArray, .int .i64 now, .int .i64 later] w fun e w' => e = .returned (.bool true) ∧ Ext w w' := by
  obtain ⟨c, n, s, k, t, ch, g, h, y⟩ := r
  show Calls Tryd.prog 10 #[.agg #[.int .i64 c, .int .i64 n, .int .i64 s, .int .i64 k, .int .i64 t, .slice ao ch.length cap, .int .i64 g, .int .i64 h, .int .i64 y], .int .i64 now, .int .i64 later] w _
  have hX : Ext w (w.alloc (.cells #[.int .i64 c, .int .i64 n, .int .i64 s, .int .i64 k, .int .i64 t, .slice ao ch.length cap, .int .i64 g, .int .i64 h, .int .i64 y] 26)) := (Ext.refl w).alloc _
  have HD : Hid (BoxQ (w.alloc (.cells #[.int .i64 c, .int .i64 n, .int .i64 s, .int .i64 k, .int .i64 t, .slice ao ch.length cap, .int .i64 g, .int .i64 h, .int .i64 y] 26)) (w.heap.size) ⟨c, n, s, k, t, ch, g, h, y⟩ ao cap) := Lib.hid (BoxQ.new w ⟨c, n, s, k, t, ch, g, h, y⟩ ao cap 26 (w.heap.size) (by simp))
  have HR : Hid (RepB (w.alloc (.cells #[.int .i64 c, .int .i64 n, .int .i64 s, .int .i64 k, .int .i64 t, .slice ao ch.length cap, .int .i64 g, .int .i64 h, .int .i64 y] 26)) ao cap ch) := Lib.hid (RepB.ext hr hX)
  have HT := Lib.hid ht
  clear hr ht
  have HK := Lib.hid (hk.ext hX)
  have HX := Lib.hid hX
  clear hk hX
  go_enter Tryd.func10, Tryd.ntmps10
  go_wp2_with fail
  generalize (w.alloc (.cells #[.int .i64 c, .int .i64 n, .int .i64 s, .int .i64 k, .int .i64 t, .slice ao ch.length cap, .int .i64 g, .int .i64 h, .int .i64 y] 26)) = w0 at *
  refine (saneQ_any _ HK.out).mono ?_
  rintro e v1 ⟨rfl, hE⟩
  have HD := Lib.hid (HD.out.ext hE)
  have HK := Lib.hid (HK.out.ext hE)
  have HX := Lib.hid (HX.out.trans hE)
  clear hE
  have ht0 := HT.out.2.2.2.2.1
  dsimp only at ht0
  have HT0 := Lib.hid ht0
  clear ht0 HT
  by_cases hlt : later < now
  · have hz : later < now := hlt
    have hm := stale_mono (t := t) (show later ≤ now by omega)
    obtain ⟨p, hp⟩ : ∃ p, staleQ t later = p := ⟨_, rfl⟩
    obtain ⟨q, hq⟩ : ∃ q, staleQ t now = q := ⟨_, rfl⟩
    rw [hp, hq] at hm
    have HP := Lib.hid hp
    have HQ := Lib.hid hq
    clear hp hq
    obtain ⟨z0, z1, z2, z3, z4, z5, z6, z7, z8, -⟩ := HD.out
    try dsimp only at z0 z1 z2 z3 z4 z5 z6 z7 z8
    go_wp2_with fail
    clear z0 z1 z2 z3 z4 z5 z6 z7 z8
    refine (st_as (r := ⟨c, n, s, k, t, ch, g, h, y⟩) (ao := ao) (cap := cap) HP.out HT0.out).mono ?_
    rintro e v2 ⟨rfl, hE⟩
    have HD := Lib.hid (HD.out.ext hE)
    have HK := Lib.hid (HK.out.ext hE)
    have HX := Lib.hid (HX.out.trans hE)
    clear hE
    cases p with
    | true =>
        obtain rfl : q = true := hm rfl
        clear hm
        obtain ⟨z0, z1, z2, z3, z4, z5, z6, z7, z8, -⟩ := HD.out
        try dsimp only at z0 z1 z2 z3 z4 z5 z6 z7 z8
        go_wp2_with fail
        clear z0 z1 z2 z3 z4 z5 z6 z7 z8
        refine (st_as (r := ⟨c, n, s, k, t, ch, g, h, y⟩) (ao := ao) (cap := cap) HQ.out HT0.out).mono ?_
        rintro e v3 ⟨rfl, hE⟩
        have HD := Lib.hid (HD.out.ext hE)
        have HK := Lib.hid (HK.out.ext hE)
        have HX := Lib.hid (HX.out.trans hE)
        clear hE
        obtain ⟨z0, z1, z2, z3, z4, z5, z6, z7, z8, -⟩ := HD.out
        try dsimp only at z0 z1 z2 z3 z4 z5 z6 z7 z8
        go_wp2_with fail
        clear z0 z1 z2 z3 z4 z5 z6 z7 z8
        refine (st_as (r := ⟨c, n, s, k, t, ch, g, h, y⟩) (ao := ao) (cap := cap) (stale_self t) HT0.out).mono ?_
        rintro e v4 ⟨rfl, hE⟩
        have HD := Lib.hid (HD.out.ext hE)
        have HK := Lib.hid (HK.out.ext hE)
        have HX := Lib.hid (HX.out.trans hE)
        clear hE
        by_cases h0 : t < 0
        · obtain ⟨d0, d1, d2, d3, d4, d5, d6, d7, d8, -⟩ := HD.out
          try dsimp only at d0 d1 d2 d3 d4 d5 d6 d7 d8
          go_wp2_with fail
          go_ret
          exact ⟨rfl, HX.out⟩
        by_cases h1 : (1048576 : Int) < t
        · obtain ⟨d0, d1, d2, d3, d4, d5, d6, d7, d8, -⟩ := HD.out
          try dsimp only at d0 d1 d2 d3 d4 d5 d6 d7 d8
          go_wp2_with fail
          go_ret
          exact ⟨rfl, HX.out⟩
        have HA := Lib.hid (stale_65 (t := t) (by omega))
        have e1 : IntKind.i64.wrap (t + 64) = t + 64 := i64_add _ _ ⟨by omega, by omega⟩ ⟨by omega, by omega⟩
        have e2 : IntKind.i64.wrap (t + 65) = t + 65 := i64_add _ _ ⟨by omega, by omega⟩ ⟨by omega, by omega⟩
        obtain ⟨z0, z1, z2, z3, z4, z5, z6, z7, z8, -⟩ := HD.out
        try dsimp only at z0 z1 z2 z3 z4 z5 z6 z7 z8
        go_wp2_with fail
        clear z0 z1 z2 z3 z4 z5 z6 z7 z8
        refine (st_as (r := ⟨c, n, s, k, t, ch, g, h, y⟩) (ao := ao) (cap := cap) (stale_64 t) HT0.out).mono ?_
        rintro e v5 ⟨rfl, hE⟩
        have HD := Lib.hid (HD.out.ext hE)
        have HK := Lib.hid (HK.out.ext hE)
        have HX := Lib.hid (HX.out.trans hE)
        clear hE
        obtain ⟨z0, z1, z2, z3, z4, z5, z6, z7, z8, -⟩ := HD.out
        try dsimp only at z0 z1 z2 z3 z4 z5 z6 z7 z8
        go_wp2_with fail
        clear z0 z1 z2 z3 z4 z5 z6 z7 z8
        refine (st_as (r := ⟨c, n, s, k, t, ch, g, h, y⟩) (ao := ao) (cap := cap) HA.out HT0.out).mono ?_
        rintro e v6 ⟨rfl, hE⟩
        have HD := Lib.hid (HD.out.ext hE)
        have HK := Lib.hid (HK.out.ext hE)
        have HX := Lib.hid (HX.out.trans hE)
        clear hE
        go_wp2_with fail
        go_ret
        exact ⟨rfl, HX.out⟩
    | false =>
        clear hm
        obtain ⟨z0, z1, z2, z3, z4, z5, z6, z7, z8, -⟩ := HD.out
        try dsimp only at z0 z1 z2 z3 z4 z5 z6 z7 z8
        go_wp2_with fail
        clear z0 z1 z2 z3 z4 z5 z6 z7 z8
        refine (st_as (r := ⟨c, n, s, k, t, ch, g, h, y⟩) (ao := ao) (cap := cap) (stale_self t) HT0.out).mono ?_
        rintro e v3 ⟨rfl, hE⟩
        have HD := Lib.hid (HD.out.ext hE)
        have HK := Lib.hid (HK.out.ext hE)
        have HX := Lib.hid (HX.out.trans hE)
        clear hE
        by_cases h0 : t < 0
        · obtain ⟨d0, d1, d2, d3, d4, d5, d6, d7, d8, -⟩ := HD.out
          try dsimp only at d0 d1 d2 d3 d4 d5 d6 d7 d8
          go_wp2_with fail
          go_ret
          exact ⟨rfl, HX.out⟩
        by_cases h1 : (1048576 : Int) < t
        · obtain ⟨d0, d1, d2, d3, d4, d5, d6, d7, d8, -⟩ := HD.out
          try dsimp only at d0 d1 d2 d3 d4 d5 d6 d7 d8
          go_wp2_with fail
          go_ret
          exact ⟨rfl, HX.out⟩
        have HA := Lib.hid (stale_65 (t := t) (by omega))
        have e1 : IntKind.i64.wrap (t + 64) = t + 64 := i64_add _ _ ⟨by omega, by omega⟩ ⟨by omega, by omega⟩
        have e2 : IntKind.i64.wrap (t + 65) = t + 65 := i64_add _ _ ⟨by omega, by omega⟩ ⟨by omega, by omega⟩
        obtain ⟨z0, z1, z2, z3, z4, z5, z6, z7, z8, -⟩ := HD.out
        try dsimp only at z0 z1 z2 z3 z4 z5 z6 z7 z8
        go_wp2_with fail
        clear z0 z1 z2 z3 z4 z5 z6 z7 z8
        refine (st_as (r := ⟨c, n, s, k, t, ch, g, h, y⟩) (ao := ao) (cap := cap) (stale_64 t) HT0.out).mono ?_
        rintro e v4 ⟨rfl, hE⟩
        have HD := Lib.hid (HD.out.ext hE)
        have HK := Lib.hid (HK.out.ext hE)
        have HX := Lib.hid (HX.out.trans hE)
        clear hE
        obtain ⟨z0, z1, z2, z3, z4, z5, z6, z7, z8, -⟩ := HD.out
        try dsimp only at z0 z1 z2 z3 z4 z5 z6 z7 z8
        go_wp2_with fail
        clear z0 z1 z2 z3 z4 z5 z6 z7 z8
        refine (st_as (r := ⟨c, n, s, k, t, ch, g, h, y⟩) (ao := ao) (cap := cap) HA.out HT0.out).mono ?_
        rintro e v5 ⟨rfl, hE⟩
        have HD := Lib.hid (HD.out.ext hE)
        have HK := Lib.hid (HK.out.ext hE)
        have HX := Lib.hid (HX.out.trans hE)
        clear hE
        go_wp2_with fail
        go_ret
        exact ⟨rfl, HX.out⟩
  · have hz : ¬ later < now := hlt
    have hm := stale_mono (t := t) (show now ≤ later by omega)
    obtain ⟨p, hp⟩ : ∃ p, staleQ t now = p := ⟨_, rfl⟩
    obtain ⟨q, hq⟩ : ∃ q, staleQ t later = q := ⟨_, rfl⟩
    rw [hp, hq] at hm
    have HP := Lib.hid hp
    have HQ := Lib.hid hq
    clear hp hq
    obtain ⟨z0, z1, z2, z3, z4, z5, z6, z7, z8, -⟩ := HD.out
    try dsimp only at z0 z1 z2 z3 z4 z5 z6 z7 z8
    go_wp2_with fail
    clear z0 z1 z2 z3 z4 z5 z6 z7 z8
    refine (st_as (r := ⟨c, n, s, k, t, ch, g, h, y⟩) (ao := ao) (cap := cap) HP.out HT0.out).mono ?_
    rintro e v2 ⟨rfl, hE⟩
    have HD := Lib.hid (HD.out.ext hE)
    have HK := Lib.hid (HK.out.ext hE)
    have HX := Lib.hid (HX.out.trans hE)
    clear hE
    cases p with
    | true =>
        obtain rfl : q = true := hm rfl
        clear hm
        obtain ⟨z0, z1, z2, z3, z4, z5, z6, z7, z8, -⟩ := HD.out
        try dsimp only at z0 z1 z2 z3 z4 z5 z6 z7 z8
        go_wp2_with fail
        clear z0 z1 z2 z3 z4 z5 z6 z7 z8
        refine (st_as (r := ⟨c, n, s, k, t, ch, g, h, y⟩) (ao := ao) (cap := cap) HQ.out HT0.out).mono ?_
        rintro e v3 ⟨rfl, hE⟩
        have HD := Lib.hid (HD.out.ext hE)
        have HK := Lib.hid (HK.out.ext hE)
        have HX := Lib.hid (HX.out.trans hE)
        clear hE
        obtain ⟨z0, z1, z2, z3, z4, z5, z6, z7, z8, -⟩ := HD.out
        try dsimp only at z0 z1 z2 z3 z4 z5 z6 z7 z8
        go_wp2_with fail
        clear z0 z1 z2 z3 z4 z5 z6 z7 z8
        refine (st_as (r := ⟨c, n, s, k, t, ch, g, h, y⟩) (ao := ao) (cap := cap) (stale_self t) HT0.out).mono ?_
        rintro e v4 ⟨rfl, hE⟩
        have HD := Lib.hid (HD.out.ext hE)
        have HK := Lib.hid (HK.out.ext hE)
        have HX := Lib.hid (HX.out.trans hE)
        clear hE
        by_cases h0 : t < 0
        · obtain ⟨d0, d1, d2, d3, d4, d5, d6, d7, d8, -⟩ := HD.out
          try dsimp only at d0 d1 d2 d3 d4 d5 d6 d7 d8
          go_wp2_with fail
          go_ret
          exact ⟨rfl, HX.out⟩
        by_cases h1 : (1048576 : Int) < t
        · obtain ⟨d0, d1, d2, d3, d4, d5, d6, d7, d8, -⟩ := HD.out
          try dsimp only at d0 d1 d2 d3 d4 d5 d6 d7 d8
          go_wp2_with fail
          go_ret
          exact ⟨rfl, HX.out⟩
        have HA := Lib.hid (stale_65 (t := t) (by omega))
        have e1 : IntKind.i64.wrap (t + 64) = t + 64 := i64_add _ _ ⟨by omega, by omega⟩ ⟨by omega, by omega⟩
        have e2 : IntKind.i64.wrap (t + 65) = t + 65 := i64_add _ _ ⟨by omega, by omega⟩ ⟨by omega, by omega⟩
        obtain ⟨z0, z1, z2, z3, z4, z5, z6, z7, z8, -⟩ := HD.out
        try dsimp only at z0 z1 z2 z3 z4 z5 z6 z7 z8
        go_wp2_with fail
        clear z0 z1 z2 z3 z4 z5 z6 z7 z8
        refine (st_as (r := ⟨c, n, s, k, t, ch, g, h, y⟩) (ao := ao) (cap := cap) (stale_64 t) HT0.out).mono ?_
        rintro e v5 ⟨rfl, hE⟩
        have HD := Lib.hid (HD.out.ext hE)
        have HK := Lib.hid (HK.out.ext hE)
        have HX := Lib.hid (HX.out.trans hE)
        clear hE
        obtain ⟨z0, z1, z2, z3, z4, z5, z6, z7, z8, -⟩ := HD.out
        try dsimp only at z0 z1 z2 z3 z4 z5 z6 z7 z8
        go_wp2_with fail
        clear z0 z1 z2 z3 z4 z5 z6 z7 z8
        refine (st_as (r := ⟨c, n, s, k, t, ch, g, h, y⟩) (ao := ao) (cap := cap) HA.out HT0.out).mono ?_
        rintro e v6 ⟨rfl, hE⟩
        have HD := Lib.hid (HD.out.ext hE)
        have HK := Lib.hid (HK.out.ext hE)
        have HX := Lib.hid (HX.out.trans hE)
        clear hE
        go_wp2_with fail
        go_ret
        exact ⟨rfl, HX.out⟩
    | false =>
        clear hm
        obtain ⟨z0, z1, z2, z3, z4, z5, z6, z7, z8, -⟩ := HD.out
        try dsimp only at z0 z1 z2 z3 z4 z5 z6 z7 z8
        go_wp2_with fail
        clear z0 z1 z2 z3 z4 z5 z6 z7 z8
        refine (st_as (r := ⟨c, n, s, k, t, ch, g, h, y⟩) (ao := ao) (cap := cap) (stale_self t) HT0.out).mono ?_
        rintro e v3 ⟨rfl, hE⟩
        have HD := Lib.hid (HD.out.ext hE)
        have HK := Lib.hid (HK.out.ext hE)
        have HX := Lib.hid (HX.out.trans hE)
        clear hE
        by_cases h0 : t < 0
        · obtain ⟨d0, d1, d2, d3, d4, d5, d6, d7, d8, -⟩ := HD.out
          try dsimp only at d0 d1 d2 d3 d4 d5 d6 d7 d8
          go_wp2_with fail
          go_ret
          exact ⟨rfl, HX.out⟩
        by_cases h1 : (1048576 : Int) < t
        · obtain ⟨d0, d1, d2, d3, d4, d5, d6, d7, d8, -⟩ := HD.out
          try dsimp only at d0 d1 d2 d3 d4 d5 d6 d7 d8
          go_wp2_with fail
          go_ret
          exact ⟨rfl, HX.out⟩
        have HA := Lib.hid (stale_65 (t := t) (by omega))
        have e1 : IntKind.i64.wrap (t + 64) = t + 64 := i64_add _ _ ⟨by omega, by omega⟩ ⟨by omega, by omega⟩
        have e2 : IntKind.i64.wrap (t + 65) = t + 65 := i64_add _ _ ⟨by omega, by omega⟩ ⟨by omega, by omega⟩
        obtain ⟨z0, z1, z2, z3, z4, z5, z6, z7, z8, -⟩ := HD.out
        try dsimp only at z0 z1 z2 z3 z4 z5 z6 z7 z8
        go_wp2_with fail
        clear z0 z1 z2 z3 z4 z5 z6 z7 z8
        refine (st_as (r := ⟨c, n, s, k, t, ch, g, h, y⟩) (ao := ao) (cap := cap) (stale_64 t) HT0.out).mono ?_
        rintro e v4 ⟨rfl, hE⟩
        have HD := Lib.hid (HD.out.ext hE)
        have HK := Lib.hid (HK.out.ext hE)
        have HX := Lib.hid (HX.out.trans hE)
        clear hE
        obtain ⟨z0, z1, z2, z3, z4, z5, z6, z7, z8, -⟩ := HD.out
        try dsimp only at z0 z1 z2 z3 z4 z5 z6 z7 z8
        go_wp2_with fail
        clear z0 z1 z2 z3 z4 z5 z6 z7 z8
        refine (st_as (r := ⟨c, n, s, k, t, ch, g, h, y⟩) (ao := ao) (cap := cap) HA.out HT0.out).mono ?_
        rintro e v5 ⟨rfl, hE⟩
        have HD := Lib.hid (HD.out.ext hE)
        have HK := Lib.hid (HK.out.ext hE)
        have HX := Lib.hid (HX.out.trans hE)
        clear hE
        go_wp2_with fail
        go_ret
        exact ⟨rfl, HX.out⟩
end Go.Proofs.YtahaplioegeloaaDoor
namespace Go.Proofs.YtahaplioegeloaaDoor
open Go.RowKit Go.Sz Go.ChangeShapes Go.WideShapes

set_option maxRecDepth 100000 in
theorem own : ownKnob Tryd.prog.godebug = none := by kernel_rfl
set_option maxRecDepth 100000 in
theorem laidOut : laidOutB Tryd.prog = true := by kernel_rfl
set_option maxRecDepth 100000 in
theorem cellsB : Tryd.prog.cellsOf 5 = 1 := by kernel_rfl
set_option maxRecDepth 100000 in
theorem cellsI : Tryd.prog.cellsOf 3 = 1 := by kernel_rfl
set_option maxRecDepth 100000 in
theorem cellsE : Tryd.prog.cellsOf 30 = 1 := by kernel_rfl
set_option maxRecDepth 100000 in
theorem cellsBo : Tryd.prog.cellsOf 4 = 1 := by kernel_rfl
set_option maxRecDepth 100000 in
theorem cellsBu : Tryd.prog.cellsOf 24 = 2 := by kernel_rfl
set_option maxRecDepth 100000 in
theorem cellsRq : Tryd.prog.cellsOf 26 = 9 := by kernel_rfl
set_option maxRecDepth 100000 in
theorem cellsOc : Tryd.prog.cellsOf 42 = 7 := by kernel_rfl
set_option maxRecDepth 100000 in
theorem cellsLI : Tryd.prog.cellsOf 40 = 1 := by kernel_rfl
set_option maxRecDepth 100000 in
theorem cellsLB : Tryd.prog.cellsOf 22 = 1 := by kernel_rfl
set_option maxRecDepth 100000 in
theorem cellsK : Tryd.prog.cellsOf 66 = 4 := by kernel_rfl
set_option maxRecDepth 100000 in
theorem cellsKA : Tryd.prog.cellsOf 67 = 24 := by kernel_rfl

set_option maxRecDepth 100000 in
theorem okWide_agg {w : World} {base : Nat} {t : TypeId} {fs : Array Field} (ht : Tryd.prog.underlying t = some (.struct fs)) {v : Value} (h : Value.okWide Tryd.prog w .any base t v) : ∃ cs, v = .agg cs := by
  unfold Value.okWide at h
  rw [ht] at h
  obtain ⟨cs, rfl, _⟩ := h
  exact ⟨cs, rfl⟩

set_option maxRecDepth 100000 in
theorem trod_bytes {H : Type} (enc : TypeId × Value → H) (w : World) (sp : Nat → Bool) (held : Bool) (fuel : Nat) (v : Value) (x : DataW H × List MemPlace) (h : DataW.trod enc Tryd.prog w 0 sp held fuel 29 [v] = some x) :
    ∃ ao bs cap, v = .slice ao (List.length bs) cap ∧ SL w 1 ao cap (br bs) := by
  rcases DataW.trod_slice Tryd.underlying29 h with ⟨e3, _⟩ | ⟨a, len, cap, elems, rest, n2, hn2, e3, _, _, hlc, hcm, hel, hrow, _⟩
  · simp only [List.cons.injEq, and_true] at e3
    subst e3
    exact ⟨none, [], 0, rfl, SL.empty _ _⟩
  · simp only [List.cons.injEq, and_true] at e3
    subst e3
    rw [cellsB] at hrow
    obtain ⟨rows, bs, h1, h2, h3⟩ := list_of (R := fun i (r : List Value) (b : UInt8) => w.cells? 0 (a.add (i * 1)) 1 = some r ∧ r = [.int .u8 b.toNat]) len fun i hi => by
      have h4 := hrow i hi
      rw [List.getElem?_eq_getElem (by omega)] at h4
      obtain ⟨r, h5, h6⟩ := Option.bind_eq_some_iff.1 h4
      obtain ⟨m, e0, _, w0⟩ := DataW.trod_int Tryd.underlying5 h6
      have hr : 0 ≤ m ∧ m < 256 := by
        have hmin : IntKind.u8.min = 0 := by decide
        have hmax : IntKind.u8.max = 255 := by decide
        simp [Lit.wf, hmin, hmax] at w0
        omega
      refine ⟨r, UInt8.ofNat m.toNat, h5, ?_⟩
      rw [e0, UInt8.toNat_ofNat']
      simp
      omega
    have hrows : rows = br bs := by
      apply List.ext_getElem?
      intro i
      rcases Nat.lt_or_ge i len with hi | hi
      · have := (h3 i (rows[i]'(by omega)) (bs[i]'(by omega)) (List.getElem?_eq_getElem _) (List.getElem?_eq_getElem _)).2
        rw [List.getElem?_eq_getElem (by omega), this]
        simp only [br, List.getElem?_map]
        rw [List.getElem?_eq_getElem (by omega)]
        rfl
      · rw [List.getElem?_eq_none (by omega), List.getElem?_eq_none (by rw [br_length]; omega)]
    refine ⟨some a, bs, cap, by rw [h2], ?_⟩
    rw [← hrows]
    exact sl_of_cells (by omega) hlc hcm h1 fun i r hr => (h3 i r (bs[i]'(by have := (List.getElem?_eq_some_iff.1 hr).1; omega)) hr (List.getElem?_eq_getElem _)).1

set_option maxRecDepth 100000 in
theorem trod_bun {H : Type} (enc : TypeId × Value → H) (w : World) (sp : Nat → Bool) (held : Bool) (fuel : Nat) (cs : List Value) (x : DataW H × List MemPlace) (h : DataW.trod enc Tryd.prog w 0 sp held fuel 24 cs = some x) : ∃ b : Bd, cs = [.int .i64 b.1, .int .i64 b.2] ∧ inI64 b.1 ∧ inI64 b.2 := by
  obtain ⟨xs, n, hn, hx, hl, hlen, hf⟩ := DataW.trod_struct Tryd.underlying24 h
  rw [cellsBu] at hl
  match cs, hl with
  | [c0, c1], _ =>
  have f0 : DataW.trod enc Tryd.prog w 0 sp held n 3 (([c0, c1].drop 0).take (Tryd.prog.cellsOf 3)) = xs[0]? := hf 0 _ rfl
  have f1 : DataW.trod enc Tryd.prog w 0 sp held n 3 (([c0, c1].drop 1).take (Tryd.prog.cellsOf 3)) = xs[1]? := hf 1 _ rfl
  simp only [cellsI, List.drop_zero, List.drop_succ_cons, List.take_succ_cons, List.take_zero] at f0 f1
  rw [List.getElem?_eq_getElem (by rw [hlen]; simp)] at f0 f1
  obtain ⟨a, e0, _, w0⟩ := DataW.trod_int Tryd.underlying3 f0
  obtain ⟨b, e1, _, w1⟩ := DataW.trod_int Tryd.underlying3 f1
  simp only [List.cons.injEq, and_true] at e0 e1
  subst e0 e1
  exact ⟨(a, b), rfl, wf_i64 w0, wf_i64 w1⟩
set_option maxRecDepth 100000 in
theorem trod_buns {H : Type} (enc : TypeId × Value → H) (w : World) (sp : Nat → Bool) (held : Bool) (fuel : Nat) (v : Value) (x : DataW H × List MemPlace) (h : DataW.trod enc Tryd.prog w 0 sp held fuel 22 [v] = some x) :
    ∃ ao l cap, v = .slice ao (List.length l) cap ∧ RepB w ao cap l := by
  rcases DataW.trod_slice Tryd.underlying22 h with ⟨e3, _⟩ | ⟨ad, len, cap, elems, rest, n2, hn2, e3, _, _, hlc, hcm, hel, hrow, _⟩
  · simp only [List.cons.injEq, and_true] at e3
    subst e3
    exact ⟨none, [], 0, rfl, SL.empty _ _⟩
  · simp only [List.cons.injEq, and_true] at e3
    subst e3
    rw [cellsBu] at hrow
    obtain ⟨rows, l, h1, h2, h3⟩ := list_of (R := fun i (r : List Value) (p : Bd) => w.cells? 0 (ad.add (i * 2)) 2 = some r ∧ r = [.int .i64 p.1, .int .i64 p.2]) len fun i hi => by
      have h4 := hrow i hi
      rw [List.getElem?_eq_getElem (by omega)] at h4
      obtain ⟨r, h5, h6⟩ := Option.bind_eq_some_iff.1 h4
      obtain ⟨b, hb, _⟩ := trod_bun enc w sp held n2 r _ h6
      exact ⟨r, b, h5, hb⟩
    have hrows : rows = brows l := by
      apply List.ext_getElem?
      intro i
      rcases Nat.lt_or_ge i len with hi | hi
      · have := (h3 i (rows[i]'(by omega)) (l[i]'(by omega)) (List.getElem?_eq_getElem _) (List.getElem?_eq_getElem _)).2
        rw [List.getElem?_eq_getElem (by omega), this]
        simp only [brows, List.getElem?_map]
        rw [List.getElem?_eq_getElem (by omega)]
        rfl
      · rw [List.getElem?_eq_none (by omega), List.getElem?_eq_none (by rw [brows_length]; omega)]
    refine ⟨some ad, l, cap, by rw [h2], ?_⟩
    show SL _ _ _ _ _
    rw [← hrows]
    exact sl_of_cells (by omega) hlc hcm h1 fun i r hr => (h3 i r (l[i]'(by have := (List.getElem?_eq_some_iff.1 hr).1; omega)) hr (List.getElem?_eq_getElem _)).1
set_option maxRecDepth 100000 in
theorem trod_ints {H : Type} (enc : TypeId × Value → H) (w : World) (sp : Nat → Bool) (held : Bool) (fuel : Nat) (v : Value) (x : DataW H × List MemPlace) (h : DataW.trod enc Tryd.prog w 0 sp held fuel 40 [v] = some x) :
    ∃ ao l cap, v = .slice ao (List.length l) cap ∧ SL w 1 ao cap (irows l) := by
  rcases DataW.trod_slice Tryd.underlying40 h with ⟨e3, _⟩ | ⟨ad, len, cap, elems, rest, n2, hn2, e3, _, _, hlc, hcm, hel, hrow, _⟩
  · simp only [List.cons.injEq, and_true] at e3
    subst e3
    exact ⟨none, [], 0, rfl, SL.empty _ _⟩
  · simp only [List.cons.injEq, and_true] at e3
    subst e3
    rw [cellsI] at hrow
    obtain ⟨rows, l, h1, h2, h3⟩ := list_of (R := fun i (r : List Value) (p : Int) => w.cells? 0 (ad.add (i * 1)) 1 = some r ∧ r = [.int .i64 p]) len fun i hi => by
      have h4 := hrow i hi
      rw [List.getElem?_eq_getElem (by omega)] at h4
      obtain ⟨r, h5, h6⟩ := Option.bind_eq_some_iff.1 h4
      obtain ⟨m, hm, _⟩ := DataW.trod_int Tryd.underlying3 h6
      exact ⟨r, m, h5, hm⟩
    have hrows : rows = irows l := by
      apply List.ext_getElem?
      intro i
      rcases Nat.lt_or_ge i len with hi | hi
      · have := (h3 i (rows[i]'(by omega)) (l[i]'(by omega)) (List.getElem?_eq_getElem _) (List.getElem?_eq_getElem _)).2
        rw [List.getElem?_eq_getElem (by omega), this]
        simp only [irows, List.getElem?_map]
        rw [List.getElem?_eq_getElem (by omega)]
        rfl
      · rw [List.getElem?_eq_none (by omega), List.getElem?_eq_none (by rw [irows_length]; omega)]
    refine ⟨some ad, l, cap, by rw [h2], ?_⟩
    show SL _ _ _ _ _
    rw [← hrows]
    exact sl_of_cells (by omega) hlc hcm h1 fun i r hr => (h3 i r (l[i]'(by have := (List.getElem?_eq_some_iff.1 hr).1; omega)) hr (List.getElem?_eq_getElem _)).1
set_option maxRecDepth 100000 in
theorem trod_rq {H : Type} (enc : TypeId × Value → H) (w : World) (sp : Nat → Bool) (held : Bool) (fuel : Nat) (cs : List Value) (x : DataW H × List MemPlace) (h : DataW.trod enc Tryd.prog w 0 sp held fuel 26 cs = some x) : ∃ r ao cap, cs = Rq.cells r ao cap ∧ RepB w ao cap r.ch ∧ r.ok := by
  obtain ⟨xs, n, hn, hx, hl, hlen, hf⟩ := DataW.trod_struct Tryd.underlying26 h
  rw [cellsRq] at hl
  match cs, hl with
  | [c0, c1, c2, c3, c4, c5, c6, c7, c8], _ =>
  have f0 : DataW.trod enc Tryd.prog w 0 sp held n 3 (([c0, c1, c2, c3, c4, c5, c6, c7, c8].drop 0).take (Tryd.prog.cellsOf 3)) = xs[0]? := hf 0 _ rfl
  have f1 : DataW.trod enc Tryd.prog w 0 sp held n 3 (([c0, c1, c2, c3, c4, c5, c6, c7, c8].drop 1).take (Tryd.prog.cellsOf 3)) = xs[1]? := hf 1 _ rfl
  have f2 : DataW.trod enc Tryd.prog w 0 sp held n 3 (([c0, c1, c2, c3, c4, c5, c6, c7, c8].drop 2).take (Tryd.prog.cellsOf 3)) = xs[2]? := hf 2 _ rfl
  have f3 : DataW.trod enc Tryd.prog w 0 sp held n 3 (([c0, c1, c2, c3, c4, c5, c6, c7, c8].drop 3).take (Tryd.prog.cellsOf 3)) = xs[3]? := hf 3 _ rfl
  have f4 : DataW.trod enc Tryd.prog w 0 sp held n 3 (([c0, c1, c2, c3, c4, c5, c6, c7, c8].drop 4).take (Tryd.prog.cellsOf 3)) = xs[4]? := hf 4 _ rfl
  have f5 : DataW.trod enc Tryd.prog w 0 sp held n 22 (([c0, c1, c2, c3, c4, c5, c6, c7, c8].drop 5).take (Tryd.prog.cellsOf 22)) = xs[5]? := hf 5 _ rfl
  have f6 : DataW.trod enc Tryd.prog w 0 sp held n 24 (([c0, c1, c2, c3, c4, c5, c6, c7, c8].drop 6).take (Tryd.prog.cellsOf 24)) = xs[6]? := hf 6 _ rfl
  have f7 : DataW.trod enc Tryd.prog w 0 sp held n 3 (([c0, c1, c2, c3, c4, c5, c6, c7, c8].drop 8).take (Tryd.prog.cellsOf 3)) = xs[7]? := hf 7 _ rfl
  simp only [cellsI, cellsLB, cellsBu, List.drop_zero, List.drop_succ_cons, List.take_succ_cons, List.take_zero] at f0 f1 f2 f3 f4 f5 f6 f7
  rw [List.getElem?_eq_getElem (by rw [hlen]; simp)] at f0 f1 f2 f3 f4 f5 f6 f7
  obtain ⟨n0, e0, _, w0⟩ := DataW.trod_int Tryd.underlying3 f0
  obtain ⟨n1, e1, _, w1⟩ := DataW.trod_int Tryd.underlying3 f1
  obtain ⟨n2, e2, _, w2⟩ := DataW.trod_int Tryd.underlying3 f2
  obtain ⟨n3, e3, _, w3⟩ := DataW.trod_int Tryd.underlying3 f3
  obtain ⟨n4, e4, _, w4⟩ := DataW.trod_int Tryd.underlying3 f4
  obtain ⟨n7, e7, _, w7⟩ := DataW.trod_int Tryd.underlying3 f7
  obtain ⟨ao, l, cap, e5, hs⟩ := trod_buns enc w sp held n c5 _ f5
  obtain ⟨⟨gs, gl⟩, e6, wg, wh⟩ := trod_bun enc w sp held n _ _ f6
  simp only [List.cons.injEq, and_true] at e0 e1 e2 e3 e4 e6 e7
  obtain ⟨e6, e8⟩ := e6
  subst e0 e1 e2 e3 e4 e5 e6 e7 e8
  exact ⟨⟨n0, n1, n2, n3, n4, l, gs, gl, n7⟩, ao, cap, rfl, hs, wf_i64 w0, wf_i64 w1, wf_i64 w2, wf_i64 w3, wf_i64 w4, wg, wh, wf_i64 w7⟩
set_option maxRecDepth 100000 in
theorem trod_oc {H : Type} (enc : TypeId × Value → H) (w : World) (sp : Nat → Bool) (held : Bool) (fuel : Nat) (cs : List Value) (x : DataW H × List MemPlace) (h : DataW.trod enc Tryd.prog w 0 sp held fuel 42 cs = some x) : ∃ o a d, cs = Oc.cells o a d ∧ SL w 1 a d (irows o.nm) := by
  obtain ⟨xs, n, hn, hx, hl, hlen, hf⟩ := DataW.trod_struct Tryd.underlying42 h
  rw [cellsOc] at hl
  match cs, hl with
  | [c0, c1, c2, c3, c4, c5, c6], _ =>
  have f0 : DataW.trod enc Tryd.prog w 0 sp held n 3 (([c0, c1, c2, c3, c4, c5, c6].drop 0).take (Tryd.prog.cellsOf 3)) = xs[0]? := hf 0 _ rfl
  have f1 : DataW.trod enc Tryd.prog w 0 sp held n 3 (([c0, c1, c2, c3, c4, c5, c6].drop 1).take (Tryd.prog.cellsOf 3)) = xs[1]? := hf 1 _ rfl
  have f2 : DataW.trod enc Tryd.prog w 0 sp held n 3 (([c0, c1, c2, c3, c4, c5, c6].drop 2).take (Tryd.prog.cellsOf 3)) = xs[2]? := hf 2 _ rfl
  have f3 : DataW.trod enc Tryd.prog w 0 sp held n 24 (([c0, c1, c2, c3, c4, c5, c6].drop 3).take (Tryd.prog.cellsOf 24)) = xs[3]? := hf 3 _ rfl
  have f4 : DataW.trod enc Tryd.prog w 0 sp held n 30 (([c0, c1, c2, c3, c4, c5, c6].drop 5).take (Tryd.prog.cellsOf 30)) = xs[4]? := hf 4 _ rfl
  have f5 : DataW.trod enc Tryd.prog w 0 sp held n 40 (([c0, c1, c2, c3, c4, c5, c6].drop 6).take (Tryd.prog.cellsOf 40)) = xs[5]? := hf 5 _ rfl
  simp only [cellsI, cellsLI, cellsBu, cellsE, List.drop_zero, List.drop_succ_cons, List.take_succ_cons, List.take_zero] at f0 f1 f2 f3 f4 f5
  rw [List.getElem?_eq_getElem (by rw [hlen]; simp)] at f0 f1 f2 f3 f4 f5
  obtain ⟨n0, e0, _, w0⟩ := DataW.trod_int Tryd.underlying3 f0
  obtain ⟨n1, e1, _, w1⟩ := DataW.trod_int Tryd.underlying3 f1
  obtain ⟨n2, e2, _, w2⟩ := DataW.trod_int Tryd.underlying3 f2
  obtain ⟨n4, e4, _, w4⟩ := DataW.trod_int Tryd.underlying30 f4
  obtain ⟨⟨gs, gl⟩, e3, wg, wh⟩ := trod_bun enc w sp held n _ _ f3
  obtain ⟨ao, l, cap, e5, hs⟩ := trod_ints enc w sp held n c6 _ f5
  simp only [List.cons.injEq, and_true] at e0 e1 e2 e3 e4
  obtain ⟨e3, e6⟩ := e3
  subst e0 e1 e2 e3 e4 e5 e6
  exact ⟨⟨n0, n1, n2, gs, gl, n4, l⟩, ao, cap, rfl, hs⟩
set_option maxRecDepth 100000 in
theorem trod_ocs {H : Type} (enc : TypeId × Value → H) (w : World) (sp : Nat → Bool) (held : Bool) (fuel : Nat) (v : Value) (x : DataW H × List MemPlace) (h : DataW.trod enc Tryd.prog w 0 sp held fuel 39 [v] = some x) :
    ∃ ao l cap rows, v = .slice ao (List.length l) cap ∧ RepOL w ao cap rows l := by
  rcases DataW.trod_slice Tryd.underlying39 h with ⟨e3, _⟩ | ⟨a, len, cap, elems, rest, n2, hn2, e3, _, _, hlc, hcm, hel, hrow, _⟩
  · simp only [List.cons.injEq, and_true] at e3
    subst e3
    exact ⟨none, [], 0, [], rfl, RepOL.nil _⟩
  · simp only [List.cons.injEq, and_true] at e3
    subst e3
    rw [cellsOc] at hrow
    obtain ⟨rows, q, h1, h2, h3⟩ := list_of (R := fun i (r : List Value) (p : Oc) => w.cells? 0 (a.add (i * 7)) 7 = some r ∧ RepO1 w r p) len fun i hi => by
      have h4 := hrow i hi
      rw [List.getElem?_eq_getElem (by omega)] at h4
      obtain ⟨r, h5, h6⟩ := Option.bind_eq_some_iff.1 h4
      obtain ⟨p, a1, d1, hp, hs⟩ := trod_oc enc w sp held n2 r _ h6
      exact ⟨r, p, h5, a1, d1, hp, hs⟩
    exact ⟨some a, q, cap, rows, by rw [h2], ⟨sl_of_cells (by omega) hlc hcm h1 fun i r hr => (h3 i r (q[i]'(by have := (List.getElem?_eq_some_iff.1 hr).1; omega)) hr (List.getElem?_eq_getElem _)).1, by omega, fun i r p hr hp => (h3 i r p hr hp).2⟩⟩
set_option maxRecDepth 100000 in
theorem kind_row {w : World} {sp : Nat → Bool} {held : Bool} {fuel : Nat} {cs : List Value} {a b : Int} {c d : Bool} {p : List MemPlace} (h : DataW.trod (fun _ => ()) Tryd.prog w 0 sp held fuel 66 cs = some (.agg [.lit (.int .i64 a), .lit (.int .i64 b), .lit (.bool c), .lit (.bool d)], p)) : cs = [.int .i64 a, .int .i64 b, .bool c, .bool d] := by
  obtain ⟨xs, n, hn, hx, hl, hlen, hf⟩ := DataW.trod_struct Tryd.underlying66 h
  rw [cellsK] at hl
  match cs, hl with
  | [c0, c1, c2, c3], _ =>
  have f0 : DataW.trod (fun _ => ()) Tryd.prog w 0 sp held n 3 (([c0, c1, c2, c3].drop 0).take (Tryd.prog.cellsOf 3)) = xs[0]? := hf 0 _ rfl
  have f1 : DataW.trod (fun _ => ()) Tryd.prog w 0 sp held n 3 (([c0, c1, c2, c3].drop 1).take (Tryd.prog.cellsOf 3)) = xs[1]? := hf 1 _ rfl
  have f2 : DataW.trod (fun _ => ()) Tryd.prog w 0 sp held n 4 (([c0, c1, c2, c3].drop 2).take (Tryd.prog.cellsOf 4)) = xs[2]? := hf 2 _ rfl
  have f3 : DataW.trod (fun _ => ()) Tryd.prog w 0 sp held n 4 (([c0, c1, c2, c3].drop 3).take (Tryd.prog.cellsOf 4)) = xs[3]? := hf 3 _ rfl
  simp only [cellsI, cellsBo, List.drop_zero, List.drop_succ_cons, List.take_succ_cons, List.take_zero] at f0 f1 f2 f3
  have hlen4 : xs.length = 4 := by rw [hlen]; rfl
  match xs, hlen4 with
  | [x0, x1, x2, x3], _ =>
  simp only [List.getElem?_cons_zero, List.getElem?_cons_succ] at f0 f1 f2 f3
  simp only [List.map_cons, List.map_nil, Prod.mk.injEq, DataW.agg.injEq, List.cons.injEq, and_true] at hx
  obtain ⟨⟨g0, g1, g2, g3⟩, _⟩ := hx
  obtain ⟨n0, e0, y0, _⟩ := DataW.trod_int Tryd.underlying3 f0
  obtain ⟨n1, e1, y1, _⟩ := DataW.trod_int Tryd.underlying3 f1
  obtain ⟨n2, e2, y2⟩ := DataW.trod_bool Tryd.underlying4 f2
  obtain ⟨n3, e3, y3⟩ := DataW.trod_bool Tryd.underlying4 f3
  subst y0 y1 y2 y3
  simp only [DataW.lit.injEq, Lit.int.injEq, Lit.bool.injEq, true_and] at g0 g1 g2 g3
  simp only [List.cons.injEq, and_true] at e0 e1 e2 e3
  subst e0 e1 e2 e3
  rw [g0, g1, g2, g3]
set_option maxRecDepth 100000 in
theorem gKinds : Tryd.prog.globalNamed "sizar/requests.kinds" = some 0 := by kernel_rfl
set_option maxRecDepth 100000 in
theorem tKinds : (Tryd.prog.globals[0]?).map (·.type) = some 67 := by kernel_rfl
set_option maxRecDepth 100000 in
/-- what the premise on the listed variable gives a walk -/
theorem kinds_of_laid {W : World} (h : laidMetH Tryd.prog [("sizar/requests.kinds", Rows.laid_sizar_requests_kinds)] W) : Kinds W := by
  rw [MakeChecks.laidMetH_plain _ _ _ (by kernel_rfl)] at h
  obtain ⟨ps, ⟨g0, t0, cs0, f0, p0, q0, hg0, ht0, hv0, hd0, _, _⟩, _, _⟩ := h
  obtain rfl := Option.some.inj (gKinds.symm.trans hg0)
  obtain rfl := Option.some.inj (tKinds.symm.trans ht0)
  obtain ⟨xs, m1, rfl, hx1, hlen, hn3, hel⟩ := DataW.trod_array Tryd.underlying67 hd0
  rw [cellsKA] at hlen
  obtain ⟨l⟩ := cs0
  match l, hlen with
  | [c0, c1, c2, c3, c4, c5, c6, c7, c8, c9, c10, c11, c12, c13, c14, c15, c16, c17, c18, c19, c20, c21, c22, c23], _ =>
  match xs, hn3 with
  | [x0, x1, x2, x3, x4, x5], _ =>
  unfold Rows.laid_sizar_requests_kinds at hx1
  simp only [List.map_cons, List.map_nil, Prod.mk.injEq, DataW.agg.injEq, List.cons.injEq, and_true] at hx1
  obtain ⟨⟨g0, g1, g2, g3, g4, g5⟩, _⟩ := hx1
  have h0 := hel 0 (by decide)
  rw [cellsK] at h0
  simp only [Nat.zero_mul, List.drop_zero, List.take_succ_cons, List.take_zero, List.getElem?_cons_zero] at h0
  have r0 := kind_row (a := 0) (b := 0) (c := false) (d := false) (h0.trans (congrArg some (Prod.ext g0.symm rfl)))
  simp only [List.cons.injEq, and_true] at r0
  have h1 := hel 1 (by decide)
  rw [cellsK] at h1
  simp only [Nat.one_mul, List.drop_zero, List.drop_succ_cons, List.take_succ_cons, List.take_zero, List.getElem?_cons_zero, List.getElem?_cons_succ] at h1
  have r1 := kind_row (a := 1) (b := 8) (c := false) (d := true) (h1.trans (congrArg some (Prod.ext g1.symm rfl)))
  simp only [List.cons.injEq, and_true] at r1
  have h2 := hel 2 (by decide)
  rw [cellsK] at h2
  simp only [Nat.reduceMul, List.drop_zero, List.drop_succ_cons, List.take_succ_cons, List.take_zero, List.getElem?_cons_zero, List.getElem?_cons_succ] at h2
  have r2 := kind_row (a := 0) (b := 0) (c := true) (d := false) (h2.trans (congrArg some (Prod.ext g2.symm rfl)))
  simp only [List.cons.injEq, and_true] at r2
  have h3 := hel 3 (by decide)
  rw [cellsK] at h3
  simp only [Nat.reduceMul, List.drop_zero, List.drop_succ_cons, List.take_succ_cons, List.take_zero, List.getElem?_cons_zero, List.getElem?_cons_succ] at h3
  have r3 := kind_row (a := 1) (b := 1) (c := true) (d := false) (h3.trans (congrArg some (Prod.ext g3.symm rfl)))
  simp only [List.cons.injEq, and_true] at r3
  have h4 := hel 4 (by decide)
  rw [cellsK] at h4
  simp only [Nat.reduceMul, List.drop_zero, List.drop_succ_cons, List.take_succ_cons, List.take_zero, List.getElem?_cons_zero, List.getElem?_cons_succ] at h4
  have r4 := kind_row (a := 1) (b := 1) (c := false) (d := false) (h4.trans (congrArg some (Prod.ext g4.symm rfl)))
  simp only [List.cons.injEq, and_true] at r4
  have h5 := hel 5 (by decide)
  rw [cellsK] at h5
  simp only [Nat.reduceMul, List.drop_zero, List.drop_succ_cons, List.take_succ_cons, List.take_zero, List.getElem?_cons_zero, List.getElem?_cons_succ] at h5
  have r5 := kind_row (a := 1) (b := 1) (c := false) (d := false) (h5.trans (congrArg some (Prod.ext g5.symm rfl)))
  simp only [List.cons.injEq, and_true] at r5
  intro i v hv
  have hc := World.var?_cell hg0 hv0 i
  rw [hc]
  obtain ⟨rfl, rfl, rfl, rfl⟩ := r0
  obtain ⟨rfl, rfl, rfl, rfl⟩ := r1
  obtain ⟨rfl, rfl, rfl, rfl⟩ := r2
  obtain ⟨rfl, rfl, rfl, rfl⟩ := r3
  obtain ⟨rfl, rfl, rfl, rfl⟩ := r4
  obtain ⟨rfl, rfl, rfl, rfl⟩ := r5
  have h9 : ∀ l : List Value, (Array.mk l)[i]? = l[i]? := fun l => by simp
  rw [h9]
  exact hv
end Go.Proofs.YtahaplioegeloaaDoor
