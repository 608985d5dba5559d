/- Waiting: the reference's Precedes, index, Few. -/
import Derived.Test.YtbhpeecebcihkaaWR
namespace Go.Sz
open Go.RowKit
def ArrW (w : World) (B : Nat) (o : Wt) : Prop := w.cell? ⟨B, 0, none⟩ = some (.int .i64 o.a) ∧ w.cell? ⟨B, 1, none⟩ = some (.int .i64 o.b) ∧ w.cell? ⟨B, 2, none⟩ = some (.int .i64 o.k) ∧ w.cell? ⟨B, 3, none⟩ = some (.int .i64 o.t) ∧ w.cell? ⟨B, 4, none⟩ = some (.int .i64 o.s)
theorem ArrW.ext {w W : World} {B : Nat} {o : Wt} (h : ArrW w B o) (hE : Ext w W) : ArrW W B o := ⟨hE.cell h.1, hE.cell h.2.1, hE.cell h.2.2.1, hE.cell h.2.2.2.1, hE.cell h.2.2.2.2⟩
theorem ArrW.new (w : World) (o : Wt) (t : TypeId) (B : Nat) (hB : w.heap.size = B) : ArrW (w.alloc (.cells #[.int .i64 o.a, .int .i64 o.b, .int .i64 o.k, .int .i64 o.t, .int .i64 o.s] t)) B o := by subst hB; unfold ArrW; simp
theorem cmpW_orL (o p : Wt) : cmpW o p = orL ((cmps o p).drop 0) := rfl
end Go.Sz
namespace Go.Proofs.Ytbhpeecebcihkaa
open Go.RowKit Go.Sz
set_option maxRecDepth 100000 in
set_option maxHeartbeats 6400000 in
theorem prec_any (o p : Wt) (w : World) : Calls Try.prog 36 #[.agg o.enc.toArray, .agg p.enc.toArray] w fun e w' => e = .returned (.bool (decide (cmpW o p < 0))) ∧ Ext w w' := by
  have hX : Ext w ((w.alloc (.cells o.enc.toArray 26)).alloc (.cells p.enc.toArray 26)) := ((Ext.refl w).alloc _).alloc _
  have hT : TwoW o p w.heap.size (w.heap.size + 1) ((w.alloc (.cells o.enc.toArray 26)).alloc (.cells p.enc.toArray 26)) := by unfold TwoW Wt.enc; simp
  have HX := Lib.hid hX
  have HT := Lib.hid hT
  clear hX
  obtain ⟨t0, t1, t2, t3, t4, t5, t6, t7, t8, t9⟩ := hT
  have HC1 := Lib.hid (fun w => tuple_any o w)
  have HC2 := Lib.hid (fun w => tuple_any p w)
  go_enter Try.func36, Try.ntmps36
  go_wp2_with fail
  generalize ((w.alloc (.cells o.enc.toArray 26)).alloc (.cells p.enc.toArray 26)) = w0 at *
  refine (HC1.out _).mono ?_
  rintro e w1 ⟨rfl, hE1⟩
  have HE1 := Lib.hid hE1
  clear hE1 t0 t1 t2 t3 t4 t5 t6 t7 t8 t9
  obtain ⟨-, -, -, -, -, t5, t6, t7, t8, t9⟩ := (HT.out.ext HE1.out).ext ((Ext.refl w1).alloc (.cells #[.int .i64 o.a, .int .i64 o.b, .int .i64 o.k, .int .i64 o.t, .int .i64 o.s] 66))
  go_wp2_with fail
  obtain ⟨A, hA⟩ : ∃ A, w1.heap.size = A := ⟨_, rfl⟩
  have hAo := ArrW.new w1 o 66 A hA
  have hX2 := (HE1.out).alloc (.cells #[.int .i64 o.a, .int .i64 o.b, .int .i64 o.k, .int .i64 o.t, .int .i64 o.s] 66)
  rw [hA]
  clear hA
  generalize w1.alloc (.cells #[.int .i64 o.a, .int .i64 o.b, .int .i64 o.k, .int .i64 o.t, .int .i64 o.s] 66) = w2 at *
  have HAO := Lib.hid hAo
  have HX2 := Lib.hid hX2
  clear hAo hX2
  refine (HC2.out _).mono ?_
  rintro e w3 ⟨rfl, hE3⟩
  have HE3 := Lib.hid hE3
  clear hE3 t5 t6 t7 t8 t9
  go_wp2_with fail
  obtain ⟨A2, hA2⟩ : ∃ A2, w3.heap.size = A2 := ⟨_, rfl⟩
  have HAP := Lib.hid (ArrW.new w3 p 66 A2 hA2)
  have hX4 := HE3.out.alloc (.cells #[.int .i64 p.a, .int .i64 p.b, .int .i64 p.k, .int .i64 p.t, .int .i64 p.s] 66)
  have HX4 : Hid (Ext w0 (w3.alloc (.cells #[.int .i64 p.a, .int .i64 p.b, .int .i64 p.k, .int .i64 p.t, .int .i64 p.s] 66))) := Lib.hid (HX2.out.trans hX4)
  have HAO4 := Lib.hid (HAO.out.ext hX4)
  rw [hA2]
  clear hA2 hX4
  generalize w3.alloc (.cells #[.int .i64 p.a, .int .i64 p.b, .int .i64 p.k, .int .i64 p.t, .int .i64 p.s] 66) = w4 at *
  clear HAO HX2 HE3 HE1 HT HC1 HC2
  go_loopw [7] (fun kv wr => ∃ i : Nat, kv = .int .i64 i ∧ i ≤ 5 ∧ cmpW o p = orL ((cmps o p).drop i) ∧ Ext w4 wr) (fun kv _ => 5 - (intOf kv).toNat)
  case atStart => exact ⟨0, rfl, by omega, rfl, Ext.refl _⟩
  case round =>
    obtain ⟨i, rfl, hi, hc, hE⟩ := hrel
    have HC := Lib.hid hc
    have HEr := Lib.hid hE
    clear hc
    obtain ⟨a0, a1, a2, a3, a4⟩ := HAO4.out.ext hE
    obtain ⟨b0, b1, b2, b3, b4⟩ := HAP.out.ext hE
    clear hE
    match i, hi with
    | 0, _ =>
      have HCM : Hid (cmpW o p = if cmpI o.a p.a = 0 then orL ((cmps o p).drop 1) else cmpI o.a p.a) := Lib.hid (HC.out.trans rfl)
      have ga0 := grow_cell a0
      have gb0 := grow_cell b0
      by_cases hd : o.a = p.a
      · have gd : (o.a != p.a) = false := by simp [hd]
        have HN : Hid (cmpW o p = orL ((cmps o p).drop 1)) := Lib.hid (by rw [HCM.out, if_pos (cmpI_zero.2 hd)])
        clear hd
        go_wp2_with fail
        refine wp_region_rel_all (fun _ => none) (by kernel_rfl) (by kernel_rfl) ?_
        repeat (first
          | (refine wpRel_quick ?_ ?_ ?_ ?_
             · rfl
             · rfl
             · first | exact noEnter rfl | (intro f args W W'; go_simp)
             intro K hK
             go_big_quiet_op
             go_big_quiet_on)
          | (refine wpRel_skip ?_ ?_
             · rfl
             simp only [Act.put, List.setIfInBounds_toArray, List.set_cons_zero, List.set_cons_succ]))
        refine wpRel_nil ?_
        intro W3 hW3
        have HE3 := Lib.hid (HEr.out.trans ((Ext.refl _).drew.trans hW3.1))
        clear hW3 a0 b0 a1 b1 a2 b2 a3 b3 a4 b4 ga0 gb0
        go_wp2_with fail
        go_roundw
        case rel => exact ⟨1, by go_num, by omega, HN.out, HE3.out⟩
        case measure => simp [intOf]
      · have gd : (o.a != p.a) = true := by simpa using hd
        have HN : Hid (decide (o.a < p.a) = decide (cmpW o p < 0)) := Lib.hid (by rw [HCM.out, if_neg (fun h => hd (cmpI_zero.1 h))]; exact decide_eq_decide.2 cmpI_neg.symm)
        clear hd
        go_wp2_with fail
        refine wp_region_rel_all (fun _ => none) (by kernel_rfl) (by kernel_rfl) ?_
        repeat (first
          | (refine wpRel_quick ?_ ?_ ?_ ?_
             · rfl
             · rfl
             · first | exact noEnter rfl | (intro f args W W'; go_simp)
             intro K hK
             go_big_quiet_op
             go_big_quiet_on)
          | (refine wpRel_skip ?_ ?_
             · rfl
             simp only [Act.put, List.setIfInBounds_toArray, List.set_cons_zero, List.set_cons_succ]))
        refine wpRel_nil ?_
        intro W3 hW3
        have hE3 := (Ext.refl _).drew.trans hW3.1
        have e0 := hE3.cell a0
        have e1 := hE3.cell b0
        have ge0 := grow_cell e0
        have ge1 := grow_cell e1
        have HE3 := Lib.hid (HEr.out.trans hE3)
        clear hE3 hW3 a0 b0 a1 b1 a2 b2 a3 b3 a4 b4 ga0 gb0
        go_wp2_with fail
        refine wp_region_rel_all (fun _ => none) (by kernel_rfl) (by kernel_rfl) ?_
        repeat (first
          | (refine wpRel_quick ?_ ?_ ?_ ?_
             · rfl
             · rfl
             · first | exact noEnter rfl | (intro f args W W'; go_simp)
             intro K hK
             go_big_quiet_op
             go_big_quiet_on)
          | (refine wpRel_skip ?_ ?_
             · rfl
             simp only [Act.put, List.setIfInBounds_toArray, List.set_cons_zero, List.set_cons_succ]))
        refine wpRel_nil ?_
        intro W5 hW5
        have HE5 := Lib.hid (HE3.out.trans ((Ext.refl _).drew.trans hW5.1))
        clear hW5 ge0 ge1 e0 e1
        go_wp2_with fail
        go_ret
        exact ⟨ret_bool HN.out, HX.out.trans (HX4.out.trans HE5.out)⟩
    | 1, _ =>
      have HCM : Hid (cmpW o p = if cmpI o.b p.b = 0 then orL ((cmps o p).drop 2) else cmpI o.b p.b) := Lib.hid (HC.out.trans rfl)
      have ga1 := grow_cell a1
      have gb1 := grow_cell b1
      by_cases hd : o.b = p.b
      · have gd : (o.b != p.b) = false := by simp [hd]
        have HN : Hid (cmpW o p = orL ((cmps o p).drop 2)) := Lib.hid (by rw [HCM.out, if_pos (cmpI_zero.2 hd)])
        clear hd
        go_wp2_with fail
        refine wp_region_rel_all (fun _ => none) (by kernel_rfl) (by kernel_rfl) ?_
        repeat (first
          | (refine wpRel_quick ?_ ?_ ?_ ?_
             · rfl
             · rfl
             · first | exact noEnter rfl | (intro f args W W'; go_simp)
             intro K hK
             go_big_quiet_op
             go_big_quiet_on)
          | (refine wpRel_skip ?_ ?_
             · rfl
             simp only [Act.put, List.setIfInBounds_toArray, List.set_cons_zero, List.set_cons_succ]))
        refine wpRel_nil ?_
        intro W3 hW3
        have HE3 := Lib.hid (HEr.out.trans ((Ext.refl _).drew.trans hW3.1))
        clear hW3 a0 b0 a1 b1 a2 b2 a3 b3 a4 b4 ga1 gb1
        go_wp2_with fail
        go_roundw
        case rel => exact ⟨2, by go_num, by omega, HN.out, HE3.out⟩
        case measure => simp [intOf]
      · have gd : (o.b != p.b) = true := by simpa using hd
        have HN : Hid (decide (o.b < p.b) = decide (cmpW o p < 0)) := Lib.hid (by rw [HCM.out, if_neg (fun h => hd (cmpI_zero.1 h))]; exact decide_eq_decide.2 cmpI_neg.symm)
        clear hd
        go_wp2_with fail
        refine wp_region_rel_all (fun _ => none) (by kernel_rfl) (by kernel_rfl) ?_
        repeat (first
          | (refine wpRel_quick ?_ ?_ ?_ ?_
             · rfl
             · rfl
             · first | exact noEnter rfl | (intro f args W W'; go_simp)
             intro K hK
             go_big_quiet_op
             go_big_quiet_on)
          | (refine wpRel_skip ?_ ?_
             · rfl
             simp only [Act.put, List.setIfInBounds_toArray, List.set_cons_zero, List.set_cons_succ]))
        refine wpRel_nil ?_
        intro W3 hW3
        have hE3 := (Ext.refl _).drew.trans hW3.1
        have e0 := hE3.cell a1
        have e1 := hE3.cell b1
        have ge0 := grow_cell e0
        have ge1 := grow_cell e1
        have HE3 := Lib.hid (HEr.out.trans hE3)
        clear hE3 hW3 a0 b0 a1 b1 a2 b2 a3 b3 a4 b4 ga1 gb1
        go_wp2_with fail
        refine wp_region_rel_all (fun _ => none) (by kernel_rfl) (by kernel_rfl) ?_
        repeat (first
          | (refine wpRel_quick ?_ ?_ ?_ ?_
             · rfl
             · rfl
             · first | exact noEnter rfl | (intro f args W W'; go_simp)
             intro K hK
             go_big_quiet_op
             go_big_quiet_on)
          | (refine wpRel_skip ?_ ?_
             · rfl
             simp only [Act.put, List.setIfInBounds_toArray, List.set_cons_zero, List.set_cons_succ]))
        refine wpRel_nil ?_
        intro W5 hW5
        have HE5 := Lib.hid (HE3.out.trans ((Ext.refl _).drew.trans hW5.1))
        clear hW5 ge0 ge1 e0 e1
        go_wp2_with fail
        go_ret
        exact ⟨ret_bool HN.out, HX.out.trans (HX4.out.trans HE5.out)⟩
    | 2, _ =>
      have HCM : Hid (cmpW o p = if cmpI o.k p.k = 0 then orL ((cmps o p).drop 3) else cmpI o.k p.k) := Lib.hid (HC.out.trans rfl)
      have ga2 := grow_cell a2
      have gb2 := grow_cell b2
      by_cases hd : o.k = p.k
      · have gd : (o.k != p.k) = false := by simp [hd]
        have HN : Hid (cmpW o p = orL ((cmps o p).drop 3)) := Lib.hid (by rw [HCM.out, if_pos (cmpI_zero.2 hd)])
        clear hd
        go_wp2_with fail
        refine wp_region_rel_all (fun _ => none) (by kernel_rfl) (by kernel_rfl) ?_
        repeat (first
          | (refine wpRel_quick ?_ ?_ ?_ ?_
             · rfl
             · rfl
             · first | exact noEnter rfl | (intro f args W W'; go_simp)
             intro K hK
             go_big_quiet_op
             go_big_quiet_on)
          | (refine wpRel_skip ?_ ?_
             · rfl
             simp only [Act.put, List.setIfInBounds_toArray, List.set_cons_zero, List.set_cons_succ]))
        refine wpRel_nil ?_
        intro W3 hW3
        have HE3 := Lib.hid (HEr.out.trans ((Ext.refl _).drew.trans hW3.1))
        clear hW3 a0 b0 a1 b1 a2 b2 a3 b3 a4 b4 ga2 gb2
        go_wp2_with fail
        go_roundw
        case rel => exact ⟨3, by go_num, by omega, HN.out, HE3.out⟩
        case measure => simp [intOf]
      · have gd : (o.k != p.k) = true := by simpa using hd
        have HN : Hid (decide (o.k < p.k) = decide (cmpW o p < 0)) := Lib.hid (by rw [HCM.out, if_neg (fun h => hd (cmpI_zero.1 h))]; exact decide_eq_decide.2 cmpI_neg.symm)
        clear hd
        go_wp2_with fail
        refine wp_region_rel_all (fun _ => none) (by kernel_rfl) (by kernel_rfl) ?_
        repeat (first
          | (refine wpRel_quick ?_ ?_ ?_ ?_
             · rfl
             · rfl
             · first | exact noEnter rfl | (intro f args W W'; go_simp)
             intro K hK
             go_big_quiet_op
             go_big_quiet_on)
          | (refine wpRel_skip ?_ ?_
             · rfl
             simp only [Act.put, List.setIfInBounds_toArray, List.set_cons_zero, List.set_cons_succ]))
        refine wpRel_nil ?_
        intro W3 hW3
        have hE3 := (Ext.refl _).drew.trans hW3.1
        have e0 := hE3.cell a2
        have e1 := hE3.cell b2
        have ge0 := grow_cell e0
        have ge1 := grow_cell e1
        have HE3 := Lib.hid (HEr.out.trans hE3)
        clear hE3 hW3 a0 b0 a1 b1 a2 b2 a3 b3 a4 b4 ga2 gb2
        go_wp2_with fail
        refine wp_region_rel_all (fun _ => none) (by kernel_rfl) (by kernel_rfl) ?_
        repeat (first
          | (refine wpRel_quick ?_ ?_ ?_ ?_
             · rfl
             · rfl
             · first | exact noEnter rfl | (intro f args W W'; go_simp)
             intro K hK
             go_big_quiet_op
             go_big_quiet_on)
          | (refine wpRel_skip ?_ ?_
             · rfl
             simp only [Act.put, List.setIfInBounds_toArray, List.set_cons_zero, List.set_cons_succ]))
        refine wpRel_nil ?_
        intro W5 hW5
        have HE5 := Lib.hid (HE3.out.trans ((Ext.refl _).drew.trans hW5.1))
        clear hW5 ge0 ge1 e0 e1
        go_wp2_with fail
        go_ret
        exact ⟨ret_bool HN.out, HX.out.trans (HX4.out.trans HE5.out)⟩
    | 3, _ =>
      have HCM : Hid (cmpW o p = if cmpI o.t p.t = 0 then orL ((cmps o p).drop 4) else cmpI o.t p.t) := Lib.hid (HC.out.trans rfl)
      have ga3 := grow_cell a3
      have gb3 := grow_cell b3
      by_cases hd : o.t = p.t
      · have gd : (o.t != p.t) = false := by simp [hd]
        have HN : Hid (cmpW o p = orL ((cmps o p).drop 4)) := Lib.hid (by rw [HCM.out, if_pos (cmpI_zero.2 hd)])
        clear hd
        go_wp2_with fail
        refine wp_region_rel_all (fun _ => none) (by kernel_rfl) (by kernel_rfl) ?_
        repeat (first
          | (refine wpRel_quick ?_ ?_ ?_ ?_
             · rfl
             · rfl
             · first | exact noEnter rfl | (intro f args W W'; go_simp)
             intro K hK
             go_big_quiet_op
             go_big_quiet_on)
          | (refine wpRel_skip ?_ ?_
             · rfl
             simp only [Act.put, List.setIfInBounds_toArray, List.set_cons_zero, List.set_cons_succ]))
        refine wpRel_nil ?_
        intro W3 hW3
        have HE3 := Lib.hid (HEr.out.trans ((Ext.refl _).drew.trans hW3.1))
        clear hW3 a0 b0 a1 b1 a2 b2 a3 b3 a4 b4 ga3 gb3
        go_wp2_with fail
        go_roundw
        case rel => exact ⟨4, by go_num, by omega, HN.out, HE3.out⟩
        case measure => simp [intOf]
      · have gd : (o.t != p.t) = true := by simpa using hd
        have HN : Hid (decide (o.t < p.t) = decide (cmpW o p < 0)) := Lib.hid (by rw [HCM.out, if_neg (fun h => hd (cmpI_zero.1 h))]; exact decide_eq_decide.2 cmpI_neg.symm)
        clear hd
        go_wp2_with fail
        refine wp_region_rel_all (fun _ => none) (by kernel_rfl) (by kernel_rfl) ?_
        repeat (first
          | (refine wpRel_quick ?_ ?_ ?_ ?_
             · rfl
             · rfl
             · first | exact noEnter rfl | (intro f args W W'; go_simp)
             intro K hK
             go_big_quiet_op
             go_big_quiet_on)
          | (refine wpRel_skip ?_ ?_
             · rfl
             simp only [Act.put, List.setIfInBounds_toArray, List.set_cons_zero, List.set_cons_succ]))
        refine wpRel_nil ?_
        intro W3 hW3
        have hE3 := (Ext.refl _).drew.trans hW3.1
        have e0 := hE3.cell a3
        have e1 := hE3.cell b3
        have ge0 := grow_cell e0
        have ge1 := grow_cell e1
        have HE3 := Lib.hid (HEr.out.trans hE3)
        clear hE3 hW3 a0 b0 a1 b1 a2 b2 a3 b3 a4 b4 ga3 gb3
        go_wp2_with fail
        refine wp_region_rel_all (fun _ => none) (by kernel_rfl) (by kernel_rfl) ?_
        repeat (first
          | (refine wpRel_quick ?_ ?_ ?_ ?_
             · rfl
             · rfl
             · first | exact noEnter rfl | (intro f args W W'; go_simp)
             intro K hK
             go_big_quiet_op
             go_big_quiet_on)
          | (refine wpRel_skip ?_ ?_
             · rfl
             simp only [Act.put, List.setIfInBounds_toArray, List.set_cons_zero, List.set_cons_succ]))
        refine wpRel_nil ?_
        intro W5 hW5
        have HE5 := Lib.hid (HE3.out.trans ((Ext.refl _).drew.trans hW5.1))
        clear hW5 ge0 ge1 e0 e1
        go_wp2_with fail
        go_ret
        exact ⟨ret_bool HN.out, HX.out.trans (HX4.out.trans HE5.out)⟩
    | 4, _ =>
      have HCM : Hid (cmpW o p = if cmpI o.s p.s = 0 then orL ((cmps o p).drop 5) else cmpI o.s p.s) := Lib.hid (HC.out.trans rfl)
      have ga4 := grow_cell a4
      have gb4 := grow_cell b4
      by_cases hd : o.s = p.s
      · have gd : (o.s != p.s) = false := by simp [hd]
        have HN : Hid (cmpW o p = orL ((cmps o p).drop 5)) := Lib.hid (by rw [HCM.out, if_pos (cmpI_zero.2 hd)])
        clear hd
        go_wp2_with fail
        refine wp_region_rel_all (fun _ => none) (by kernel_rfl) (by kernel_rfl) ?_
        repeat (first
          | (refine wpRel_quick ?_ ?_ ?_ ?_
             · rfl
             · rfl
             · first | exact noEnter rfl | (intro f args W W'; go_simp)
             intro K hK
             go_big_quiet_op
             go_big_quiet_on)
          | (refine wpRel_skip ?_ ?_
             · rfl
             simp only [Act.put, List.setIfInBounds_toArray, List.set_cons_zero, List.set_cons_succ]))
        refine wpRel_nil ?_
        intro W3 hW3
        have HE3 := Lib.hid (HEr.out.trans ((Ext.refl _).drew.trans hW3.1))
        clear hW3 a0 b0 a1 b1 a2 b2 a3 b3 a4 b4 ga4 gb4
        go_wp2_with fail
        go_roundw
        case rel => exact ⟨5, by go_num, by omega, HN.out, HE3.out⟩
        case measure => simp [intOf]
      · have gd : (o.s != p.s) = true := by simpa using hd
        have HN : Hid (decide (o.s < p.s) = decide (cmpW o p < 0)) := Lib.hid (by rw [HCM.out, if_neg (fun h => hd (cmpI_zero.1 h))]; exact decide_eq_decide.2 cmpI_neg.symm)
        clear hd
        go_wp2_with fail
        refine wp_region_rel_all (fun _ => none) (by kernel_rfl) (by kernel_rfl) ?_
        repeat (first
          | (refine wpRel_quick ?_ ?_ ?_ ?_
             · rfl
             · rfl
             · first | exact noEnter rfl | (intro f args W W'; go_simp)
             intro K hK
             go_big_quiet_op
             go_big_quiet_on)
          | (refine wpRel_skip ?_ ?_
             · rfl
             simp only [Act.put, List.setIfInBounds_toArray, List.set_cons_zero, List.set_cons_succ]))
        refine wpRel_nil ?_
        intro W3 hW3
        have hE3 := (Ext.refl _).drew.trans hW3.1
        have e0 := hE3.cell a4
        have e1 := hE3.cell b4
        have ge0 := grow_cell e0
        have ge1 := grow_cell e1
        have HE3 := Lib.hid (HEr.out.trans hE3)
        clear hE3 hW3 a0 b0 a1 b1 a2 b2 a3 b3 a4 b4 ga4 gb4
        go_wp2_with fail
        refine wp_region_rel_all (fun _ => none) (by kernel_rfl) (by kernel_rfl) ?_
        repeat (first
          | (refine wpRel_quick ?_ ?_ ?_ ?_
             · rfl
             · rfl
             · first | exact noEnter rfl | (intro f args W W'; go_simp)
             intro K hK
             go_big_quiet_op
             go_big_quiet_on)
          | (refine wpRel_skip ?_ ?_
             · rfl
             simp only [Act.put, List.setIfInBounds_toArray, List.set_cons_zero, List.set_cons_succ]))
        refine wpRel_nil ?_
        intro W5 hW5
        have HE5 := Lib.hid (HE3.out.trans ((Ext.refl _).drew.trans hW5.1))
        clear hW5 ge0 ge1 e0 e1
        go_wp2_with fail
        go_ret
        exact ⟨ret_bool HN.out, HX.out.trans (HX4.out.trans HE5.out)⟩
    | 5, _ =>
      have HN : Hid (cmpW o p = 0) := Lib.hid (HC.out.trans rfl)
      go_wp2_with fail
      go_ret
      exact ⟨ret_bool (by rw [HN.out]; rfl), HX.out.trans (HX4.out.trans HEr.out)⟩
set_option maxRecDepth 100000 in
set_option maxHeartbeats 3200000 in
theorem index_any (l : List Wt) (s a b : Int) (ao : Option Addr) (cap : Nat) (w : World) (h : RepW w ao cap l) : Calls Try.prog 35 #[.slice ao l.length cap, .int .i64 s, .agg #[.int .i64 a, .int .i64 b]] w fun e w' => e = .returned (.int .i64 (findW l (isW s a b))) ∧ Ext w w' := by
  have HL := Lib.hid (h.ext ((Ext.refl w).alloc (.cells #[.int .i64 a, .int .i64 b] 24)))
  have hs1 := h.max
  have hX0 : Ext w (w.alloc (.cells #[.int .i64 a, .int .i64 b] 24)) := (Ext.refl w).alloc _
  clear h
  have b0 : (w.alloc (.cells #[.int .i64 a, .int .i64 b] 24)).cell? ⟨w.heap.size, 0, none⟩ = some (.int .i64 a) := by simp
  have b1 : (w.alloc (.cells #[.int .i64 a, .int .i64 b] 24)).cell? ⟨w.heap.size, 1, none⟩ = some (.int .i64 b) := by simp
  go_enter Try.func35, Try.ntmps35
  go_wp2_with fail
  generalize (w.alloc (.cells #[.int .i64 a, .int .i64 b] 24)) = w1 at *
  have HX0 := Lib.hid hX0
  have HB0 := Lib.hid b0
  have HB1 := Lib.hid b1
  clear b0 b1 hX0
  go_loopw [7] (fun iv wr => ∃ k : Nat, iv = .int .i64 k ∧ k ≤ l.length ∧ (∀ j (h : j < l.length), j < k → isW s a b l[j] = false) ∧ Ext w1 wr) (fun iv _ => l.length - (intOf iv).toNat)
  case atStart => exact ⟨0, rfl, by omega, fun j _ h => by omega, Ext.refl _⟩
  case round =>
    obtain ⟨k, rfl, hk, ht, hB⟩ := hrel
    have HT := Lib.hid ht
    have HB := Lib.hid hB
    clear ht hB
    by_cases hlt : k < l.length
    · have hki : (k : Int) < (l.length : Int) := by omega
      obtain ⟨bb, o, rfl, c0, c1, c2, c3, c4⟩ := w_cells HL.out HB.out hlt
      have b0 := HB.out.cell HB0.out
      have b1 := HB.out.cell HB1.out
      have HIS : Hid (isW s a b l[k] = (l[k].s == s && (l[k].a == a && l[k].b == b))) := Lib.hid rfl
      have HN : Hid (isW s a b l[k] = false → ∀ j (h : j < l.length), j < k + 1 → isW s a b l[j] = false) := Lib.hid fun hi j hj hjk => by
        by_cases hjk' : j = k
        · subst hjk'; exact hi
        · exact HT.out j hj (by omega)
      have HFD : Hid (isW s a b l[k] = true → findW l (isW s a b) = (k : Int)) := Lib.hid fun hi => findW_some hlt (fun j hj => HT.out j (by omega) hj) hi
      generalize l[k] = x at *
      have he := eqB x.a x.b a b
      have gc0 := grow_cell c0
      have gc1 := grow_cell c1
      have gc2 := grow_cell c2
      have gc3 := grow_cell c3
      have gc4 := grow_cell c4
      have gb0 := grow_cell b0
      have gb1 := grow_cell b1
      cases h1 : (x.s == s) with
      | false =>
        have hi : isW s a b x = false := by rw [HIS.out, h1]; rfl
        have HI := Lib.hid hi
        clear hi
        go_wp2_with fail
        refine wp_region_rel_all (fun _ => none) (by kernel_rfl) (by kernel_rfl) ?_
        repeat (first
          | (refine wpRel_quick ?_ ?_ ?_ ?_
             · rfl
             · rfl
             · first | exact noEnter rfl | (intro f args W W'; go_simp)
             intro K hK
             go_big_quiet_op
             go_big_quiet_on)
          | (refine wpRel_skip ?_ ?_
             · rfl
             simp only [Act.put, List.setIfInBounds_toArray, List.set_cons_zero, List.set_cons_succ]))
        refine wpRel_nil ?_
        intro W3 hW3
        have HE3 := Lib.hid (HB.out.trans ((Ext.refl _).drew.trans hW3.1))
        clear hW3 gc0 gc1 gc2 gc3 gc4 gb0 gb1 he b0 b1 c0 c1 c2 c3 c4
        go_wp2_with fail
        go_roundw
        case rel => exact ⟨k + 1, by go_num, by omega, HN.out HI.out, HE3.out⟩
        case measure => simp [intOf] <;> omega
      | true =>
        have HIS2 : Hid (isW s a b x = (x.a == a && x.b == b)) := Lib.hid (by rw [HIS.out, h1]; rfl)
        go_wp2_with fail
        refine wp_region_rel_all (fun _ => none) (by kernel_rfl) (by kernel_rfl) ?_
        repeat (first
          | (refine wpRel_quick ?_ ?_ ?_ ?_
             · rfl
             · rfl
             · first | exact noEnter rfl | (intro f args W W'; go_simp)
             intro K hK
             go_big_quiet_op
             go_big_quiet_on)
          | (refine wpRel_skip ?_ ?_
             · rfl
             simp only [Act.put, List.setIfInBounds_toArray, List.set_cons_zero, List.set_cons_succ]))
        refine wpRel_nil ?_
        intro W3 hW3
        have HE3 := Lib.hid (HB.out.trans ((Ext.refl _).drew.trans hW3.1))
        clear hW3 gc0 gc1 gc2 gc3 gc4 gb0 gb1 he b0 b1 c0 c1 c2 c3 c4 HIS
        cases h2 : (x.a == a && x.b == b) with
        | true =>
          have HR : Hid (findW l (isW s a b) = (k : Int)) := Lib.hid (HFD.out (by rw [HIS2.out, h2]))
          go_wp2_with fail
          go_ret
          exact ⟨by rw [HR.out]; rfl, HX0.out.trans HE3.out⟩
        | false =>
          have HI : Hid (isW s a b x = false) := Lib.hid (by rw [HIS2.out, h2])
          go_wp2_with fail
          go_roundw
          case rel => exact ⟨k + 1, by go_num, by omega, HN.out HI.out, HE3.out⟩
          case measure => simp [intOf] <;> omega
    · have hki : ¬ (k : Int) < (l.length : Int) := by omega
      have HR : Hid (findW l (isW s a b) = -1) := Lib.hid (findW_none fun j hj => HT.out j hj (by omega))
      go_wp2_with fail
      go_ret
      exact ⟨by rw [HR.out]; rfl, HX0.out.trans HB.out⟩
theorem few_any (l : List Wt) (ao : Option Addr) (cap : Nat) (w : World) (h : RepW w ao cap l) : Calls Try.prog 11 #[.slice ao l.length cap] w fun e w' => e = .returned (.bool (decide (l.length ≤ 40))) ∧ Ext w w' := by
  have hs1 := h.max
  clear h
  go_enter Try.func11, Try.ntmps11
  go_wp2_with fail
  go_ret
  refine ⟨ret_bool (decide_eq_decide.2 ⟨fun h => ?_, fun h => ?_⟩), Ext.refl _⟩
  · omega
  · omega
end Go.Proofs.Ytbhpeecebcihkaa
