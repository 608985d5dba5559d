/- Waiting: by, at the five closures of compare. -/
import Derived.Test.YtbhpeecebcihkaaW2
namespace Go.Sz
open Go.RowKit
def cmps (o p : Wt) : List Int := [cmpI o.a p.a, cmpI o.b p.b, cmpI o.k p.k, cmpI o.t p.t, cmpI o.s p.s]
end Go.Sz
namespace Go.Proofs.Ytbhpeecebcihkaa
open Go.RowKit Go.Sz
def FiveF (w : World) (B : Nat) : Prop := w.cell? ⟨B, 0, none⟩ = some (.func (.func 43) #[] #[]) ∧ w.cell? ⟨B, 1, none⟩ = some (.func (.func 44) #[] #[]) ∧ w.cell? ⟨B, 2, none⟩ = some (.func (.func 45) #[] #[]) ∧ w.cell? ⟨B, 3, none⟩ = some (.func (.func 46) #[] #[]) ∧ w.cell? ⟨B, 4, none⟩ = some (.func (.func 47) #[] #[])
theorem FiveF.ext {w W : World} {B : Nat} (h : FiveF w B) (hE : Ext w W) : FiveF W B := ⟨hE.cell h.1, hE.cell h.2.1, hE.cell h.2.2.1, hE.cell h.2.2.2.1, hE.cell h.2.2.2.2⟩
def TwoW (o p : Wt) (B C : Nat) (w : World) : Prop := w.cell? ⟨B, 0, none⟩ = some (.int .i64 o.s) ∧ w.cell? ⟨B, 1, none⟩ = some (.int .i64 o.a) ∧ w.cell? ⟨B, 2, none⟩ = some (.int .i64 o.b) ∧ w.cell? ⟨B, 3, none⟩ = some (.int .i64 o.k) ∧ w.cell? ⟨B, 4, none⟩ = some (.int .i64 o.t) ∧ w.cell? ⟨C, 0, none⟩ = some (.int .i64 p.s) ∧ w.cell? ⟨C, 1, none⟩ = some (.int .i64 p.a) ∧ w.cell? ⟨C, 2, none⟩ = some (.int .i64 p.b) ∧ w.cell? ⟨C, 3, none⟩ = some (.int .i64 p.k) ∧ w.cell? ⟨C, 4, none⟩ = some (.int .i64 p.t)
theorem TwoW.ext {o p : Wt} {B C : Nat} {w W : World} (h : TwoW o p B C w) (hE : Ext w W) : TwoW o p B C W := by
  unfold TwoW at *
  obtain ⟨h0, h1, h2, h3, h4, h5, h6, h7, h8, h9⟩ := h
  exact ⟨hE.cell h0, hE.cell h1, hE.cell h2, hE.cell h3, hE.cell h4, hE.cell h5, hE.cell h6, hE.cell h7, hE.cell h8, hE.cell h9⟩
set_option maxRecDepth 100000 in
set_option maxHeartbeats 6400000 in
theorem by_any (o p : Wt) (B : Nat) (w : World) (h : FiveF w B) : Calls Try.prog 42 #[.agg o.enc.toArray, .agg p.enc.toArray, .slice (some ⟨B, 0, none⟩) 5 5] w fun e w' => e = .returned (.int .i64 (cmpW o p)) ∧ Ext w w' := by
  have hX : Ext w ((w.alloc (.cells o.enc.toArray 26)).alloc (.cells p.enc.toArray 26)) := ((Ext.refl w).alloc _).alloc _
  have hT : TwoW o p w.heap.size (w.heap.size + 1) ((w.alloc (.cells o.enc.toArray 26)).alloc (.cells p.enc.toArray 26)) := by unfold TwoW Wt.enc; simp
  have HF := Lib.hid (h.ext hX)
  have HT := Lib.hid hT
  have HX := Lib.hid hX
  clear h hX hT
  go_enter Try.func42, Try.ntmps42
  go_wp2_with fail
  generalize ((w.alloc (.cells o.enc.toArray 26)).alloc (.cells p.enc.toArray 26)) = w0 at *
  go_loopw [12] (fun kv wr => ∃ i : Nat, kv = .int .i64 i ∧ i ≤ 5 ∧ cmpW o p = orL ((cmps o p).drop i) ∧ Ext w0 wr) (fun kv _ => 5 - (intOf kv).toNat)
  case atStart => exact ⟨0, rfl, by omega, rfl, Ext.refl _⟩
  case round =>
    obtain ⟨i, rfl, hi, hc, hE⟩ := hrel
    have HC := Lib.hid hc
    have HEr := Lib.hid hE
    clear hc
    obtain ⟨t0, t1, t2, t3, t4, t5, t6, t7, t8, t9⟩ := HT.out.ext hE
    obtain ⟨f0, f1, f2, f3, f4⟩ := HF.out.ext hE
    clear hE
    match i, hi with
    | 0, _ =>
      have HCM : Hid (cmpW o p = if cmpI o.a p.a = 0 then orL ((cmps o p).drop 1) else cmpI o.a p.a) := Lib.hid (HC.out.trans rfl)
      have g0 := grow_cell t0
      have g1 := grow_cell t1
      have g2 := grow_cell t2
      have g3 := grow_cell t3
      have g4 := grow_cell t4
      have g5 := grow_cell t5
      have g6 := grow_cell t6
      have g7 := grow_cell t7
      have g8 := grow_cell t8
      have g9 := grow_cell t9
      obtain ⟨c, hcc⟩ : ∃ c, cmpI o.a p.a = c := ⟨_, rfl⟩
      rw [hcc] at HCM
      have HCC := Lib.hid hcc
      clear hcc
      go_wp2_with fail
      refine wp_region_rel_all (fun i => if i = 2 then some (spV (.int .i64 o.a)) else if i = 5 then some (spV (.int .i64 p.a)) else if i = 6 then some (spV (.int .i64 c)) else none) (by kernel_rfl) (by kernel_rfl) ?_
      repeat (first
        | (refine wpRel_quick ?_ ?_ ?_ ?_
           · rfl
           · rfl
           · first | exact noEnter rfl | (intro f args W W'; go_simp)
           intro K hK
           go_big_quiet_op
           go_big_quiet_on)
        | (refine wpRel_skip ?_ ?_
           · rfl
           simp only [Act.put, List.setIfInBounds_toArray, List.set_cons_zero, List.set_cons_succ]))
      refine wpRel_rich _ rfl rfl (fun W hW => ?_) (fun v W3 hW3 hv => ?_)
      · have hc := fld1_any o W
        go_simp
        refine Calls.mono hc ?_
        rintro e w' ⟨rfl, h⟩
        exact ⟨_, rfl, rfl, by first | exact h | (subst h; exact Ext.refl _)⟩
      obtain rfl := hv
      clear hW3
      simp only [Act.put, List.setIfInBounds_toArray, List.set_cons_zero, List.set_cons_succ]
      repeat (first
        | (refine wpRel_quick ?_ ?_ ?_ ?_
           · rfl
           · rfl
           · first | exact noEnter rfl | (intro f args W W'; go_simp)
           intro K hK
           go_big_quiet_op
           go_big_quiet_on)
        | (refine wpRel_skip ?_ ?_
           · rfl
           simp only [Act.put, List.setIfInBounds_toArray, List.set_cons_zero, List.set_cons_succ]))
      refine wpRel_rich _ rfl rfl (fun W hW => ?_) (fun v W3 hW3 hv => ?_)
      · have hc := fld1_any p W
        go_simp
        refine Calls.mono hc ?_
        rintro e w' ⟨rfl, h⟩
        exact ⟨_, rfl, rfl, by first | exact h | (subst h; exact Ext.refl _)⟩
      obtain rfl := hv
      clear hW3
      simp only [Act.put, List.setIfInBounds_toArray, List.set_cons_zero, List.set_cons_succ]
      repeat (first
        | (refine wpRel_quick ?_ ?_ ?_ ?_
           · rfl
           · rfl
           · first | exact noEnter rfl | (intro f args W W'; go_simp)
           intro K hK
           go_big_quiet_op
           go_big_quiet_on)
        | (refine wpRel_skip ?_ ?_
           · rfl
           simp only [Act.put, List.setIfInBounds_toArray, List.set_cons_zero, List.set_cons_succ]))
      refine wpRel_rich _ rfl rfl (fun W hW => ?_) (fun v W3 hW3 hv => ?_)
      · have hc := (HCC.out ▸ cmp_any o.a p.a W)
        go_simp
        refine Calls.mono hc ?_
        rintro e w' ⟨rfl, h⟩
        exact ⟨_, rfl, rfl, by first | exact h | (subst h; exact Ext.refl _)⟩
      obtain rfl := hv
      clear hW3
      simp only [Act.put, List.setIfInBounds_toArray, List.set_cons_zero, List.set_cons_succ]
      repeat (first
        | (refine wpRel_quick ?_ ?_ ?_ ?_
           · rfl
           · rfl
           · first | exact noEnter rfl | (intro f args W W'; go_simp)
           intro K hK
           go_big_quiet_op
           go_big_quiet_on)
        | (refine wpRel_skip ?_ ?_
           · rfl
           simp only [Act.put, List.setIfInBounds_toArray, List.set_cons_zero, List.set_cons_succ]))
      refine wpRel_nil ?_
      intro W3 hW3
      have HE3 := Lib.hid (HEr.out.trans ((Ext.refl _).drew.trans hW3.1))
      clear hW3 g0 t0 g1 t1 g2 t2 g3 t3 g4 t4 g5 t5 g6 t6 g7 t7 g8 t8 g9 t9
      by_cases h0 : c = 0
      · have HN : Hid (cmpW o p = orL ((cmps o p).drop 1)) := Lib.hid (by rw [HCM.out, if_pos h0])
        go_wp2_with fail
        go_roundw
        case rel => exact ⟨1, by go_num, by omega, HN.out, HE3.out⟩
        case measure => simp [intOf]
      · have HN : Hid (cmpW o p = c) := Lib.hid (by rw [HCM.out, if_neg h0])
        go_wp2_with fail
        go_ret
        exact ⟨by rw [HN.out]; rfl, HX.out.trans HE3.out⟩
    | 1, _ =>
      have HCM : Hid (cmpW o p = if cmpI o.b p.b = 0 then orL ((cmps o p).drop 2) else cmpI o.b p.b) := Lib.hid (HC.out.trans rfl)
      have g0 := grow_cell t0
      have g1 := grow_cell t1
      have g2 := grow_cell t2
      have g3 := grow_cell t3
      have g4 := grow_cell t4
      have g5 := grow_cell t5
      have g6 := grow_cell t6
      have g7 := grow_cell t7
      have g8 := grow_cell t8
      have g9 := grow_cell t9
      obtain ⟨c, hcc⟩ : ∃ c, cmpI o.b p.b = c := ⟨_, rfl⟩
      rw [hcc] at HCM
      have HCC := Lib.hid hcc
      clear hcc
      go_wp2_with fail
      refine wp_region_rel_all (fun i => if i = 2 then some (spV (.int .i64 o.b)) else if i = 5 then some (spV (.int .i64 p.b)) else if i = 6 then some (spV (.int .i64 c)) else none) (by kernel_rfl) (by kernel_rfl) ?_
      repeat (first
        | (refine wpRel_quick ?_ ?_ ?_ ?_
           · rfl
           · rfl
           · first | exact noEnter rfl | (intro f args W W'; go_simp)
           intro K hK
           go_big_quiet_op
           go_big_quiet_on)
        | (refine wpRel_skip ?_ ?_
           · rfl
           simp only [Act.put, List.setIfInBounds_toArray, List.set_cons_zero, List.set_cons_succ]))
      refine wpRel_rich _ rfl rfl (fun W hW => ?_) (fun v W3 hW3 hv => ?_)
      · have hc := fld2_any o W
        go_simp
        refine Calls.mono hc ?_
        rintro e w' ⟨rfl, h⟩
        exact ⟨_, rfl, rfl, by first | exact h | (subst h; exact Ext.refl _)⟩
      obtain rfl := hv
      clear hW3
      simp only [Act.put, List.setIfInBounds_toArray, List.set_cons_zero, List.set_cons_succ]
      repeat (first
        | (refine wpRel_quick ?_ ?_ ?_ ?_
           · rfl
           · rfl
           · first | exact noEnter rfl | (intro f args W W'; go_simp)
           intro K hK
           go_big_quiet_op
           go_big_quiet_on)
        | (refine wpRel_skip ?_ ?_
           · rfl
           simp only [Act.put, List.setIfInBounds_toArray, List.set_cons_zero, List.set_cons_succ]))
      refine wpRel_rich _ rfl rfl (fun W hW => ?_) (fun v W3 hW3 hv => ?_)
      · have hc := fld2_any p W
        go_simp
        refine Calls.mono hc ?_
        rintro e w' ⟨rfl, h⟩
        exact ⟨_, rfl, rfl, by first | exact h | (subst h; exact Ext.refl _)⟩
      obtain rfl := hv
      clear hW3
      simp only [Act.put, List.setIfInBounds_toArray, List.set_cons_zero, List.set_cons_succ]
      repeat (first
        | (refine wpRel_quick ?_ ?_ ?_ ?_
           · rfl
           · rfl
           · first | exact noEnter rfl | (intro f args W W'; go_simp)
           intro K hK
           go_big_quiet_op
           go_big_quiet_on)
        | (refine wpRel_skip ?_ ?_
           · rfl
           simp only [Act.put, List.setIfInBounds_toArray, List.set_cons_zero, List.set_cons_succ]))
      refine wpRel_rich _ rfl rfl (fun W hW => ?_) (fun v W3 hW3 hv => ?_)
      · have hc := (HCC.out ▸ cmp_any o.b p.b W)
        go_simp
        refine Calls.mono hc ?_
        rintro e w' ⟨rfl, h⟩
        exact ⟨_, rfl, rfl, by first | exact h | (subst h; exact Ext.refl _)⟩
      obtain rfl := hv
      clear hW3
      simp only [Act.put, List.setIfInBounds_toArray, List.set_cons_zero, List.set_cons_succ]
      repeat (first
        | (refine wpRel_quick ?_ ?_ ?_ ?_
           · rfl
           · rfl
           · first | exact noEnter rfl | (intro f args W W'; go_simp)
           intro K hK
           go_big_quiet_op
           go_big_quiet_on)
        | (refine wpRel_skip ?_ ?_
           · rfl
           simp only [Act.put, List.setIfInBounds_toArray, List.set_cons_zero, List.set_cons_succ]))
      refine wpRel_nil ?_
      intro W3 hW3
      have HE3 := Lib.hid (HEr.out.trans ((Ext.refl _).drew.trans hW3.1))
      clear hW3 g0 t0 g1 t1 g2 t2 g3 t3 g4 t4 g5 t5 g6 t6 g7 t7 g8 t8 g9 t9
      by_cases h0 : c = 0
      · have HN : Hid (cmpW o p = orL ((cmps o p).drop 2)) := Lib.hid (by rw [HCM.out, if_pos h0])
        go_wp2_with fail
        go_roundw
        case rel => exact ⟨2, by go_num, by omega, HN.out, HE3.out⟩
        case measure => simp [intOf]
      · have HN : Hid (cmpW o p = c) := Lib.hid (by rw [HCM.out, if_neg h0])
        go_wp2_with fail
        go_ret
        exact ⟨by rw [HN.out]; rfl, HX.out.trans HE3.out⟩
    | 2, _ =>
      have HCM : Hid (cmpW o p = if cmpI o.k p.k = 0 then orL ((cmps o p).drop 3) else cmpI o.k p.k) := Lib.hid (HC.out.trans rfl)
      have g0 := grow_cell t0
      have g1 := grow_cell t1
      have g2 := grow_cell t2
      have g3 := grow_cell t3
      have g4 := grow_cell t4
      have g5 := grow_cell t5
      have g6 := grow_cell t6
      have g7 := grow_cell t7
      have g8 := grow_cell t8
      have g9 := grow_cell t9
      obtain ⟨c, hcc⟩ : ∃ c, cmpI o.k p.k = c := ⟨_, rfl⟩
      rw [hcc] at HCM
      have HCC := Lib.hid hcc
      clear hcc
      go_wp2_with fail
      refine wp_region_rel_all (fun i => if i = 2 then some (spV (.int .i64 o.k)) else if i = 5 then some (spV (.int .i64 p.k)) else if i = 6 then some (spV (.int .i64 c)) else none) (by kernel_rfl) (by kernel_rfl) ?_
      repeat (first
        | (refine wpRel_quick ?_ ?_ ?_ ?_
           · rfl
           · rfl
           · first | exact noEnter rfl | (intro f args W W'; go_simp)
           intro K hK
           go_big_quiet_op
           go_big_quiet_on)
        | (refine wpRel_skip ?_ ?_
           · rfl
           simp only [Act.put, List.setIfInBounds_toArray, List.set_cons_zero, List.set_cons_succ]))
      refine wpRel_rich _ rfl rfl (fun W hW => ?_) (fun v W3 hW3 hv => ?_)
      · have hc := fld3_any o W
        go_simp
        refine Calls.mono hc ?_
        rintro e w' ⟨rfl, h⟩
        exact ⟨_, rfl, rfl, by first | exact h | (subst h; exact Ext.refl _)⟩
      obtain rfl := hv
      clear hW3
      simp only [Act.put, List.setIfInBounds_toArray, List.set_cons_zero, List.set_cons_succ]
      repeat (first
        | (refine wpRel_quick ?_ ?_ ?_ ?_
           · rfl
           · rfl
           · first | exact noEnter rfl | (intro f args W W'; go_simp)
           intro K hK
           go_big_quiet_op
           go_big_quiet_on)
        | (refine wpRel_skip ?_ ?_
           · rfl
           simp only [Act.put, List.setIfInBounds_toArray, List.set_cons_zero, List.set_cons_succ]))
      refine wpRel_rich _ rfl rfl (fun W hW => ?_) (fun v W3 hW3 hv => ?_)
      · have hc := fld3_any p W
        go_simp
        refine Calls.mono hc ?_
        rintro e w' ⟨rfl, h⟩
        exact ⟨_, rfl, rfl, by first | exact h | (subst h; exact Ext.refl _)⟩
      obtain rfl := hv
      clear hW3
      simp only [Act.put, List.setIfInBounds_toArray, List.set_cons_zero, List.set_cons_succ]
      repeat (first
        | (refine wpRel_quick ?_ ?_ ?_ ?_
           · rfl
           · rfl
           · first | exact noEnter rfl | (intro f args W W'; go_simp)
           intro K hK
           go_big_quiet_op
           go_big_quiet_on)
        | (refine wpRel_skip ?_ ?_
           · rfl
           simp only [Act.put, List.setIfInBounds_toArray, List.set_cons_zero, List.set_cons_succ]))
      refine wpRel_rich _ rfl rfl (fun W hW => ?_) (fun v W3 hW3 hv => ?_)
      · have hc := (HCC.out ▸ cmp_any o.k p.k W)
        go_simp
        refine Calls.mono hc ?_
        rintro e w' ⟨rfl, h⟩
        exact ⟨_, rfl, rfl, by first | exact h | (subst h; exact Ext.refl _)⟩
      obtain rfl := hv
      clear hW3
      simp only [Act.put, List.setIfInBounds_toArray, List.set_cons_zero, List.set_cons_succ]
      repeat (first
        | (refine wpRel_quick ?_ ?_ ?_ ?_
           · rfl
           · rfl
           · first | exact noEnter rfl | (intro f args W W'; go_simp)
           intro K hK
           go_big_quiet_op
           go_big_quiet_on)
        | (refine wpRel_skip ?_ ?_
           · rfl
           simp only [Act.put, List.setIfInBounds_toArray, List.set_cons_zero, List.set_cons_succ]))
      refine wpRel_nil ?_
      intro W3 hW3
      have HE3 := Lib.hid (HEr.out.trans ((Ext.refl _).drew.trans hW3.1))
      clear hW3 g0 t0 g1 t1 g2 t2 g3 t3 g4 t4 g5 t5 g6 t6 g7 t7 g8 t8 g9 t9
      by_cases h0 : c = 0
      · have HN : Hid (cmpW o p = orL ((cmps o p).drop 3)) := Lib.hid (by rw [HCM.out, if_pos h0])
        go_wp2_with fail
        go_roundw
        case rel => exact ⟨3, by go_num, by omega, HN.out, HE3.out⟩
        case measure => simp [intOf]
      · have HN : Hid (cmpW o p = c) := Lib.hid (by rw [HCM.out, if_neg h0])
        go_wp2_with fail
        go_ret
        exact ⟨by rw [HN.out]; rfl, HX.out.trans HE3.out⟩
    | 3, _ =>
      have HCM : Hid (cmpW o p = if cmpI o.t p.t = 0 then orL ((cmps o p).drop 4) else cmpI o.t p.t) := Lib.hid (HC.out.trans rfl)
      have g0 := grow_cell t0
      have g1 := grow_cell t1
      have g2 := grow_cell t2
      have g3 := grow_cell t3
      have g4 := grow_cell t4
      have g5 := grow_cell t5
      have g6 := grow_cell t6
      have g7 := grow_cell t7
      have g8 := grow_cell t8
      have g9 := grow_cell t9
      obtain ⟨c, hcc⟩ : ∃ c, cmpI o.t p.t = c := ⟨_, rfl⟩
      rw [hcc] at HCM
      have HCC := Lib.hid hcc
      clear hcc
      go_wp2_with fail
      refine wp_region_rel_all (fun i => if i = 2 then some (spV (.int .i64 o.t)) else if i = 5 then some (spV (.int .i64 p.t)) else if i = 6 then some (spV (.int .i64 c)) else none) (by kernel_rfl) (by kernel_rfl) ?_
      repeat (first
        | (refine wpRel_quick ?_ ?_ ?_ ?_
           · rfl
           · rfl
           · first | exact noEnter rfl | (intro f args W W'; go_simp)
           intro K hK
           go_big_quiet_op
           go_big_quiet_on)
        | (refine wpRel_skip ?_ ?_
           · rfl
           simp only [Act.put, List.setIfInBounds_toArray, List.set_cons_zero, List.set_cons_succ]))
      refine wpRel_rich _ rfl rfl (fun W hW => ?_) (fun v W3 hW3 hv => ?_)
      · have hc := fld4_any o W
        go_simp
        refine Calls.mono hc ?_
        rintro e w' ⟨rfl, h⟩
        exact ⟨_, rfl, rfl, by first | exact h | (subst h; exact Ext.refl _)⟩
      obtain rfl := hv
      clear hW3
      simp only [Act.put, List.setIfInBounds_toArray, List.set_cons_zero, List.set_cons_succ]
      repeat (first
        | (refine wpRel_quick ?_ ?_ ?_ ?_
           · rfl
           · rfl
           · first | exact noEnter rfl | (intro f args W W'; go_simp)
           intro K hK
           go_big_quiet_op
           go_big_quiet_on)
        | (refine wpRel_skip ?_ ?_
           · rfl
           simp only [Act.put, List.setIfInBounds_toArray, List.set_cons_zero, List.set_cons_succ]))
      refine wpRel_rich _ rfl rfl (fun W hW => ?_) (fun v W3 hW3 hv => ?_)
      · have hc := fld4_any p W
        go_simp
        refine Calls.mono hc ?_
        rintro e w' ⟨rfl, h⟩
        exact ⟨_, rfl, rfl, by first | exact h | (subst h; exact Ext.refl _)⟩
      obtain rfl := hv
      clear hW3
      simp only [Act.put, List.setIfInBounds_toArray, List.set_cons_zero, List.set_cons_succ]
      repeat (first
        | (refine wpRel_quick ?_ ?_ ?_ ?_
           · rfl
           · rfl
           · first | exact noEnter rfl | (intro f args W W'; go_simp)
           intro K hK
           go_big_quiet_op
           go_big_quiet_on)
        | (refine wpRel_skip ?_ ?_
           · rfl
           simp only [Act.put, List.setIfInBounds_toArray, List.set_cons_zero, List.set_cons_succ]))
      refine wpRel_rich _ rfl rfl (fun W hW => ?_) (fun v W3 hW3 hv => ?_)
      · have hc := (HCC.out ▸ cmp_any o.t p.t W)
        go_simp
        refine Calls.mono hc ?_
        rintro e w' ⟨rfl, h⟩
        exact ⟨_, rfl, rfl, by first | exact h | (subst h; exact Ext.refl _)⟩
      obtain rfl := hv
      clear hW3
      simp only [Act.put, List.setIfInBounds_toArray, List.set_cons_zero, List.set_cons_succ]
      repeat (first
        | (refine wpRel_quick ?_ ?_ ?_ ?_
           · rfl
           · rfl
           · first | exact noEnter rfl | (intro f args W W'; go_simp)
           intro K hK
           go_big_quiet_op
           go_big_quiet_on)
        | (refine wpRel_skip ?_ ?_
           · rfl
           simp only [Act.put, List.setIfInBounds_toArray, List.set_cons_zero, List.set_cons_succ]))
      refine wpRel_nil ?_
      intro W3 hW3
      have HE3 := Lib.hid (HEr.out.trans ((Ext.refl _).drew.trans hW3.1))
      clear hW3 g0 t0 g1 t1 g2 t2 g3 t3 g4 t4 g5 t5 g6 t6 g7 t7 g8 t8 g9 t9
      by_cases h0 : c = 0
      · have HN : Hid (cmpW o p = orL ((cmps o p).drop 4)) := Lib.hid (by rw [HCM.out, if_pos h0])
        go_wp2_with fail
        go_roundw
        case rel => exact ⟨4, by go_num, by omega, HN.out, HE3.out⟩
        case measure => simp [intOf]
      · have HN : Hid (cmpW o p = c) := Lib.hid (by rw [HCM.out, if_neg h0])
        go_wp2_with fail
        go_ret
        exact ⟨by rw [HN.out]; rfl, HX.out.trans HE3.out⟩
    | 4, _ =>
      have HCM : Hid (cmpW o p = if cmpI o.s p.s = 0 then orL ((cmps o p).drop 5) else cmpI o.s p.s) := Lib.hid (HC.out.trans rfl)
      have g0 := grow_cell t0
      have g1 := grow_cell t1
      have g2 := grow_cell t2
      have g3 := grow_cell t3
      have g4 := grow_cell t4
      have g5 := grow_cell t5
      have g6 := grow_cell t6
      have g7 := grow_cell t7
      have g8 := grow_cell t8
      have g9 := grow_cell t9
      obtain ⟨c, hcc⟩ : ∃ c, cmpI o.s p.s = c := ⟨_, rfl⟩
      rw [hcc] at HCM
      have HCC := Lib.hid hcc
      clear hcc
      go_wp2_with fail
      refine wp_region_rel_all (fun i => if i = 2 then some (spV (.int .i64 o.s)) else if i = 5 then some (spV (.int .i64 p.s)) else if i = 6 then some (spV (.int .i64 c)) else none) (by kernel_rfl) (by kernel_rfl) ?_
      repeat (first
        | (refine wpRel_quick ?_ ?_ ?_ ?_
           · rfl
           · rfl
           · first | exact noEnter rfl | (intro f args W W'; go_simp)
           intro K hK
           go_big_quiet_op
           go_big_quiet_on)
        | (refine wpRel_skip ?_ ?_
           · rfl
           simp only [Act.put, List.setIfInBounds_toArray, List.set_cons_zero, List.set_cons_succ]))
      refine wpRel_rich _ rfl rfl (fun W hW => ?_) (fun v W3 hW3 hv => ?_)
      · have hc := fld5_any o W
        go_simp
        refine Calls.mono hc ?_
        rintro e w' ⟨rfl, h⟩
        exact ⟨_, rfl, rfl, by first | exact h | (subst h; exact Ext.refl _)⟩
      obtain rfl := hv
      clear hW3
      simp only [Act.put, List.setIfInBounds_toArray, List.set_cons_zero, List.set_cons_succ]
      repeat (first
        | (refine wpRel_quick ?_ ?_ ?_ ?_
           · rfl
           · rfl
           · first | exact noEnter rfl | (intro f args W W'; go_simp)
           intro K hK
           go_big_quiet_op
           go_big_quiet_on)
        | (refine wpRel_skip ?_ ?_
           · rfl
           simp only [Act.put, List.setIfInBounds_toArray, List.set_cons_zero, List.set_cons_succ]))
      refine wpRel_rich _ rfl rfl (fun W hW => ?_) (fun v W3 hW3 hv => ?_)
      · have hc := fld5_any p W
        go_simp
        refine Calls.mono hc ?_
        rintro e w' ⟨rfl, h⟩
        exact ⟨_, rfl, rfl, by first | exact h | (subst h; exact Ext.refl _)⟩
      obtain rfl := hv
      clear hW3
      simp only [Act.put, List.setIfInBounds_toArray, List.set_cons_zero, List.set_cons_succ]
      repeat (first
        | (refine wpRel_quick ?_ ?_ ?_ ?_
           · rfl
           · rfl
           · first | exact noEnter rfl | (intro f args W W'; go_simp)
           intro K hK
           go_big_quiet_op
           go_big_quiet_on)
        | (refine wpRel_skip ?_ ?_
           · rfl
           simp only [Act.put, List.setIfInBounds_toArray, List.set_cons_zero, List.set_cons_succ]))
      refine wpRel_rich _ rfl rfl (fun W hW => ?_) (fun v W3 hW3 hv => ?_)
      · have hc := (HCC.out ▸ cmp_any o.s p.s W)
        go_simp
        refine Calls.mono hc ?_
        rintro e w' ⟨rfl, h⟩
        exact ⟨_, rfl, rfl, by first | exact h | (subst h; exact Ext.refl _)⟩
      obtain rfl := hv
      clear hW3
      simp only [Act.put, List.setIfInBounds_toArray, List.set_cons_zero, List.set_cons_succ]
      repeat (first
        | (refine wpRel_quick ?_ ?_ ?_ ?_
           · rfl
           · rfl
           · first | exact noEnter rfl | (intro f args W W'; go_simp)
           intro K hK
           go_big_quiet_op
           go_big_quiet_on)
        | (refine wpRel_skip ?_ ?_
           · rfl
           simp only [Act.put, List.setIfInBounds_toArray, List.set_cons_zero, List.set_cons_succ]))
      refine wpRel_nil ?_
      intro W3 hW3
      have HE3 := Lib.hid (HEr.out.trans ((Ext.refl _).drew.trans hW3.1))
      clear hW3 g0 t0 g1 t1 g2 t2 g3 t3 g4 t4 g5 t5 g6 t6 g7 t7 g8 t8 g9 t9
      by_cases h0 : c = 0
      · have HN : Hid (cmpW o p = orL ((cmps o p).drop 5)) := Lib.hid (by rw [HCM.out, if_pos h0])
        go_wp2_with fail
        go_roundw
        case rel => exact ⟨5, by go_num, by omega, HN.out, HE3.out⟩
        case measure => simp [intOf]
      · have HN : Hid (cmpW o p = c) := Lib.hid (by rw [HCM.out, if_neg h0])
        go_wp2_with fail
        go_ret
        exact ⟨by rw [HN.out]; rfl, HX.out.trans HE3.out⟩
    | 5, _ =>
      go_wp2_with fail
      go_ret
      exact ⟨by rw [HC.out]; rfl, HX.out.trans HEr.out⟩
end Go.Proofs.Ytbhpeecebcihkaa
