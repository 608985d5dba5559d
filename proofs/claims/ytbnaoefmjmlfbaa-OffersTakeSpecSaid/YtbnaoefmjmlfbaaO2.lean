/- Offers: Check, of the program and of the reference. -/
import Derived.Test.YtbnaoefmjmlfbaaO1
namespace Go.Sz
open Go.RowKit
def okAtO (l : List Off) (i : Nat) : Bool := okO (l.getD i ⟨0, 0, 0, 0⟩) && (i == 0 || decide (cmpO (l.getD (i - 1) ⟨0, 0, 0, 0⟩) (l.getD i ⟨0, 0, 0, 0⟩) < 0))
def okLO (l : List Off) : Bool := (List.range l.length).all (okAtO l)
def checkO (l : List Off) : Int := if okLO l = true then 0 else 310
theorem okLO_false {l : List Off} {k : Nat} (hk : k < l.length) (h : okAtO l k = false) : checkO l = 310 := by
  unfold checkO okLO
  rw [if_neg]
  intro h2
  rw [List.all_eq_true] at h2
  rw [h2 k (by simpa using hk)] at h
  cases h
theorem range_all_succ (f : Nat → Bool) (m : Nat) : (List.range (m + 1)).all f = ((List.range m).all f && f m) := by rw [List.range_succ, List.all_append]; simp
theorem getO {l : List Off} {i : Nat} (h : i < l.length) : l.getD i ⟨0, 0, 0, 0⟩ = l[i] := by simp [List.getD, h]
theorem okAtO_zero {l : List Off} (h : 0 < l.length) : okAtO l 0 = okO l[0] := by unfold okAtO; rw [getO h]; simp
theorem okAtO_succ {l : List Off} {k : Nat} (h : k < l.length) (h0 : 0 < k) : okAtO l k = (okO l[k] && decide (cmpO l[k - 1] l[k] < 0)) := by
  unfold okAtO
  rw [getO h, getO (by omega)]
  have : (k == 0) = false := by rw [beq_eq_false_iff_ne]; omega
  rw [this]; simp
theorem okAtO_bad {l : List Off} {k : Nat} (h : k < l.length) (hf : okO l[k] = false) : okAtO l k = false := by unfold okAtO; rw [getO h, hf]; rfl
end Go.Sz
namespace Go.Proofs.Ytbnaoefmjmlfbaa
open Go.RowKit Go.Sz
set_option maxRecDepth 100000 in
set_option maxHeartbeats 3200000 in
theorem check_any (l : List Off) (ao : Option Addr) (cap : Nat) (w : World) (h : RepO w ao cap l) : Calls Try.prog 14 #[.slice ao l.length cap] w fun e w' => e = .returned (.int .i64 (checkO l)) ∧ Ext w w' := by
  have HL := Lib.hid h
  have hs1 := h.max
  clear h
  go_enter Try.func14, Try.ntmps14
  go_wp2_with fail
  go_loopw [7] (fun iv wr => ∃ k : Nat, iv = .int .i64 k ∧ k ≤ l.length ∧ (List.range k).all (okAtO l) = true ∧ Ext w wr) (fun iv _ => l.length - (intOf iv).toNat)
  case atStart => exact ⟨0, rfl, by omega, rfl, Ext.refl _⟩
  case round =>
    obtain ⟨k, rfl, hk, ho, hB⟩ := hrel
    have HO := Lib.hid ho
    have HB := Lib.hid hB
    clear ho hB
    by_cases hlt : k < l.length
    · have hki : (k : Int) < (l.length : Int) := by omega
      obtain ⟨b, o, rfl, c0, c1, c2, c3⟩ := o_cells HL.out HB.out hlt
      have HZ : Hid (k = 0 → okAtO l k = okO l[k]) := Lib.hid fun h => by subst h; exact okAtO_zero hlt
      have HS := Lib.hid (okAtO_succ hlt)
      have HBAD := Lib.hid (okAtO_bad hlt)
      have HP : Hid (0 < k → ∃ y, y = l.getD (k - 1) ⟨0, 0, 0, 0⟩ ∧ y = l[k - 1] ∧ ∀ W, Ext wr W → W.cell? ⟨b, o + (k - 1) * 4, none⟩ = some (.int .i64 y.s) ∧ W.cell? ⟨b, o + (k - 1) * 4 + 1, none⟩ = some (.int .i64 y.a) ∧ W.cell? ⟨b, o + (k - 1) * 4 + 2, none⟩ = some (.int .i64 y.b) ∧ W.cell? ⟨b, o + (k - 1) * 4 + 3, none⟩ = some (.int .i64 y.u)) := Lib.hid fun h0 => ⟨l[k - 1], (getO (by omega)).symm, rfl, fun W hE => by
        obtain ⟨b', o', e, h1⟩ := o_cells HL.out (HB.out.trans hE) (i := k - 1) (by omega)
        cases e
        exact h1⟩
      generalize hx : l[k] = x at *
      have HX := Lib.hid hx
      clear hx
      go_wp2_with fail
      have hW1 : Ext wr (wr.alloc (.cells #[.int .i64 x.s, .int .i64 x.a, .int .i64 x.b, .int .i64 x.u] 26)) := (Ext.refl wr).alloc _
      have d0 : (wr.alloc (.cells #[.int .i64 x.s, .int .i64 x.a, .int .i64 x.b, .int .i64 x.u] 26)).cell? ⟨wr.heap.size, 0, none⟩ = some (.int .i64 x.s) := by simp
      have d1 : (wr.alloc (.cells #[.int .i64 x.s, .int .i64 x.a, .int .i64 x.b, .int .i64 x.u] 26)).cell? ⟨wr.heap.size, 1, none⟩ = some (.int .i64 x.a) := by simp
      have d2 : (wr.alloc (.cells #[.int .i64 x.s, .int .i64 x.a, .int .i64 x.b, .int .i64 x.u] 26)).cell? ⟨wr.heap.size, 2, none⟩ = some (.int .i64 x.b) := by simp
      have d3 : (wr.alloc (.cells #[.int .i64 x.s, .int .i64 x.a, .int .i64 x.b, .int .i64 x.u] 26)).cell? ⟨wr.heap.size, 3, none⟩ = some (.int .i64 x.u) := by simp
      generalize (wr.alloc (.cells #[.int .i64 x.s, .int .i64 x.a, .int .i64 x.b, .int .i64 x.u] 26)) = W1 at *
      clear c0 c1 c2 c3
      have HW1 := Lib.hid hW1
      clear hW1
      have gd0 := grow_cell d0
      have gd1 := grow_cell d1
      have gd2 := grow_cell d2
      have gd3 := grow_cell d3
      cases hf : okO x with
      | false =>
        have HBD := Lib.hid (okLO_false hlt (HBAD.out hf))
        refine wp_region_rel_all (fun i => if i = 1 then some (spV (.bool false)) else none) (by kernel_rfl) (by kernel_rfl) ?_
        repeat (first
          | (refine wpRel_quick ?_ ?_ ?_ ?_
             · rfl
             · rfl
             · first | exact noEnter rfl | (intro f args W W'; go_simp)
             intro K hK
             go_big_quiet_op
             go_big_quiet_on)
          | (refine wpRel_skip ?_ ?_
             · rfl
             simp only [Act.put, List.setIfInBounds_toArray, List.set_cons_zero, List.set_cons_succ]))
        refine wpRel_rich _ rfl rfl (fun W hW => ?_) (fun v W3 hW3 hv => ?_)
        · have hc := (hf ▸ fits_any x W)
          go_simp
          refine Calls.mono hc ?_
          rintro e w' ⟨rfl, h⟩
          exact ⟨_, rfl, rfl, by first | exact h | (subst h; exact Ext.refl _)⟩
        obtain rfl := hv
        clear hW3
        simp only [Act.put, List.setIfInBounds_toArray, List.set_cons_zero, List.set_cons_succ]
        repeat (first
          | (refine wpRel_quick ?_ ?_ ?_ ?_
             · rfl
             · rfl
             · first | exact noEnter rfl | (intro f args W W'; go_simp)
             intro K hK
             go_big_quiet_op
             go_big_quiet_on)
          | (refine wpRel_skip ?_ ?_
             · rfl
             simp only [Act.put, List.setIfInBounds_toArray, List.set_cons_zero, List.set_cons_succ]))
        refine wpRel_nil ?_
        intro W3 hW3
        have HE3 := Lib.hid (HB.out.trans (HW1.out.trans ((Ext.refl _).drew.trans hW3.1)))
        clear hW3 gd0 gd1 gd2 gd3
        go_wp2_with fail
        go_ret
        exact ⟨by rw [HBD.out]; rfl, HE3.out⟩
      | true =>
        have HF := Lib.hid hf
        clear hf
        rcases Nat.eq_zero_or_pos k with h0 | h0
        · subst h0
          refine wp_region_rel_all (fun i => if i = 1 then some (spV (.bool true)) else none) (by kernel_rfl) (by kernel_rfl) ?_
          repeat (first
            | (refine wpRel_quick ?_ ?_ ?_ ?_
               · rfl
               · rfl
               · first | exact noEnter rfl | (intro f args W W'; go_simp)
               intro K hK
               go_big_quiet_op
               go_big_quiet_on)
            | (refine wpRel_skip ?_ ?_
               · rfl
               simp only [Act.put, List.setIfInBounds_toArray, List.set_cons_zero, List.set_cons_succ]))
          refine wpRel_rich _ rfl rfl (fun W hW => ?_) (fun v W3 hW3 hv => ?_)
          · have hc := (HF.out ▸ fits_any x W)
            go_simp
            refine Calls.mono hc ?_
            rintro e w' ⟨rfl, h⟩
            exact ⟨_, rfl, rfl, by first | exact h | (subst h; exact Ext.refl _)⟩
          obtain rfl := hv
          clear hW3
          simp only [Act.put, List.setIfInBounds_toArray, List.set_cons_zero, List.set_cons_succ]
          repeat (first
            | (refine wpRel_quick ?_ ?_ ?_ ?_
               · rfl
               · rfl
               · first | exact noEnter rfl | (intro f args W W'; go_simp)
               intro K hK
               go_big_quiet_op
               go_big_quiet_on)
            | (refine wpRel_skip ?_ ?_
               · rfl
               simp only [Act.put, List.setIfInBounds_toArray, List.set_cons_zero, List.set_cons_succ]))
          refine wpRel_nil ?_
          intro W3 hW3
          have HE3 := Lib.hid (HB.out.trans (HW1.out.trans ((Ext.refl _).drew.trans hW3.1)))
          clear hW3 gd0 gd1 gd2 gd3
          go_wp2_with fail
          go_roundw
          case rel => exact ⟨1, by go_num, by omega, by rw [range_all_succ, HZ.out rfl, HF.out]; rfl, HE3.out⟩
          case measure => simp [intOf] <;> omega
        · obtain ⟨y, -, hy, hyc⟩ := HP.out h0
          have HC := Lib.hid (HS.out h0)
          have HY := Lib.hid hy
          obtain ⟨e0, e1, e2, e3⟩ := hyc _ HW1.out
          have ge0 := grow_cell e0
          have ge1 := grow_cell e1
          have ge2 := grow_cell e2
          have ge3 := grow_cell e3
          clear hyc hy
          have hk1 : (0 : Int) < (k : Int) := by omega
          refine wp_region_rel_all (fun i => if i = 1 then some (spV (.bool true)) else if i = 13 then some (spV (.int .i64 (cmpO y x))) else none) (by kernel_rfl) (by kernel_rfl) ?_
          repeat (first
            | (refine wpRel_quick ?_ ?_ ?_ ?_
               · rfl
               · rfl
               · first | exact noEnter rfl | (intro f args W W'; go_simp)
               intro K hK
               go_big_quiet_op
               go_big_quiet_on)
            | (refine wpRel_skip ?_ ?_
               · rfl
               simp only [Act.put, List.setIfInBounds_toArray, List.set_cons_zero, List.set_cons_succ]))
          refine wpRel_rich _ rfl rfl (fun W hW => ?_) (fun v W3 hW3 hv => ?_)
          · have hc := (HF.out ▸ fits_any x W)
            go_simp
            refine Calls.mono hc ?_
            rintro e w' ⟨rfl, h⟩
            exact ⟨_, rfl, rfl, by first | exact h | (subst h; exact Ext.refl _)⟩
          obtain rfl := hv
          clear hW3
          simp only [Act.put, List.setIfInBounds_toArray, List.set_cons_zero, List.set_cons_succ]
          repeat (first
            | (refine wpRel_quick ?_ ?_ ?_ ?_
               · rfl
               · rfl
               · first | exact noEnter rfl | (intro f args W W'; go_simp)
               intro K hK
               go_big_quiet_op
               go_big_quiet_on)
            | (refine wpRel_skip ?_ ?_
               · rfl
               simp only [Act.put, List.setIfInBounds_toArray, List.set_cons_zero, List.set_cons_succ]))
          refine wpRel_rich _ rfl rfl (fun W hW => ?_) (fun v W3 hW3 hv => ?_)
          · have hc := compare_any y x W
            go_simp
            refine Calls.mono hc ?_
            rintro e w' ⟨rfl, h⟩
            exact ⟨_, rfl, rfl, by first | exact h | (subst h; exact Ext.refl _)⟩
          obtain rfl := hv
          clear hW3
          simp only [Act.put, List.setIfInBounds_toArray, List.set_cons_zero, List.set_cons_succ]
          repeat (first
            | (refine wpRel_quick ?_ ?_ ?_ ?_
               · rfl
               · rfl
               · first | exact noEnter rfl | (intro f args W W'; go_simp)
               intro K hK
               go_big_quiet_op
               go_big_quiet_on)
            | (refine wpRel_skip ?_ ?_
               · rfl
               simp only [Act.put, List.setIfInBounds_toArray, List.set_cons_zero, List.set_cons_succ]))
          refine wpRel_nil ?_
          intro W3 hW3
          have HE3 := Lib.hid (HB.out.trans (HW1.out.trans ((Ext.refl _).drew.trans hW3.1)))
          clear hW3 gd0 gd1 gd2 gd3 ge0 ge1 ge2 ge3 e0 e1 e2 e3
          by_cases hc : cmpO y x < 0
          · have g1 : ¬ (0 : Int) ≤ cmpO y x := by omega
            have HCC := Lib.hid hc
            clear hc
            go_wp2_with fail
            go_roundw
            case rel => exact ⟨k + 1, by go_num, by omega, by rw [range_all_succ, HC.out, HF.out, ← HY.out, HO.out]; simpa using HCC.out, HE3.out⟩
            case measure => simp [intOf] <;> omega
          · have g1 : (0 : Int) ≤ cmpO y x := by omega
            have HBD : Hid (checkO l = 310) := Lib.hid (okLO_false hlt (by rw [HC.out, HF.out, ← HY.out]; simpa using hc))
            clear hc
            go_wp2_with fail
            go_ret
            exact ⟨by rw [HBD.out]; rfl, HE3.out⟩
    · have hki : ¬ (k : Int) < (l.length : Int) := by omega
      have HBD : Hid (checkO l = 0) := Lib.hid (by
        have : k = l.length := by omega
        unfold checkO okLO
        rw [← this, HO.out, if_pos rfl])
      go_wp2_with fail
      go_ret
      exact ⟨by rw [HBD.out]; rfl, HB.out⟩
end Go.Proofs.Ytbnaoefmjmlfbaa
