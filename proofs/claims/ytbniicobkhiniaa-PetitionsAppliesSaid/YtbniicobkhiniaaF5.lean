/- Petitions: facts.Check and its reference. -/
import Derived.Test.YtbniicobkhiniaaF4
namespace Go.Sz
open Go.RowKit
def ordAt (l : List Ft) (i : Nat) : Bool := decide (cmpF (l.getD i f0) (l.getD (i + 1) f0) < 0)
theorem ordF_def (l : List Ft) : ordF l = (List.range (l.length - 1)).all (ordAt l) := rfl
theorem ordAt_of {l : List Ft} {i : Nat} {x y : Ft} (hx : l[i]? = some x) (hy : l[i + 1]? = some y) : ordAt l i = decide (cmpF x y < 0) := by
  unfold ordAt
  rw [List.getD, List.getD, hx, hy]
  rfl
theorem range_all_succ (f : Nat → Bool) (m : Nat) : (List.range (m + 1)).all f = ((List.range m).all f && f m) := by rw [List.range_succ, List.all_append]; simp
theorem checkF_bad {l : List Ft} (h : l.all okF = false) : checkF l = 70 := by unfold checkF; rw [h]; rfl
theorem checkF_ord {l : List Ft} (h : l.all okF = true) {i : Nat} (hi : i < l.length - 1) (ho : ordAt l i = false) : checkF l = 71 := by
  unfold checkF
  rw [if_pos h, if_neg]
  intro hh
  rw [ordF_def] at hh
  have := List.all_eq_true.1 hh i (List.mem_range.2 hi)
  rw [ho] at this
  cases this
theorem checkF_good {l : List Ft} (h : l.all okF = true) (ho : (List.range (l.length - 1)).all (ordAt l) = true) : checkF l = 0 := by
  unfold checkF
  rw [if_pos h, ordF_def, if_pos ho]
end Go.Sz
namespace Go.Proofs.Ytbniicobkhiniaa
open Go.RowKit Go.Sz
set_option maxRecDepth 100000 in
set_option maxHeartbeats 6400000 in
theorem checkF_any (l : List Ft) (ao : Option Addr) (cap : Nat) (w : World) (h : RepF w ao cap l) : Calls Try.prog 22 #[.slice ao l.length cap] w fun e w' => e = .returned (.int .i64 (checkF l)) ∧ Ext w w' := by
  have hs1 := h.max
  have hs2 := h.le
  have HL := Lib.hid h
  cases hall : l.all okF with
  | false =>
    have HC := Lib.hid (containsFunc_any l ao cap w h)
    have HB := Lib.hid (checkF_bad hall)
    rw [hall] at HC
    clear h hall
    go_enter Try.func22, Try.ntmps22
    go_wp2_with (go_at_call 33; refine HC.out.mono ?_; rintro e w1 ⟨rfl, hE⟩)
    go_ret
    exact ⟨ret_i64 HB.out.symm, hE⟩
  | true =>
    have HC := Lib.hid (containsFunc_any l ao cap w h)
    rw [hall] at HC
    have HA := Lib.hid hall
    clear hall
    by_cases hn : l.length = 0
    · obtain rfl := List.eq_nil_of_length_eq_zero hn
      have H0 := Lib.hid (checkF_good HA.out (by rfl))
      cases ao with
      | none =>
        obtain rfl : cap = 0 := SL.nil h rfl
        clear h
        go_enter Try.func22, Try.ntmps22
        go_wp2_with (go_at_call 33; refine HC.out.mono ?_; rintro e w1 ⟨rfl, hE⟩)
        go_loopw [12] (fun i wr => i = .int .i64 0 ∧ Ext w wr) (fun i _ => 0)
        case atStart => exact ⟨rfl, hE⟩
        case round =>
          obtain ⟨rfl, hEr⟩ := hrel
          go_wp2_with fail
          go_ret
          exact ⟨ret_i64 H0.out.symm, hEr⟩
      | some a =>
        clear h
        go_enter Try.func22, Try.ntmps22
        go_wp2_with (go_at_call 33; refine HC.out.mono ?_; rintro e w1 ⟨rfl, hE⟩)
        all_goals
          go_loopw [12] (fun i wr => i = .int .i64 0 ∧ Ext w wr) (fun i _ => 0)
          case atStart => exact ⟨rfl, hE⟩
          case round =>
            obtain ⟨rfl, hEr⟩ := hrel
            go_wp2_with fail
            go_ret
            exact ⟨ret_i64 H0.out.symm, hEr⟩
    · have hn1 : (1 : Int) ≤ (l.length : Int) := by omega
      obtain ⟨x0, hx0⟩ : ∃ x, l[0]? = some x := ⟨_, List.getElem?_eq_getElem (by omega)⟩
      obtain ⟨b, o, rfl, -⟩ := f_at HL.out (Ext.refl w) hx0
      have hc1 : (1 : Int) ≤ (cap : Int) := by omega
      have hlc : (l.length : Int) ≤ (cap : Int) := by omega
      have HN := Lib.hid hn
      obtain ⟨m, hm⟩ : ∃ m, l.length - 1 = m := ⟨_, rfl⟩
      have hml : l.length = m + 1 := by have := HN.out; omega
      have HML := Lib.hid hml
      have HM := Lib.hid hm
      have hmi : (m : Int) ≤ 9223372036854775806 := by omega
      clear hm hml
      clear hx0 h hn
      go_enter Try.func22, Try.ntmps22
      go_wp2_with (go_at_call 33; refine HC.out.mono ?_; rintro e w1 ⟨rfl, hE⟩)
      · have hm0 : m = 0 := by have := HML.out; omega
        rw [HM.out, hm0]
        have HM0 := Lib.hid hm0
        clear hm0
        go_loopw [12] (fun i wr => i = .int .i64 0 ∧ Ext w wr) (fun i _ => 0)
        case atStart => exact ⟨rfl, hE⟩
        case round =>
          obtain ⟨rfl, hEr⟩ := hrel
          go_wp2_with fail
          go_ret
          exact ⟨ret_i64 (checkF_good HA.out (by rw [HM.out, HM0.out]; rfl)).symm, hEr⟩
      · rw [HM.out]
        go_loopw [12] (fun i wr => ∃ j : Nat, i = .int .i64 j ∧ j ≤ m ∧ (List.range j).all (ordAt l) = true ∧ Ext w wr) (fun i _ => m - (intOf i).toNat)
        case atStart => exact ⟨0, rfl, by omega, rfl, hE⟩
        case round =>
          obtain ⟨j, rfl, hj, ho, hEr⟩ := hrel
          have HO := Lib.hid ho
          have HE := Lib.hid hEr
          clear ho hEr
          by_cases hlt : j < m
          · have hji : (j : Int) < (m : Int) := by omega
            have hj1 : j < l.length := by have := HML.out; omega
            have hj2 : j + 1 < l.length := by have := HML.out; omega
            have hji1 : (j : Int) < (l.length : Int) := by omega
            have hji2 : (j : Int) + 1 < (l.length : Int) := by omega
            obtain ⟨x, hx⟩ : ∃ x, l[j]? = some x := ⟨_, List.getElem?_eq_getElem hj1⟩
            obtain ⟨y, hy⟩ : ∃ y, l[j + 1]? = some y := ⟨_, List.getElem?_eq_getElem hj2⟩
            obtain ⟨b1, o1, e1, c0, c1, c2, c3, c4, c5, c6, c7⟩ := f_at HL.out HE.out hx
            cases e1
            obtain ⟨b1, o1, e1, d0, d1, d2, d3, d4, d5, d6, d7⟩ := f_at HL.out HE.out hy
            cases e1
            have HOA := Lib.hid (ordAt_of hx hy)
            have HJ := Lib.hid hlt
            clear hx hy
            obtain ⟨q, hq⟩ : ∃ q, cmpF x y = q := ⟨_, rfl⟩
            have HCP := Lib.hid (fun W => compare_any x y W)
            rw [hq] at HCP HOA
            clear hq
            obtain ⟨k, s, o, v, fr, to, kn, no⟩ := x
            obtain ⟨kp, sp, op, vp, frp, top, knp, nop⟩ := y
            dsimp only at c0 c1 c2 c3 c4 c5 c6 c7 d0 d1 d2 d3 d4 d5 d6 d7
            unfold Ft.enc at HCP
            dsimp only at HCP
            have gc0 := grow_cell c0
            have gd0 := grow_cell d0
            have gc1 := grow_cell c1
            have gd1 := grow_cell d1
            have gc2 := grow_cell c2
            have gd2 := grow_cell d2
            have gc3 := grow_cell c3
            have gd3 := grow_cell d3
            have gc4 := grow_cell c4
            have gd4 := grow_cell d4
            have gc5 := grow_cell c5
            have gd5 := grow_cell d5
            have gc6 := grow_cell c6
            have gd6 := grow_cell d6
            have gc7 := grow_cell c7
            have gd7 := grow_cell d7
            go_wp2_with fail
            refine wp_region_rel_all (fun i => if i = 9 then some (spV (.int .i64 q)) else none) (by kernel_rfl) (by kernel_rfl) ?_
            repeat (first
              | (refine wpRel_quick ?_ ?_ ?_ ?_
                 · rfl
                 · rfl
                 · first | exact noEnter rfl | (intro f args W W'; go_simp)
                 intro K hK
                 go_big_quiet_op
                 go_big_quiet_on)
              | (refine wpRel_skip ?_ ?_
                 · rfl
                 simp only [Act.put, List.setIfInBounds_toArray, List.set_cons_zero, List.set_cons_succ]))
            refine wpRel_rich _ rfl rfl (fun W hW => ?_) (fun v W3 hW3 hv => ?_)
            · have hc := HCP.out W
              go_simp
              refine Calls.mono hc ?_
              rintro e w' ⟨rfl, h⟩
              exact ⟨_, rfl, rfl, by first | exact h | (subst h; exact Ext.refl _)⟩
            obtain rfl := hv
            clear hW3
            simp only [Act.put, List.setIfInBounds_toArray, List.set_cons_zero, List.set_cons_succ]
            repeat (first
              | (refine wpRel_quick ?_ ?_ ?_ ?_
                 · rfl
                 · rfl
                 · first | exact noEnter rfl | (intro f args W W'; go_simp)
                 intro K hK
                 go_big_quiet_op
                 go_big_quiet_on)
              | (refine wpRel_skip ?_ ?_
                 · rfl
                 simp only [Act.put, List.setIfInBounds_toArray, List.set_cons_zero, List.set_cons_succ]))
            refine wpRel_nil ?_
            intro W3 hW3
            have HE3 := Lib.hid (HE.out.trans ((Ext.refl wr).drew.trans hW3.1))
            clear hW3
            by_cases h0 : 0 ≤ q
            · go_wp2_with fail
              go_ret
              exact ⟨ret_i64 (checkF_ord HA.out (i := j) (by rw [HM.out]; exact HJ.out) (by rw [HOA.out]; simp; omega)).symm, HE3.out⟩
            · go_wp2_with fail
              go_roundw
              case rel => exact ⟨j + 1, by go_num, by have := HJ.out; omega, by rw [range_all_succ, HO.out, HOA.out]; simp; omega, HE3.out⟩
              case measure => simp [intOf] <;> (have := HJ.out; omega)
          · have hji : ¬ (j : Int) < (m : Int) := by omega
            obtain rfl : j = m := by omega
            go_wp2_with fail
            go_ret
            exact ⟨ret_i64 (checkF_good HA.out (by rw [HM.out]; exact HO.out)).symm, HE.out⟩
end Go.Proofs.Ytbniicobkhiniaa
