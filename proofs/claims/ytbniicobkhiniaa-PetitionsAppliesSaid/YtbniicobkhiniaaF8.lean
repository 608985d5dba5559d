/- Petitions: the reference's Check. -/
import Derived.Test.YtbniicobkhiniaaF7
namespace Go.Sz
open Go.RowKit
theorem ordAt_bef {l : List Ft} {i : Nat} {x y : Ft} (hx : l[i]? = some x) (hy : l[i + 1]? = some y) : ordAt l i = befF x y := by
  rw [ordAt_of hx hy, Bool.eq_iff_iff, decide_eq_true_eq]
  exact cmpF_neg
theorem all_next {α : Type} {p : α → Bool} {l : List α} {k : Nat} {x : α} (hx : l[k]? = some x) (h : (l.take k).all p = true) (hp : p x = true) : (l.take (k + 1)).all p = true := by
  rw [List.take_add_one, hx, List.all_append, h]
  simp [hp]
theorem all_not {α : Type} {p : α → Bool} {l : List α} {k : Nat} {x : α} (hx : l[k]? = some x) (hp : p x = false) : l.all p = false := by
  rw [List.all_eq_false]
  exact ⟨x, List.mem_of_getElem? hx, by simp [hp]⟩
end Go.Sz
namespace Go.Proofs.Ytbniicobkhiniaa
open Go.RowKit Go.Sz
set_option maxRecDepth 100000 in
set_option maxHeartbeats 6400000 in
theorem rcheckF_any (l : List Ft) (ao : Option Addr) (cap : Nat) (w : World) (h : RepF w ao cap l) : Calls Try.prog 28 #[.slice ao l.length cap] w fun e w' => e = .returned (.int .i64 (checkF l)) ∧ Ext w w' := by
  have hs1 := h.max
  have hs2 := h.le
  have HL := Lib.hid h
  clear h
  go_enter Try.func28, Try.ntmps28
  go_wp2_with fail
  go_loopw [3] (fun iv wr => ∃ k : Nat, iv = .int .i64 k ∧ k ≤ l.length ∧ (l.take k).all okF = true ∧ Ext w wr) (fun iv _ => l.length - (intOf iv).toNat)
  case atStart => exact ⟨0, rfl, by omega, by simp, Ext.refl _⟩
  case round =>
    obtain ⟨k, rfl, hk, ht, hB⟩ := hrel
    have HT := Lib.hid ht
    have HB := Lib.hid hB
    clear ht hB
    by_cases hlt : k < l.length
    · have hki : (k : Int) < (l.length : Int) := by omega
      obtain ⟨x, hx⟩ : ∃ x, l[k]? = some x := ⟨_, List.getElem?_eq_getElem hlt⟩
      obtain ⟨b, o, rfl, c0, c1, c2, c3, c4, c5, c6, c7⟩ := f_at HL.out HB.out hx
      have HNX := Lib.hid (fun h => all_next hx HT.out h)
      have HNO := Lib.hid (fun h => checkF_bad (all_not (p := okF) hx h))
      have HVC := Lib.hid (fun W => validF_any x W)
      clear hx
      obtain ⟨q, hq⟩ : ∃ q, okF x = q := ⟨_, rfl⟩
      rw [hq] at HVC HNX HNO
      clear hq
      obtain ⟨kx, sx, ox, vx, frx, tox, knx, nox⟩ := x
      dsimp only at c0 c1 c2 c3 c4 c5 c6 c7
      unfold Ft.enc at HVC
      dsimp only at HVC
      cases q with
      | false =>
        have HN2 := Lib.hid (HNO.out rfl)
        clear HNO HNX
        go_wp2_with (go_at_call 40; refine (HVC.out _).mono ?_; rintro e w1 ⟨rfl, hE⟩)
        go_ret
        exact ⟨ret_i64 HN2.out.symm, HB.out.trans hE⟩
      | true =>
        have HN2 := Lib.hid (HNX.out rfl)
        clear HNO HNX
        go_wp2_with (go_at_call 40; refine (HVC.out _).mono ?_; rintro e w1 ⟨rfl, hE⟩)
        go_roundw
        case rel => exact ⟨k + 1, by go_num, by omega, HN2.out, HB.out.trans hE⟩
        case measure => simp [intOf] <;> omega
    · have hki : ¬ (k : Int) < (l.length : Int) := by omega
      have HA : Hid (l.all okF = true) := Lib.hid (by
        have h1 := HT.out
        rw [List.take_of_length_le (by omega)] at h1
        exact h1)
      go_wp2_with fail
      go_loopw [4] (fun iv wr => ∃ m : Nat, iv = .int .i64 m ∧ 1 ≤ m ∧ (m = 1 ∨ m ≤ l.length) ∧ (List.range (m - 1)).all (ordAt l) = true ∧ Ext w wr) (fun iv _ => l.length - (intOf iv).toNat)
      case atStart => exact ⟨1, rfl, by omega, .inl rfl, rfl, HB.out⟩
      case round =>
        obtain ⟨m, rfl, hm1, hj, ho, hE⟩ := hrel
        have HO := Lib.hid ho
        have HE := Lib.hid hE
        have HJ := Lib.hid hj
        have HM1 := Lib.hid hm1
        clear ho hE hj
        by_cases hlt2 : m < l.length
        · have hji : (m : Int) < (l.length : Int) := by omega
          obtain ⟨j, hj⟩ : ∃ j, m = j + 1 := ⟨m - 1, by omega⟩
          have hji1 : (j : Int) < (l.length : Int) := by omega
          have hjj : (m : Int) - 1 = (j : Int) := by omega
          have HJM := Lib.hid hj
          obtain ⟨x, hx⟩ : ∃ x, l[j]? = some x := ⟨_, List.getElem?_eq_getElem (by omega)⟩
          obtain ⟨y, hy⟩ : ∃ y, l[m]? = some y := ⟨_, List.getElem?_eq_getElem hlt2⟩
          obtain ⟨b, o, rfl, c0, c1, c2, c3, c4, c5, c6, c7⟩ := f_at HL.out HE.out hx
          obtain ⟨b1, o1, e1, d0, d1, d2, d3, d4, d5, d6, d7⟩ := f_at HL.out HE.out hy
          cases e1
          rw [hj] at hy
          clear hj hm1
          have HOA := Lib.hid (ordAt_bef hx hy)
          have HLT := Lib.hid hlt2
          clear hx hy
          obtain ⟨q, hq⟩ : ∃ q, befF x y = q := ⟨_, rfl⟩
          have HCP := Lib.hid (fun W => before_any x y W)
          rw [hq] at HCP HOA
          clear hq
          obtain ⟨kx, sx, ox, vx, frx, tox, knx, nox⟩ := x
          obtain ⟨ky, sy, oy, vy, fry, toy, kny, noy⟩ := y
          dsimp only at c0 c1 c2 c3 c4 c5 c6 c7 d0 d1 d2 d3 d4 d5 d6 d7
          unfold Ft.enc at HCP
          dsimp only at HCP
          have gc0 := grow_cell c0
          have gd0 := grow_cell d0
          have gc1 := grow_cell c1
          have gd1 := grow_cell d1
          have gc2 := grow_cell c2
          have gd2 := grow_cell d2
          have gc3 := grow_cell c3
          have gd3 := grow_cell d3
          have gc4 := grow_cell c4
          have gd4 := grow_cell d4
          have gc5 := grow_cell c5
          have gd5 := grow_cell d5
          have gc6 := grow_cell c6
          have gd6 := grow_cell d6
          have gc7 := grow_cell c7
          have gd7 := grow_cell d7
          go_wp2_with fail
          refine wp_region_rel_all (fun i => if i = 9 then some (spV (.bool q)) else none) (by kernel_rfl) (by kernel_rfl) ?_
          repeat (first
            | (refine wpRel_quick ?_ ?_ ?_ ?_
               · rfl
               · rfl
               · first | exact noEnter rfl | (intro f args W W'; go_simp)
               intro K hK
               go_big_quiet_op
               go_big_quiet_on)
            | (refine wpRel_skip ?_ ?_
               · rfl
               simp only [Act.put, List.setIfInBounds_toArray, List.set_cons_zero, List.set_cons_succ]))
          refine wpRel_rich _ rfl rfl (fun W hW => ?_) (fun v W3 hW3 hv => ?_)
          · have hc := HCP.out W
            go_simp
            refine Calls.mono hc ?_
            rintro e w' ⟨rfl, h⟩
            exact ⟨_, rfl, rfl, by first | exact h | (subst h; exact Ext.refl _)⟩
          obtain rfl := hv
          clear hW3
          simp only [Act.put, List.setIfInBounds_toArray, List.set_cons_zero, List.set_cons_succ]
          repeat (first
            | (refine wpRel_quick ?_ ?_ ?_ ?_
               · rfl
               · rfl
               · first | exact noEnter rfl | (intro f args W W'; go_simp)
               intro K hK
               go_big_quiet_op
               go_big_quiet_on)
            | (refine wpRel_skip ?_ ?_
               · rfl
               simp only [Act.put, List.setIfInBounds_toArray, List.set_cons_zero, List.set_cons_succ]))
          refine wpRel_nil ?_
          intro W3 hW3
          have HE3 := Lib.hid (HE.out.trans ((Ext.refl wr).drew.trans hW3.1))
          clear hW3
          cases q with
          | false =>
            clear HCP hjj
            clear gc0 gc1 gc2 gc3 gc4 gc5 gc6 gc7 gd0 gd1 gd2 gd3 gd4 gd5 gd6 gd7
            go_wp2_with fail
            go_ret
            exact ⟨ret_i64 (checkF_ord HA.out (i := j) (by have := HLT.out; have := HJM.out; omega) HOA.out).symm, HE3.out⟩
          | true =>
            clear HCP hjj
            clear gc0 gc1 gc2 gc3 gc4 gc5 gc6 gc7 gd0 gd1 gd2 gd3 gd4 gd5 gd6 gd7
            go_wp2_with fail
            go_roundw
            case rel => exact ⟨m + 1, by go_num, by omega, .inr (by have := HLT.out; omega), by rw [show m + 1 - 1 = j + 1 by have := HJM.out; omega, range_all_succ, HOA.out, show j = m - 1 by have := HJM.out; omega, HO.out]; rfl, HE3.out⟩
            case measure => simp [intOf] <;> (have := HLT.out; omega)
        · have hji : ¬ (m : Int) < (l.length : Int) := by omega
          have HG : Hid (checkF l = 0) := Lib.hid (by
            refine checkF_good HA.out ?_
            rcases HJ.out with h0 | h0
            · rw [show l.length - 1 = 0 by omega]; rfl
            · rw [show l.length - 1 = m - 1 by omega]; exact HO.out)
          go_wp2_with fail
          go_ret
          exact ⟨ret_i64 HG.out.symm, HE.out⟩
end Go.Proofs.Ytbniicobkhiniaa
