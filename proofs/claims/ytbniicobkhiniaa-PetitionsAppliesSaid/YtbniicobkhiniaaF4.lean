/- Petitions: within, fits, compare of the program; Check's search. -/
import Derived.Test.YtbniicobkhiniaaF3
import Derived.Test.YtbniicobkhiniaaC0
namespace Go.Sz
open Go.RowKit
theorem ret_bool {b c : Bool} (h : b = c) : Ending.returned (.bool b) = .returned (.bool c) := by rw [h]
theorem ret_i64 {b c : Int} (h : b = c) : Ending.returned (.int .i64 b) = .returned (.int .i64 c) := by rw [h]
theorem f_at {w W : World} {ao : Option Addr} {cap : Nat} {l : List Ft} (h : RepF w ao cap l) (hE : Ext w W) {i : Nat} {x : Ft} (hx : l[i]? = some x) : ∃ b o, ao = some ⟨b, o, none⟩ ∧
    W.cell? ⟨b, o + i * 8, none⟩ = some (.int .i64 x.k) ∧ W.cell? ⟨b, o + i * 8 + 1, none⟩ = some (.int .i64 x.s) ∧ W.cell? ⟨b, o + i * 8 + 2, none⟩ = some (.int .i64 x.o) ∧ W.cell? ⟨b, o + i * 8 + 3, none⟩ = some (.int .i64 x.v) ∧ W.cell? ⟨b, o + i * 8 + 4, none⟩ = some (.int .i64 x.fr) ∧ W.cell? ⟨b, o + i * 8 + 5, none⟩ = some (.int .i64 x.to) ∧ W.cell? ⟨b, o + i * 8 + 6, none⟩ = some (.int .i64 x.kn) ∧ W.cell? ⟨b, o + i * 8 + 7, none⟩ = some (.int .i64 x.no) := by
  obtain ⟨hi, rfl⟩ := List.getElem?_eq_some_iff.1 hx
  exact f_cells h hE hi
theorem take_next {l : List Ft} {m : Nat} {x : Ft} (hx : l[m]? = some x) : l.take (m + 1) = l.take m ++ [x] := by
  rw [List.take_add_one, hx]
  rfl
theorem getF {l : List Ft} {i : Nat} (h : i < l.length) : l.getD i f0 = l[i] := by simp [List.getD, h]
end Go.Sz
namespace Go.Proofs.Ytbniicobkhiniaa
open Go.RowKit Go.Sz
theorem within_any (n lo hi : Int) (w : World) : Calls Try.prog 45 #[.int .i64 n, .int .i64 lo, .int .i64 hi] w fun e w' => e = .returned (.bool (withinB n lo hi)) ∧ w = w' := by
  by_cases h1 : lo ≤ n
  · by_cases h2 : n ≤ hi
    · go_enter Try.func45, Try.ntmps45
      go_wp2
      go_ret
      exact ⟨by simp [withinB, h1, h2], rfl⟩
    · go_enter Try.func45, Try.ntmps45
      go_wp2
      go_ret
      exact ⟨by simp [withinB, h1]; omega, rfl⟩
  · go_enter Try.func45, Try.ntmps45
    go_wp2
    go_ret
    exact ⟨by simp [withinB]; omega, rfl⟩
set_option maxRecDepth 100000 in
set_option maxHeartbeats 6400000 in
theorem fits_any (x : Ft) (w : World) : Calls Try.prog 35 #[.agg x.enc.toArray] w fun e w' => e = .returned (.bool (okF x)) ∧ Ext w w' := by
  obtain ⟨k, s, o, v, fr, to, kn, no⟩ := x
  unfold Ft.enc
  dsimp only
  go_enter Try.func35, Try.ntmps35
  go_wp2_with (go_at_call 45; refine (within_any _ _ _ _).mono ?_; rintro e w' ⟨rfl, rfl⟩)
  all_goals
    go_ret
    refine ⟨by simp_all [okF] <;> (intros; omega), ?_⟩
    repeat (first | exact Below.refl _ _ | refine Below.alloc ?_ (by simp) _ | refine Below.setCell ?_ (by simp) _)
set_option maxRecDepth 100000 in
set_option maxHeartbeats 6400000 in
theorem compare_any (x y : Ft) (w : World) : Calls Try.prog 36 #[.agg x.enc.toArray, .agg y.enc.toArray] w fun e w' => e = .returned (.int .i64 (cmpF x y)) ∧ Ext w w' := by
  obtain ⟨k, s, o, v, fr, to, kn, no⟩ := x
  obtain ⟨kp, sp, op, vp, frp, top, knp, nop⟩ := y
  unfold Ft.enc
  dsimp only
  have hX0 := ((Ext.refl w).alloc (.cells #[.int .i64 k, .int .i64 s, .int .i64 o, .int .i64 v, .int .i64 fr, .int .i64 to, .int .i64 kn, .int .i64 no] 28)).alloc (.cells #[.int .i64 kp, .int .i64 sp, .int .i64 op, .int .i64 vp, .int .i64 frp, .int .i64 top, .int .i64 knp, .int .i64 nop] 28)
  have c6 : ((w.alloc (.cells #[.int .i64 k, .int .i64 s, .int .i64 o, .int .i64 v, .int .i64 fr, .int .i64 to, .int .i64 kn, .int .i64 no] 28)).alloc (.cells #[.int .i64 kp, .int .i64 sp, .int .i64 op, .int .i64 vp, .int .i64 frp, .int .i64 top, .int .i64 knp, .int .i64 nop] 28)).cell? ⟨w.heap.size, 6, none⟩ = some (.int .i64 kn) := by simp
  have d6 : ((w.alloc (.cells #[.int .i64 k, .int .i64 s, .int .i64 o, .int .i64 v, .int .i64 fr, .int .i64 to, .int .i64 kn, .int .i64 no] 28)).alloc (.cells #[.int .i64 kp, .int .i64 sp, .int .i64 op, .int .i64 vp, .int .i64 frp, .int .i64 top, .int .i64 knp, .int .i64 nop] 28)).cell? ⟨w.heap.size + 1, 6, none⟩ = some (.int .i64 knp) := by simp
  have c7 : ((w.alloc (.cells #[.int .i64 k, .int .i64 s, .int .i64 o, .int .i64 v, .int .i64 fr, .int .i64 to, .int .i64 kn, .int .i64 no] 28)).alloc (.cells #[.int .i64 kp, .int .i64 sp, .int .i64 op, .int .i64 vp, .int .i64 frp, .int .i64 top, .int .i64 knp, .int .i64 nop] 28)).cell? ⟨w.heap.size, 7, none⟩ = some (.int .i64 no) := by simp
  have d7 : ((w.alloc (.cells #[.int .i64 k, .int .i64 s, .int .i64 o, .int .i64 v, .int .i64 fr, .int .i64 to, .int .i64 kn, .int .i64 no] 28)).alloc (.cells #[.int .i64 kp, .int .i64 sp, .int .i64 op, .int .i64 vp, .int .i64 frp, .int .i64 top, .int .i64 knp, .int .i64 nop] 28)).cell? ⟨w.heap.size + 1, 7, none⟩ = some (.int .i64 nop) := by simp
  go_enter Try.func36, Try.ntmps36
  go_wp2_with fail
  generalize ((w.alloc (.cells #[.int .i64 k, .int .i64 s, .int .i64 o, .int .i64 v, .int .i64 fr, .int .i64 to, .int .i64 kn, .int .i64 no] 28)).alloc (.cells #[.int .i64 kp, .int .i64 sp, .int .i64 op, .int .i64 vp, .int .i64 frp, .int .i64 top, .int .i64 knp, .int .i64 nop] 28)) = w1 at *
  have gc6 := grow_cell c6
  have gd6 := grow_cell d6
  have gc7 := grow_cell c7
  have gd7 := grow_cell d7
  refine wp_region_rel_all (fun i => if i = 4 then some (spV (.int .i64 (cmpI kn knp))) else if i = 9 then some (spV (.int .i64 (cmpI no nop))) else if i = 10 then some (spSL 1 2 2 (irows [cmpI kn knp, cmpI no nop])) else if i = 11 then some (spV (.int .i64 (orL [cmpI kn knp, cmpI no nop]))) else none) (by kernel_rfl) (by kernel_rfl) ?_
  repeat (first
    | (refine wpRel_quick ?_ ?_ ?_ ?_
       · rfl
       · rfl
       · first | exact noEnter rfl | (intro f args W W'; go_simp)
       intro K hK
       go_big_quiet_op
       go_big_quiet_on)
    | (refine wpRel_skip ?_ ?_
       · rfl
       simp only [Act.put, List.setIfInBounds_toArray, List.set_cons_zero, List.set_cons_succ]))
  refine wpRel_rich _ rfl rfl (fun W hW => ?_) (fun v W3 hW3 hv => ?_)
  · have hc := cmp_any kn knp W
    go_simp
    refine Calls.mono hc ?_
    rintro e w' ⟨rfl, h⟩
    exact ⟨_, rfl, rfl, by first | exact h | (subst h; exact Ext.refl _)⟩
  obtain rfl := hv
  clear hW3
  simp only [Act.put, List.setIfInBounds_toArray, List.set_cons_zero, List.set_cons_succ]
  repeat (first
    | (refine wpRel_quick ?_ ?_ ?_ ?_
       · rfl
       · rfl
       · first | exact noEnter rfl | (intro f args W W'; go_simp)
       intro K hK
       go_big_quiet_op
       go_big_quiet_on)
    | (refine wpRel_skip ?_ ?_
       · rfl
       simp only [Act.put, List.setIfInBounds_toArray, List.set_cons_zero, List.set_cons_succ]))
  refine wpRel_rich _ rfl rfl (fun W hW => ?_) (fun v W3 hW3 hv => ?_)
  · have hc := cmp_any no nop W
    go_simp
    refine Calls.mono hc ?_
    rintro e w' ⟨rfl, h⟩
    exact ⟨_, rfl, rfl, by first | exact h | (subst h; exact Ext.refl _)⟩
  obtain rfl := hv
  clear hW3
  simp only [Act.put, List.setIfInBounds_toArray, List.set_cons_zero, List.set_cons_succ]
  repeat (first
    | (refine wpRel_quick ?_ ?_ ?_ ?_
       · rfl
       · rfl
       · first | exact noEnter rfl | (intro f args W W'; go_simp)
       intro K hK
       go_big_quiet_op
       go_big_quiet_on)
    | (refine wpRel_skip ?_ ?_
       · rfl
       simp only [Act.put, List.setIfInBounds_toArray, List.set_cons_zero, List.set_cons_succ]))
  refine wpRel_rich _ rfl rfl (fun W hW => ?_) (fun v W3 hW3 hv => ?_)
  · go_simp
    exact ⟨⟨_, rfl, sl_news W [[.int .i64 (cmpI kn knp)], [.int .i64 (cmpI no nop)]] 1 2 _ (by simp) rfl (by omega)⟩, (Ext.refl _).alloc _⟩
  obtain ⟨ao, rfl, _⟩ := hv
  clear hW3
  simp only [Act.put, List.setIfInBounds_toArray, List.set_cons_zero, List.set_cons_succ]
  refine wpRel_rich _ rfl rfl (fun W hW => ?_) (fun v W3 hW3 hv => ?_)
  · obtain ⟨ao', he, hsl⟩ := hW.2 10 (by unfold Anc; kernel_rfl) _ _ rfl rfl
    cases he
    have hc := or_any [cmpI kn knp, cmpI no nop] ao 2 W hsl
    go_simp
    refine Calls.mono hc ?_
    rintro e w' ⟨rfl, h⟩
    exact ⟨_, rfl, rfl, h⟩
  obtain rfl := hv
  clear hW3
  simp only [Act.put, List.setIfInBounds_toArray, List.set_cons_zero, List.set_cons_succ]
  repeat (first
    | (refine wpRel_quick ?_ ?_ ?_ ?_
       · rfl
       · rfl
       · first | exact noEnter rfl | (intro f args W W'; go_simp)
       intro K hK
       go_big_quiet_op
       go_big_quiet_on)
    | (refine wpRel_skip ?_ ?_
       · rfl
       simp only [Act.put, List.setIfInBounds_toArray, List.set_cons_zero, List.set_cons_succ]))
  refine wpRel_nil ?_
  intro W3 hW3
  have HE3 := Lib.hid (hX0.trans ((Ext.refl w1).drew.trans hW3.1))
  clear hW3
  go_wp2_with fail
  go_ret
  exact ⟨rfl, HE3.out⟩
set_option maxRecDepth 100000 in
set_option maxHeartbeats 6400000 in
theorem check1_any (x : Ft) (w : World) : Calls Try.prog 34 #[.agg x.enc.toArray] w fun e w' => e = .returned (.bool (!okF x)) ∧ Ext w w' := by
  have HP := Lib.hid fun (W : World) => fits_any x W
  obtain ⟨k, s, o, v, fr, to, kn, no⟩ := x
  generalize okF ⟨k, s, o, v, fr, to, kn, no⟩ = b at *
  unfold Ft.enc at *
  dsimp only at *
  cases b
  all_goals
    go_enter Try.func34, Try.ntmps34
    go_wp2_with fail
    refine (HP.out _).mono ?_
    rintro e w1 ⟨rfl, hE1⟩
    go_wp2_with fail
    go_ret
    exact ⟨rfl, ((Ext.refl w).alloc _).trans hE1⟩
set_option maxRecDepth 100000 in
set_option maxHeartbeats 6400000 in
theorem indexFunc_any (l : List Ft) (ao : Option Addr) (cap : Nat) (w : World) (h : RepF w ao cap l) : Calls Try.prog 44 #[.slice ao l.length cap, .func (Fn.func 34) #[] #[]] w fun e w' => (∃ r : Int, e = .returned (.int .i64 r) ∧ decide (0 ≤ r) = !(l.all okF)) ∧ Ext w w' := by
  have hs1 := h.max
  have HH := Lib.hid h
  clear h
  go_enter Try.func44, Try.ntmps44
  go_wp2_with fail
  go_loopw [8] (fun i wr => ∃ m : Nat, i = .int .i64 m ∧ m ≤ l.length ∧ (l.take m).all okF = true ∧ Ext w wr) (fun i _ => l.length - (intOf i).toNat)
  case atStart => exact ⟨0, rfl, by omega, by simp, Ext.refl _⟩
  case round =>
    obtain ⟨m, rfl, hm, hall, hB⟩ := hrel
    have HALL := Lib.hid hall
    have HB := Lib.hid hB
    clear hall hB
    by_cases hlt : m < l.length
    · have hji : (m : Int) < (l.length : Int) := by omega
      obtain ⟨x, hx⟩ : ∃ x, l[m]? = some x := ⟨_, List.getElem?_eq_getElem hlt⟩
      obtain ⟨b, o, rfl, c0, c1, c2, c3, c4, c5, c6, c7⟩ := f_at HH.out HB.out hx
      have HC := Lib.hid (check1_any x wr)
      have HQ : Hid ((l.take (m + 1)).all okF = ((l.take m).all okF && okF x)) := Lib.hid (by rw [take_next hx, List.all_append]; simp)
      have HNO : Hid (okF x = false → l.all okF = false) := Lib.hid fun hok => by
        rw [Bool.eq_false_iff]
        intro h2
        rw [List.all_eq_true] at h2
        rw [h2 _ (List.mem_of_getElem? hx)] at hok
        cases hok
      clear hx
      obtain ⟨k, s, o, v, fr, to, kn, no⟩ := x
      dsimp only at c0 c1 c2 c3 c4 c5 c6 c7
      unfold Ft.enc at HC
      dsimp only at HC
      cases hok : okF ⟨k, s, o, v, fr, to, kn, no⟩ with
      | true =>
        rw [hok] at HC HQ
        clear hok HNO
        go_wp2_with (go_at_call 34; refine HC.out.mono ?_; rintro e w' ⟨rfl, hE⟩)
        go_roundw
        case rel => exact ⟨m + 1, by go_num, by omega, by rw [HQ.out, HALL.out]; rfl, HB.out.trans hE⟩
        case measure => simp [intOf] <;> omega
      | false =>
        rw [hok] at HC
        have HF := Lib.hid (HNO.out hok)
        clear hok
        go_wp2_with (go_at_call 34; refine HC.out.mono ?_; rintro e w' ⟨rfl, hE⟩)
        go_ret
        exact ⟨⟨m, rfl, by rw [HF.out]; simp⟩, HB.out.trans hE⟩
    · have hji : ¬ (m : Int) < (l.length : Int) := by omega
      have hmn : m = l.length := by omega
      have HMN := Lib.hid hmn
      clear hmn
      go_wp2_with fail
      go_ret
      refine ⟨⟨-1, rfl, ?_⟩, HB.out⟩
      have h1 := HALL.out
      rw [HMN.out, List.take_length] at h1
      rw [h1]
      rfl
set_option maxRecDepth 100000 in
set_option maxHeartbeats 6400000 in
theorem containsFunc_any (l : List Ft) (ao : Option Addr) (cap : Nat) (w : World) (h : RepF w ao cap l) : Calls Try.prog 33 #[.slice ao l.length cap, .func (Fn.func 34) #[] #[]] w fun e w' => e = .returned (.bool (!(l.all okF))) ∧ Ext w w' := by
  have HI := Lib.hid (indexFunc_any l ao cap w h)
  clear h
  go_enter Try.func33, Try.ntmps33
  go_wp2_with (go_at_call 44; refine HI.out.mono ?_; rintro e w' ⟨⟨r, rfl, hr⟩, hE⟩; have HRR := Lib.hid hr; clear hr)
  go_ret
  exact ⟨by rw [← HRR.out]; rfl, hE⟩
end Go.Proofs.Ytbniicobkhiniaa
