/- Offers: plain words; within, fits, compare of the program. -/
import Derived.Test.YtbnaoefmjmlfbaaC0
namespace Go.Sz
open Go.RowKit
structure Off where
  s : Int
  a : Int
  b : Int
  u : Int
deriving DecidableEq
def Off.enc (o : Off) : List Value := [.int .i64 o.s, .int .i64 o.a, .int .i64 o.b, .int .i64 o.u]
def orows (l : List Off) : List (List Value) := l.map Off.enc
theorem orows_length (l : List Off) : (orows l).length = l.length := List.length_map _
def okO (o : Off) : Bool := withinB o.s 0 19999 && withinB o.a 0 3999 && withinB o.b (-1) 3999 && (o.b != o.a) && withinB o.u 1 1048592
def cmpO (o p : Off) : Int := orL [cmpI o.s p.s, cmpI o.a p.a, cmpI o.b p.b]
def RepO (w : World) (ao : Option Addr) (cap : Nat) (l : List Off) : Prop := SL w 4 ao cap (orows l)
theorem RepO.ext {w W : World} {ao : Option Addr} {cap : Nat} {l : List Off} (h : RepO w ao cap l) (hE : Ext w W) : RepO W ao cap l := SL.ext h hE
theorem RepO.max {w : World} {ao : Option Addr} {cap : Nat} {l : List Off} (h : RepO w ao cap l) : (l.length : Int) ≤ 9223372036854775807 := by
  have h1 := SL.max h; have h2 := SL.le h; rw [orows_length] at h2; omega
theorem o_cells {w W : World} {ao : Option Addr} {cap : Nat} {l : List Off} (h : RepO w ao cap l) (hE : Ext w W) {i : Nat} (hi : i < l.length) : ∃ b o, ao = some ⟨b, o, none⟩ ∧
    W.cell? ⟨b, o + i * 4, none⟩ = some (.int .i64 l[i].s) ∧ W.cell? ⟨b, o + i * 4 + 1, none⟩ = some (.int .i64 l[i].a) ∧ W.cell? ⟨b, o + i * 4 + 2, none⟩ = some (.int .i64 l[i].b) ∧ W.cell? ⟨b, o + i * 4 + 3, none⟩ = some (.int .i64 l[i].u) := by
  have hr : (orows l)[i]? = some (Off.enc l[i]) := by simp [orows, hi]
  obtain ⟨b, o, rfl, _⟩ := SL.at h (by omega) i (by rw [orows_length]; exact hi)
  exact ⟨b, o, rfl, by simpa using hE.cell (SL.cellAt h hr (j := 0) rfl), hE.cell (SL.cellAt h hr (j := 1) rfl), hE.cell (SL.cellAt h hr (j := 2) rfl), hE.cell (SL.cellAt h hr (j := 3) rfl)⟩
end Go.Sz
namespace Go.Proofs.Ytbnaoefmjmlfbaa
open Go.RowKit Go.Sz
theorem within_any (n lo hi : Int) (w : World) : Calls Try.prog 35 #[.int .i64 n, .int .i64 lo, .int .i64 hi] w fun e w' => e = .returned (.bool (withinB n lo hi)) ∧ w = w' := by
  by_cases h1 : lo ≤ n
  · by_cases h2 : n ≤ hi
    · go_enter Try.func35, Try.ntmps35
      go_wp2
      go_ret
      exact ⟨by simp [withinB, h1, h2], rfl⟩
    · go_enter Try.func35, Try.ntmps35
      go_wp2
      go_ret
      exact ⟨by simp [withinB, h1]; omega, rfl⟩
  · go_enter Try.func35, Try.ntmps35
    go_wp2
    go_ret
    exact ⟨by simp [withinB]; omega, rfl⟩
set_option maxHeartbeats 800000 in
theorem fits_any (o : Off) (w : World) : Calls Try.prog 23 #[.agg o.enc.toArray] w fun e w' => e = .returned (.bool (okO o)) ∧ Ext w w' := by
  obtain ⟨s, a, b, u⟩ := o
  unfold Off.enc
  dsimp only
  go_enter Try.func23, Try.ntmps23
  go_wp2_with (go_at_call 35; refine (within_any _ _ _ _).mono ?_; rintro e w' ⟨rfl, rfl⟩)
  all_goals
    go_ret
    refine ⟨by simp_all [okO], ?_⟩
    repeat (first | exact Below.refl _ _ | refine Below.alloc ?_ (by simp) _ | refine Below.setCell ?_ (by simp) _)
set_option maxRecDepth 100000 in
set_option maxHeartbeats 1600000 in
theorem compare_any (o p : Off) (w : World) : Calls Try.prog 25 #[.agg o.enc.toArray, .agg p.enc.toArray] w fun e w' => e = .returned (.int .i64 (cmpO o p)) ∧ Ext w w' := by
  obtain ⟨s, a, b, u⟩ := o
  obtain ⟨s', a', b', u'⟩ := p
  unfold Off.enc
  dsimp only
  have hX0 := ((Ext.refl w).alloc (.cells #[.int .i64 s, .int .i64 a, .int .i64 b, .int .i64 u] 26)).alloc (.cells #[.int .i64 s', .int .i64 a', .int .i64 b', .int .i64 u'] 26)
  have c0 : ((w.alloc (.cells #[.int .i64 s, .int .i64 a, .int .i64 b, .int .i64 u] 26)).alloc (.cells #[.int .i64 s', .int .i64 a', .int .i64 b', .int .i64 u'] 26)).cell? ⟨w.heap.size, 0, none⟩ = some (.int .i64 s) := by simp
  have d0 : ((w.alloc (.cells #[.int .i64 s, .int .i64 a, .int .i64 b, .int .i64 u] 26)).alloc (.cells #[.int .i64 s', .int .i64 a', .int .i64 b', .int .i64 u'] 26)).cell? ⟨w.heap.size + 1, 0, none⟩ = some (.int .i64 s') := by simp
  have c1 : ((w.alloc (.cells #[.int .i64 s, .int .i64 a, .int .i64 b, .int .i64 u] 26)).alloc (.cells #[.int .i64 s', .int .i64 a', .int .i64 b', .int .i64 u'] 26)).cell? ⟨w.heap.size, 1, none⟩ = some (.int .i64 a) := by simp
  have d1 : ((w.alloc (.cells #[.int .i64 s, .int .i64 a, .int .i64 b, .int .i64 u] 26)).alloc (.cells #[.int .i64 s', .int .i64 a', .int .i64 b', .int .i64 u'] 26)).cell? ⟨w.heap.size + 1, 1, none⟩ = some (.int .i64 a') := by simp
  have c2 : ((w.alloc (.cells #[.int .i64 s, .int .i64 a, .int .i64 b, .int .i64 u] 26)).alloc (.cells #[.int .i64 s', .int .i64 a', .int .i64 b', .int .i64 u'] 26)).cell? ⟨w.heap.size, 2, none⟩ = some (.int .i64 b) := by simp
  have d2 : ((w.alloc (.cells #[.int .i64 s, .int .i64 a, .int .i64 b, .int .i64 u] 26)).alloc (.cells #[.int .i64 s', .int .i64 a', .int .i64 b', .int .i64 u'] 26)).cell? ⟨w.heap.size + 1, 2, none⟩ = some (.int .i64 b') := by simp
  have c3 : ((w.alloc (.cells #[.int .i64 s, .int .i64 a, .int .i64 b, .int .i64 u] 26)).alloc (.cells #[.int .i64 s', .int .i64 a', .int .i64 b', .int .i64 u'] 26)).cell? ⟨w.heap.size, 3, none⟩ = some (.int .i64 u) := by simp
  have d3 : ((w.alloc (.cells #[.int .i64 s, .int .i64 a, .int .i64 b, .int .i64 u] 26)).alloc (.cells #[.int .i64 s', .int .i64 a', .int .i64 b', .int .i64 u'] 26)).cell? ⟨w.heap.size + 1, 3, none⟩ = some (.int .i64 u') := by simp
  go_enter Try.func25, Try.ntmps25
  go_wp2_with fail
  generalize ((w.alloc (.cells #[.int .i64 s, .int .i64 a, .int .i64 b, .int .i64 u] 26)).alloc (.cells #[.int .i64 s', .int .i64 a', .int .i64 b', .int .i64 u'] 26)) = w1 at *
  have gc0 := grow_cell c0
  have gd0 := grow_cell d0
  have gc1 := grow_cell c1
  have gd1 := grow_cell d1
  have gc2 := grow_cell c2
  have gd2 := grow_cell d2
  have gc3 := grow_cell c3
  have gd3 := grow_cell d3
  refine wp_region_rel_all (fun i => if i = 4 then some (spV (.int .i64 (cmpI s s'))) else if i = 11 then some (spV (.int .i64 (cmpI a a'))) else if i = 18 then some (spV (.int .i64 (cmpI b b'))) else if i = 19 then some (spSL 1 3 3 (irows [cmpI s s', cmpI a a', cmpI b b'])) else if i = 20 then some (spV (.int .i64 (orL [cmpI s s', cmpI a a', cmpI b b']))) else none) (by kernel_rfl) (by kernel_rfl) ?_
  repeat (first
    | (refine wpRel_quick ?_ ?_ ?_ ?_
       · rfl
       · rfl
       · first | exact noEnter rfl | (intro f args W W'; go_simp)
       intro K hK
       go_big_quiet_op
       go_big_quiet_on)
    | (refine wpRel_skip ?_ ?_
       · rfl
       simp only [Act.put, List.setIfInBounds_toArray, List.set_cons_zero, List.set_cons_succ]))
  refine wpRel_rich _ rfl rfl (fun W hW => ?_) (fun v W3 hW3 hv => ?_)
  · have hc := cmp_any s s' W
    go_simp
    refine Calls.mono hc ?_
    rintro e w' ⟨rfl, h⟩
    exact ⟨_, rfl, rfl, by first | exact h | (subst h; exact Ext.refl _)⟩
  obtain rfl := hv
  clear hW3
  simp only [Act.put, List.setIfInBounds_toArray, List.set_cons_zero, List.set_cons_succ]
  repeat (first
    | (refine wpRel_quick ?_ ?_ ?_ ?_
       · rfl
       · rfl
       · first | exact noEnter rfl | (intro f args W W'; go_simp)
       intro K hK
       go_big_quiet_op
       go_big_quiet_on)
    | (refine wpRel_skip ?_ ?_
       · rfl
       simp only [Act.put, List.setIfInBounds_toArray, List.set_cons_zero, List.set_cons_succ]))
  refine wpRel_rich _ rfl rfl (fun W hW => ?_) (fun v W3 hW3 hv => ?_)
  · have hc := cmp_any a a' W
    go_simp
    refine Calls.mono hc ?_
    rintro e w' ⟨rfl, h⟩
    exact ⟨_, rfl, rfl, by first | exact h | (subst h; exact Ext.refl _)⟩
  obtain rfl := hv
  clear hW3
  simp only [Act.put, List.setIfInBounds_toArray, List.set_cons_zero, List.set_cons_succ]
  repeat (first
    | (refine wpRel_quick ?_ ?_ ?_ ?_
       · rfl
       · rfl
       · first | exact noEnter rfl | (intro f args W W'; go_simp)
       intro K hK
       go_big_quiet_op
       go_big_quiet_on)
    | (refine wpRel_skip ?_ ?_
       · rfl
       simp only [Act.put, List.setIfInBounds_toArray, List.set_cons_zero, List.set_cons_succ]))
  refine wpRel_rich _ rfl rfl (fun W hW => ?_) (fun v W3 hW3 hv => ?_)
  · have hc := cmp_any b b' W
    go_simp
    refine Calls.mono hc ?_
    rintro e w' ⟨rfl, h⟩
    exact ⟨_, rfl, rfl, by first | exact h | (subst h; exact Ext.refl _)⟩
  obtain rfl := hv
  clear hW3
  simp only [Act.put, List.setIfInBounds_toArray, List.set_cons_zero, List.set_cons_succ]
  repeat (first
    | (refine wpRel_quick ?_ ?_ ?_ ?_
       · rfl
       · rfl
       · first | exact noEnter rfl | (intro f args W W'; go_simp)
       intro K hK
       go_big_quiet_op
       go_big_quiet_on)
    | (refine wpRel_skip ?_ ?_
       · rfl
       simp only [Act.put, List.setIfInBounds_toArray, List.set_cons_zero, List.set_cons_succ]))
  refine wpRel_rich _ rfl rfl (fun W hW => ?_) (fun v W3 hW3 hv => ?_)
  · go_simp
    exact ⟨⟨_, rfl, sl_news W [[.int .i64 (cmpI s s')], [.int .i64 (cmpI a a')], [.int .i64 (cmpI b b')]] 1 3 _ (by simp) rfl (by omega)⟩, (Ext.refl _).alloc _⟩
  obtain ⟨ao, rfl, _⟩ := hv
  clear hW3
  simp only [Act.put, List.setIfInBounds_toArray, List.set_cons_zero, List.set_cons_succ]
  refine wpRel_rich _ rfl rfl (fun W hW => ?_) (fun v W3 hW3 hv => ?_)
  · obtain ⟨ao', he, hsl⟩ := hW.2 19 (by unfold Anc; kernel_rfl) _ _ rfl rfl
    cases he
    have hc := or_any [cmpI s s', cmpI a a', cmpI b b'] ao 3 W hsl
    go_simp
    refine Calls.mono hc ?_
    rintro e w' ⟨rfl, h⟩
    exact ⟨_, rfl, rfl, h⟩
  obtain rfl := hv
  clear hW3
  simp only [Act.put, List.setIfInBounds_toArray, List.set_cons_zero, List.set_cons_succ]
  repeat (first
    | (refine wpRel_quick ?_ ?_ ?_ ?_
       · rfl
       · rfl
       · first | exact noEnter rfl | (intro f args W W'; go_simp)
       intro K hK
       go_big_quiet_op
       go_big_quiet_on)
    | (refine wpRel_skip ?_ ?_
       · rfl
       simp only [Act.put, List.setIfInBounds_toArray, List.set_cons_zero, List.set_cons_succ]))
  refine wpRel_nil ?_
  intro W3 hW3
  go_wp2_with fail
  go_ret
  exact ⟨rfl, hX0.trans ((Ext.refl _).drew.trans hW3.1)⟩
end Go.Proofs.Ytbnaoefmjmlfbaa
