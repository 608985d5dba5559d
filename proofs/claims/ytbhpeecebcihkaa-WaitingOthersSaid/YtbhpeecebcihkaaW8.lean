/- Waiting: slices.BinarySearchFunc by compare. -/
import Derived.Test.YtbhpeecebcihkaaW4
namespace Go.Sz
open Go.RowKit
/-- p is the place of x: what stands ahead of it is less, what stands behind is not -/
structure PosW (l : List Wt) (x : Wt) (p : Nat) : Prop where
  le : p ≤ l.length
  lt : ∀ t (h : t < l.length), t < p → cmpW l[t] x < 0
  ge : ∀ t (h : t < l.length), p ≤ t → 0 ≤ cmpW l[t] x
/-- as a search wants it -/
def MonoW (l : List Wt) (x : Wt) : Prop := ∀ s t (h : t < l.length) (hs : s ≤ t), cmpW l[t] x < 0 → cmpW (l[s]'(by omega)) x < 0
def metW (l : List Wt) (x : Wt) (p : Nat) : Bool := decide (p < l.length) && (cmpW (l.getD p x) x == 0)
end Go.Sz
namespace Go.Proofs.Ytbhpeecebcihkaa
open Go.RowKit Go.Sz
def Srch (l : List Wt) (x : Wt) (w : World) (e : Ending) (w' : World) : Prop := ∃ p : Nat, PosW l x p ∧ e = .returned (.tuple #[.int .i64 p, .bool (metW l x p)]) ∧ Ext w w'
set_option maxRecDepth 100000 in
set_option maxHeartbeats 6400000 in
theorem search_any (l : List Wt) (x : Wt) (ao : Option Addr) (cap : Nat) (w : World) (h : RepW w ao cap l) (hm : MonoW l x) (hb : l.length ≤ 100000) : Calls Try.prog 30 #[.slice ao l.length cap, .agg x.enc.toArray, .func (Fn.func 31) #[] #[]] w (Srch l x w) := by
  have hs1 := h.max
  have HM := Lib.hid hm
  have hs2 : (l.length : Int) ≤ 100000 := by omega
  have hX0 : Ext w (w.alloc (.cells #[.int .i64 x.s, .int .i64 x.a, .int .i64 x.b, .int .i64 x.k, .int .i64 x.t] 26)) := (Ext.refl w).alloc _
  have HL := Lib.hid (h.ext hX0)
  have d0 : (w.alloc (.cells #[.int .i64 x.s, .int .i64 x.a, .int .i64 x.b, .int .i64 x.k, .int .i64 x.t] 26)).cell? ⟨w.heap.size, 0, none⟩ = some (.int .i64 x.s) := by simp
  have d1 : (w.alloc (.cells #[.int .i64 x.s, .int .i64 x.a, .int .i64 x.b, .int .i64 x.k, .int .i64 x.t] 26)).cell? ⟨w.heap.size, 1, none⟩ = some (.int .i64 x.a) := by simp
  have d2 : (w.alloc (.cells #[.int .i64 x.s, .int .i64 x.a, .int .i64 x.b, .int .i64 x.k, .int .i64 x.t] 26)).cell? ⟨w.heap.size, 2, none⟩ = some (.int .i64 x.b) := by simp
  have d3 : (w.alloc (.cells #[.int .i64 x.s, .int .i64 x.a, .int .i64 x.b, .int .i64 x.k, .int .i64 x.t] 26)).cell? ⟨w.heap.size, 3, none⟩ = some (.int .i64 x.k) := by simp
  have d4 : (w.alloc (.cells #[.int .i64 x.s, .int .i64 x.a, .int .i64 x.b, .int .i64 x.k, .int .i64 x.t] 26)).cell? ⟨w.heap.size, 4, none⟩ = some (.int .i64 x.t) := by simp
  have HD : Hid (∀ W, Ext (w.alloc (.cells #[.int .i64 x.s, .int .i64 x.a, .int .i64 x.b, .int .i64 x.k, .int .i64 x.t] 26)) W → W.cell? ⟨w.heap.size, 0, none⟩ = some (.int .i64 x.s) ∧ W.cell? ⟨w.heap.size, 1, none⟩ = some (.int .i64 x.a) ∧ W.cell? ⟨w.heap.size, 2, none⟩ = some (.int .i64 x.b) ∧ W.cell? ⟨w.heap.size, 3, none⟩ = some (.int .i64 x.k) ∧ W.cell? ⟨w.heap.size, 4, none⟩ = some (.int .i64 x.t)) := Lib.hid fun W hE => ⟨hE.cell d0, hE.cell d1, hE.cell d2, hE.cell d3, hE.cell d4⟩
  have HX0 := Lib.hid hX0
  clear h hm hb hX0 d0 d1 d2 d3 d4
  unfold Wt.enc
  go_enter Try.func30, Try.ntmps30
  go_wp2_with fail
  generalize (w.alloc (.cells #[.int .i64 x.s, .int .i64 x.a, .int .i64 x.b, .int .i64 x.k, .int .i64 x.t] 26)) = w1 at *
  go_loopw [9, 10] (fun iv jv wr => ∃ i j : Nat, iv = .int .i64 i ∧ jv = .int .i64 j ∧ i ≤ j ∧ j ≤ l.length ∧ (∀ t (h : t < l.length), t < i → cmpW l[t] x < 0) ∧ (∀ t (h : t < l.length), j ≤ t → 0 ≤ cmpW l[t] x) ∧ Ext w1 wr) (fun iv jv _ => (intOf jv).toNat - (intOf iv).toNat)
  case atStart => exact ⟨0, l.length, rfl, rfl, by omega, by omega, fun t _ h => by omega, fun t h h2 => by omega, Ext.refl _⟩
  case round =>
    obtain ⟨i, j, rfl, rfl, hij, hj, hlo, hhi, hB⟩ := hrel
    have HLO := Lib.hid hlo
    have HHI := Lib.hid hhi
    have HB := Lib.hid hB
    clear hlo hhi hB
    obtain ⟨d0, d1, d2, d3, d4⟩ := HD.out wr HB.out
    have gd0 := grow_cell d0
    have gd1 := grow_cell d1
    have gd2 := grow_cell d2
    have gd3 := grow_cell d3
    have gd4 := grow_cell d4
    by_cases hlt : i < j
    · have hki : (i : Int) < (j : Int) := by omega
      obtain ⟨m, hm⟩ : ∃ m, m = (i + j) / 2 := ⟨_, rfl⟩
      have hmi : i ≤ m := by omega
      have hmj : m < j := by omega
      have hml : m < l.length := by omega
      have hw1 : IntKind.u64.wrap ((i : Int) + (j : Int)) = (i : Int) + (j : Int) := by rw [IntKind.wrap_u64]; omega
      have hmm : ((i : Int) + (j : Int)) / 2 = (m : Int) := by omega
      have hmb : (m : Int) < (l.length : Int) := by omega
      have hjl : (j : Int) ≤ (l.length : Int) := by omega
      have HMM := Lib.hid hm
      clear hm
      obtain ⟨bb, o, rfl, c0, c1, c2, c3, c4⟩ := w_cells HL.out HB.out hml
      have HLT : Hid (cmpW l[m] x < 0 → ∀ t (h : t < l.length), t < m + 1 → cmpW l[t] x < 0) := Lib.hid fun hc t h ht => HM.out t m hml (by omega) hc
      have HGE : Hid (0 ≤ cmpW l[m] x → ∀ t (h : t < l.length), m ≤ t → 0 ≤ cmpW l[t] x) := Lib.hid fun hc t h ht => Int.not_lt.1 fun hc' => by have := HM.out m t h ht hc'; omega
      generalize l[m] = y at *
      have gc0 := grow_cell c0
      have gc1 := grow_cell c1
      have gc2 := grow_cell c2
      have gc3 := grow_cell c3
      have gc4 := grow_cell c4
      go_wp2_with fail
      refine wp_region_rel_all (fun i => if i = 6 then some (spV (.int .i64 (cmpW y x))) else none) (by kernel_rfl) (by kernel_rfl) ?_
      repeat (first
        | (refine wpRel_quick ?_ ?_ ?_ ?_
           · rfl
           · rfl
           · first | exact noEnter rfl | (intro f args W W'; go_simp)
           intro K hK
           go_big_quiet_op
           go_big_quiet_on)
        | (refine wpRel_skip ?_ ?_
           · rfl
           simp only [Act.put, List.setIfInBounds_toArray, List.set_cons_zero, List.set_cons_succ]))
      refine wpRel_rich _ rfl rfl (fun W hW => ?_) (fun v W3 hW3 hv => ?_)
      · have hc := compareW_any y x W
        go_simp
        refine Calls.mono hc ?_
        rintro e w' ⟨rfl, h⟩
        exact ⟨_, rfl, rfl, by first | exact h | (subst h; exact Ext.refl _)⟩
      obtain rfl := hv
      clear hW3
      simp only [Act.put, List.setIfInBounds_toArray, List.set_cons_zero, List.set_cons_succ]
      repeat (first
        | (refine wpRel_quick ?_ ?_ ?_ ?_
           · rfl
           · rfl
           · first | exact noEnter rfl | (intro f args W W'; go_simp)
           intro K hK
           go_big_quiet_op
           go_big_quiet_on)
        | (refine wpRel_skip ?_ ?_
           · rfl
           simp only [Act.put, List.setIfInBounds_toArray, List.set_cons_zero, List.set_cons_succ]))
      refine wpRel_nil ?_
      intro W3 hW3
      have HE3 := Lib.hid (HB.out.trans ((Ext.refl _).drew.trans hW3.1))
      clear hW3 gc0 gc1 gc2 gc3 gc4 gd0 gd1 gd2 gd3 gd4 c0 c1 c2 c3 c4 d0 d1 d2 d3 d4
      by_cases hc : cmpW y x < 0
      · have HC := Lib.hid (HLT.out hc)
        go_wp2_with fail
        go_roundw
        case rel => exact ⟨m + 1, j, by go_num, rfl, by omega, by omega, HC.out, HHI.out, HE3.out⟩
        case measure => simp [intOf] <;> omega
      · have HC := Lib.hid (HGE.out (by omega))
        go_wp2_with fail
        go_roundw
        case rel => exact ⟨i, m, rfl, rfl, by omega, by omega, HLO.out, HC.out, HE3.out⟩
        case measure => simp [intOf] <;> omega
    · have hij' : i = j := by omega
      subst hij'
      have hki : ¬ (i : Int) < (i : Int) := by omega
      have HP : Hid (PosW l x i) := Lib.hid ⟨by omega, HLO.out, HHI.out⟩
      by_cases hil : i < l.length
      · have hii : (i : Int) < (l.length : Int) := by omega
        obtain ⟨bb, o, rfl, c0, c1, c2, c3, c4⟩ := w_cells HL.out HB.out hil
        have HMT : Hid (metW l x i = (cmpW l[i] x == 0)) := Lib.hid (by unfold metW; rw [decide_eq_true hil, List.getD_eq_getElem?_getD, List.getElem?_eq_getElem hil]; simp)
        generalize l[i] = y at *
        have gc0 := grow_cell c0
        have gc1 := grow_cell c1
        have gc2 := grow_cell c2
        have gc3 := grow_cell c3
        have gc4 := grow_cell c4
        go_wp2_with fail
        refine wp_region_rel_all (fun i => if i = 11 then some (spV (.int .i64 (cmpW y x))) else none) (by kernel_rfl) (by kernel_rfl) ?_
        repeat (first
          | (refine wpRel_quick ?_ ?_ ?_ ?_
             · rfl
             · rfl
             · first | exact noEnter rfl | (intro f args W W'; go_simp)
             intro K hK
             go_big_quiet_op
             go_big_quiet_on)
          | (refine wpRel_skip ?_ ?_
             · rfl
             simp only [Act.put, List.setIfInBounds_toArray, List.set_cons_zero, List.set_cons_succ]))
        refine wpRel_rich _ rfl rfl (fun W hW => ?_) (fun v W3 hW3 hv => ?_)
        · have hc := compareW_any y x W
          go_simp
          refine Calls.mono hc ?_
          rintro e w' ⟨rfl, h⟩
          exact ⟨_, rfl, rfl, by first | exact h | (subst h; exact Ext.refl _)⟩
        obtain rfl := hv
        clear hW3
        simp only [Act.put, List.setIfInBounds_toArray, List.set_cons_zero, List.set_cons_succ]
        repeat (first
          | (refine wpRel_quick ?_ ?_ ?_ ?_
             · rfl
             · rfl
             · first | exact noEnter rfl | (intro f args W W'; go_simp)
             intro K hK
             go_big_quiet_op
             go_big_quiet_on)
          | (refine wpRel_skip ?_ ?_
             · rfl
             simp only [Act.put, List.setIfInBounds_toArray, List.set_cons_zero, List.set_cons_succ]))
        refine wpRel_nil ?_
        intro W3 hW3
        have HE3 := Lib.hid (HB.out.trans ((Ext.refl _).drew.trans hW3.1))
        clear hW3 gc0 gc1 gc2 gc3 gc4 gd0 gd1 gd2 gd3 gd4 c0 c1 c2 c3 c4 d0 d1 d2 d3 d4
        go_wp2_with fail
        go_ret2
        exact ⟨i, HP.out, by rw [HMT.out]; rfl, HX0.out.trans HE3.out⟩
      · have hii : ¬ (i : Int) < (l.length : Int) := by omega
        have HMT : Hid (metW l x i = false) := Lib.hid (by unfold metW; rw [decide_eq_false hil]; rfl)
        go_wp2_with fail
        refine wp_region_rel_all (fun _ => none) (by kernel_rfl) (by kernel_rfl) ?_
        repeat (first
          | (refine wpRel_quick ?_ ?_ ?_ ?_
             · rfl
             · rfl
             · first | exact noEnter rfl | (intro f args W W'; go_simp)
             intro K hK
             go_big_quiet_op
             go_big_quiet_on)
          | (refine wpRel_skip ?_ ?_
             · rfl
             simp only [Act.put, List.setIfInBounds_toArray, List.set_cons_zero, List.set_cons_succ]))
        refine wpRel_nil ?_
        intro W3 hW3
        have HE3 := Lib.hid (HB.out.trans ((Ext.refl _).drew.trans hW3.1))
        clear hW3 gd0 gd1 gd2 gd3 gd4 d0 d1 d2 d3 d4
        go_wp2_with fail
        go_ret2
        exact ⟨i, HP.out, by rw [HMT.out]; rfl, HX0.out.trans HE3.out⟩
end Go.Proofs.Ytbhpeecebcihkaa
