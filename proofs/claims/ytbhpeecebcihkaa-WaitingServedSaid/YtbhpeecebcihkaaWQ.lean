/- Waiting: Same, SameBundles. -/
import Derived.Test.YtbhpeecebcihkaaWP
namespace Go.Sz
open Go.RowKit
theorem Wt.ext' {o p : Wt} : o = p ↔ o.s = p.s ∧ o.a = p.a ∧ o.b = p.b ∧ o.k = p.k ∧ o.t = p.t := by
  obtain ⟨s, a, b, k, t⟩ := o
  obtain ⟨s', a', b', k', t'⟩ := p
  simp
def eqWt (o p : Wt) : Bool := decide (o = p)
/-- bundles: section and lab -/
abbrev Bd := Int × Int
def brows (l : List Bd) : List (List Value) := l.map fun x => [.int .i64 x.1, .int .i64 x.2]
theorem brows_length (l : List Bd) : (brows l).length = l.length := List.length_map _
def RepB (w : World) (ao : Option Addr) (cap : Nat) (l : List Bd) : Prop := SL w 2 ao cap (brows l)
theorem RepB.ext {w W : World} {ao : Option Addr} {cap : Nat} {l : List Bd} (h : RepB w ao cap l) (hE : Ext w W) : RepB W ao cap l := SL.ext h hE
theorem RepB.max {w : World} {ao : Option Addr} {cap : Nat} {l : List Bd} (h : RepB w ao cap l) : (l.length : Int) ≤ 9223372036854775807 := by
  have h1 := SL.max h; have h2 := SL.le h; rw [brows_length] at h2; omega
theorem b_cells {w W : World} {ao : Option Addr} {cap : Nat} {l : List Bd} (h : RepB w ao cap l) (hE : Ext w W) {i : Nat} (hi : i < l.length) : ∃ b o, ao = some ⟨b, o, none⟩ ∧
    W.cell? ⟨b, o + i * 2, none⟩ = some (.int .i64 l[i].1) ∧ W.cell? ⟨b, o + i * 2 + 1, none⟩ = some (.int .i64 l[i].2) := by
  have hr : (brows l)[i]? = some [.int .i64 l[i].1, .int .i64 l[i].2] := by simp [brows, hi]
  obtain ⟨b, o, rfl, _⟩ := SL.at h (by omega) i (by rw [brows_length]; exact hi)
  exact ⟨b, o, rfl, by simpa using hE.cell (SL.cellAt h hr (j := 0) rfl), by simpa using hE.cell (SL.cellAt h hr (j := 1) rfl)⟩
theorem take_eq_of {α : Type} {l l' : List α} {k : Nat} (h1 : k < l.length) (h2 : k < l'.length) (h : l.take k = l'.take k) (he : l[k] = l'[k]) : l.take (k + 1) = l'.take (k + 1) := by
  rw [List.take_succ_eq_append_getElem h1, List.take_succ_eq_append_getElem h2, h, he]
end Go.Sz
namespace Go.Proofs.Ytbhpeecebcihkaa
open Go.RowKit Go.Sz
theorem eqW (o p : Wt) (w : World) : (Op.equalIn 10000 26 (.agg #[.int .i64 o.s, .int .i64 o.a, .int .i64 o.b, .int .i64 o.k, .int .i64 o.t]) (.agg #[.int .i64 p.s, .int .i64 p.a, .int .i64 p.b, .int .i64 p.k, .int .i64 p.t])).run Try.prog w = .ok (eqWt o p) w := by
  rw [show (10000 : Nat) = 9997 + 1 + 1 + 1 from rfl, run_equalIn_struct w (9997 + 1 + 1) 26 _ _ (by kernel_rfl) (by kernel_rfl)]
  have hd : eqWt o p = (o.s == p.s && (o.a == p.a && o.b == p.b) && o.k == p.k && o.t == p.t) := by
    unfold eqWt
    rw [Bool.eq_iff_iff]
    simp only [decide_eq_true_eq, Bool.and_eq_true, beq_iff_eq, Wt.ext']
    exact ⟨fun ⟨a, b, c, d, e⟩ => ⟨⟨⟨a, b, c⟩, d⟩, e⟩, fun ⟨⟨⟨a, b, c⟩, d⟩, e⟩ => ⟨a, b, c, d, e⟩⟩
  generalize eqWt o p = D at *
  have h1 : ∀ w, (Op.equalIn 9999 3 (.int .i64 o.s) (.int .i64 p.s)).run Try.prog w = .ok (o.s == p.s) w := fun w => run_equalIn_int w 9998 _ .i64 .i64 _ _ Try.underlying3
  have h4 : ∀ w, (Op.equalIn 9999 3 (.int .i64 o.k) (.int .i64 p.k)).run Try.prog w = .ok (o.k == p.k) w := fun w => run_equalIn_int w 9998 _ .i64 .i64 _ _ Try.underlying3
  have h5 : ∀ w, (Op.equalIn 9999 3 (.int .i64 o.t) (.int .i64 p.t)).run Try.prog w = .ok (o.t == p.t) w := fun w => run_equalIn_int w 9998 _ .i64 .i64 _ _ Try.underlying3
  have h2 : ∀ w, (Op.equalIn 9998 3 (.int .i64 o.a) (.int .i64 p.a)).run Try.prog w = .ok (o.a == p.a) w := fun w => run_equalIn_int w 9997 _ .i64 .i64 _ _ Try.underlying3
  have h3 : ∀ w, (Op.equalIn 9998 3 (.int .i64 o.b) (.int .i64 p.b)).run Try.prog w = .ok (o.b == p.b) w := fun w => run_equalIn_int w 9997 _ .i64 .i64 _ _ Try.underlying3
  have hb : ∀ w, (Op.equalIn 9999 24 (.agg #[.int .i64 o.a, .int .i64 o.b]) (.agg #[.int .i64 p.a, .int .i64 p.b])).run Try.prog w = .ok (o.a == p.a && o.b == p.b) w := fun w => by
    rw [show (9999 : Nat) = 9998 + 1 from rfl, run_equalIn_struct w 9998 24 _ _ (by kernel_rfl) (by kernel_rfl)]
    simp [Program.fieldsOf, Try.underlying24, Op.eqFields, part]
    rw [h2]
    by_cases ha : o.a = p.a <;> by_cases hb : o.b = p.b <;> simp only [h3, Result.andThen_ok] <;> simp [ha, hb]
  simp [Program.fieldsOf, Try.underlying26, Op.eqFields, part]
  rw [hd]
  simp only [h1, hb, h4, h5, Result.andThen_ok]
  cases (o.s == p.s) <;> cases (o.a == p.a) <;> cases (o.b == p.b) <;> cases (o.k == p.k) <;> cases (o.t == p.t) <;> rfl
set_option maxRecDepth 100000 in
set_option maxHeartbeats 3200000 in
theorem same_any (l l' : List Wt) (ao ao' : Option Addr) (cap cap' : Nat) (w : World) (h : RepW w ao cap l) (h' : RepW w ao' cap' l') : Calls Try.prog 16 #[.slice ao l.length cap, .slice ao' l'.length cap'] w fun e w' => e = .returned (.bool (decide (l = l'))) ∧ Ext w w' := by
  have HL := Lib.hid h
  have HL' := Lib.hid h'
  have hs1 := h.max
  have hs2 := h'.max
  clear h h'
  by_cases hl : l.length = l'.length
  · have g1 : ((l.length : Int) != (l'.length : Int)) = false := by simp; omega
    have HLE := Lib.hid hl
    clear hl
    go_enter Try.func16, Try.ntmps16
    go_wp2_with fail
    go_loopw [5] (fun iv wr => ∃ k : Nat, iv = .int .i64 k ∧ k ≤ l.length ∧ l.take k = l'.take k ∧ Ext w wr) (fun iv _ => l.length - (intOf iv).toNat)
    case atStart => exact ⟨0, rfl, by omega, by simp, Ext.refl _⟩
    case round =>
      obtain ⟨k, rfl, hk, ht, hB⟩ := hrel
      have HT := Lib.hid ht
      have HB := Lib.hid hB
      clear ht hB
      by_cases hlt : k < l.length
      · have hki : (k : Int) < (l.length : Int) := by omega
        have hk' : k < l'.length := by have := HLE.out; omega
        have hki' : (k : Int) < (l'.length : Int) := by omega
        obtain ⟨b, o, rfl, c0, c1, c2, c3, c4⟩ := w_cells HL.out HB.out hlt
        obtain ⟨b', o', rfl, d0, d1, d2, d3, d4⟩ := w_cells HL'.out HB.out hk'
        have HNX := Lib.hid (take_eq_of hlt hk' HT.out)
        have HNE : Hid (l[k] ≠ l'[k] → l ≠ l') := Lib.hid fun h e => h (by subst e; rfl)
        generalize l[k] = x at *
        generalize l'[k] = y at *
        have he := eqW x y
        have gc0 := grow_cell c0
        have gd0 := grow_cell d0
        have gc1 := grow_cell c1
        have gd1 := grow_cell d1
        have gc2 := grow_cell c2
        have gd2 := grow_cell d2
        have gc3 := grow_cell c3
        have gc4 := grow_cell c4
        have gd3 := grow_cell d3
        have gd4 := grow_cell d4
        cases hc : eqWt x y with
        | true =>
          have HXY := Lib.hid (of_decide_eq_true hc)
          rw [hc] at he
          clear hc
          go_wp2_with fail
          refine wp_region_rel_all (fun _ => none) (by kernel_rfl) (by kernel_rfl) ?_
          repeat (first
            | (refine wpRel_quick ?_ ?_ ?_ ?_
               · rfl
               · rfl
               · first | exact noEnter rfl | (intro f args W W'; go_simp)
               intro K hK
               go_big_quiet_op
               go_big_quiet_on)
            | (refine wpRel_skip ?_ ?_
               · rfl
               simp only [Act.put, List.setIfInBounds_toArray, List.set_cons_zero, List.set_cons_succ]))
          refine wpRel_nil ?_
          intro W3 hW3
          have HE3 := Lib.hid (HB.out.trans ((Ext.refl _).drew.trans hW3.1))
          clear hW3 gc0 gc1 gc2 gc3 gc4 gd0 gd1 gd2 gd3 gd4 he
          go_wp2_with fail
          go_roundw
          case rel => exact ⟨k + 1, by go_num, by omega, HNX.out HXY.out, HE3.out⟩
          case measure => simp [intOf] <;> omega
        | false =>
          have HXY := Lib.hid (of_decide_eq_false hc)
          rw [hc] at he
          clear hc
          go_wp2_with fail
          refine wp_region_rel_all (fun _ => none) (by kernel_rfl) (by kernel_rfl) ?_
          repeat (first
            | (refine wpRel_quick ?_ ?_ ?_ ?_
               · rfl
               · rfl
               · first | exact noEnter rfl | (intro f args W W'; go_simp)
               intro K hK
               go_big_quiet_op
               go_big_quiet_on)
            | (refine wpRel_skip ?_ ?_
               · rfl
               simp only [Act.put, List.setIfInBounds_toArray, List.set_cons_zero, List.set_cons_succ]))
          refine wpRel_nil ?_
          intro W3 hW3
          have HE3 := Lib.hid (HB.out.trans ((Ext.refl _).drew.trans hW3.1))
          clear hW3 gc0 gc1 gc2 gc3 gc4 gd0 gd1 gd2 gd3 gd4 he
          go_wp2_with fail
          go_ret
          exact ⟨ret_bool (decide_eq_false (HNE.out HXY.out)).symm, HE3.out⟩
      · have hki : ¬ (k : Int) < (l.length : Int) := by omega
        have HEQ : Hid (l = l') := Lib.hid (by
          have h1 := HT.out
          rw [List.take_of_length_le (by omega), List.take_of_length_le (by have := HLE.out; omega)] at h1
          exact h1)
        go_wp2_with fail
        go_ret
        exact ⟨ret_bool (decide_eq_true HEQ.out).symm, HB.out⟩
  · have g1 : ((l.length : Int) != (l'.length : Int)) = true := by simp; omega
    have HLE : Hid (l ≠ l') := Lib.hid fun e => hl (by rw [e])
    clear hl
    go_enter Try.func16, Try.ntmps16
    go_wp2_with fail
    go_ret
    exact ⟨ret_bool (decide_eq_false HLE.out).symm, Ext.refl _⟩
set_option maxRecDepth 100000 in
set_option maxHeartbeats 3200000 in
theorem sameB_any (l l' : List Bd) (ao ao' : Option Addr) (cap cap' : Nat) (w : World) (h : RepB w ao cap l) (h' : RepB w ao' cap' l') : Calls Try.prog 23 #[.slice ao l.length cap, .slice ao' l'.length cap'] w fun e w' => e = .returned (.bool (decide (l = l'))) ∧ Ext w w' := by
  have HL := Lib.hid h
  have HL' := Lib.hid h'
  have hs1 := h.max
  have hs2 := h'.max
  clear h h'
  by_cases hl : l.length = l'.length
  · have g1 : ((l.length : Int) != (l'.length : Int)) = false := by simp; omega
    have HLE := Lib.hid hl
    clear hl
    go_enter Try.func23, Try.ntmps23
    go_wp2_with fail
    go_loopw [5] (fun iv wr => ∃ k : Nat, iv = .int .i64 k ∧ k ≤ l.length ∧ l.take k = l'.take k ∧ Ext w wr) (fun iv _ => l.length - (intOf iv).toNat)
    case atStart => exact ⟨0, rfl, by omega, by simp, Ext.refl _⟩
    case round =>
      obtain ⟨k, rfl, hk, ht, hB⟩ := hrel
      have HT := Lib.hid ht
      have HB := Lib.hid hB
      clear ht hB
      by_cases hlt : k < l.length
      · have hki : (k : Int) < (l.length : Int) := by omega
        have hk' : k < l'.length := by have := HLE.out; omega
        have hki' : (k : Int) < (l'.length : Int) := by omega
        obtain ⟨b, o, rfl, c0, c1⟩ := b_cells HL.out HB.out hlt
        obtain ⟨b', o', rfl, d0, d1⟩ := b_cells HL'.out HB.out hk'
        have HNX := Lib.hid (take_eq_of hlt hk' HT.out)
        have HNE : Hid (l[k] ≠ l'[k] → l ≠ l') := Lib.hid fun h e => h (by subst e; rfl)
        generalize l[k] = x at *
        generalize l'[k] = y at *
        have he := eqB x.1 x.2 y.1 y.2
        have gc0 := grow_cell c0
        have gd0 := grow_cell d0
        have gc1 := grow_cell c1
        have gd1 := grow_cell d1
        cases hc : (x.1 == y.1 && x.2 == y.2) with
        | true =>
          have HXY : Hid (x = y) := Lib.hid (by simp only [Bool.and_eq_true, beq_iff_eq] at hc; exact Prod.ext hc.1 hc.2)
          rw [hc] at he
          clear hc
          go_wp2_with fail
          refine wp_region_rel_all (fun _ => none) (by kernel_rfl) (by kernel_rfl) ?_
          repeat (first
            | (refine wpRel_quick ?_ ?_ ?_ ?_
               · rfl
               · rfl
               · first | exact noEnter rfl | (intro f args W W'; go_simp)
               intro K hK
               go_big_quiet_op
               go_big_quiet_on)
            | (refine wpRel_skip ?_ ?_
               · rfl
               simp only [Act.put, List.setIfInBounds_toArray, List.set_cons_zero, List.set_cons_succ]))
          refine wpRel_nil ?_
          intro W3 hW3
          have HE3 := Lib.hid (HB.out.trans ((Ext.refl _).drew.trans hW3.1))
          clear hW3 gc0 gc1 gd0 gd1 he
          go_wp2_with fail
          go_roundw
          case rel => exact ⟨k + 1, by go_num, by omega, HNX.out HXY.out, HE3.out⟩
          case measure => simp [intOf] <;> omega
        | false =>
          have HXY : Hid (x ≠ y) := Lib.hid (fun h => by subst h; simp at hc)
          rw [hc] at he
          clear hc
          go_wp2_with fail
          refine wp_region_rel_all (fun _ => none) (by kernel_rfl) (by kernel_rfl) ?_
          repeat (first
            | (refine wpRel_quick ?_ ?_ ?_ ?_
               · rfl
               · rfl
               · first | exact noEnter rfl | (intro f args W W'; go_simp)
               intro K hK
               go_big_quiet_op
               go_big_quiet_on)
            | (refine wpRel_skip ?_ ?_
               · rfl
               simp only [Act.put, List.setIfInBounds_toArray, List.set_cons_zero, List.set_cons_succ]))
          refine wpRel_nil ?_
          intro W3 hW3
          have HE3 := Lib.hid (HB.out.trans ((Ext.refl _).drew.trans hW3.1))
          clear hW3 gc0 gc1 gd0 gd1 he
          go_wp2_with fail
          go_ret
          exact ⟨ret_bool (decide_eq_false (HNE.out HXY.out)).symm, HE3.out⟩
      · have hki : ¬ (k : Int) < (l.length : Int) := by omega
        have HEQ : Hid (l = l') := Lib.hid (by
          have h1 := HT.out
          rw [List.take_of_length_le (by omega), List.take_of_length_le (by have := HLE.out; omega)] at h1
          exact h1)
        go_wp2_with fail
        go_ret
        exact ⟨ret_bool (decide_eq_true HEQ.out).symm, HB.out⟩
  · have g1 : ((l.length : Int) != (l'.length : Int)) = true := by simp; omega
    have HLE : Hid (l ≠ l') := Lib.hid fun e => hl (by rw [e])
    clear hl
    go_enter Try.func23, Try.ntmps23
    go_wp2_with fail
    go_ret
    exact ⟨ret_bool (decide_eq_false HLE.out).symm, Ext.refl _⟩
end Go.Proofs.Ytbhpeecebcihkaa
