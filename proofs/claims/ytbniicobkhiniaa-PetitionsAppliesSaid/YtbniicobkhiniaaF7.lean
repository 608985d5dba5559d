/- Petitions: lists that are equal; the reference's Check. -/
import Derived.Test.YtbniicobkhiniaaF6
namespace Go.Sz
open Go.RowKit
/-- points: term and value -/
def prows (l : List (Int × Int)) : List (List Value) := l.map fun p => [.int .i64 p.1, .int .i64 p.2]
theorem prows_length (l : List (Int × Int)) : (prows l).length = l.length := List.length_map _
def RepPt (w : World) (ao : Option Addr) (cap : Nat) (l : List (Int × Int)) : Prop := SL w 2 ao cap (prows l)
theorem RepPt.ext {w W : World} {ao : Option Addr} {cap : Nat} {l : List (Int × Int)} (h : RepPt w ao cap l) (hE : Ext w W) : RepPt W ao cap l := SL.ext h hE
theorem RepPt.max {w : World} {ao : Option Addr} {cap : Nat} {l : List (Int × Int)} (h : RepPt w ao cap l) : (l.length : Int) ≤ 9223372036854775807 := by
  have h1 := SL.max h; have h2 := SL.le h; rw [prows_length] at h2; omega
theorem p_at {w W : World} {ao : Option Addr} {cap : Nat} {l : List (Int × Int)} (h : RepPt w ao cap l) (hE : Ext w W) {i : Nat} {x : Int × Int} (hx : l[i]? = some x) : ∃ b o, ao = some ⟨b, o, none⟩ ∧
    W.cell? ⟨b, o + i * 2, none⟩ = some (.int .i64 x.1) ∧ W.cell? ⟨b, o + i * 2 + 1, none⟩ = some (.int .i64 x.2) := by
  obtain ⟨hi, rfl⟩ := List.getElem?_eq_some_iff.1 hx
  have hr : (prows l)[i]? = some [.int .i64 l[i].1, .int .i64 l[i].2] := by simp [prows, hi]
  obtain ⟨b, o, rfl, _⟩ := SL.at h (by omega) i (by rw [prows_length]; exact hi)
  exact ⟨b, o, rfl, by simpa using hE.cell (SL.cellAt h hr (j := 0) rfl), by simpa using hE.cell (SL.cellAt h hr (j := 1) rfl)⟩
end Go.Sz
namespace Go.Proofs.Ytbniicobkhiniaa
open Go.RowKit Go.Sz
theorem eqPt (x y : Int × Int) (w : World) : (Op.equalIn 10000 83 (.agg #[.int .i64 x.1, .int .i64 x.2]) (.agg #[.int .i64 y.1, .int .i64 y.2])).run Try.prog w = .ok (decide (x = y)) w := by
  rw [show (10000 : Nat) = 9998 + 1 + 1 from rfl, run_equalIn_struct w (9998 + 1) 83 _ _ (by kernel_rfl) (by kernel_rfl)]
  have hd : decide (x = y) = (x.1 == y.1 && x.2 == y.2) := by
    obtain ⟨a, b⟩ := x
    obtain ⟨c, d⟩ := y
    rw [Bool.eq_iff_iff]
    simp
  rw [hd]
  have h1 : ∀ w, (Op.equalIn 9999 3 (.int .i64 x.1) (.int .i64 y.1)).run Try.prog w = .ok (x.1 == y.1) w := fun w => run_equalIn_int w 9998 _ .i64 .i64 _ _ Try.underlying3
  have h2 : ∀ w, (Op.equalIn 9999 3 (.int .i64 x.2) (.int .i64 y.2)).run Try.prog w = .ok (x.2 == y.2) w := fun w => run_equalIn_int w 9998 _ .i64 .i64 _ _ Try.underlying3
  simp [Program.fieldsOf, Try.underlying83, Op.eqFields, part]
  simp only [h1, h2, Result.andThen_ok]
  cases (x.1 == y.1) <;> cases (x.2 == y.2) <;> rfl
set_option maxRecDepth 100000 in
set_option maxHeartbeats 6400000 in
theorem sameR_any (l l' : List Rd) (ao ao' : Option Addr) (cap cap' : Nat) (w : World) (h : RepR w ao cap l) (h' : RepR w ao' cap' l') : Calls Try.prog 16 #[.slice ao l.length cap, .slice ao' l'.length cap'] w fun e w' => e = .returned (.bool (decide (l = l'))) ∧ Ext w w' := by
  have HL := Lib.hid h
  have HL' := Lib.hid h'
  have hs1 := h.max
  have hs2 := h'.max
  clear h h'
  by_cases hl : l.length = l'.length
  · have g1 : ((l.length : Int) != (l'.length : Int)) = false := by simp; omega
    have HLE := Lib.hid hl
    clear hl
    go_enter Try.func16, Try.ntmps16
    go_wp2_with fail
    go_loopw [5] (fun iv wr => ∃ k : Nat, iv = .int .i64 k ∧ k ≤ l.length ∧ l.take k = l'.take k ∧ Ext w wr) (fun iv _ => l.length - (intOf iv).toNat)
    case atStart => exact ⟨0, rfl, by omega, by simp, Ext.refl _⟩
    case round =>
      obtain ⟨k, rfl, hk, ht, hB⟩ := hrel
      have HT := Lib.hid ht
      have HB := Lib.hid hB
      clear ht hB
      by_cases hlt : k < l.length
      · have hki : (k : Int) < (l.length : Int) := by omega
        have hk' : k < l'.length := by have := HLE.out; omega
        have hki' : (k : Int) < (l'.length : Int) := by omega
        obtain ⟨x, hx⟩ : ∃ x, l[k]? = some x := ⟨_, List.getElem?_eq_getElem hlt⟩
        obtain ⟨y, hy⟩ : ∃ y, l'[k]? = some y := ⟨_, List.getElem?_eq_getElem hk'⟩
        obtain ⟨b, o, rfl, c0, c1, c2, c3, c4⟩ := r_at HL.out HB.out hx
        obtain ⟨b', o', rfl, d0, d1, d2, d3, d4⟩ := r_at HL'.out HB.out hy
        have HNX := Lib.hid (take_eq_next hx hy HT.out)
        have HNE := Lib.hid (ne_at hx hy)
        clear hx hy
        have he := eqRd x y
        have gc0 := grow_cell c0
        have gd0 := grow_cell d0
        have gc1 := grow_cell c1
        have gd1 := grow_cell d1
        have gc2 := grow_cell c2
        have gd2 := grow_cell d2
        have gc3 := grow_cell c3
        have gd3 := grow_cell d3
        have gc4 := grow_cell c4
        have gd4 := grow_cell d4
        by_cases hc : x = y
        · have HXY := Lib.hid hc
          rw [decide_eq_true hc] at he
          clear hc
          go_wp2_with fail
          refine wp_region_rel_all (fun _ => none) (by kernel_rfl) (by kernel_rfl) ?_
          repeat (first
            | (refine wpRel_quick ?_ ?_ ?_ ?_
               · rfl
               · rfl
               · first | exact noEnter rfl | (intro f args W W'; go_simp)
               intro K hK
               go_big_quiet_op
               go_big_quiet_on)
            | (refine wpRel_skip ?_ ?_
               · rfl
               simp only [Act.put, List.setIfInBounds_toArray, List.set_cons_zero, List.set_cons_succ]))
          refine wpRel_nil ?_
          intro W3 hW3
          have HE3 := Lib.hid (HB.out.trans ((Ext.refl _).drew.trans hW3.1))
          clear hW3 gc0 gd0 c0 d0 gc1 gd1 c1 d1 gc2 gd2 c2 d2 gc3 gd3 c3 d3 gc4 gd4 c4 d4 he
          go_wp2_with fail
          go_roundw
          case rel => exact ⟨k + 1, by go_num, by omega, HNX.out HXY.out, HE3.out⟩
          case measure => simp [intOf] <;> omega
        · have HXY := Lib.hid hc
          rw [decide_eq_false hc] at he
          clear hc
          go_wp2_with fail
          refine wp_region_rel_all (fun _ => none) (by kernel_rfl) (by kernel_rfl) ?_
          repeat (first
            | (refine wpRel_quick ?_ ?_ ?_ ?_
               · rfl
               · rfl
               · first | exact noEnter rfl | (intro f args W W'; go_simp)
               intro K hK
               go_big_quiet_op
               go_big_quiet_on)
            | (refine wpRel_skip ?_ ?_
               · rfl
               simp only [Act.put, List.setIfInBounds_toArray, List.set_cons_zero, List.set_cons_succ]))
          refine wpRel_nil ?_
          intro W3 hW3
          have HE3 := Lib.hid (HB.out.trans ((Ext.refl _).drew.trans hW3.1))
          clear hW3 gc0 gd0 c0 d0 gc1 gd1 c1 d1 gc2 gd2 c2 d2 gc3 gd3 c3 d3 gc4 gd4 c4 d4 he
          go_wp2_with fail
          go_ret
          exact ⟨ret_bool (decide_eq_false (HNE.out HXY.out)).symm, HE3.out⟩
      · have hki : ¬ (k : Int) < (l.length : Int) := by omega
        have HEQ : Hid (l = l') := Lib.hid (by
          have h1 := HT.out
          rw [List.take_of_length_le (by omega), List.take_of_length_le (by have := HLE.out; omega)] at h1
          exact h1)
        go_wp2_with fail
        go_ret
        exact ⟨ret_bool (decide_eq_true HEQ.out).symm, HB.out⟩
  · have g1 : ((l.length : Int) != (l'.length : Int)) = true := by simp; omega
    have HLE : Hid (l ≠ l') := Lib.hid fun e => hl (by rw [e])
    clear hl
    go_enter Try.func16, Try.ntmps16
    go_wp2_with fail
    go_ret
    exact ⟨ret_bool (decide_eq_false HLE.out).symm, Ext.refl _⟩
set_option maxRecDepth 100000 in
set_option maxHeartbeats 6400000 in
theorem sameI_any (l l' : List Int) (ao ao' : Option Addr) (cap cap' : Nat) (w : World) (h : SL w 1 ao cap (irows l)) (h' : SL w 1 ao' cap' (irows l')) : Calls Try.prog 21 #[.slice ao l.length cap, .slice ao' l'.length cap'] w fun e w' => e = .returned (.bool (decide (l = l'))) ∧ Ext w w' := by
  have HL := Lib.hid h
  have HL' := Lib.hid h'
  have hs1 := irows_max h
  have hs2 := irows_max h'
  clear h h'
  by_cases hl : l.length = l'.length
  · have g1 : ((l.length : Int) != (l'.length : Int)) = false := by simp; omega
    have HLE := Lib.hid hl
    clear hl
    go_enter Try.func21, Try.ntmps21
    go_wp2_with fail
    go_loopw [5] (fun iv wr => ∃ k : Nat, iv = .int .i64 k ∧ k ≤ l.length ∧ l.take k = l'.take k ∧ Ext w wr) (fun iv _ => l.length - (intOf iv).toNat)
    case atStart => exact ⟨0, rfl, by omega, by simp, Ext.refl _⟩
    case round =>
      obtain ⟨k, rfl, hk, ht, hB⟩ := hrel
      have HT := Lib.hid ht
      have HB := Lib.hid hB
      clear ht hB
      by_cases hlt : k < l.length
      · have hki : (k : Int) < (l.length : Int) := by omega
        have hk' : k < l'.length := by have := HLE.out; omega
        have hki' : (k : Int) < (l'.length : Int) := by omega
        obtain ⟨x, hx⟩ : ∃ x, l[k]? = some x := ⟨_, List.getElem?_eq_getElem hlt⟩
        obtain ⟨y, hy⟩ : ∃ y, l'[k]? = some y := ⟨_, List.getElem?_eq_getElem hk'⟩
        obtain ⟨b, o, rfl, c0⟩ := i_at HL.out HB.out hx
        obtain ⟨b', o', rfl, d0⟩ := i_at HL'.out HB.out hy
        have HNX := Lib.hid (take_eq_next hx hy HT.out)
        have HNE := Lib.hid (ne_at hx hy)
        clear hx hy
        have he : True := trivial
        have gc0 := grow_cell c0
        have gd0 := grow_cell d0
        by_cases hc : x = y
        · have HXY := Lib.hid hc
          have q1 : (x != y) = false := by simpa using hc
          clear hc
          go_wp2_with fail
          refine wp_region_rel_all (fun _ => none) (by kernel_rfl) (by kernel_rfl) ?_
          repeat (first
            | (refine wpRel_quick ?_ ?_ ?_ ?_
               · rfl
               · rfl
               · first | exact noEnter rfl | (intro f args W W'; go_simp)
               intro K hK
               go_big_quiet_op
               go_big_quiet_on)
            | (refine wpRel_skip ?_ ?_
               · rfl
               simp only [Act.put, List.setIfInBounds_toArray, List.set_cons_zero, List.set_cons_succ]))
          refine wpRel_nil ?_
          intro W3 hW3
          have HE3 := Lib.hid (HB.out.trans ((Ext.refl _).drew.trans hW3.1))
          clear hW3 gc0 gd0 c0 d0 he
          go_wp2_with fail
          go_roundw
          case rel => exact ⟨k + 1, by go_num, by omega, HNX.out HXY.out, HE3.out⟩
          case measure => simp [intOf] <;> omega
        · have HXY := Lib.hid hc
          have q1 : (x != y) = true := by simpa using hc
          clear hc
          go_wp2_with fail
          refine wp_region_rel_all (fun _ => none) (by kernel_rfl) (by kernel_rfl) ?_
          repeat (first
            | (refine wpRel_quick ?_ ?_ ?_ ?_
               · rfl
               · rfl
               · first | exact noEnter rfl | (intro f args W W'; go_simp)
               intro K hK
               go_big_quiet_op
               go_big_quiet_on)
            | (refine wpRel_skip ?_ ?_
               · rfl
               simp only [Act.put, List.setIfInBounds_toArray, List.set_cons_zero, List.set_cons_succ]))
          refine wpRel_nil ?_
          intro W3 hW3
          have HE3 := Lib.hid (HB.out.trans ((Ext.refl _).drew.trans hW3.1))
          clear hW3 gc0 gd0 c0 d0 he
          go_wp2_with fail
          go_ret
          exact ⟨ret_bool (decide_eq_false (HNE.out HXY.out)).symm, HE3.out⟩
      · have hki : ¬ (k : Int) < (l.length : Int) := by omega
        have HEQ : Hid (l = l') := Lib.hid (by
          have h1 := HT.out
          rw [List.take_of_length_le (by omega), List.take_of_length_le (by have := HLE.out; omega)] at h1
          exact h1)
        go_wp2_with fail
        go_ret
        exact ⟨ret_bool (decide_eq_true HEQ.out).symm, HB.out⟩
  · have g1 : ((l.length : Int) != (l'.length : Int)) = true := by simp; omega
    have HLE : Hid (l ≠ l') := Lib.hid fun e => hl (by rw [e])
    clear hl
    go_enter Try.func21, Try.ntmps21
    go_wp2_with fail
    go_ret
    exact ⟨ret_bool (decide_eq_false HLE.out).symm, Ext.refl _⟩
set_option maxRecDepth 100000 in
set_option maxHeartbeats 6400000 in
theorem equalP_any (l l' : List (Int × Int)) (ao ao' : Option Addr) (cap cap' : Nat) (w : World) (h : RepPt w ao cap l) (h' : RepPt w ao' cap' l') : Calls Try.prog 38 #[.slice ao l.length cap, .slice ao' l'.length cap'] w fun e w' => e = .returned (.bool (decide (l = l'))) ∧ Ext w w' := by
  have HL := Lib.hid h
  have HL' := Lib.hid h'
  have hs1 := h.max
  have hs2 := h'.max
  clear h h'
  by_cases hl : l.length = l'.length
  · have g1 : ((l.length : Int) != (l'.length : Int)) = false := by simp; omega
    have HLE := Lib.hid hl
    clear hl
    go_enter Try.func38, Try.ntmps38
    go_wp2_with fail
    go_loopw [13] (fun iv wr => ∃ k : Nat, iv = .int .i64 k ∧ k ≤ l.length ∧ l.take k = l'.take k ∧ Ext w wr) (fun iv _ => l.length - (intOf iv).toNat)
    case atStart => exact ⟨0, rfl, by omega, by simp, Ext.refl _⟩
    case round =>
      obtain ⟨k, rfl, hk, ht, hB⟩ := hrel
      have HT := Lib.hid ht
      have HB := Lib.hid hB
      clear ht hB
      by_cases hlt : k < l.length
      · have hki : (k : Int) < (l.length : Int) := by omega
        have hk' : k < l'.length := by have := HLE.out; omega
        have hki' : (k : Int) < (l'.length : Int) := by omega
        obtain ⟨x, hx⟩ : ∃ x, l[k]? = some x := ⟨_, List.getElem?_eq_getElem hlt⟩
        obtain ⟨y, hy⟩ : ∃ y, l'[k]? = some y := ⟨_, List.getElem?_eq_getElem hk'⟩
        obtain ⟨b, o, rfl, c0, c1⟩ := p_at HL.out HB.out hx
        obtain ⟨b', o', rfl, d0, d1⟩ := p_at HL'.out HB.out hy
        have HNX := Lib.hid (take_eq_next hx hy HT.out)
        have HNE := Lib.hid (ne_at hx hy)
        clear hx hy
        have he := eqPt x y
        have gc0 := grow_cell c0
        have gd0 := grow_cell d0
        have gc1 := grow_cell c1
        have gd1 := grow_cell d1
        by_cases hc : x = y
        · have HXY := Lib.hid hc
          rw [decide_eq_true hc] at he
          clear hc
          go_wp2_with fail
          refine wp_region_rel_all (fun _ => none) (by kernel_rfl) (by kernel_rfl) ?_
          repeat (first
            | (refine wpRel_quick ?_ ?_ ?_ ?_
               · rfl
               · rfl
               · first | exact noEnter rfl | (intro f args W W'; go_simp)
               intro K hK
               go_big_quiet_op
               go_big_quiet_on)
            | (refine wpRel_skip ?_ ?_
               · rfl
               simp only [Act.put, List.setIfInBounds_toArray, List.set_cons_zero, List.set_cons_succ]))
          refine wpRel_nil ?_
          intro W3 hW3
          have HE3 := Lib.hid (HB.out.trans ((Ext.refl _).drew.trans hW3.1))
          clear hW3 gc0 gd0 c0 d0 gc1 gd1 c1 d1 he
          go_wp2_with fail
          go_roundw
          case rel => exact ⟨k + 1, by go_num, by omega, HNX.out HXY.out, HE3.out⟩
          case measure => simp [intOf] <;> omega
        · have HXY := Lib.hid hc
          rw [decide_eq_false hc] at he
          clear hc
          go_wp2_with fail
          refine wp_region_rel_all (fun _ => none) (by kernel_rfl) (by kernel_rfl) ?_
          repeat (first
            | (refine wpRel_quick ?_ ?_ ?_ ?_
               · rfl
               · rfl
               · first | exact noEnter rfl | (intro f args W W'; go_simp)
               intro K hK
               go_big_quiet_op
               go_big_quiet_on)
            | (refine wpRel_skip ?_ ?_
               · rfl
               simp only [Act.put, List.setIfInBounds_toArray, List.set_cons_zero, List.set_cons_succ]))
          refine wpRel_nil ?_
          intro W3 hW3
          have HE3 := Lib.hid (HB.out.trans ((Ext.refl _).drew.trans hW3.1))
          clear hW3 gc0 gd0 c0 d0 gc1 gd1 c1 d1 he
          go_wp2_with fail
          go_ret
          exact ⟨ret_bool (decide_eq_false (HNE.out HXY.out)).symm, HE3.out⟩
      · have hki : ¬ (k : Int) < (l.length : Int) := by omega
        have HEQ : Hid (l = l') := Lib.hid (by
          have h1 := HT.out
          rw [List.take_of_length_le (by omega), List.take_of_length_le (by have := HLE.out; omega)] at h1
          exact h1)
        go_wp2_with fail
        go_ret
        exact ⟨ret_bool (decide_eq_true HEQ.out).symm, HB.out⟩
  · have g1 : ((l.length : Int) != (l'.length : Int)) = true := by simp; omega
    have HLE : Hid (l ≠ l') := Lib.hid fun e => hl (by rw [e])
    clear hl
    go_enter Try.func38, Try.ntmps38
    go_wp2_with fail
    go_ret
    exact ⟨ret_bool (decide_eq_false HLE.out).symm, Ext.refl _⟩
set_option maxRecDepth 100000 in
set_option maxHeartbeats 6400000 in
theorem fewF_any (l : List Ft) (ao : Option Addr) (cap : Nat) (w : World) : Calls Try.prog 13 #[.slice ao l.length cap] w fun e w' => e = .returned (.bool (decide (l.length ≤ 30))) ∧ Ext w w' := by
  go_enter Try.func13, Try.ntmps13
  go_wp2_with fail
  go_ret
  exact ⟨ret_bool (by rw [decide_eq_decide]; omega), Ext.refl _⟩
theorem has_contains (l : List Int) (n : Int) : l.contains n = true ↔ n ∈ l := List.contains_iff_mem
set_option maxRecDepth 100000 in
set_option maxHeartbeats 6400000 in
theorem has_any (l : List Int) (n : Int) (ao : Option Addr) (cap : Nat) (w : World) (h : SL w 1 ao cap (irows l)) : Calls Try.prog 24 #[.slice ao l.length cap, .int .i64 n] w fun e w' => e = .returned (.bool (l.contains n)) ∧ Ext w w' := by
  have HL := Lib.hid h
  have hs1 := irows_max h
  clear h
  go_enter Try.func24, Try.ntmps24
  go_wp2_with fail
  go_loopw [5] (fun iv wr => ∃ k : Nat, iv = .int .i64 k ∧ k ≤ l.length ∧ (∀ x ∈ l.take k, x ≠ n) ∧ Ext w wr) (fun iv _ => l.length - (intOf iv).toNat)
  case atStart => exact ⟨0, rfl, by omega, by simp, Ext.refl _⟩
  case round =>
    obtain ⟨k, rfl, hk, ht, hB⟩ := hrel
    have HT := Lib.hid ht
    have HB := Lib.hid hB
    clear ht hB
    by_cases hlt : k < l.length
    · have hki : (k : Int) < (l.length : Int) := by omega
      obtain ⟨x, hx⟩ : ∃ x, l[k]? = some x := ⟨_, List.getElem?_eq_getElem hlt⟩
      obtain ⟨b, o, rfl, c0⟩ := i_at HL.out HB.out hx
      have HNX : Hid (x ≠ n → ∀ z ∈ l.take (k + 1), z ≠ n) := Lib.hid fun hne z hz => by
        rw [List.take_add_one, hx] at hz
        rcases List.mem_append.1 hz with hz | hz
        · exact HT.out z hz
        · simp at hz
          rw [hz]
          exact hne
      have HM : Hid (x = n → l.contains n = true) := Lib.hid fun e => by
        rw [List.contains_iff_mem, ← e]
        exact List.mem_of_getElem? hx
      clear hx
      by_cases hc : x = n
      · have q1 : (x == n) = true := by simpa using hc
        have HXY := Lib.hid (HM.out hc)
        clear hc
        go_wp2_with fail
        go_ret
        exact ⟨ret_bool (by simpa using HXY.out), HB.out⟩
      · have q1 : (x == n) = false := by simpa using hc
        have HXY := Lib.hid hc
        clear hc
        go_wp2_with fail
        go_roundw
        case rel => exact ⟨k + 1, by go_num, by omega, HNX.out HXY.out, HB.out⟩
        case measure => simp [intOf] <;> omega
    · have hki : ¬ (k : Int) < (l.length : Int) := by omega
      have HEQ : Hid (l.contains n = false) := Lib.hid (by
        have h1 := HT.out
        rw [List.take_of_length_le (by omega)] at h1
        rw [Bool.eq_false_iff]
        intro h2
        exact h1 n (List.contains_iff_mem.1 h2) rfl)
      go_wp2_with fail
      go_ret
      exact ⟨ret_bool (by simpa using HEQ.out), HB.out⟩
end Go.Proofs.Ytbniicobkhiniaa
