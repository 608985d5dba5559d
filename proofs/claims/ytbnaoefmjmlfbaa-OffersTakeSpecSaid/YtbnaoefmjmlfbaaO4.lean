/- Offers: the reference's Check, Same, at; Held of both. -/
import Derived.Test.YtbnaoefmjmlfbaaO3
namespace Go.Sz
open Go.RowKit
theorem Off.ext' {o p : Off} : o = p ↔ o.s = p.s ∧ o.a = p.a ∧ o.b = p.b ∧ o.u = p.u := by
  obtain ⟨s, a, b, u⟩ := o
  obtain ⟨s', a', b', u'⟩ := p
  simp
def eqOff (o p : Off) : Bool := decide (o = p)
def findO (l : List Off) (P : Off → Bool) : Int := match l.findIdx? P with
  | some i => (i : Int)
  | none => -1
def isO (s a b : Int) (o : Off) : Bool := o.s == s && (o.a == a && o.b == b)
def heldO (l : List Off) (n : Int) : Int := if n < 0 then 0 else ((l.countP fun o => o.a == n || o.b == n : Nat) : Int)
theorem findO_some {l : List Off} {P : Off → Bool} {k : Nat} (hk : k < l.length) (hb : ∀ j (h : j < k), P (l[j]'(by omega)) = false) (h : P l[k] = true) : findO l P = (k : Int) := by
  unfold findO
  rw [List.findIdx?_eq_some_iff_getElem.2 ⟨hk, h, fun j hj => by rw [hb j hj]; simp⟩]
theorem findO_none {l : List Off} {P : Off → Bool} (hb : ∀ j (h : j < l.length), P l[j] = false) : findO l P = -1 := by
  unfold findO
  rw [List.findIdx?_eq_none_iff.2 (fun x hx => by
    obtain ⟨j, hj, rfl⟩ := List.mem_iff_getElem.1 hx
    exact hb j hj)]
theorem take_eq_of {α : Type} {l l' : List α} {k : Nat} (h1 : k < l.length) (h2 : k < l'.length) (h : l.take k = l'.take k) (he : l[k] = l'[k]) : l.take (k + 1) = l'.take (k + 1) := by
  rw [List.take_succ_eq_append_getElem h1, List.take_succ_eq_append_getElem h2, h, he]
theorem countP_take {l : List Off} {k : Nat} (h : k < l.length) (P : Off → Bool) : (l.take (k + 1)).countP P = (l.take k).countP P + (if P l[k] = true then 1 else 0) := by
  rw [List.take_succ_eq_append_getElem h, List.countP_append, List.countP_singleton]
theorem countP_take_le (l : List Off) (k : Nat) (P : Off → Bool) : (l.take k).countP P ≤ k := Nat.le_trans List.countP_le_length (List.length_take_le _ _)
end Go.Sz
namespace Go.Proofs.Ytbnaoefmjmlfbaa
open Go.RowKit Go.Sz
theorem eqO (o p : Off) (w : World) : (Op.equalIn 10000 26 (.agg #[.int .i64 o.s, .int .i64 o.a, .int .i64 o.b, .int .i64 o.u]) (.agg #[.int .i64 p.s, .int .i64 p.a, .int .i64 p.b, .int .i64 p.u])).run Try.prog w = .ok (eqOff o p) w := by
  rw [show (10000 : Nat) = 9997 + 1 + 1 + 1 from rfl, run_equalIn_struct w (9997 + 1 + 1) 26 _ _ (by kernel_rfl) (by kernel_rfl)]
  have hd : eqOff o p = (o.s == p.s && (o.a == p.a && o.b == p.b) && o.u == p.u) := by
    unfold eqOff
    rw [Bool.eq_iff_iff]
    simp only [decide_eq_true_eq, Bool.and_eq_true, beq_iff_eq, Off.ext']
    exact ⟨fun ⟨a, b, c, d⟩ => ⟨⟨a, b, c⟩, d⟩, fun ⟨⟨a, b, c⟩, d⟩ => ⟨a, b, c, d⟩⟩
  generalize eqOff o p = D at *
  have h1 : ∀ w, (Op.equalIn 9999 3 (.int .i64 o.s) (.int .i64 p.s)).run Try.prog w = .ok (o.s == p.s) w := fun w => run_equalIn_int w 9998 _ .i64 .i64 _ _ Try.underlying3
  have h4 : ∀ w, (Op.equalIn 9999 3 (.int .i64 o.u) (.int .i64 p.u)).run Try.prog w = .ok (o.u == p.u) w := fun w => run_equalIn_int w 9998 _ .i64 .i64 _ _ Try.underlying3
  have h2 : ∀ w, (Op.equalIn 9998 3 (.int .i64 o.a) (.int .i64 p.a)).run Try.prog w = .ok (o.a == p.a) w := fun w => run_equalIn_int w 9997 _ .i64 .i64 _ _ Try.underlying3
  have h3 : ∀ w, (Op.equalIn 9998 3 (.int .i64 o.b) (.int .i64 p.b)).run Try.prog w = .ok (o.b == p.b) w := fun w => run_equalIn_int w 9997 _ .i64 .i64 _ _ Try.underlying3
  have hb : ∀ w, (Op.equalIn 9999 24 (.agg #[.int .i64 o.a, .int .i64 o.b]) (.agg #[.int .i64 p.a, .int .i64 p.b])).run Try.prog w = .ok (o.a == p.a && o.b == p.b) w := fun w => by
    rw [show (9999 : Nat) = 9998 + 1 from rfl, run_equalIn_struct w 9998 24 _ _ (by kernel_rfl) (by kernel_rfl)]
    simp [Program.fieldsOf, Try.underlying24, Op.eqFields, part]
    rw [h2]
    by_cases ha : o.a = p.a <;> by_cases hb : o.b = p.b <;> simp only [h3, Result.andThen_ok] <;> simp [ha, hb]
  simp [Program.fieldsOf, Try.underlying26, Op.eqFields, part]
  rw [hd]
  simp only [h1, hb, h4, Result.andThen_ok]
  cases (o.s == p.s) <;> cases (o.a == p.a) <;> cases (o.b == p.b) <;> cases (o.u == p.u) <;> rfl
set_option maxRecDepth 100000 in
set_option maxHeartbeats 3200000 in
theorem same_any (l l' : List Off) (ao ao' : Option Addr) (cap cap' : Nat) (w : World) (h : RepO w ao cap l) (h' : RepO w ao' cap' l') : Calls Try.prog 16 #[.slice ao l.length cap, .slice ao' l'.length cap'] w fun e w' => e = .returned (.bool (decide (l = l'))) ∧ Ext w w' := by
  have HL := Lib.hid h
  have HL' := Lib.hid h'
  have hs1 := h.max
  have hs2 := h'.max
  clear h h'
  by_cases hl : l.length = l'.length
  · have g1 : ((l.length : Int) != (l'.length : Int)) = false := by simp; omega
    have HLE := Lib.hid hl
    clear hl
    go_enter Try.func16, Try.ntmps16
    go_wp2_with fail
    go_loopw [5] (fun iv wr => ∃ k : Nat, iv = .int .i64 k ∧ k ≤ l.length ∧ l.take k = l'.take k ∧ Ext w wr) (fun iv _ => l.length - (intOf iv).toNat)
    case atStart => exact ⟨0, rfl, by omega, by simp, Ext.refl _⟩
    case round =>
      obtain ⟨k, rfl, hk, ht, hB⟩ := hrel
      have HT := Lib.hid ht
      have HB := Lib.hid hB
      clear ht hB
      by_cases hlt : k < l.length
      · have hki : (k : Int) < (l.length : Int) := by omega
        have hk' : k < l'.length := by have := HLE.out; omega
        have hki' : (k : Int) < (l'.length : Int) := by omega
        obtain ⟨b, o, rfl, c0, c1, c2, c3⟩ := o_cells HL.out HB.out hlt
        obtain ⟨b', o', rfl, d0, d1, d2, d3⟩ := o_cells HL'.out HB.out hk'
        have HNX := Lib.hid (take_eq_of hlt hk' HT.out)
        have HNE : Hid (l[k] ≠ l'[k] → l ≠ l') := Lib.hid fun h e => h (by subst e; rfl)
        generalize l[k] = x at *
        generalize l'[k] = y at *
        have he := eqO x y
        have gc0 := grow_cell c0
        have gd0 := grow_cell d0
        have gc1 := grow_cell c1
        have gd1 := grow_cell d1
        have gc2 := grow_cell c2
        have gd2 := grow_cell d2
        have gc3 := grow_cell c3
        have gd3 := grow_cell d3
        cases hc : eqOff x y with
        | true =>
          have HXY := Lib.hid (of_decide_eq_true hc)
          rw [hc] at he
          clear hc
          go_wp2_with fail
          refine wp_region_rel_all (fun _ => none) (by kernel_rfl) (by kernel_rfl) ?_
          repeat (first
            | (refine wpRel_quick ?_ ?_ ?_ ?_
               · rfl
               · rfl
               · first | exact noEnter rfl | (intro f args W W'; go_simp)
               intro K hK
               go_big_quiet_op
               go_big_quiet_on)
            | (refine wpRel_skip ?_ ?_
               · rfl
               simp only [Act.put, List.setIfInBounds_toArray, List.set_cons_zero, List.set_cons_succ]))
          refine wpRel_nil ?_
          intro W3 hW3
          have HE3 := Lib.hid (HB.out.trans ((Ext.refl _).drew.trans hW3.1))
          clear hW3 gc0 gc1 gc2 gc3 gd0 gd1 gd2 gd3 he
          go_wp2_with fail
          go_roundw
          case rel => exact ⟨k + 1, by go_num, by omega, HNX.out HXY.out, HE3.out⟩
          case measure => simp [intOf] <;> omega
        | false =>
          have HXY := Lib.hid (of_decide_eq_false hc)
          rw [hc] at he
          clear hc
          go_wp2_with fail
          refine wp_region_rel_all (fun _ => none) (by kernel_rfl) (by kernel_rfl) ?_
          repeat (first
            | (refine wpRel_quick ?_ ?_ ?_ ?_
               · rfl
               · rfl
               · first | exact noEnter rfl | (intro f args W W'; go_simp)
               intro K hK
               go_big_quiet_op
               go_big_quiet_on)
            | (refine wpRel_skip ?_ ?_
               · rfl
               simp only [Act.put, List.setIfInBounds_toArray, List.set_cons_zero, List.set_cons_succ]))
          refine wpRel_nil ?_
          intro W3 hW3
          have HE3 := Lib.hid (HB.out.trans ((Ext.refl _).drew.trans hW3.1))
          clear hW3 gc0 gc1 gc2 gc3 gd0 gd1 gd2 gd3 he
          go_wp2_with fail
          go_ret
          exact ⟨ret_bool (decide_eq_false (HNE.out HXY.out)).symm, HE3.out⟩
      · have hki : ¬ (k : Int) < (l.length : Int) := by omega
        have HEQ : Hid (l = l') := Lib.hid (by
          have h1 := HT.out
          rw [List.take_of_length_le (by omega), List.take_of_length_le (by have := HLE.out; omega)] at h1
          exact h1)
        go_wp2_with fail
        go_ret
        exact ⟨ret_bool (decide_eq_true HEQ.out).symm, HB.out⟩
  · have g1 : ((l.length : Int) != (l'.length : Int)) = true := by simp; omega
    have HLE : Hid (l ≠ l') := Lib.hid fun e => hl (by rw [e])
    clear hl
    go_enter Try.func16, Try.ntmps16
    go_wp2_with fail
    go_ret
    exact ⟨ret_bool (decide_eq_false HLE.out).symm, Ext.refl _⟩
set_option maxRecDepth 100000 in
set_option maxHeartbeats 3200000 in
theorem at_any (l : List Off) (s a b : Int) (ao : Option Addr) (cap : Nat) (w : World) (h : RepO w ao cap l) : Calls Try.prog 29 #[.slice ao l.length cap, .int .i64 s, .agg #[.int .i64 a, .int .i64 b]] w fun e w' => e = .returned (.int .i64 (findO l (isO s a b))) ∧ Ext w w' := by
  have HL := Lib.hid (h.ext ((Ext.refl w).alloc (.cells #[.int .i64 a, .int .i64 b] 24)))
  have hs1 := h.max
  have hX0 : Ext w (w.alloc (.cells #[.int .i64 a, .int .i64 b] 24)) := (Ext.refl w).alloc _
  clear h
  have b0 : (w.alloc (.cells #[.int .i64 a, .int .i64 b] 24)).cell? ⟨w.heap.size, 0, none⟩ = some (.int .i64 a) := by simp
  have b1 : (w.alloc (.cells #[.int .i64 a, .int .i64 b] 24)).cell? ⟨w.heap.size, 1, none⟩ = some (.int .i64 b) := by simp
  go_enter Try.func29, Try.ntmps29
  go_wp2_with fail
  generalize (w.alloc (.cells #[.int .i64 a, .int .i64 b] 24)) = w1 at *
  have HX0 := Lib.hid hX0
  have HB0 := Lib.hid b0
  have HB1 := Lib.hid b1
  clear b0 b1 hX0
  go_loopw [7] (fun iv wr => ∃ k : Nat, iv = .int .i64 k ∧ k ≤ l.length ∧ (∀ j (h : j < l.length), j < k → isO s a b l[j] = false) ∧ Ext w1 wr) (fun iv _ => l.length - (intOf iv).toNat)
  case atStart => exact ⟨0, rfl, by omega, fun j _ h => by omega, Ext.refl _⟩
  case round =>
    obtain ⟨k, rfl, hk, ht, hB⟩ := hrel
    have HT := Lib.hid ht
    have HB := Lib.hid hB
    clear ht hB
    by_cases hlt : k < l.length
    · have hki : (k : Int) < (l.length : Int) := by omega
      obtain ⟨bb, o, rfl, c0, c1, c2, c3⟩ := o_cells HL.out HB.out hlt
      have b0 := HB.out.cell HB0.out
      have b1 := HB.out.cell HB1.out
      have HIS : Hid (isO s a b l[k] = (l[k].s == s && (l[k].a == a && l[k].b == b))) := Lib.hid rfl
      have HN : Hid (isO s a b l[k] = false → ∀ j (h : j < l.length), j < k + 1 → isO s a b l[j] = false) := Lib.hid fun hi j hj hjk => by
        by_cases hjk' : j = k
        · subst hjk'; exact hi
        · exact HT.out j hj (by omega)
      have HFD : Hid (isO s a b l[k] = true → findO l (isO s a b) = (k : Int)) := Lib.hid fun hi => findO_some hlt (fun j hj => HT.out j (by omega) hj) hi
      generalize l[k] = x at *
      have he := eqB x.a x.b a b
      have gc0 := grow_cell c0
      have gc1 := grow_cell c1
      have gc2 := grow_cell c2
      have gc3 := grow_cell c3
      have gb0 := grow_cell b0
      have gb1 := grow_cell b1
      cases h1 : (x.s == s) with
      | false =>
        have hi : isO s a b x = false := by rw [HIS.out, h1]; rfl
        have HI := Lib.hid hi
        clear hi
        go_wp2_with fail
        refine wp_region_rel_all (fun _ => none) (by kernel_rfl) (by kernel_rfl) ?_
        repeat (first
          | (refine wpRel_quick ?_ ?_ ?_ ?_
             · rfl
             · rfl
             · first | exact noEnter rfl | (intro f args W W'; go_simp)
             intro K hK
             go_big_quiet_op
             go_big_quiet_on)
          | (refine wpRel_skip ?_ ?_
             · rfl
             simp only [Act.put, List.setIfInBounds_toArray, List.set_cons_zero, List.set_cons_succ]))
        refine wpRel_nil ?_
        intro W3 hW3
        have HE3 := Lib.hid (HB.out.trans ((Ext.refl _).drew.trans hW3.1))
        clear hW3 gc0 gc1 gc2 gc3 gb0 gb1 he b0 b1 c0 c1 c2 c3
        go_wp2_with fail
        go_roundw
        case rel => exact ⟨k + 1, by go_num, by omega, HN.out HI.out, HE3.out⟩
        case measure => simp [intOf] <;> omega
      | true =>
        have HIS2 : Hid (isO s a b x = (x.a == a && x.b == b)) := Lib.hid (by rw [HIS.out, h1]; rfl)
        go_wp2_with fail
        refine wp_region_rel_all (fun _ => none) (by kernel_rfl) (by kernel_rfl) ?_
        repeat (first
          | (refine wpRel_quick ?_ ?_ ?_ ?_
             · rfl
             · rfl
             · first | exact noEnter rfl | (intro f args W W'; go_simp)
             intro K hK
             go_big_quiet_op
             go_big_quiet_on)
          | (refine wpRel_skip ?_ ?_
             · rfl
             simp only [Act.put, List.setIfInBounds_toArray, List.set_cons_zero, List.set_cons_succ]))
        refine wpRel_nil ?_
        intro W3 hW3
        have HE3 := Lib.hid (HB.out.trans ((Ext.refl _).drew.trans hW3.1))
        clear hW3 gc0 gc1 gc2 gc3 gb0 gb1 he b0 b1 c0 c1 c2 c3 HIS
        cases h2 : (x.a == a && x.b == b) with
        | true =>
          have HR : Hid (findO l (isO s a b) = (k : Int)) := Lib.hid (HFD.out (by rw [HIS2.out, h2]))
          go_wp2_with fail
          go_ret
          exact ⟨by rw [HR.out]; rfl, HX0.out.trans HE3.out⟩
        | false =>
          have HI : Hid (isO s a b x = false) := Lib.hid (by rw [HIS2.out, h2])
          go_wp2_with fail
          go_roundw
          case rel => exact ⟨k + 1, by go_num, by omega, HN.out HI.out, HE3.out⟩
          case measure => simp [intOf] <;> omega
    · have hki : ¬ (k : Int) < (l.length : Int) := by omega
      have HR : Hid (findO l (isO s a b) = -1) := Lib.hid (findO_none fun j hj => HT.out j hj (by omega))
      go_wp2_with fail
      go_ret
      exact ⟨by rw [HR.out]; rfl, HX0.out.trans HB.out⟩
end Go.Proofs.Ytbnaoefmjmlfbaa
