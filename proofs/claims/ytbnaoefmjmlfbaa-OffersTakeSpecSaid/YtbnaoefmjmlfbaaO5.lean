/- Offers: the reference's Check; Held of both; IndexFunc with Take's closure. -/
import Derived.Test.YtbnaoefmjmlfbaaO4
namespace Go.Sz
open Go.RowKit
def hitO (n : Int) (o : Off) : Bool := o.a == n || o.b == n
theorem heldO_eq (l : List Off) (n : Int) : heldO l n = if n < 0 then 0 else (((l.countP (hitO n)) : Nat) : Int) := rfl
end Go.Sz
namespace Go.Proofs.Ytbnaoefmjmlfbaa
open Go.RowKit Go.Sz
set_option maxRecDepth 100000 in
set_option maxHeartbeats 3200000 in
theorem refCheck_any (l : List Off) (ao : Option Addr) (cap : Nat) (w : World) (h : RepO w ao cap l) : Calls Try.prog 15 #[.slice ao l.length cap] w fun e w' => e = .returned (.int .i64 (checkO l)) ∧ Ext w w' := by
  have HL := Lib.hid h
  have hs1 := h.max
  clear h
  go_enter Try.func15, Try.ntmps15
  go_wp2_with fail
  go_loopw [3] (fun iv wr => ∃ k : Nat, iv = .int .i64 k ∧ k ≤ l.length ∧ (List.range k).all (okAtO l) = true ∧ Ext w wr) (fun iv _ => l.length - (intOf iv).toNat)
  case atStart => exact ⟨0, rfl, by omega, rfl, Ext.refl _⟩
  case round =>
    obtain ⟨k, rfl, hk, ho, hB⟩ := hrel
    have HO := Lib.hid ho
    have HB := Lib.hid hB
    clear ho hB
    by_cases hlt : k < l.length
    · have hki : (k : Int) < (l.length : Int) := by omega
      obtain ⟨b, o, rfl, c0, c1, c2, c3⟩ := o_cells HL.out HB.out hlt
      have HZ : Hid (k = 0 → okAtO l k = okO l[k]) := Lib.hid fun h => by subst h; exact okAtO_zero hlt
      have HS := Lib.hid (okAtO_succ hlt)
      have HBAD := Lib.hid (okAtO_bad hlt)
      have HP : Hid (0 < k → ∃ y, y = l[k - 1] ∧ wr.cell? ⟨b, o + (k - 1) * 4, none⟩ = some (.int .i64 y.s) ∧ wr.cell? ⟨b, o + (k - 1) * 4 + 1, none⟩ = some (.int .i64 y.a) ∧ wr.cell? ⟨b, o + (k - 1) * 4 + 2, none⟩ = some (.int .i64 y.b) ∧ wr.cell? ⟨b, o + (k - 1) * 4 + 3, none⟩ = some (.int .i64 y.u)) := Lib.hid fun h0 => ⟨l[k - 1], rfl, by
        obtain ⟨b', o', e, h1⟩ := o_cells HL.out HB.out (i := k - 1) (by omega)
        cases e
        exact h1⟩
      generalize l[k] = x at *
      have gc0 := grow_cell c0
      have gc1 := grow_cell c1
      have gc2 := grow_cell c2
      have gc3 := grow_cell c3
      cases hf : okO x with
      | false =>
        have HBD := Lib.hid (okLO_false hlt (HBAD.out hf))
        go_wp2_with fail
        refine wp_region_rel_all (fun i => if i = 4 then some (spV (.bool false)) else none) (by kernel_rfl) (by kernel_rfl) ?_
        repeat (first
          | (refine wpRel_quick ?_ ?_ ?_ ?_
             · rfl
             · rfl
             · first | exact noEnter rfl | (intro f args W W'; go_simp)
             intro K hK
             go_big_quiet_op
             go_big_quiet_on)
          | (refine wpRel_skip ?_ ?_
             · rfl
             simp only [Act.put, List.setIfInBounds_toArray, List.set_cons_zero, List.set_cons_succ]))
        refine wpRel_rich _ rfl rfl (fun W hW => ?_) (fun v W3 hW3 hv => ?_)
        · have hc := (hf ▸ valid_any x W)
          go_simp
          refine Calls.mono hc ?_
          rintro e w' ⟨rfl, h⟩
          exact ⟨_, rfl, rfl, by first | exact h | (subst h; exact Ext.refl _)⟩
        obtain rfl := hv
        clear hW3
        simp only [Act.put, List.setIfInBounds_toArray, List.set_cons_zero, List.set_cons_succ]
        repeat (first
          | (refine wpRel_quick ?_ ?_ ?_ ?_
             · rfl
             · rfl
             · first | exact noEnter rfl | (intro f args W W'; go_simp)
             intro K hK
             go_big_quiet_op
             go_big_quiet_on)
          | (refine wpRel_skip ?_ ?_
             · rfl
             simp only [Act.put, List.setIfInBounds_toArray, List.set_cons_zero, List.set_cons_succ]))
        refine wpRel_nil ?_
        intro W3 hW3
        have HE3 := Lib.hid (HB.out.trans ((Ext.refl _).drew.trans hW3.1))
        clear hW3 gc0 gc1 gc2 gc3 c0 c1 c2 c3
        go_wp2_with fail
        go_ret
        exact ⟨by rw [HBD.out]; rfl, HE3.out⟩
      | true =>
        have HF := Lib.hid hf
        clear hf
        rcases Nat.eq_zero_or_pos k with h0 | h0
        · subst h0
          simp only [Nat.zero_mul, Nat.add_zero] at c0 c1 c2 c3 gc0 gc1 gc2 gc3
          go_wp2_with fail
          refine wp_region_rel_all (fun i => if i = 4 then some (spV (.bool true)) else none) (by kernel_rfl) (by kernel_rfl) ?_
          repeat (first
            | (refine wpRel_quick ?_ ?_ ?_ ?_
               · rfl
               · rfl
               · first | exact noEnter rfl | (intro f args W W'; go_simp)
               intro K hK
               go_big_quiet_op
               go_big_quiet_on)
            | (refine wpRel_skip ?_ ?_
               · rfl
               simp only [Act.put, List.setIfInBounds_toArray, List.set_cons_zero, List.set_cons_succ]))
          refine wpRel_rich _ rfl rfl (fun W hW => ?_) (fun v W3 hW3 hv => ?_)
          · have hc := (HF.out ▸ valid_any x W)
            go_simp
            refine Calls.mono hc ?_
            rintro e w' ⟨rfl, h⟩
            exact ⟨_, rfl, rfl, by first | exact h | (subst h; exact Ext.refl _)⟩
          obtain rfl := hv
          clear hW3
          simp only [Act.put, List.setIfInBounds_toArray, List.set_cons_zero, List.set_cons_succ]
          repeat (first
            | (refine wpRel_quick ?_ ?_ ?_ ?_
               · rfl
               · rfl
               · first | exact noEnter rfl | (intro f args W W'; go_simp)
               intro K hK
               go_big_quiet_op
               go_big_quiet_on)
            | (refine wpRel_skip ?_ ?_
               · rfl
               simp only [Act.put, List.setIfInBounds_toArray, List.set_cons_zero, List.set_cons_succ]))
          refine wpRel_nil ?_
          intro W3 hW3
          have HE3 := Lib.hid (HB.out.trans ((Ext.refl _).drew.trans hW3.1))
          clear hW3 gc0 gc1 gc2 gc3 c0 c1 c2 c3
          go_wp2_with fail
          go_roundw
          case rel => exact ⟨1, by go_num, by omega, by rw [range_all_succ, HZ.out (by first | rfl | trivial), HF.out]; rfl, HE3.out⟩
          case measure => simp [intOf] <;> omega
        · obtain ⟨y, hy, e0, e1, e2, e3⟩ := HP.out h0
          have HC := Lib.hid (HS.out h0)
          have HY := Lib.hid hy
          have ge0 := grow_cell e0
          have ge1 := grow_cell e1
          have ge2 := grow_cell e2
          have ge3 := grow_cell e3
          clear hy
          have hk1 : (0 : Int) < (k : Int) := by omega
          by_cases hc : cmpO y x < 0
          · have hd : decide (cmpO y x < 0) = true := decide_eq_true hc
            have HCC := Lib.hid hc
            clear hc
            go_wp2_with fail
            refine wp_region_rel_all (fun i => if i = 4 then some (spV (.bool true)) else if i = 19 then some (spV (.bool true)) else none) (by kernel_rfl) (by kernel_rfl) ?_
            repeat (first
              | (refine wpRel_quick ?_ ?_ ?_ ?_
                 · rfl
                 · rfl
                 · first | exact noEnter rfl | (intro f args W W'; go_simp)
                 intro K hK
                 go_big_quiet_op
                 go_big_quiet_on)
              | (refine wpRel_skip ?_ ?_
                 · rfl
                 simp only [Act.put, List.setIfInBounds_toArray, List.set_cons_zero, List.set_cons_succ]))
            refine wpRel_rich _ rfl rfl (fun W hW => ?_) (fun v W3 hW3 hv => ?_)
            · have hc := (HF.out ▸ valid_any x W)
              go_simp
              refine Calls.mono hc ?_
              rintro e w' ⟨rfl, h⟩
              exact ⟨_, rfl, rfl, by first | exact h | (subst h; exact Ext.refl _)⟩
            obtain rfl := hv
            clear hW3
            simp only [Act.put, List.setIfInBounds_toArray, List.set_cons_zero, List.set_cons_succ]
            repeat (first
              | (refine wpRel_quick ?_ ?_ ?_ ?_
                 · rfl
                 · rfl
                 · first | exact noEnter rfl | (intro f args W W'; go_simp)
                 intro K hK
                 go_big_quiet_op
                 go_big_quiet_on)
              | (refine wpRel_skip ?_ ?_
                 · rfl
                 simp only [Act.put, List.setIfInBounds_toArray, List.set_cons_zero, List.set_cons_succ]))
            refine wpRel_rich _ rfl rfl (fun W hW => ?_) (fun v W3 hW3 hv => ?_)
            · have hc := (hd ▸ before_any y x W)
              go_simp
              refine Calls.mono hc ?_
              rintro e w' ⟨rfl, h⟩
              exact ⟨_, rfl, rfl, by first | exact h | (subst h; exact Ext.refl _)⟩
            obtain rfl := hv
            clear hW3
            simp only [Act.put, List.setIfInBounds_toArray, List.set_cons_zero, List.set_cons_succ]
            repeat (first
              | (refine wpRel_quick ?_ ?_ ?_ ?_
                 · rfl
                 · rfl
                 · first | exact noEnter rfl | (intro f args W W'; go_simp)
                 intro K hK
                 go_big_quiet_op
                 go_big_quiet_on)
              | (refine wpRel_skip ?_ ?_
                 · rfl
                 simp only [Act.put, List.setIfInBounds_toArray, List.set_cons_zero, List.set_cons_succ]))
            refine wpRel_nil ?_
            intro W3 hW3
            have HE3 := Lib.hid (HB.out.trans ((Ext.refl _).drew.trans hW3.1))
            clear hW3 gc0 gc1 gc2 gc3 ge0 ge1 ge2 ge3 e0 e1 e2 e3 c0 c1 c2 c3
            go_wp2_with fail
            go_roundw
            case rel => exact ⟨k + 1, by go_num, by omega, by rw [range_all_succ, HC.out, HF.out, ← HY.out, HO.out]; simpa using HCC.out, HE3.out⟩
            case measure => simp [intOf] <;> omega
          · have hd : decide (cmpO y x < 0) = false := decide_eq_false hc
            have HBD : Hid (checkO l = 310) := Lib.hid (okLO_false hlt (by rw [HC.out, HF.out, ← HY.out]; simpa using hc))
            clear hc
            go_wp2_with fail
            refine wp_region_rel_all (fun i => if i = 4 then some (spV (.bool true)) else if i = 19 then some (spV (.bool false)) else none) (by kernel_rfl) (by kernel_rfl) ?_
            repeat (first
              | (refine wpRel_quick ?_ ?_ ?_ ?_
                 · rfl
                 · rfl
                 · first | exact noEnter rfl | (intro f args W W'; go_simp)
                 intro K hK
                 go_big_quiet_op
                 go_big_quiet_on)
              | (refine wpRel_skip ?_ ?_
                 · rfl
                 simp only [Act.put, List.setIfInBounds_toArray, List.set_cons_zero, List.set_cons_succ]))
            refine wpRel_rich _ rfl rfl (fun W hW => ?_) (fun v W3 hW3 hv => ?_)
            · have hc := (HF.out ▸ valid_any x W)
              go_simp
              refine Calls.mono hc ?_
              rintro e w' ⟨rfl, h⟩
              exact ⟨_, rfl, rfl, by first | exact h | (subst h; exact Ext.refl _)⟩
            obtain rfl := hv
            clear hW3
            simp only [Act.put, List.setIfInBounds_toArray, List.set_cons_zero, List.set_cons_succ]
            repeat (first
              | (refine wpRel_quick ?_ ?_ ?_ ?_
                 · rfl
                 · rfl
                 · first | exact noEnter rfl | (intro f args W W'; go_simp)
                 intro K hK
                 go_big_quiet_op
                 go_big_quiet_on)
              | (refine wpRel_skip ?_ ?_
                 · rfl
                 simp only [Act.put, List.setIfInBounds_toArray, List.set_cons_zero, List.set_cons_succ]))
            refine wpRel_rich _ rfl rfl (fun W hW => ?_) (fun v W3 hW3 hv => ?_)
            · have hc := (hd ▸ before_any y x W)
              go_simp
              refine Calls.mono hc ?_
              rintro e w' ⟨rfl, h⟩
              exact ⟨_, rfl, rfl, by first | exact h | (subst h; exact Ext.refl _)⟩
            obtain rfl := hv
            clear hW3
            simp only [Act.put, List.setIfInBounds_toArray, List.set_cons_zero, List.set_cons_succ]
            repeat (first
              | (refine wpRel_quick ?_ ?_ ?_ ?_
                 · rfl
                 · rfl
                 · first | exact noEnter rfl | (intro f args W W'; go_simp)
                 intro K hK
                 go_big_quiet_op
                 go_big_quiet_on)
              | (refine wpRel_skip ?_ ?_
                 · rfl
                 simp only [Act.put, List.setIfInBounds_toArray, List.set_cons_zero, List.set_cons_succ]))
            refine wpRel_nil ?_
            intro W3 hW3
            have HE3 := Lib.hid (HB.out.trans ((Ext.refl _).drew.trans hW3.1))
            clear hW3 gc0 gc1 gc2 gc3 ge0 ge1 ge2 ge3 e0 e1 e2 e3 c0 c1 c2 c3
            go_wp2_with fail
            go_ret
            exact ⟨by rw [HBD.out]; rfl, HE3.out⟩
    · have hki : ¬ (k : Int) < (l.length : Int) := by omega
      have HBD : Hid (checkO l = 0) := Lib.hid (by
        have : k = l.length := by omega
        unfold checkO okLO
        rw [← this, HO.out, if_pos rfl])
      go_wp2_with fail
      go_ret
      exact ⟨by rw [HBD.out]; rfl, HB.out⟩
set_option maxRecDepth 100000 in
set_option maxHeartbeats 3200000 in
theorem held_any (l : List Off) (n : Int) (ao : Option Addr) (cap : Nat) (w : World) (h : RepO w ao cap l) : Calls Try.prog 19 #[.slice ao l.length cap, .int .i64 n] w fun e w' => e = .returned (.int .i64 (heldO l n)) ∧ Ext w w' := by
  have HL := Lib.hid h
  have hs1 := h.max
  clear h
  by_cases hn : n < 0
  · have HR : Hid (heldO l n = 0) := Lib.hid (by rw [heldO_eq, if_pos hn])
    go_enter Try.func19, Try.ntmps19
    go_wp2_with fail
    go_ret
    exact ⟨by rw [HR.out]; rfl, Ext.refl _⟩
  · have HR : Hid (heldO l n = (((l.countP (hitO n)) : Nat) : Int)) := Lib.hid (by rw [heldO_eq, if_neg hn])
    have hn0 : (0 : Int) ≤ n := by omega
    go_enter Try.func19, Try.ntmps19
    go_wp2_with fail
    go_loopw [4, 11] (fun cv iv wr => ∃ k : Nat, iv = .int .i64 k ∧ k ≤ l.length ∧ cv = .int .i64 ((((l.take k).countP (hitO n)) : Nat) : Int) ∧ Ext w wr) (fun _ iv _ => l.length - (intOf iv).toNat)
    case atStart => exact ⟨0, rfl, by omega, rfl, Ext.refl _⟩
    case round =>
      obtain ⟨k, rfl, hk, rfl, hB⟩ := hrel
      have HB := Lib.hid hB
      clear hB
      have hcb := countP_take_le l k (hitO n)
      have hci : ((((l.take k).countP (hitO n)) : Nat) : Int) ≤ (k : Int) := by omega
      by_cases hlt : k < l.length
      · have hki : (k : Int) < (l.length : Int) := by omega
        obtain ⟨b, o, rfl, c0, c1, c2, c3⟩ := o_cells HL.out HB.out hlt
        have HN := Lib.hid (countP_take hlt (hitO n))
        have HH : Hid (hitO n l[k] = (l[k].a == n || l[k].b == n)) := Lib.hid rfl
        generalize l[k] = x at *
        generalize (l.take k).countP (hitO n) = m at *
        cases h1 : (x.a == n) with
        | true =>
          have HI : Hid (hitO n x = true) := Lib.hid (by rw [HH.out, h1]; rfl)
          go_wp2_with fail
          go_roundw
          case rel => exact ⟨k + 1, by go_num, by omega, by rw [HN.out, HI.out]; go_num, HB.out.alloc (.cells #[.int .i64 x.s, .int .i64 x.a, .int .i64 x.b, .int .i64 x.u] 26)⟩
          case measure => simp [intOf] <;> omega
        | false =>
          cases h2 : (x.b == n) with
          | true =>
            have HI : Hid (hitO n x = true) := Lib.hid (by rw [HH.out, h1, h2]; rfl)
            go_wp2_with fail
            go_roundw
            case rel => exact ⟨k + 1, by go_num, by omega, by rw [HN.out, HI.out]; go_num, HB.out.alloc (.cells #[.int .i64 x.s, .int .i64 x.a, .int .i64 x.b, .int .i64 x.u] 26)⟩
            case measure => simp [intOf] <;> omega
          | false =>
            have HI : Hid (hitO n x = false) := Lib.hid (by rw [HH.out, h1, h2]; rfl)
            go_wp2_with fail
            go_roundw
            case rel => exact ⟨k + 1, by go_num, by omega, by rw [HN.out, HI.out]; rfl, HB.out.alloc (.cells #[.int .i64 x.s, .int .i64 x.a, .int .i64 x.b, .int .i64 x.u] 26)⟩
            case measure => simp [intOf] <;> omega
      · have hki : ¬ (k : Int) < (l.length : Int) := by omega
        have HT : Hid (l.take k = l) := Lib.hid (List.take_of_length_le (by omega))
        go_wp2_with fail
        go_ret
        exact ⟨ret_i64 (by rw [HT.out, HR.out]), HB.out⟩
set_option maxRecDepth 100000 in
set_option maxHeartbeats 3200000 in
theorem refHeld_any (l : List Off) (n : Int) (ao : Option Addr) (cap : Nat) (w : World) (h : RepO w ao cap l) : Calls Try.prog 20 #[.slice ao l.length cap, .int .i64 n] w fun e w' => e = .returned (.int .i64 (heldO l n)) ∧ Ext w w' := by
  have HL := Lib.hid h
  have hs1 := h.max
  clear h
  by_cases hn : n < 0
  · have HR : Hid (heldO l n = 0) := Lib.hid (by rw [heldO_eq, if_pos hn])
    have hn0 : ¬ (0 : Int) ≤ n := by omega
    go_enter Try.func20, Try.ntmps20
    go_wp2_with fail
    go_loopw [5, 6] (fun cv iv wr => ∃ k : Nat, iv = .int .i64 k ∧ k ≤ l.length ∧ cv = .int .i64 0 ∧ Ext w wr) (fun _ iv _ => l.length - (intOf iv).toNat)
    case atStart => exact ⟨0, rfl, by omega, rfl, Ext.refl _⟩
    case round =>
      obtain ⟨k, rfl, hk, rfl, hB⟩ := hrel
      have HB := Lib.hid hB
      clear hB
      by_cases hlt : k < l.length
      · have hki : (k : Int) < (l.length : Int) := by omega
        go_wp2_with fail
        go_roundw
        case rel => exact ⟨k + 1, by go_num, by omega, rfl, HB.out⟩
        case measure => simp [intOf] <;> omega
      · have hki : ¬ (k : Int) < (l.length : Int) := by omega
        go_wp2_with fail
        go_ret
        exact ⟨by rw [HR.out]; rfl, HB.out⟩
  · have HR : Hid (heldO l n = (((l.countP (hitO n)) : Nat) : Int)) := Lib.hid (by rw [heldO_eq, if_neg hn])
    have hn0 : (0 : Int) ≤ n := by omega
    go_enter Try.func20, Try.ntmps20
    go_wp2_with fail
    go_loopw [5, 6] (fun cv iv wr => ∃ k : Nat, iv = .int .i64 k ∧ k ≤ l.length ∧ cv = .int .i64 ((((l.take k).countP (hitO n)) : Nat) : Int) ∧ Ext w wr) (fun _ iv _ => l.length - (intOf iv).toNat)
    case atStart => exact ⟨0, rfl, by omega, rfl, Ext.refl _⟩
    case round =>
      obtain ⟨k, rfl, hk, rfl, hB⟩ := hrel
      have HB := Lib.hid hB
      clear hB
      have hcb := countP_take_le l k (hitO n)
      have hci : ((((l.take k).countP (hitO n)) : Nat) : Int) ≤ (k : Int) := by omega
      by_cases hlt : k < l.length
      · have hki : (k : Int) < (l.length : Int) := by omega
        obtain ⟨b, o, rfl, c0, c1, c2, c3⟩ := o_cells HL.out HB.out hlt
        have HN := Lib.hid (countP_take hlt (hitO n))
        have HH : Hid (hitO n l[k] = (l[k].a == n || l[k].b == n)) := Lib.hid rfl
        generalize l[k] = x at *
        generalize (l.take k).countP (hitO n) = m at *
        cases h1 : (x.a == n) with
        | true =>
          have HI : Hid (hitO n x = true) := Lib.hid (by rw [HH.out, h1]; rfl)
          go_wp2_with fail
          go_roundw
          case rel => exact ⟨k + 1, by go_num, by omega, by rw [HN.out, HI.out]; go_num, HB.out⟩
          case measure => simp [intOf] <;> omega
        | false =>
          cases h2 : (x.b == n) with
          | true =>
            have HI : Hid (hitO n x = true) := Lib.hid (by rw [HH.out, h1, h2]; rfl)
            go_wp2_with fail
            go_roundw
            case rel => exact ⟨k + 1, by go_num, by omega, by rw [HN.out, HI.out]; go_num, HB.out⟩
            case measure => simp [intOf] <;> omega
          | false =>
            have HI : Hid (hitO n x = false) := Lib.hid (by rw [HH.out, h1, h2]; rfl)
            go_wp2_with fail
            go_roundw
            case rel => exact ⟨k + 1, by go_num, by omega, by rw [HN.out, HI.out]; rfl, HB.out⟩
            case measure => simp [intOf] <;> omega
      · have hki : ¬ (k : Int) < (l.length : Int) := by omega
        have HT : Hid (l.take k = l) := Lib.hid (List.take_of_length_le (by omega))
        go_wp2_with fail
        go_ret
        exact ⟨ret_i64 (by rw [HT.out, HR.out]), HB.out⟩
set_option maxRecDepth 100000 in
set_option maxHeartbeats 3200000 in
theorem take1_any (x : Off) (s a b : Int) (b5 b6 : Nat) (w : World) (h0 : w.cell? ⟨b5, 0, none⟩ = some (.int .i64 s)) (h1 : w.cell? ⟨b6, 0, none⟩ = some (.int .i64 a)) (h2 : w.cell? ⟨b6, 1, none⟩ = some (.int .i64 b)) : Calls Try.prog 33 #[.agg x.enc.toArray, .pointer (some ⟨b5, 0, none⟩), .pointer (some ⟨b6, 0, none⟩)] w fun e w' => e = .returned (.bool (isO s a b x)) ∧ Ext w w' := by
  have HI : Hid (isO s a b x = (x.s == s && (x.a == a && x.b == b))) := Lib.hid rfl
  have he := eqB x.a x.b a b
  have e0 := ((Ext.refl w).alloc (.cells #[.int .i64 x.s, .int .i64 x.a, .int .i64 x.b, .int .i64 x.u] 26)).cell h0
  have e1 := ((Ext.refl w).alloc (.cells #[.int .i64 x.s, .int .i64 x.a, .int .i64 x.b, .int .i64 x.u] 26)).cell h1
  have e2 := ((Ext.refl w).alloc (.cells #[.int .i64 x.s, .int .i64 x.a, .int .i64 x.b, .int .i64 x.u] 26)).cell h2
  unfold Off.enc
  cases g1 : (x.s == s) with
  | true =>
    have HI2 : Hid (isO s a b x = (x.a == a && x.b == b)) := Lib.hid (by rw [HI.out, g1]; rfl)
    go_enter Try.func33, Try.ntmps33
    go_wp2_with fail
    go_ret
    exact ⟨by rw [HI2.out]; rfl, (Ext.refl _).alloc _⟩
  | false =>
    have HI2 : Hid (isO s a b x = false) := Lib.hid (by rw [HI.out, g1]; rfl)
    go_enter Try.func33, Try.ntmps33
    go_wp2_with fail
    go_ret
    exact ⟨by rw [HI2.out]; rfl, (Ext.refl _).alloc _⟩
set_option maxRecDepth 100000 in
set_option maxHeartbeats 3200000 in
theorem indexFunc_any (l : List Off) (s a b : Int) (b5 b6 : Nat) (ao : Option Addr) (cap : Nat) (w : World) (h : RepO w ao cap l) (h0 : w.cell? ⟨b5, 0, none⟩ = some (.int .i64 s)) (h1 : w.cell? ⟨b6, 0, none⟩ = some (.int .i64 a)) (h2 : w.cell? ⟨b6, 1, none⟩ = some (.int .i64 b)) : Calls Try.prog 32 #[.slice ao l.length cap, .func (Fn.func 33) #[] #[.pointer (some ⟨b5, 0, none⟩), .pointer (some ⟨b6, 0, none⟩)]] w fun e w' => e = .returned (.int .i64 (findO l (isO s a b))) ∧ Ext w w' := by
  have HL := Lib.hid h
  have hs1 := h.max
  have HT1 : Hid (∀ (x : Off) (W : World), Ext w W → Calls Try.prog 33 #[.agg x.enc.toArray, .pointer (some ⟨b5, 0, none⟩), .pointer (some ⟨b6, 0, none⟩)] W fun e w' => e = .returned (.bool (isO s a b x)) ∧ Ext W w') := Lib.hid fun x W hE => take1_any x s a b b5 b6 W (hE.cell h0) (hE.cell h1) (hE.cell h2)
  clear h h0 h1 h2
  go_enter Try.func32, Try.ntmps32
  go_wp2_with fail
  go_loopw [8] (fun iv wr => ∃ k : Nat, iv = .int .i64 k ∧ k ≤ l.length ∧ (∀ j (h : j < l.length), j < k → isO s a b l[j] = false) ∧ Ext w wr) (fun iv _ => l.length - (intOf iv).toNat)
  case atStart => exact ⟨0, rfl, by omega, fun j _ h => by omega, Ext.refl _⟩
  case round =>
    obtain ⟨k, rfl, hk, ht, hB⟩ := hrel
    have HT := Lib.hid ht
    have HB := Lib.hid hB
    clear ht hB
    by_cases hlt : k < l.length
    · have hki : (k : Int) < (l.length : Int) := by omega
      obtain ⟨bb, o, rfl, c0, c1, c2, c3⟩ := o_cells HL.out HB.out hlt
      have HN : Hid (isO s a b l[k] = false → ∀ j (h : j < l.length), j < k + 1 → isO s a b l[j] = false) := Lib.hid fun hi j hj hjk => by
        by_cases hjk' : j = k
        · subst hjk'; exact hi
        · exact HT.out j hj (by omega)
      have HFD : Hid (isO s a b l[k] = true → findO l (isO s a b) = (k : Int)) := Lib.hid fun hi => findO_some hlt (fun j hj => HT.out j (by omega) hj) hi
      generalize l[k] = x at *
      cases hx : isO s a b x with
      | true =>
        have HFX := Lib.hid (HFD.out hx)
        have HC := Lib.hid (hx ▸ HT1.out x wr HB.out)
        clear hx
        go_wp2_with (go_at_call 33; refine HC.out.mono ?_; rintro e w' ⟨rfl, hE⟩)
        go_ret
        exact ⟨by rw [HFX.out]; rfl, HB.out.trans hE⟩
      | false =>
        have HNX := Lib.hid (HN.out hx)
        have HC := Lib.hid (hx ▸ HT1.out x wr HB.out)
        clear hx
        go_wp2_with (go_at_call 33; refine HC.out.mono ?_; rintro e w' ⟨rfl, hE⟩)
        go_roundw
        case rel => exact ⟨k + 1, by go_num, by omega, HNX.out, HB.out.trans hE⟩
        case measure => simp [intOf] <;> omega
    · have hki : ¬ (k : Int) < (l.length : Int) := by omega
      have HR : Hid (findO l (isO s a b) = -1) := Lib.hid (findO_none fun j hj => HT.out j hj (by omega))
      go_wp2_with fail
      go_ret
      exact ⟨by rw [HR.out]; rfl, HB.out⟩
end Go.Proofs.Ytbnaoefmjmlfbaa
