/- Requests: Valid of the reference. -/
import Derived.Test.YtahaplioegeloaaDoorQC
namespace Go.Proofs.YtahaplioegeloaaDoor
open Go.RowKit Go.Sz
set_option maxRecDepth 100000 in
set_option maxHeartbeats 12800000 in
theorem refValid_1 (c n s t g h y : Int) (ch : List Bd) (ao : Option Addr) (cap : Nat) (w : World) (hr : RepB w ao cap ch) (h1 : 0 ≤ c) (h2 : c < 7) (h3 : 1 ≤ n) (h4 : n ≤ 1048576) (h5 : 0 ≤ s) (h6 : s < 20000) (h7 : 1 ≤ t) (h8 : t ≤ 1048576) : Calls Tryd.prog 33 #[.agg #[.int .i64 c, .int .i64 n, .int .i64 s, .int .i64 1, .int .i64 t, .slice ao ch.length cap, .int .i64 g, .int .i64 h, .int .i64 y]] w fun e w' => e = .returned (.bool (refB 1 ch g h y)) ∧ Ext w w' := by
  have hs1 := hr.max
  have hX0 : Ext w (w.alloc (.cells #[.int .i64 c, .int .i64 n, .int .i64 s, .int .i64 1, .int .i64 t, .slice ao ch.length cap, .int .i64 g, .int .i64 h, .int .i64 y] 26)) := (Ext.refl w).alloc _
  have hbx : BoxQ (w.alloc (.cells #[.int .i64 c, .int .i64 n, .int .i64 s, .int .i64 1, .int .i64 t, .slice ao ch.length cap, .int .i64 g, .int .i64 h, .int .i64 y] 26)) w.heap.size ⟨c, n, s, 1, t, ch, g, h, y⟩ ao cap := BoxQ.new w ⟨c, n, s, 1, t, ch, g, h, y⟩ ao cap 26 _ rfl
  have HBX := Lib.hid hbx
  have HX0 := Lib.hid hX0
  have HRB := Lib.hid (hr.ext hX0)
  obtain ⟨b0', b1, b2, b3, b4, b5, b6, b7, b8, -⟩ := hbx
  try dsimp only at b0' b1 b2 b3 b4 b5 b6 b7 b8
  have HB : Hid (refB 1 ch g h y = (formL ch && (freshL ch && (decide (1 ≤ (ch.length : Int)) && decide ((ch.length : Int) ≤ 8) && zeroB g h && decide (0 ≤ y) && decide (y ≤ 1048576))))) := Lib.hid rfl
  have HNF : Hid (formL ch = false → refB 1 ch g h y = false) := Lib.hid fun hf => by rw [HB.out, hf]; rfl
  clear hr hX0
  go_enter Tryd.func33, Tryd.ntmps33
  go_wp2_with fail
  clear b0' b1 b2 b3 b4 b5 b6 b7 b8
  generalize (w.alloc (.cells #[.int .i64 c, .int .i64 n, .int .i64 s, .int .i64 1, .int .i64 t, .slice ao ch.length cap, .int .i64 g, .int .i64 h, .int .i64 y] 26)) = w1 at *
  go_loopw [3] (fun jv wr => ∃ j : Nat, jv = .int .i64 j ∧ j ≤ ch.length ∧ (List.range j).all (formAt ch) = true ∧ Ext w1 wr) (fun jv _ => ch.length - (intOf jv).toNat)
  case atStart => exact ⟨0, rfl, by omega, rfl, Ext.refl _⟩
  case round =>
    obtain ⟨j, rfl, hj, hfo, hE⟩ := hrel
    obtain ⟨wb, hwb⟩ : ∃ wb, wb = wr := ⟨_, rfl⟩
    subst hwb
    have HFO := Lib.hid hfo
    have HE := Lib.hid hE
    clear hfo hE
    obtain ⟨b0', b1, b2, b3, b4, b5, b6, b7, b8, -⟩ := HBX.out.ext HE.out
    try dsimp only at b0' b1 b2 b3 b4 b5 b6 b7 b8
    by_cases hlt : j < ch.length
    · have hji : (j : Int) < (ch.length : Int) := by omega
      obtain ⟨bb, o, hao, c0, c1⟩ := b_cells HRB.out HE.out hlt
      subst hao
      have HFA : Hid (formAt ch j = formB ch[j].1 ch[j].2) := Lib.hid (by unfold formAt; rw [getB hlt])
      generalize ch[j] = x at *
      clear b0' b1 b2 b3 b4 b6 b7 b8
      cases hf : formB x.1 x.2 with
      | false =>
        have HNV : Hid (formL ch = false) := Lib.hid (by
          rw [Bool.eq_false_iff]
          intro ha
          unfold formL at ha
          rw [List.all_eq_true] at ha
          have := ha j (List.mem_range.2 hlt)
          rw [HFA.out, hf] at this
          cases this)
        have HF := Lib.hid hf
        clear hf
        go_wp2_with (go_at_call 51; refine (HF.out ▸ form_any x.1 x.2 _).mono ?_; rintro e w2 ⟨rfl, hE2⟩)
        go_ret
        exact ⟨ret_bool (HNF.out HNV.out).symm, HX0.out.trans (HE.out.trans hE2)⟩
      | true =>
        have HF := Lib.hid hf
        clear hf
        go_wp2_with (go_at_call 51; refine (HF.out ▸ form_any x.1 x.2 _).mono ?_; rintro e w2 ⟨rfl, hE2⟩)
        go_roundw
        case rel => exact ⟨j + 1, by go_num, by omega, by rw [range_all_succ, HFO.out, HFA.out, HF.out]; rfl, HE.out.trans hE2⟩
        case measure => simp [intOf] <;> omega
    · have hji : ¬ (j : Int) < (ch.length : Int) := by omega
      have HFL : Hid (formL ch = true) := Lib.hid (by
        have : j = ch.length := by omega
        unfold formL
        rw [← this, HFO.out])
      have he := eqB g h 0 0
      have HZD : Hid (zeroB g h = (g == 0 && h == 0)) := Lib.hid rfl
      clear b0' b1 b2 b4
      cases z0 : (g == 0 && h == 0) with
      | true =>
        rw [z0] at he
        have HZ : Hid (zeroB g h = true) := Lib.hid (by rw [HZD.out, z0])
        clear z0
        go_wp2_with fail
        clear b3 b6 b7 b8 he
        go_loopw [5] (fun iv wr => ∃ i : Nat, iv = .int .i64 i ∧ i ≤ ch.length ∧ (List.range i).all (freshAt ch) = true ∧ Ext w1 wr) (fun iv _ => ch.length - (intOf iv).toNat)
        case atStart => exact ⟨0, rfl, by omega, rfl, HE.out⟩
        case round =>
          obtain ⟨i, rfl, hi, hfr, hE⟩ := hrel
          obtain ⟨wc, hwc⟩ : ∃ wb, wb = wr := ⟨_, rfl⟩
          subst hwc
          have HFRS := Lib.hid hfr
          have HE := Lib.hid hE
          clear hfr hE b5
          obtain ⟨b0', b1, b2, b3, b4, b5, b6, b7, b8, -⟩ := HBX.out.ext HE.out
          try dsimp only at b0' b1 b2 b3 b4 b5 b6 b7 b8
          by_cases hit : i < ch.length
          · have hii : (i : Int) < (ch.length : Int) := by omega
            clear b0' b1 b2 b3 b4 b6 b7 b8
            go_wp2_with fail
            clear b5
            go_loopw [6] (fun kv wr => ∃ kk : Nat, kv = .int .i64 kk ∧ kk ≤ i ∧ (∀ (m : Nat) (hm : m < kk), ∃ h : m < ch.length, ch[m] ≠ ch[i]) ∧ Ext w1 wr) (fun kv _ => i - (intOf kv).toNat)
            case atStart => exact ⟨0, rfl, by omega, fun m hm => by omega, HE.out⟩
            case round =>
              obtain ⟨kk, rfl, hkk, hne, hE⟩ := hrel
              have HNE := Lib.hid hne
              have HE := Lib.hid hE
              clear hne hE
              have b5 := (HBX.out.ext HE.out).c5
              try dsimp only at b5
              by_cases hkt : kk < i
              · have hki : (kk : Int) < (i : Int) := by omega
                have hkl : kk < ch.length := by omega
                have hkli : (kk : Int) < (ch.length : Int) := by omega
                obtain ⟨bb, o, hao, c0, c1⟩ := b_cells HRB.out HE.out hkl
                obtain ⟨bb2, o2, hao2, d0, d1⟩ := b_cells HRB.out HE.out hit
                subst hao
                cases hao2
                have HNX : Hid (ch[kk] ≠ ch[i] → ∀ (m : Nat) (hm : m < kk + 1), ∃ h : m < ch.length, ch[m] ≠ ch[i]) := Lib.hid fun hx m hm => by
                  by_cases e : m = kk
                  · subst e; exact ⟨hkl, hx⟩
                  · exact HNE.out m (by omega)
                have HEQ : Hid (ch[kk] = ch[i] → freshL ch = false) := Lib.hid fun hx => by
                  rw [Bool.eq_false_iff]
                  intro ha
                  unfold freshL at ha
                  rw [List.all_eq_true] at ha
                  have := ha i (List.mem_range.2 hit)
                  unfold freshAt at this
                  rw [getB hit, ← hx] at this
                  have hm : ch[kk] ∈ ch.take i := List.mem_iff_getElem.2 ⟨kk, by rw [List.length_take]; omega, by rw [List.getElem_take]⟩
                  rw [← List.contains_iff_mem] at hm
                  rw [hm] at this
                  cases this
                generalize ch[kk] = x at *
                generalize ch[i] = z at *
                have he := eqB x.1 x.2 z.1 z.2
                have gc0 := grow_cell c0
                have gc1 := grow_cell c1
                have gd0 := grow_cell d0
                have gd1 := grow_cell d1
                have gb5 := grow_cell b5
                cases hc : (x.1 == z.1 && x.2 == z.2) with
                | true =>
                  have HNV := Lib.hid (HEQ.out (by simp only [Bool.and_eq_true, beq_iff_eq] at hc; exact Prod.ext hc.1 hc.2))
                  rw [hc] at he
                  clear hc
                  go_wp2_with fail
                  refine wp_region_rel_all (fun _ => none) (by kernel_rfl) (by kernel_rfl) ?_
                  repeat (first
                    | (refine wpRel_quick ?_ ?_ ?_ ?_
                       · rfl
                       · rfl
                       · first | exact noEnter rfl | (intro f args W W'; go_simp)
                       intro K hK
                       go_big_quiet_op
                       go_big_quiet_on)
                    | (refine wpRel_skip ?_ ?_
                       · rfl
                       simp only [Act.put, List.setIfInBounds_toArray, List.set_cons_zero, List.set_cons_succ]))
                  refine wpRel_nil ?_
                  intro W3 hW3
                  have HE3 := Lib.hid (HE.out.trans ((Ext.refl _).drew.trans hW3.1))
                  clear hW3 he gc0 gc1 gd0 gd1 gb5 c0 c1 d0 d1
                  go_wp2_with fail
                  go_ret
                  exact ⟨ret_bool (by rw [HB.out, HNV.out]; simp), HX0.out.trans HE3.out⟩
                | false =>
                  have HNV := Lib.hid (HNX.out (fun e => by subst e; simp at hc))
                  rw [hc] at he
                  clear hc
                  go_wp2_with fail
                  refine wp_region_rel_all (fun _ => none) (by kernel_rfl) (by kernel_rfl) ?_
                  repeat (first
                    | (refine wpRel_quick ?_ ?_ ?_ ?_
                       · rfl
                       · rfl
                       · first | exact noEnter rfl | (intro f args W W'; go_simp)
                       intro K hK
                       go_big_quiet_op
                       go_big_quiet_on)
                    | (refine wpRel_skip ?_ ?_
                       · rfl
                       simp only [Act.put, List.setIfInBounds_toArray, List.set_cons_zero, List.set_cons_succ]))
                  refine wpRel_nil ?_
                  intro W3 hW3
                  have HE3 := Lib.hid (HE.out.trans ((Ext.refl _).drew.trans hW3.1))
                  clear hW3 he gc0 gc1 gd0 gd1 gb5 c0 c1 d0 d1
                  go_wp2_with fail
                  go_roundw
                  case rel => exact ⟨kk + 1, by go_num, by omega, HNV.out, HE3.out⟩
                  case measure => simp [intOf] <;> omega
              · have hki : ¬ (kk : Int) < (i : Int) := by omega
                have HFN : Hid ((List.range (i + 1)).all (freshAt ch) = true) := Lib.hid (by
                  rw [range_all_succ, HFRS.out]
                  have : freshAt ch i = true := by
                    unfold freshAt
                    rw [getB hit, Bool.not_eq_true', Bool.eq_false_iff]
                    intro hc
                    rw [List.contains_iff_mem] at hc
                    obtain ⟨m, hm, hme⟩ := List.mem_iff_getElem.1 hc
                    rw [List.length_take] at hm
                    rw [List.getElem_take] at hme
                    obtain ⟨_, h2⟩ := HNE.out m (by omega)
                    exact h2 hme
                  rw [this]
                  rfl)
                go_wp2_with fail
                go_roundw
                case rel => exact ⟨i + 1, by go_num, by omega, HFN.out, HE.out⟩
                case measure => simp [intOf] <;> omega
          · have hii : ¬ (i : Int) < (ch.length : Int) := by omega
            have HFS : Hid (freshL ch = true) := Lib.hid (by
              have : i = ch.length := by omega
              unfold freshL
              rw [← this, HFRS.out])
            clear b0' b1 b2 b3 b4 b6 b7
            by_cases l1 : (1 : Int) ≤ (ch.length : Int)
            · have L1 : Hid (decide ((1 : Int) ≤ (ch.length : Int)) = true) := Lib.hid (decide_eq_true l1)
              by_cases l8 : (ch.length : Int) ≤ 8
              · have L8 : Hid (decide ((ch.length : Int) ≤ 8) = true) := Lib.hid (decide_eq_true l8)
                by_cases ya : (0 : Int) ≤ y
                · have YA : Hid (decide ((0 : Int) ≤ y) = true) := Lib.hid (decide_eq_true ya)
                  by_cases yb : y ≤ 1048576
                  · have YB : Hid (decide (y ≤ 1048576) = true) := Lib.hid (decide_eq_true yb)
                    go_wp2_with fail
                    go_ret
                    exact ⟨ret_bool (by rw [HB.out, HFL.out, HFS.out, HZ.out, L1.out, L8.out, YA.out, YB.out]; simp), HX0.out.trans HE.out⟩
                  · have YB : Hid (decide (y ≤ 1048576) = false) := Lib.hid (decide_eq_false yb)
                    go_wp2_with fail
                    go_ret
                    exact ⟨ret_bool (by rw [HB.out, HFL.out, HFS.out, HZ.out, L1.out, L8.out, YA.out, YB.out]; simp), HX0.out.trans HE.out⟩
                · have YA : Hid (decide ((0 : Int) ≤ y) = false) := Lib.hid (decide_eq_false ya)
                  go_wp2_with fail
                  go_ret
                  exact ⟨ret_bool (by rw [HB.out, HFL.out, HFS.out, HZ.out, L1.out, L8.out, YA.out]; simp), HX0.out.trans HE.out⟩
              · have L8 : Hid (decide ((ch.length : Int) ≤ 8) = false) := Lib.hid (decide_eq_false l8)
                go_wp2_with fail
                go_ret
                exact ⟨ret_bool (by rw [HB.out, HFL.out, HFS.out, HZ.out, L1.out, L8.out]; simp), HX0.out.trans HE.out⟩
            · have L1 : Hid (decide ((1 : Int) ≤ (ch.length : Int)) = false) := Lib.hid (decide_eq_false l1)
              go_wp2_with fail
              go_ret
              exact ⟨ret_bool (by rw [HB.out, HFL.out, HFS.out, HZ.out, L1.out]; simp), HX0.out.trans HE.out⟩
      | false =>
        rw [z0] at he
        have HZ : Hid (zeroB g h = false) := Lib.hid (by rw [HZD.out, z0])
        clear z0
        go_wp2_with fail
        clear b3 b6 b7 b8 he
        go_loopw [5] (fun iv wr => ∃ i : Nat, iv = .int .i64 i ∧ i ≤ ch.length ∧ (List.range i).all (freshAt ch) = true ∧ Ext w1 wr) (fun iv _ => ch.length - (intOf iv).toNat)
        case atStart => exact ⟨0, rfl, by omega, rfl, HE.out⟩
        case round =>
          obtain ⟨i, rfl, hi, hfr, hE⟩ := hrel
          obtain ⟨wc, hwc⟩ : ∃ wb, wb = wr := ⟨_, rfl⟩
          subst hwc
          have HFRS := Lib.hid hfr
          have HE := Lib.hid hE
          clear hfr hE b5
          obtain ⟨b0', b1, b2, b3, b4, b5, b6, b7, b8, -⟩ := HBX.out.ext HE.out
          try dsimp only at b0' b1 b2 b3 b4 b5 b6 b7 b8
          by_cases hit : i < ch.length
          · have hii : (i : Int) < (ch.length : Int) := by omega
            clear b0' b1 b2 b3 b4 b6 b7 b8
            go_wp2_with fail
            clear b5
            go_loopw [6] (fun kv wr => ∃ kk : Nat, kv = .int .i64 kk ∧ kk ≤ i ∧ (∀ (m : Nat) (hm : m < kk), ∃ h : m < ch.length, ch[m] ≠ ch[i]) ∧ Ext w1 wr) (fun kv _ => i - (intOf kv).toNat)
            case atStart => exact ⟨0, rfl, by omega, fun m hm => by omega, HE.out⟩
            case round =>
              obtain ⟨kk, rfl, hkk, hne, hE⟩ := hrel
              have HNE := Lib.hid hne
              have HE := Lib.hid hE
              clear hne hE
              have b5 := (HBX.out.ext HE.out).c5
              try dsimp only at b5
              by_cases hkt : kk < i
              · have hki : (kk : Int) < (i : Int) := by omega
                have hkl : kk < ch.length := by omega
                have hkli : (kk : Int) < (ch.length : Int) := by omega
                obtain ⟨bb, o, hao, c0, c1⟩ := b_cells HRB.out HE.out hkl
                obtain ⟨bb2, o2, hao2, d0, d1⟩ := b_cells HRB.out HE.out hit
                subst hao
                cases hao2
                have HNX : Hid (ch[kk] ≠ ch[i] → ∀ (m : Nat) (hm : m < kk + 1), ∃ h : m < ch.length, ch[m] ≠ ch[i]) := Lib.hid fun hx m hm => by
                  by_cases e : m = kk
                  · subst e; exact ⟨hkl, hx⟩
                  · exact HNE.out m (by omega)
                have HEQ : Hid (ch[kk] = ch[i] → freshL ch = false) := Lib.hid fun hx => by
                  rw [Bool.eq_false_iff]
                  intro ha
                  unfold freshL at ha
                  rw [List.all_eq_true] at ha
                  have := ha i (List.mem_range.2 hit)
                  unfold freshAt at this
                  rw [getB hit, ← hx] at this
                  have hm : ch[kk] ∈ ch.take i := List.mem_iff_getElem.2 ⟨kk, by rw [List.length_take]; omega, by rw [List.getElem_take]⟩
                  rw [← List.contains_iff_mem] at hm
                  rw [hm] at this
                  cases this
                generalize ch[kk] = x at *
                generalize ch[i] = z at *
                have he := eqB x.1 x.2 z.1 z.2
                have gc0 := grow_cell c0
                have gc1 := grow_cell c1
                have gd0 := grow_cell d0
                have gd1 := grow_cell d1
                have gb5 := grow_cell b5
                cases hc : (x.1 == z.1 && x.2 == z.2) with
                | true =>
                  have HNV := Lib.hid (HEQ.out (by simp only [Bool.and_eq_true, beq_iff_eq] at hc; exact Prod.ext hc.1 hc.2))
                  rw [hc] at he
                  clear hc
                  go_wp2_with fail
                  refine wp_region_rel_all (fun _ => none) (by kernel_rfl) (by kernel_rfl) ?_
                  repeat (first
                    | (refine wpRel_quick ?_ ?_ ?_ ?_
                       · rfl
                       · rfl
                       · first | exact noEnter rfl | (intro f args W W'; go_simp)
                       intro K hK
                       go_big_quiet_op
                       go_big_quiet_on)
                    | (refine wpRel_skip ?_ ?_
                       · rfl
                       simp only [Act.put, List.setIfInBounds_toArray, List.set_cons_zero, List.set_cons_succ]))
                  refine wpRel_nil ?_
                  intro W3 hW3
                  have HE3 := Lib.hid (HE.out.trans ((Ext.refl _).drew.trans hW3.1))
                  clear hW3 he gc0 gc1 gd0 gd1 gb5 c0 c1 d0 d1
                  go_wp2_with fail
                  go_ret
                  exact ⟨ret_bool (by rw [HB.out, HNV.out]; simp), HX0.out.trans HE3.out⟩
                | false =>
                  have HNV := Lib.hid (HNX.out (fun e => by subst e; simp at hc))
                  rw [hc] at he
                  clear hc
                  go_wp2_with fail
                  refine wp_region_rel_all (fun _ => none) (by kernel_rfl) (by kernel_rfl) ?_
                  repeat (first
                    | (refine wpRel_quick ?_ ?_ ?_ ?_
                       · rfl
                       · rfl
                       · first | exact noEnter rfl | (intro f args W W'; go_simp)
                       intro K hK
                       go_big_quiet_op
                       go_big_quiet_on)
                    | (refine wpRel_skip ?_ ?_
                       · rfl
                       simp only [Act.put, List.setIfInBounds_toArray, List.set_cons_zero, List.set_cons_succ]))
                  refine wpRel_nil ?_
                  intro W3 hW3
                  have HE3 := Lib.hid (HE.out.trans ((Ext.refl _).drew.trans hW3.1))
                  clear hW3 he gc0 gc1 gd0 gd1 gb5 c0 c1 d0 d1
                  go_wp2_with fail
                  go_roundw
                  case rel => exact ⟨kk + 1, by go_num, by omega, HNV.out, HE3.out⟩
                  case measure => simp [intOf] <;> omega
              · have hki : ¬ (kk : Int) < (i : Int) := by omega
                have HFN : Hid ((List.range (i + 1)).all (freshAt ch) = true) := Lib.hid (by
                  rw [range_all_succ, HFRS.out]
                  have : freshAt ch i = true := by
                    unfold freshAt
                    rw [getB hit, Bool.not_eq_true', Bool.eq_false_iff]
                    intro hc
                    rw [List.contains_iff_mem] at hc
                    obtain ⟨m, hm, hme⟩ := List.mem_iff_getElem.1 hc
                    rw [List.length_take] at hm
                    rw [List.getElem_take] at hme
                    obtain ⟨_, h2⟩ := HNE.out m (by omega)
                    exact h2 hme
                  rw [this]
                  rfl)
                go_wp2_with fail
                go_roundw
                case rel => exact ⟨i + 1, by go_num, by omega, HFN.out, HE.out⟩
                case measure => simp [intOf] <;> omega
          · have hii : ¬ (i : Int) < (ch.length : Int) := by omega
            have HFS : Hid (freshL ch = true) := Lib.hid (by
              have : i = ch.length := by omega
              unfold freshL
              rw [← this, HFRS.out])
            clear b0' b1 b2 b3 b4 b6 b7
            by_cases l1 : (1 : Int) ≤ (ch.length : Int)
            · have L1 : Hid (decide ((1 : Int) ≤ (ch.length : Int)) = true) := Lib.hid (decide_eq_true l1)
              by_cases l8 : (ch.length : Int) ≤ 8
              · have L8 : Hid (decide ((ch.length : Int) ≤ 8) = true) := Lib.hid (decide_eq_true l8)
                go_wp2_with fail
                go_ret
                exact ⟨ret_bool (by rw [HB.out, HFL.out, HFS.out, HZ.out, L1.out, L8.out]; simp), HX0.out.trans HE.out⟩
              · have L8 : Hid (decide ((ch.length : Int) ≤ 8) = false) := Lib.hid (decide_eq_false l8)
                go_wp2_with fail
                go_ret
                exact ⟨ret_bool (by rw [HB.out, HFL.out, HFS.out, HZ.out, L1.out, L8.out]; simp), HX0.out.trans HE.out⟩
            · have L1 : Hid (decide ((1 : Int) ≤ (ch.length : Int)) = false) := Lib.hid (decide_eq_false l1)
              go_wp2_with fail
              go_ret
              exact ⟨ret_bool (by rw [HB.out, HFL.out, HFS.out, HZ.out, L1.out]; simp), HX0.out.trans HE.out⟩
end Go.Proofs.YtahaplioegeloaaDoor
