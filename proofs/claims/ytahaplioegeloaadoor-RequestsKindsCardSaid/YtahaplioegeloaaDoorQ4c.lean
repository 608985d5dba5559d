/- Requests: Valid of the reference. -/
import Derived.Test.YtahaplioegeloaaDoorQC
namespace Go.Proofs.YtahaplioegeloaaDoor
open Go.RowKit Go.Sz
set_option maxRecDepth 100000 in
set_option maxHeartbeats 12800000 in
theorem refValid_3 (c n s t g h y : Int) (ch : List Bd) (ao : Option Addr) (cap : Nat) (w : World) (hr : RepB w ao cap ch) (h1 : 0 ≤ c) (h2 : c < 7) (h3 : 1 ≤ n) (h4 : n ≤ 1048576) (h5 : 0 ≤ s) (h6 : s < 20000) (h7 : 1 ≤ t) (h8 : t ≤ 1048576) : Calls Tryd.prog 33 #[.agg #[.int .i64 c, .int .i64 n, .int .i64 s, .int .i64 3, .int .i64 t, .slice ao ch.length cap, .int .i64 g, .int .i64 h, .int .i64 y]] w fun e w' => e = .returned (.bool (refB 3 ch g h y)) ∧ Ext w w' := by
  have hs1 := hr.max
  have hX0 : Ext w (w.alloc (.cells #[.int .i64 c, .int .i64 n, .int .i64 s, .int .i64 3, .int .i64 t, .slice ao ch.length cap, .int .i64 g, .int .i64 h, .int .i64 y] 26)) := (Ext.refl w).alloc _
  have hbx : BoxQ (w.alloc (.cells #[.int .i64 c, .int .i64 n, .int .i64 s, .int .i64 3, .int .i64 t, .slice ao ch.length cap, .int .i64 g, .int .i64 h, .int .i64 y] 26)) w.heap.size ⟨c, n, s, 3, t, ch, g, h, y⟩ ao cap := BoxQ.new w ⟨c, n, s, 3, t, ch, g, h, y⟩ ao cap 26 _ rfl
  have HBX := Lib.hid hbx
  have HX0 := Lib.hid hX0
  have HRB := Lib.hid (hr.ext hX0)
  obtain ⟨b0', b1, b2, b3, b4, b5, b6, b7, b8, -⟩ := hbx
  try dsimp only at b0' b1 b2 b3 b4 b5 b6 b7 b8
  have HB : Hid (refB 3 ch g h y = (formL ch && (((ch.length : Int) == 1) && formB g h && ((ch.getD 0 b0).1 != g) && (y == 0)))) := Lib.hid rfl
  have HNF : Hid (formL ch = false → refB 3 ch g h y = false) := Lib.hid fun hf => by rw [HB.out, hf]; rfl
  clear hr hX0
  go_enter Tryd.func33, Tryd.ntmps33
  go_wp2_with fail
  clear b0' b1 b2 b3 b4 b5 b6 b7 b8
  generalize (w.alloc (.cells #[.int .i64 c, .int .i64 n, .int .i64 s, .int .i64 3, .int .i64 t, .slice ao ch.length cap, .int .i64 g, .int .i64 h, .int .i64 y] 26)) = w1 at *
  go_loopw [3] (fun jv wr => ∃ j : Nat, jv = .int .i64 j ∧ j ≤ ch.length ∧ (List.range j).all (formAt ch) = true ∧ Ext w1 wr) (fun jv _ => ch.length - (intOf jv).toNat)
  case atStart => exact ⟨0, rfl, by omega, rfl, Ext.refl _⟩
  case round =>
    obtain ⟨j, rfl, hj, hfo, hE⟩ := hrel
    obtain ⟨wb, hwb⟩ : ∃ wb, wb = wr := ⟨_, rfl⟩
    subst hwb
    have HFO := Lib.hid hfo
    have HE := Lib.hid hE
    clear hfo hE
    obtain ⟨b0', b1, b2, b3, b4, b5, b6, b7, b8, -⟩ := HBX.out.ext HE.out
    try dsimp only at b0' b1 b2 b3 b4 b5 b6 b7 b8
    by_cases hlt : j < ch.length
    · have hji : (j : Int) < (ch.length : Int) := by omega
      obtain ⟨bb, o, hao, c0, c1⟩ := b_cells HRB.out HE.out hlt
      subst hao
      have HFA : Hid (formAt ch j = formB ch[j].1 ch[j].2) := Lib.hid (by unfold formAt; rw [getB hlt])
      generalize ch[j] = x at *
      clear b0' b1 b2 b3 b4 b6 b7 b8
      cases hf : formB x.1 x.2 with
      | false =>
        have HNV : Hid (formL ch = false) := Lib.hid (by
          rw [Bool.eq_false_iff]
          intro ha
          unfold formL at ha
          rw [List.all_eq_true] at ha
          have := ha j (List.mem_range.2 hlt)
          rw [HFA.out, hf] at this
          cases this)
        have HF := Lib.hid hf
        clear hf
        go_wp2_with (go_at_call 51; refine (HF.out ▸ form_any x.1 x.2 _).mono ?_; rintro e w2 ⟨rfl, hE2⟩)
        go_ret
        exact ⟨ret_bool (HNF.out HNV.out).symm, HX0.out.trans (HE.out.trans hE2)⟩
      | true =>
        have HF := Lib.hid hf
        clear hf
        go_wp2_with (go_at_call 51; refine (HF.out ▸ form_any x.1 x.2 _).mono ?_; rintro e w2 ⟨rfl, hE2⟩)
        go_roundw
        case rel => exact ⟨j + 1, by go_num, by omega, by rw [range_all_succ, HFO.out, HFA.out, HF.out]; rfl, HE.out.trans hE2⟩
        case measure => simp [intOf] <;> omega
    · have hji : ¬ (j : Int) < (ch.length : Int) := by omega
      have HFL : Hid (formL ch = true) := Lib.hid (by
        have : j = ch.length := by omega
        unfold formL
        rw [← this, HFO.out])
      have he := eqB g h 0 0
      have HZD : Hid (zeroB g h = (g == 0 && h == 0)) := Lib.hid rfl
      clear b0' b1 b2 b4
      cases z0 : (g == 0 && h == 0) with
      | true =>
        rw [z0] at he
        have HZ : Hid (zeroB g h = true) := Lib.hid (by rw [HZD.out, z0])
        clear z0
        cases n1 : ((ch.length : Int) == 1) with
        | false =>
          have N1 := Lib.hid n1
          have gb5 := grow_cell b5
          have gb6 := grow_cell b6
          have gb7 := grow_cell b7
          have gb8 := grow_cell b8
          go_wp2_with fail
          refine wp_region_rel_all (fun i => none) (by kernel_rfl) (by kernel_rfl) ?_
          repeat (first
            | (refine wpRel_quick ?_ ?_ ?_ ?_
               · rfl
               · rfl
               · first | exact noEnter rfl | (intro f args W W'; go_simp)
               intro K hK
               go_big_quiet_op
               go_big_quiet_on)
            | (refine wpRel_skip ?_ ?_
               · rfl
               simp only [Act.put, List.setIfInBounds_toArray, List.set_cons_zero, List.set_cons_succ]))
          refine wpRel_nil ?_
          intro W3 hW3
          have HE3 := Lib.hid (HE.out.trans ((Ext.refl _).drew.trans hW3.1))
          clear hW3 gb5 gb6 gb7 gb8
          go_wp2_with fail
          go_ret
          exact ⟨ret_bool (by rw [HB.out, HFL.out, N1.out]; simp), HX0.out.trans HE3.out⟩
        | true =>
          have N1 := Lib.hid n1
          have hz : 0 < ch.length := by rw [beq_iff_eq] at n1; omega
          have hzi : (0 : Int) < (ch.length : Int) := by omega
          obtain ⟨bb, o, hao, c0, c1⟩ := b_cells HRB.out HE.out hz
          subst hao
          simp only [Nat.zero_mul, Nat.add_zero] at c0 c1
          have gc0 := grow_cell c0
          have HG0 : Hid ((ch.getD 0 b0).1 = ch[0].1) := Lib.hid (by rw [getB hz])
          generalize ch[0] = zz at *
          cases hf : formB g h with
          | false =>
            have HF := Lib.hid hf
            clear hf
            have gb5 := grow_cell b5
            have gb6 := grow_cell b6
            have gb7 := grow_cell b7
            have gb8 := grow_cell b8
            go_wp2_with fail
            refine wp_region_rel_all (fun i => if i = 7 then some (spV (.bool false)) else none) (by kernel_rfl) (by kernel_rfl) ?_
            repeat (first
              | (refine wpRel_quick ?_ ?_ ?_ ?_
                 · rfl
                 · rfl
                 · first | exact noEnter rfl | (intro f args W W'; go_simp)
                 intro K hK
                 go_big_quiet_op
                 go_big_quiet_on)
              | (refine wpRel_skip ?_ ?_
                 · rfl
                 simp only [Act.put, List.setIfInBounds_toArray, List.set_cons_zero, List.set_cons_succ]))
            refine wpRel_rich _ rfl rfl (fun W hW => ?_) (fun v W3 hW3 hv => ?_)
            · have hc := (HF.out ▸ form_any g h W)
              go_simp
              refine Calls.mono hc ?_
              rintro e w' ⟨rfl, h⟩
              exact ⟨_, rfl, rfl, by first | exact h | (subst h; exact Ext.refl _)⟩
            obtain rfl := hv
            clear hW3
            simp only [Act.put, List.setIfInBounds_toArray, List.set_cons_zero, List.set_cons_succ]
            repeat (first
              | (refine wpRel_quick ?_ ?_ ?_ ?_
                 · rfl
                 · rfl
                 · first | exact noEnter rfl | (intro f args W W'; go_simp)
                 intro K hK
                 go_big_quiet_op
                 go_big_quiet_on)
              | (refine wpRel_skip ?_ ?_
                 · rfl
                 simp only [Act.put, List.setIfInBounds_toArray, List.set_cons_zero, List.set_cons_succ]))
            refine wpRel_nil ?_
            intro W3 hW3
            have HE3 := Lib.hid (HE.out.trans ((Ext.refl _).drew.trans hW3.1))
            clear hW3 gb5 gb6 gb7 gb8
            go_wp2_with fail
            go_ret
            exact ⟨ret_bool (by rw [HB.out, HFL.out, N1.out, HF.out]; simp), HX0.out.trans HE3.out⟩
          | true =>
            have HF := Lib.hid hf
            clear hf
            cases hzg : (zz.1 != g) with
            | false =>
              have HZG := Lib.hid hzg
              have gb5 := grow_cell b5
              have gb6 := grow_cell b6
              have gb7 := grow_cell b7
              have gb8 := grow_cell b8
              go_wp2_with fail
              refine wp_region_rel_all (fun i => if i = 7 then some (spV (.bool true)) else none) (by kernel_rfl) (by kernel_rfl) ?_
              repeat (first
                | (refine wpRel_quick ?_ ?_ ?_ ?_
                   · rfl
                   · rfl
                   · first | exact noEnter rfl | (intro f args W W'; go_simp)
                   intro K hK
                   go_big_quiet_op
                   go_big_quiet_on)
                | (refine wpRel_skip ?_ ?_
                   · rfl
                   simp only [Act.put, List.setIfInBounds_toArray, List.set_cons_zero, List.set_cons_succ]))
              refine wpRel_rich _ rfl rfl (fun W hW => ?_) (fun v W3 hW3 hv => ?_)
              · have hc := (HF.out ▸ form_any g h W)
                go_simp
                refine Calls.mono hc ?_
                rintro e w' ⟨rfl, h⟩
                exact ⟨_, rfl, rfl, by first | exact h | (subst h; exact Ext.refl _)⟩
              obtain rfl := hv
              clear hW3
              simp only [Act.put, List.setIfInBounds_toArray, List.set_cons_zero, List.set_cons_succ]
              repeat (first
                | (refine wpRel_quick ?_ ?_ ?_ ?_
                   · rfl
                   · rfl
                   · first | exact noEnter rfl | (intro f args W W'; go_simp)
                   intro K hK
                   go_big_quiet_op
                   go_big_quiet_on)
                | (refine wpRel_skip ?_ ?_
                   · rfl
                   simp only [Act.put, List.setIfInBounds_toArray, List.set_cons_zero, List.set_cons_succ]))
              refine wpRel_nil ?_
              intro W3 hW3
              have HE3 := Lib.hid (HE.out.trans ((Ext.refl _).drew.trans hW3.1))
              clear hW3 gb5 gb6 gb7 gb8
              go_wp2_with fail
              go_ret
              exact ⟨ret_bool (by rw [HB.out, HFL.out, N1.out, HF.out, HG0.out, HZG.out]; simp), HX0.out.trans HE3.out⟩
            | true =>
              have HZG := Lib.hid hzg
              cases y0 : (y == 0) with
              | false =>
                have Y0 := Lib.hid y0
                have gb5 := grow_cell b5
                have gb6 := grow_cell b6
                have gb7 := grow_cell b7
                have gb8 := grow_cell b8
                go_wp2_with fail
                refine wp_region_rel_all (fun i => if i = 7 then some (spV (.bool true)) else none) (by kernel_rfl) (by kernel_rfl) ?_
                repeat (first
                  | (refine wpRel_quick ?_ ?_ ?_ ?_
                     · rfl
                     · rfl
                     · first | exact noEnter rfl | (intro f args W W'; go_simp)
                     intro K hK
                     go_big_quiet_op
                     go_big_quiet_on)
                  | (refine wpRel_skip ?_ ?_
                     · rfl
                     simp only [Act.put, List.setIfInBounds_toArray, List.set_cons_zero, List.set_cons_succ]))
                refine wpRel_rich _ rfl rfl (fun W hW => ?_) (fun v W3 hW3 hv => ?_)
                · have hc := (HF.out ▸ form_any g h W)
                  go_simp
                  refine Calls.mono hc ?_
                  rintro e w' ⟨rfl, h⟩
                  exact ⟨_, rfl, rfl, by first | exact h | (subst h; exact Ext.refl _)⟩
                obtain rfl := hv
                clear hW3
                simp only [Act.put, List.setIfInBounds_toArray, List.set_cons_zero, List.set_cons_succ]
                repeat (first
                  | (refine wpRel_quick ?_ ?_ ?_ ?_
                     · rfl
                     · rfl
                     · first | exact noEnter rfl | (intro f args W W'; go_simp)
                     intro K hK
                     go_big_quiet_op
                     go_big_quiet_on)
                  | (refine wpRel_skip ?_ ?_
                     · rfl
                     simp only [Act.put, List.setIfInBounds_toArray, List.set_cons_zero, List.set_cons_succ]))
                refine wpRel_nil ?_
                intro W3 hW3
                have HE3 := Lib.hid (HE.out.trans ((Ext.refl _).drew.trans hW3.1))
                clear hW3 gb5 gb6 gb7 gb8
                go_wp2_with fail
                go_ret
                exact ⟨ret_bool (by rw [HB.out, HFL.out, N1.out, HF.out, HG0.out, HZG.out, Y0.out]; simp), HX0.out.trans HE3.out⟩
              | true =>
                have Y0 := Lib.hid y0
                have gb5 := grow_cell b5
                have gb6 := grow_cell b6
                have gb7 := grow_cell b7
                have gb8 := grow_cell b8
                go_wp2_with fail
                refine wp_region_rel_all (fun i => if i = 7 then some (spV (.bool true)) else none) (by kernel_rfl) (by kernel_rfl) ?_
                repeat (first
                  | (refine wpRel_quick ?_ ?_ ?_ ?_
                     · rfl
                     · rfl
                     · first | exact noEnter rfl | (intro f args W W'; go_simp)
                     intro K hK
                     go_big_quiet_op
                     go_big_quiet_on)
                  | (refine wpRel_skip ?_ ?_
                     · rfl
                     simp only [Act.put, List.setIfInBounds_toArray, List.set_cons_zero, List.set_cons_succ]))
                refine wpRel_rich _ rfl rfl (fun W hW => ?_) (fun v W3 hW3 hv => ?_)
                · have hc := (HF.out ▸ form_any g h W)
                  go_simp
                  refine Calls.mono hc ?_
                  rintro e w' ⟨rfl, h⟩
                  exact ⟨_, rfl, rfl, by first | exact h | (subst h; exact Ext.refl _)⟩
                obtain rfl := hv
                clear hW3
                simp only [Act.put, List.setIfInBounds_toArray, List.set_cons_zero, List.set_cons_succ]
                repeat (first
                  | (refine wpRel_quick ?_ ?_ ?_ ?_
                     · rfl
                     · rfl
                     · first | exact noEnter rfl | (intro f args W W'; go_simp)
                     intro K hK
                     go_big_quiet_op
                     go_big_quiet_on)
                  | (refine wpRel_skip ?_ ?_
                     · rfl
                     simp only [Act.put, List.setIfInBounds_toArray, List.set_cons_zero, List.set_cons_succ]))
                refine wpRel_nil ?_
                intro W3 hW3
                have HE3 := Lib.hid (HE.out.trans ((Ext.refl _).drew.trans hW3.1))
                clear hW3 gb5 gb6 gb7 gb8
                go_wp2_with fail
                go_ret
                exact ⟨ret_bool (by rw [HB.out, HFL.out, N1.out, HF.out, HG0.out, HZG.out, Y0.out]; simp), HX0.out.trans HE3.out⟩
      | false =>
        rw [z0] at he
        have HZ : Hid (zeroB g h = false) := Lib.hid (by rw [HZD.out, z0])
        clear z0
        cases n1 : ((ch.length : Int) == 1) with
        | false =>
          have N1 := Lib.hid n1
          have gb5 := grow_cell b5
          have gb6 := grow_cell b6
          have gb7 := grow_cell b7
          have gb8 := grow_cell b8
          go_wp2_with fail
          refine wp_region_rel_all (fun i => none) (by kernel_rfl) (by kernel_rfl) ?_
          repeat (first
            | (refine wpRel_quick ?_ ?_ ?_ ?_
               · rfl
               · rfl
               · first | exact noEnter rfl | (intro f args W W'; go_simp)
               intro K hK
               go_big_quiet_op
               go_big_quiet_on)
            | (refine wpRel_skip ?_ ?_
               · rfl
               simp only [Act.put, List.setIfInBounds_toArray, List.set_cons_zero, List.set_cons_succ]))
          refine wpRel_nil ?_
          intro W3 hW3
          have HE3 := Lib.hid (HE.out.trans ((Ext.refl _).drew.trans hW3.1))
          clear hW3 gb5 gb6 gb7 gb8
          go_wp2_with fail
          go_ret
          exact ⟨ret_bool (by rw [HB.out, HFL.out, N1.out]; simp), HX0.out.trans HE3.out⟩
        | true =>
          have N1 := Lib.hid n1
          have hz : 0 < ch.length := by rw [beq_iff_eq] at n1; omega
          have hzi : (0 : Int) < (ch.length : Int) := by omega
          obtain ⟨bb, o, hao, c0, c1⟩ := b_cells HRB.out HE.out hz
          subst hao
          simp only [Nat.zero_mul, Nat.add_zero] at c0 c1
          have gc0 := grow_cell c0
          have HG0 : Hid ((ch.getD 0 b0).1 = ch[0].1) := Lib.hid (by rw [getB hz])
          generalize ch[0] = zz at *
          cases hf : formB g h with
          | false =>
            have HF := Lib.hid hf
            clear hf
            have gb5 := grow_cell b5
            have gb6 := grow_cell b6
            have gb7 := grow_cell b7
            have gb8 := grow_cell b8
            go_wp2_with fail
            refine wp_region_rel_all (fun i => if i = 7 then some (spV (.bool false)) else none) (by kernel_rfl) (by kernel_rfl) ?_
            repeat (first
              | (refine wpRel_quick ?_ ?_ ?_ ?_
                 · rfl
                 · rfl
                 · first | exact noEnter rfl | (intro f args W W'; go_simp)
                 intro K hK
                 go_big_quiet_op
                 go_big_quiet_on)
              | (refine wpRel_skip ?_ ?_
                 · rfl
                 simp only [Act.put, List.setIfInBounds_toArray, List.set_cons_zero, List.set_cons_succ]))
            refine wpRel_rich _ rfl rfl (fun W hW => ?_) (fun v W3 hW3 hv => ?_)
            · have hc := (HF.out ▸ form_any g h W)
              go_simp
              refine Calls.mono hc ?_
              rintro e w' ⟨rfl, h⟩
              exact ⟨_, rfl, rfl, by first | exact h | (subst h; exact Ext.refl _)⟩
            obtain rfl := hv
            clear hW3
            simp only [Act.put, List.setIfInBounds_toArray, List.set_cons_zero, List.set_cons_succ]
            repeat (first
              | (refine wpRel_quick ?_ ?_ ?_ ?_
                 · rfl
                 · rfl
                 · first | exact noEnter rfl | (intro f args W W'; go_simp)
                 intro K hK
                 go_big_quiet_op
                 go_big_quiet_on)
              | (refine wpRel_skip ?_ ?_
                 · rfl
                 simp only [Act.put, List.setIfInBounds_toArray, List.set_cons_zero, List.set_cons_succ]))
            refine wpRel_nil ?_
            intro W3 hW3
            have HE3 := Lib.hid (HE.out.trans ((Ext.refl _).drew.trans hW3.1))
            clear hW3 gb5 gb6 gb7 gb8
            go_wp2_with fail
            go_ret
            exact ⟨ret_bool (by rw [HB.out, HFL.out, N1.out, HF.out]; simp), HX0.out.trans HE3.out⟩
          | true =>
            have HF := Lib.hid hf
            clear hf
            cases hzg : (zz.1 != g) with
            | false =>
              have HZG := Lib.hid hzg
              have gb5 := grow_cell b5
              have gb6 := grow_cell b6
              have gb7 := grow_cell b7
              have gb8 := grow_cell b8
              go_wp2_with fail
              refine wp_region_rel_all (fun i => if i = 7 then some (spV (.bool true)) else none) (by kernel_rfl) (by kernel_rfl) ?_
              repeat (first
                | (refine wpRel_quick ?_ ?_ ?_ ?_
                   · rfl
                   · rfl
                   · first | exact noEnter rfl | (intro f args W W'; go_simp)
                   intro K hK
                   go_big_quiet_op
                   go_big_quiet_on)
                | (refine wpRel_skip ?_ ?_
                   · rfl
                   simp only [Act.put, List.setIfInBounds_toArray, List.set_cons_zero, List.set_cons_succ]))
              refine wpRel_rich _ rfl rfl (fun W hW => ?_) (fun v W3 hW3 hv => ?_)
              · have hc := (HF.out ▸ form_any g h W)
                go_simp
                refine Calls.mono hc ?_
                rintro e w' ⟨rfl, h⟩
                exact ⟨_, rfl, rfl, by first | exact h | (subst h; exact Ext.refl _)⟩
              obtain rfl := hv
              clear hW3
              simp only [Act.put, List.setIfInBounds_toArray, List.set_cons_zero, List.set_cons_succ]
              repeat (first
                | (refine wpRel_quick ?_ ?_ ?_ ?_
                   · rfl
                   · rfl
                   · first | exact noEnter rfl | (intro f args W W'; go_simp)
                   intro K hK
                   go_big_quiet_op
                   go_big_quiet_on)
                | (refine wpRel_skip ?_ ?_
                   · rfl
                   simp only [Act.put, List.setIfInBounds_toArray, List.set_cons_zero, List.set_cons_succ]))
              refine wpRel_nil ?_
              intro W3 hW3
              have HE3 := Lib.hid (HE.out.trans ((Ext.refl _).drew.trans hW3.1))
              clear hW3 gb5 gb6 gb7 gb8
              go_wp2_with fail
              go_ret
              exact ⟨ret_bool (by rw [HB.out, HFL.out, N1.out, HF.out, HG0.out, HZG.out]; simp), HX0.out.trans HE3.out⟩
            | true =>
              have HZG := Lib.hid hzg
              cases y0 : (y == 0) with
              | false =>
                have Y0 := Lib.hid y0
                have gb5 := grow_cell b5
                have gb6 := grow_cell b6
                have gb7 := grow_cell b7
                have gb8 := grow_cell b8
                go_wp2_with fail
                refine wp_region_rel_all (fun i => if i = 7 then some (spV (.bool true)) else none) (by kernel_rfl) (by kernel_rfl) ?_
                repeat (first
                  | (refine wpRel_quick ?_ ?_ ?_ ?_
                     · rfl
                     · rfl
                     · first | exact noEnter rfl | (intro f args W W'; go_simp)
                     intro K hK
                     go_big_quiet_op
                     go_big_quiet_on)
                  | (refine wpRel_skip ?_ ?_
                     · rfl
                     simp only [Act.put, List.setIfInBounds_toArray, List.set_cons_zero, List.set_cons_succ]))
                refine wpRel_rich _ rfl rfl (fun W hW => ?_) (fun v W3 hW3 hv => ?_)
                · have hc := (HF.out ▸ form_any g h W)
                  go_simp
                  refine Calls.mono hc ?_
                  rintro e w' ⟨rfl, h⟩
                  exact ⟨_, rfl, rfl, by first | exact h | (subst h; exact Ext.refl _)⟩
                obtain rfl := hv
                clear hW3
                simp only [Act.put, List.setIfInBounds_toArray, List.set_cons_zero, List.set_cons_succ]
                repeat (first
                  | (refine wpRel_quick ?_ ?_ ?_ ?_
                     · rfl
                     · rfl
                     · first | exact noEnter rfl | (intro f args W W'; go_simp)
                     intro K hK
                     go_big_quiet_op
                     go_big_quiet_on)
                  | (refine wpRel_skip ?_ ?_
                     · rfl
                     simp only [Act.put, List.setIfInBounds_toArray, List.set_cons_zero, List.set_cons_succ]))
                refine wpRel_nil ?_
                intro W3 hW3
                have HE3 := Lib.hid (HE.out.trans ((Ext.refl _).drew.trans hW3.1))
                clear hW3 gb5 gb6 gb7 gb8
                go_wp2_with fail
                go_ret
                exact ⟨ret_bool (by rw [HB.out, HFL.out, N1.out, HF.out, HG0.out, HZG.out, Y0.out]; simp), HX0.out.trans HE3.out⟩
              | true =>
                have Y0 := Lib.hid y0
                have gb5 := grow_cell b5
                have gb6 := grow_cell b6
                have gb7 := grow_cell b7
                have gb8 := grow_cell b8
                go_wp2_with fail
                refine wp_region_rel_all (fun i => if i = 7 then some (spV (.bool true)) else none) (by kernel_rfl) (by kernel_rfl) ?_
                repeat (first
                  | (refine wpRel_quick ?_ ?_ ?_ ?_
                     · rfl
                     · rfl
                     · first | exact noEnter rfl | (intro f args W W'; go_simp)
                     intro K hK
                     go_big_quiet_op
                     go_big_quiet_on)
                  | (refine wpRel_skip ?_ ?_
                     · rfl
                     simp only [Act.put, List.setIfInBounds_toArray, List.set_cons_zero, List.set_cons_succ]))
                refine wpRel_rich _ rfl rfl (fun W hW => ?_) (fun v W3 hW3 hv => ?_)
                · have hc := (HF.out ▸ form_any g h W)
                  go_simp
                  refine Calls.mono hc ?_
                  rintro e w' ⟨rfl, h⟩
                  exact ⟨_, rfl, rfl, by first | exact h | (subst h; exact Ext.refl _)⟩
                obtain rfl := hv
                clear hW3
                simp only [Act.put, List.setIfInBounds_toArray, List.set_cons_zero, List.set_cons_succ]
                repeat (first
                  | (refine wpRel_quick ?_ ?_ ?_ ?_
                     · rfl
                     · rfl
                     · first | exact noEnter rfl | (intro f args W W'; go_simp)
                     intro K hK
                     go_big_quiet_op
                     go_big_quiet_on)
                  | (refine wpRel_skip ?_ ?_
                     · rfl
                     simp only [Act.put, List.setIfInBounds_toArray, List.set_cons_zero, List.set_cons_succ]))
                refine wpRel_nil ?_
                intro W3 hW3
                have HE3 := Lib.hid (HE.out.trans ((Ext.refl _).drew.trans hW3.1))
                clear hW3 gb5 gb6 gb7 gb8
                go_wp2_with fail
                go_ret
                exact ⟨ret_bool (by rw [HB.out, HFL.out, N1.out, HF.out, HG0.out, HZG.out, Y0.out]; simp), HX0.out.trans HE3.out⟩
end Go.Proofs.YtahaplioegeloaaDoor
