/- Requests: Valid and Check of the reference: the walks. -/
import Derived.Test.YtahaplioegeloaaDoorQC
namespace Go.Proofs.YtahaplioegeloaaDoor
open Go.RowKit Go.Sz
set_option maxRecDepth 100000 in
set_option maxHeartbeats 12800000 in
theorem refValid_bad (c n s k t g h y : Int) (ch : List Bd) (ao : Option Addr) (cap : Nat) (w : World) (hbad : ¬ (0 ≤ c ∧ c < 7 ∧ 1 ≤ n ∧ n ≤ 1048576 ∧ 0 ≤ s ∧ s < 20000 ∧ 1 ≤ t ∧ t ≤ 1048576)) : Calls Tryd.prog 33 #[.agg #[.int .i64 c, .int .i64 n, .int .i64 s, .int .i64 k, .int .i64 t, .slice ao ch.length cap, .int .i64 g, .int .i64 h, .int .i64 y]] w fun e w' => e = .returned (.bool false) ∧ Ext w w' := by
  have HX : Hid (Ext w (w.alloc (.cells #[.int .i64 c, .int .i64 n, .int .i64 s, .int .i64 k, .int .i64 t, .slice ao ch.length cap, .int .i64 g, .int .i64 h, .int .i64 y] 26))) := Lib.hid ((Ext.refl w).alloc _)
  obtain ⟨b0', b1, b2, b3, b4, -, -, -, -, -⟩ := BoxQ.new w ⟨c, n, s, k, t, ch, g, h, y⟩ ao cap 26 _ rfl
  unfold Rq.cells at b0' b1 b2 b3 b4
  dsimp only at b0' b1 b2 b3 b4
  have HBAD := Lib.hid hbad
  clear hbad
  by_cases q0 : c < 0
  · have g0 : c < 0 := by omega
    go_enter Tryd.func33, Tryd.ntmps33
    go_wp2_with fail
    go_ret
    exact ⟨rfl, HX.out⟩
  · have g0 : (0 : Int) ≤ c := by omega
    have g0' : ¬ c < 0 := by omega
    by_cases q1 : 6 < c
    · have g1 : (7 : Int) ≤ c := by omega
      go_enter Tryd.func33, Tryd.ntmps33
      go_wp2_with fail
      go_ret
      exact ⟨rfl, HX.out⟩
    · have g1 : c < 7 := by omega
      have g1' : ¬ (7 : Int) ≤ c := by omega
      by_cases q2 : n < 1
      · have g2 : n < 1 := by omega
        go_enter Tryd.func33, Tryd.ntmps33
        go_wp2_with fail
        go_ret
        exact ⟨rfl, HX.out⟩
      · have g2 : (1 : Int) ≤ n := by omega
        have g2' : ¬ n < 1 := by omega
        by_cases q3 : 1048576 < n
        · have g3 : (1048576 : Int) < n := by omega
          go_enter Tryd.func33, Tryd.ntmps33
          go_wp2_with fail
          go_ret
          exact ⟨rfl, HX.out⟩
        · have g3 : n ≤ 1048576 := by omega
          have g3' : ¬ (1048576 : Int) < n := by omega
          by_cases q4 : s < 0
          · have g4 : s < 0 := by omega
            go_enter Tryd.func33, Tryd.ntmps33
            go_wp2_with fail
            go_ret
            exact ⟨rfl, HX.out⟩
          · have g4 : (0 : Int) ≤ s := by omega
            have g4' : ¬ s < 0 := by omega
            by_cases q5 : 19999 < s
            · have g5 : (20000 : Int) ≤ s := by omega
              go_enter Tryd.func33, Tryd.ntmps33
              go_wp2_with fail
              go_ret
              exact ⟨rfl, HX.out⟩
            · have g5 : s < 20000 := by omega
              have g5' : ¬ (20000 : Int) ≤ s := by omega
              by_cases q6 : t < 1
              · have g6 : t < 1 := by omega
                go_enter Tryd.func33, Tryd.ntmps33
                go_wp2_with fail
                go_ret
                exact ⟨rfl, HX.out⟩
              · have g6 : (1 : Int) ≤ t := by omega
                have g6' : ¬ t < 1 := by omega
                by_cases q7 : 1048576 < t
                · have g7 : (1048576 : Int) < t := by omega
                  go_enter Tryd.func33, Tryd.ntmps33
                  go_wp2_with fail
                  go_ret
                  exact ⟨rfl, HX.out⟩
                · have g7 : t ≤ 1048576 := by omega
                  have g7' : ¬ (1048576 : Int) < t := by omega
                  exact absurd (show 0 ≤ c ∧ c < 7 ∧ 1 ≤ n ∧ n ≤ 1048576 ∧ 0 ≤ s ∧ s < 20000 ∧ 1 ≤ t ∧ t ≤ 1048576 by omega) HBAD.out
set_option maxRecDepth 100000 in
set_option maxHeartbeats 12800000 in
theorem refValid_2 (c n s t g h y : Int) (ch : List Bd) (ao : Option Addr) (cap : Nat) (w : World) (hr : RepB w ao cap ch) (h1 : 0 ≤ c) (h2 : c < 7) (h3 : 1 ≤ n) (h4 : n ≤ 1048576) (h5 : 0 ≤ s) (h6 : s < 20000) (h7 : 1 ≤ t) (h8 : t ≤ 1048576) : Calls Tryd.prog 33 #[.agg #[.int .i64 c, .int .i64 n, .int .i64 s, .int .i64 2, .int .i64 t, .slice ao ch.length cap, .int .i64 g, .int .i64 h, .int .i64 y]] w fun e w' => e = .returned (.bool (refB 2 ch g h y)) ∧ Ext w w' := by
  have hs1 := hr.max
  have hX0 : Ext w (w.alloc (.cells #[.int .i64 c, .int .i64 n, .int .i64 s, .int .i64 2, .int .i64 t, .slice ao ch.length cap, .int .i64 g, .int .i64 h, .int .i64 y] 26)) := (Ext.refl w).alloc _
  have hbx : BoxQ (w.alloc (.cells #[.int .i64 c, .int .i64 n, .int .i64 s, .int .i64 2, .int .i64 t, .slice ao ch.length cap, .int .i64 g, .int .i64 h, .int .i64 y] 26)) w.heap.size ⟨c, n, s, 2, t, ch, g, h, y⟩ ao cap := BoxQ.new w ⟨c, n, s, 2, t, ch, g, h, y⟩ ao cap 26 _ rfl
  have HBX := Lib.hid hbx
  have HX0 := Lib.hid hX0
  have HRB := Lib.hid (hr.ext hX0)
  obtain ⟨b0', b1, b2, b3, b4, b5, b6, b7, b8, -⟩ := hbx
  try dsimp only at b0' b1 b2 b3 b4 b5 b6 b7 b8
  have HB : Hid (refB 2 ch g h y = (formL ch && (((ch.length : Int) == 0) && formB g h && (y == 0)))) := Lib.hid rfl
  have HNF : Hid (formL ch = false → refB 2 ch g h y = false) := Lib.hid fun hf => by rw [HB.out, hf]; rfl
  clear hr hX0
  go_enter Tryd.func33, Tryd.ntmps33
  go_wp2_with fail
  clear b0' b1 b2 b3 b4 b5 b6 b7 b8
  generalize (w.alloc (.cells #[.int .i64 c, .int .i64 n, .int .i64 s, .int .i64 2, .int .i64 t, .slice ao ch.length cap, .int .i64 g, .int .i64 h, .int .i64 y] 26)) = w1 at *
  go_loopw [3] (fun jv wr => ∃ j : Nat, jv = .int .i64 j ∧ j ≤ ch.length ∧ (List.range j).all (formAt ch) = true ∧ Ext w1 wr) (fun jv _ => ch.length - (intOf jv).toNat)
  case atStart => exact ⟨0, rfl, by omega, rfl, Ext.refl _⟩
  case round =>
    obtain ⟨j, rfl, hj, hfo, hE⟩ := hrel
    obtain ⟨wb, hwb⟩ : ∃ wb, wb = wr := ⟨_, rfl⟩
    subst hwb
    have HFO := Lib.hid hfo
    have HE := Lib.hid hE
    clear hfo hE
    obtain ⟨b0', b1, b2, b3, b4, b5, b6, b7, b8, -⟩ := HBX.out.ext HE.out
    try dsimp only at b0' b1 b2 b3 b4 b5 b6 b7 b8
    by_cases hlt : j < ch.length
    · have hji : (j : Int) < (ch.length : Int) := by omega
      obtain ⟨bb, o, hao, c0, c1⟩ := b_cells HRB.out HE.out hlt
      subst hao
      have HFA : Hid (formAt ch j = formB ch[j].1 ch[j].2) := Lib.hid (by unfold formAt; rw [getB hlt])
      generalize ch[j] = x at *
      clear b0' b1 b2 b3 b4 b6 b7 b8
      cases hf : formB x.1 x.2 with
      | false =>
        have HNV : Hid (formL ch = false) := Lib.hid (by
          rw [Bool.eq_false_iff]
          intro ha
          unfold formL at ha
          rw [List.all_eq_true] at ha
          have := ha j (List.mem_range.2 hlt)
          rw [HFA.out, hf] at this
          cases this)
        have HF := Lib.hid hf
        clear hf
        go_wp2_with (go_at_call 51; refine (HF.out ▸ form_any x.1 x.2 _).mono ?_; rintro e w2 ⟨rfl, hE2⟩)
        go_ret
        exact ⟨ret_bool (HNF.out HNV.out).symm, HX0.out.trans (HE.out.trans hE2)⟩
      | true =>
        have HF := Lib.hid hf
        clear hf
        go_wp2_with (go_at_call 51; refine (HF.out ▸ form_any x.1 x.2 _).mono ?_; rintro e w2 ⟨rfl, hE2⟩)
        go_roundw
        case rel => exact ⟨j + 1, by go_num, by omega, by rw [range_all_succ, HFO.out, HFA.out, HF.out]; rfl, HE.out.trans hE2⟩
        case measure => simp [intOf] <;> omega
    · have hji : ¬ (j : Int) < (ch.length : Int) := by omega
      have HFL : Hid (formL ch = true) := Lib.hid (by
        have : j = ch.length := by omega
        unfold formL
        rw [← this, HFO.out])
      have he := eqB g h 0 0
      have HZD : Hid (zeroB g h = (g == 0 && h == 0)) := Lib.hid rfl
      clear b0' b1 b2 b4
      cases z0 : (g == 0 && h == 0) with
      | true =>
        rw [z0] at he
        have HZ : Hid (zeroB g h = true) := Lib.hid (by rw [HZD.out, z0])
        clear z0
        cases n0 : ((ch.length : Int) == 0) with
        | false =>
          have N0 := Lib.hid n0
          go_wp2_with fail
          go_ret
          exact ⟨ret_bool (by rw [HB.out, HFL.out, N0.out]; simp), HX0.out.trans HE.out⟩
        | true =>
          have N0 := Lib.hid n0
          have HBX8 := Lib.hid (HBX.out.ext HE.out).c8
          clear b8
          cases hf : formB g h with
          | false =>
            have HF := Lib.hid hf
            clear hf
            go_wp2_with (go_at_call 51; refine (HF.out ▸ form_any g h _).mono ?_; rintro e w2 ⟨rfl, hE2⟩)
            go_ret
            exact ⟨ret_bool (by rw [HB.out, HFL.out, N0.out, HF.out]; simp), HX0.out.trans (HE.out.trans hE2)⟩
          | true =>
            have HF := Lib.hid hf
            clear hf
            cases y0 : (y == 0) with
            | false =>
              have Y0 := Lib.hid y0
              go_wp2_with (go_at_call 51; refine (HF.out ▸ form_any g h _).mono ?_; rintro e w2 ⟨rfl, hE2⟩; have b8 := hE2.cell HBX8.out)
              go_ret
              exact ⟨ret_bool (by rw [HB.out, HFL.out, N0.out, HF.out, Y0.out]; simp), HX0.out.trans (HE.out.trans hE2)⟩
            | true =>
              have Y0 := Lib.hid y0
              go_wp2_with (go_at_call 51; refine (HF.out ▸ form_any g h _).mono ?_; rintro e w2 ⟨rfl, hE2⟩; have b8 := hE2.cell HBX8.out)
              go_ret
              exact ⟨ret_bool (by rw [HB.out, HFL.out, N0.out, HF.out, Y0.out]; simp), HX0.out.trans (HE.out.trans hE2)⟩
      | false =>
        rw [z0] at he
        have HZ : Hid (zeroB g h = false) := Lib.hid (by rw [HZD.out, z0])
        clear z0
        cases n0 : ((ch.length : Int) == 0) with
        | false =>
          have N0 := Lib.hid n0
          go_wp2_with fail
          go_ret
          exact ⟨ret_bool (by rw [HB.out, HFL.out, N0.out]; simp), HX0.out.trans HE.out⟩
        | true =>
          have N0 := Lib.hid n0
          have HBX8 := Lib.hid (HBX.out.ext HE.out).c8
          clear b8
          cases hf : formB g h with
          | false =>
            have HF := Lib.hid hf
            clear hf
            go_wp2_with (go_at_call 51; refine (HF.out ▸ form_any g h _).mono ?_; rintro e w2 ⟨rfl, hE2⟩)
            go_ret
            exact ⟨ret_bool (by rw [HB.out, HFL.out, N0.out, HF.out]; simp), HX0.out.trans (HE.out.trans hE2)⟩
          | true =>
            have HF := Lib.hid hf
            clear hf
            cases y0 : (y == 0) with
            | false =>
              have Y0 := Lib.hid y0
              go_wp2_with (go_at_call 51; refine (HF.out ▸ form_any g h _).mono ?_; rintro e w2 ⟨rfl, hE2⟩; have b8 := hE2.cell HBX8.out)
              go_ret
              exact ⟨ret_bool (by rw [HB.out, HFL.out, N0.out, HF.out, Y0.out]; simp), HX0.out.trans (HE.out.trans hE2)⟩
            | true =>
              have Y0 := Lib.hid y0
              go_wp2_with (go_at_call 51; refine (HF.out ▸ form_any g h _).mono ?_; rintro e w2 ⟨rfl, hE2⟩; have b8 := hE2.cell HBX8.out)
              go_ret
              exact ⟨ret_bool (by rw [HB.out, HFL.out, N0.out, HF.out, Y0.out]; simp), HX0.out.trans (HE.out.trans hE2)⟩
set_option maxRecDepth 100000 in
set_option maxHeartbeats 12800000 in
theorem refValid_4 (c n s t g h y : Int) (ch : List Bd) (ao : Option Addr) (cap : Nat) (w : World) (hr : RepB w ao cap ch) (h1 : 0 ≤ c) (h2 : c < 7) (h3 : 1 ≤ n) (h4 : n ≤ 1048576) (h5 : 0 ≤ s) (h6 : s < 20000) (h7 : 1 ≤ t) (h8 : t ≤ 1048576) : Calls Tryd.prog 33 #[.agg #[.int .i64 c, .int .i64 n, .int .i64 s, .int .i64 4, .int .i64 t, .slice ao ch.length cap, .int .i64 g, .int .i64 h, .int .i64 y]] w fun e w' => e = .returned (.bool (refB 4 ch g h y)) ∧ Ext w w' := by
  have hs1 := hr.max
  have hX0 : Ext w (w.alloc (.cells #[.int .i64 c, .int .i64 n, .int .i64 s, .int .i64 4, .int .i64 t, .slice ao ch.length cap, .int .i64 g, .int .i64 h, .int .i64 y] 26)) := (Ext.refl w).alloc _
  have hbx : BoxQ (w.alloc (.cells #[.int .i64 c, .int .i64 n, .int .i64 s, .int .i64 4, .int .i64 t, .slice ao ch.length cap, .int .i64 g, .int .i64 h, .int .i64 y] 26)) w.heap.size ⟨c, n, s, 4, t, ch, g, h, y⟩ ao cap := BoxQ.new w ⟨c, n, s, 4, t, ch, g, h, y⟩ ao cap 26 _ rfl
  have HBX := Lib.hid hbx
  have HX0 := Lib.hid hX0
  have HRB := Lib.hid (hr.ext hX0)
  obtain ⟨b0', b1, b2, b3, b4, b5, b6, b7, b8, -⟩ := hbx
  try dsimp only at b0' b1 b2 b3 b4 b5 b6 b7 b8
  have HB : Hid (refB 4 ch g h y = (formL ch && (((ch.length : Int) == 1) && zeroB g h && (y == 0)))) := Lib.hid rfl
  have HNF : Hid (formL ch = false → refB 4 ch g h y = false) := Lib.hid fun hf => by rw [HB.out, hf]; rfl
  clear hr hX0
  go_enter Tryd.func33, Tryd.ntmps33
  go_wp2_with fail
  clear b0' b1 b2 b3 b4 b5 b6 b7 b8
  generalize (w.alloc (.cells #[.int .i64 c, .int .i64 n, .int .i64 s, .int .i64 4, .int .i64 t, .slice ao ch.length cap, .int .i64 g, .int .i64 h, .int .i64 y] 26)) = w1 at *
  go_loopw [3] (fun jv wr => ∃ j : Nat, jv = .int .i64 j ∧ j ≤ ch.length ∧ (List.range j).all (formAt ch) = true ∧ Ext w1 wr) (fun jv _ => ch.length - (intOf jv).toNat)
  case atStart => exact ⟨0, rfl, by omega, rfl, Ext.refl _⟩
  case round =>
    obtain ⟨j, rfl, hj, hfo, hE⟩ := hrel
    obtain ⟨wb, hwb⟩ : ∃ wb, wb = wr := ⟨_, rfl⟩
    subst hwb
    have HFO := Lib.hid hfo
    have HE := Lib.hid hE
    clear hfo hE
    obtain ⟨b0', b1, b2, b3, b4, b5, b6, b7, b8, -⟩ := HBX.out.ext HE.out
    try dsimp only at b0' b1 b2 b3 b4 b5 b6 b7 b8
    by_cases hlt : j < ch.length
    · have hji : (j : Int) < (ch.length : Int) := by omega
      obtain ⟨bb, o, hao, c0, c1⟩ := b_cells HRB.out HE.out hlt
      subst hao
      have HFA : Hid (formAt ch j = formB ch[j].1 ch[j].2) := Lib.hid (by unfold formAt; rw [getB hlt])
      generalize ch[j] = x at *
      clear b0' b1 b2 b3 b4 b6 b7 b8
      cases hf : formB x.1 x.2 with
      | false =>
        have HNV : Hid (formL ch = false) := Lib.hid (by
          rw [Bool.eq_false_iff]
          intro ha
          unfold formL at ha
          rw [List.all_eq_true] at ha
          have := ha j (List.mem_range.2 hlt)
          rw [HFA.out, hf] at this
          cases this)
        have HF := Lib.hid hf
        clear hf
        go_wp2_with (go_at_call 51; refine (HF.out ▸ form_any x.1 x.2 _).mono ?_; rintro e w2 ⟨rfl, hE2⟩)
        go_ret
        exact ⟨ret_bool (HNF.out HNV.out).symm, HX0.out.trans (HE.out.trans hE2)⟩
      | true =>
        have HF := Lib.hid hf
        clear hf
        go_wp2_with (go_at_call 51; refine (HF.out ▸ form_any x.1 x.2 _).mono ?_; rintro e w2 ⟨rfl, hE2⟩)
        go_roundw
        case rel => exact ⟨j + 1, by go_num, by omega, by rw [range_all_succ, HFO.out, HFA.out, HF.out]; rfl, HE.out.trans hE2⟩
        case measure => simp [intOf] <;> omega
    · have hji : ¬ (j : Int) < (ch.length : Int) := by omega
      have HFL : Hid (formL ch = true) := Lib.hid (by
        have : j = ch.length := by omega
        unfold formL
        rw [← this, HFO.out])
      have he := eqB g h 0 0
      have HZD : Hid (zeroB g h = (g == 0 && h == 0)) := Lib.hid rfl
      clear b0' b1 b2 b4
      cases z0 : (g == 0 && h == 0) with
      | true =>
        rw [z0] at he
        have HZ : Hid (zeroB g h = true) := Lib.hid (by rw [HZD.out, z0])
        clear z0
        cases n1 : ((ch.length : Int) == 1) with
        | false =>
          have N1 := Lib.hid n1
          go_wp2_with fail
          go_ret
          exact ⟨ret_bool (by rw [HB.out, HFL.out, N1.out, HZ.out]; simp), HX0.out.trans HE.out⟩
        | true =>
          have N1 := Lib.hid n1
          cases y0 : (y == 0) with
          | false =>
            have Y0 := Lib.hid y0
            go_wp2_with fail
            go_ret
            exact ⟨ret_bool (by rw [HB.out, HFL.out, N1.out, Y0.out, HZ.out]; simp), HX0.out.trans HE.out⟩
          | true =>
            have Y0 := Lib.hid y0
            go_wp2_with fail
            go_ret
            exact ⟨ret_bool (by rw [HB.out, HFL.out, N1.out, Y0.out, HZ.out]; simp), HX0.out.trans HE.out⟩
      | false =>
        rw [z0] at he
        have HZ : Hid (zeroB g h = false) := Lib.hid (by rw [HZD.out, z0])
        clear z0
        cases n1 : ((ch.length : Int) == 1) with
        | false =>
          have N1 := Lib.hid n1
          go_wp2_with fail
          go_ret
          exact ⟨ret_bool (by rw [HB.out, HFL.out, N1.out, HZ.out]; simp), HX0.out.trans HE.out⟩
        | true =>
          have N1 := Lib.hid n1
          go_wp2_with fail
          go_ret
          exact ⟨ret_bool (by rw [HB.out, HFL.out, N1.out, HZ.out]; simp), HX0.out.trans HE.out⟩
set_option maxRecDepth 100000 in
set_option maxHeartbeats 12800000 in
theorem refValid_5 (c n s t g h y : Int) (ch : List Bd) (ao : Option Addr) (cap : Nat) (w : World) (hr : RepB w ao cap ch) (h1 : 0 ≤ c) (h2 : c < 7) (h3 : 1 ≤ n) (h4 : n ≤ 1048576) (h5 : 0 ≤ s) (h6 : s < 20000) (h7 : 1 ≤ t) (h8 : t ≤ 1048576) : Calls Tryd.prog 33 #[.agg #[.int .i64 c, .int .i64 n, .int .i64 s, .int .i64 5, .int .i64 t, .slice ao ch.length cap, .int .i64 g, .int .i64 h, .int .i64 y]] w fun e w' => e = .returned (.bool (refB 5 ch g h y)) ∧ Ext w w' := by
  have hs1 := hr.max
  have hX0 : Ext w (w.alloc (.cells #[.int .i64 c, .int .i64 n, .int .i64 s, .int .i64 5, .int .i64 t, .slice ao ch.length cap, .int .i64 g, .int .i64 h, .int .i64 y] 26)) := (Ext.refl w).alloc _
  have hbx : BoxQ (w.alloc (.cells #[.int .i64 c, .int .i64 n, .int .i64 s, .int .i64 5, .int .i64 t, .slice ao ch.length cap, .int .i64 g, .int .i64 h, .int .i64 y] 26)) w.heap.size ⟨c, n, s, 5, t, ch, g, h, y⟩ ao cap := BoxQ.new w ⟨c, n, s, 5, t, ch, g, h, y⟩ ao cap 26 _ rfl
  have HBX := Lib.hid hbx
  have HX0 := Lib.hid hX0
  have HRB := Lib.hid (hr.ext hX0)
  obtain ⟨b0', b1, b2, b3, b4, b5, b6, b7, b8, -⟩ := hbx
  try dsimp only at b0' b1 b2 b3 b4 b5 b6 b7 b8
  have HB : Hid (refB 5 ch g h y = (formL ch && (((ch.length : Int) == 1) && zeroB g h && (y == 0)))) := Lib.hid rfl
  have HNF : Hid (formL ch = false → refB 5 ch g h y = false) := Lib.hid fun hf => by rw [HB.out, hf]; rfl
  clear hr hX0
  go_enter Tryd.func33, Tryd.ntmps33
  go_wp2_with fail
  clear b0' b1 b2 b3 b4 b5 b6 b7 b8
  generalize (w.alloc (.cells #[.int .i64 c, .int .i64 n, .int .i64 s, .int .i64 5, .int .i64 t, .slice ao ch.length cap, .int .i64 g, .int .i64 h, .int .i64 y] 26)) = w1 at *
  go_loopw [3] (fun jv wr => ∃ j : Nat, jv = .int .i64 j ∧ j ≤ ch.length ∧ (List.range j).all (formAt ch) = true ∧ Ext w1 wr) (fun jv _ => ch.length - (intOf jv).toNat)
  case atStart => exact ⟨0, rfl, by omega, rfl, Ext.refl _⟩
  case round =>
    obtain ⟨j, rfl, hj, hfo, hE⟩ := hrel
    obtain ⟨wb, hwb⟩ : ∃ wb, wb = wr := ⟨_, rfl⟩
    subst hwb
    have HFO := Lib.hid hfo
    have HE := Lib.hid hE
    clear hfo hE
    obtain ⟨b0', b1, b2, b3, b4, b5, b6, b7, b8, -⟩ := HBX.out.ext HE.out
    try dsimp only at b0' b1 b2 b3 b4 b5 b6 b7 b8
    by_cases hlt : j < ch.length
    · have hji : (j : Int) < (ch.length : Int) := by omega
      obtain ⟨bb, o, hao, c0, c1⟩ := b_cells HRB.out HE.out hlt
      subst hao
      have HFA : Hid (formAt ch j = formB ch[j].1 ch[j].2) := Lib.hid (by unfold formAt; rw [getB hlt])
      generalize ch[j] = x at *
      clear b0' b1 b2 b3 b4 b6 b7 b8
      cases hf : formB x.1 x.2 with
      | false =>
        have HNV : Hid (formL ch = false) := Lib.hid (by
          rw [Bool.eq_false_iff]
          intro ha
          unfold formL at ha
          rw [List.all_eq_true] at ha
          have := ha j (List.mem_range.2 hlt)
          rw [HFA.out, hf] at this
          cases this)
        have HF := Lib.hid hf
        clear hf
        go_wp2_with (go_at_call 51; refine (HF.out ▸ form_any x.1 x.2 _).mono ?_; rintro e w2 ⟨rfl, hE2⟩)
        go_ret
        exact ⟨ret_bool (HNF.out HNV.out).symm, HX0.out.trans (HE.out.trans hE2)⟩
      | true =>
        have HF := Lib.hid hf
        clear hf
        go_wp2_with (go_at_call 51; refine (HF.out ▸ form_any x.1 x.2 _).mono ?_; rintro e w2 ⟨rfl, hE2⟩)
        go_roundw
        case rel => exact ⟨j + 1, by go_num, by omega, by rw [range_all_succ, HFO.out, HFA.out, HF.out]; rfl, HE.out.trans hE2⟩
        case measure => simp [intOf] <;> omega
    · have hji : ¬ (j : Int) < (ch.length : Int) := by omega
      have HFL : Hid (formL ch = true) := Lib.hid (by
        have : j = ch.length := by omega
        unfold formL
        rw [← this, HFO.out])
      have he := eqB g h 0 0
      have HZD : Hid (zeroB g h = (g == 0 && h == 0)) := Lib.hid rfl
      clear b0' b1 b2 b4
      cases z0 : (g == 0 && h == 0) with
      | true =>
        rw [z0] at he
        have HZ : Hid (zeroB g h = true) := Lib.hid (by rw [HZD.out, z0])
        clear z0
        cases n1 : ((ch.length : Int) == 1) with
        | false =>
          have N1 := Lib.hid n1
          go_wp2_with fail
          go_ret
          exact ⟨ret_bool (by rw [HB.out, HFL.out, N1.out, HZ.out]; simp), HX0.out.trans HE.out⟩
        | true =>
          have N1 := Lib.hid n1
          cases y0 : (y == 0) with
          | false =>
            have Y0 := Lib.hid y0
            go_wp2_with fail
            go_ret
            exact ⟨ret_bool (by rw [HB.out, HFL.out, N1.out, Y0.out, HZ.out]; simp), HX0.out.trans HE.out⟩
          | true =>
            have Y0 := Lib.hid y0
            go_wp2_with fail
            go_ret
            exact ⟨ret_bool (by rw [HB.out, HFL.out, N1.out, Y0.out, HZ.out]; simp), HX0.out.trans HE.out⟩
      | false =>
        rw [z0] at he
        have HZ : Hid (zeroB g h = false) := Lib.hid (by rw [HZD.out, z0])
        clear z0
        cases n1 : ((ch.length : Int) == 1) with
        | false =>
          have N1 := Lib.hid n1
          go_wp2_with fail
          go_ret
          exact ⟨ret_bool (by rw [HB.out, HFL.out, N1.out, HZ.out]; simp), HX0.out.trans HE.out⟩
        | true =>
          have N1 := Lib.hid n1
          go_wp2_with fail
          go_ret
          exact ⟨ret_bool (by rw [HB.out, HFL.out, N1.out, HZ.out]; simp), HX0.out.trans HE.out⟩
set_option maxRecDepth 100000 in
set_option maxHeartbeats 12800000 in
theorem refValid_0 (c n s k t g h y : Int) (ch : List Bd) (ao : Option Addr) (cap : Nat) (w : World) (hr : RepB w ao cap ch) (h1 : 0 ≤ c) (h2 : c < 7) (h3 : 1 ≤ n) (h4 : n ≤ 1048576) (h5 : 0 ≤ s) (h6 : s < 20000) (h7 : 1 ≤ t) (h8 : t ≤ 1048576) (hk : ¬ (1 ≤ k ∧ k ≤ 5)) : Calls Tryd.prog 33 #[.agg #[.int .i64 c, .int .i64 n, .int .i64 s, .int .i64 k, .int .i64 t, .slice ao ch.length cap, .int .i64 g, .int .i64 h, .int .i64 y]] w fun e w' => e = .returned (.bool (refB k ch g h y)) ∧ Ext w w' := by
  have hs1 := hr.max
  have hX0 : Ext w (w.alloc (.cells #[.int .i64 c, .int .i64 n, .int .i64 s, .int .i64 k, .int .i64 t, .slice ao ch.length cap, .int .i64 g, .int .i64 h, .int .i64 y] 26)) := (Ext.refl w).alloc _
  have hbx : BoxQ (w.alloc (.cells #[.int .i64 c, .int .i64 n, .int .i64 s, .int .i64 k, .int .i64 t, .slice ao ch.length cap, .int .i64 g, .int .i64 h, .int .i64 y] 26)) w.heap.size ⟨c, n, s, k, t, ch, g, h, y⟩ ao cap := BoxQ.new w ⟨c, n, s, k, t, ch, g, h, y⟩ ao cap 26 _ rfl
  have HBX := Lib.hid hbx
  have HX0 := Lib.hid hX0
  have HRB := Lib.hid (hr.ext hX0)
  obtain ⟨b0', b1, b2, b3, b4, b5, b6, b7, b8, -⟩ := hbx
  try dsimp only at b0' b1 b2 b3 b4 b5 b6 b7 b8
  have HB : Hid (refB k ch g h y = false) := Lib.hid (by
    unfold refB
    rw [if_neg (by omega), if_neg (by omega), if_neg (by omega), if_neg (by omega)]
    simp)
  have j1 : (k == 1) = false := by rw [beq_eq_false_iff_ne]; omega
  have j2 : (k == 2) = false := by rw [beq_eq_false_iff_ne]; omega
  have j3 : (k == 3) = false := by rw [beq_eq_false_iff_ne]; omega
  have j4 : (k == 4) = false := by rw [beq_eq_false_iff_ne]; omega
  have j5 : (k == 5) = false := by rw [beq_eq_false_iff_ne]; omega
  have HNF : Hid (formL ch = false → refB k ch g h y = false) := Lib.hid fun _ => HB.out
  clear hr hX0
  go_enter Tryd.func33, Tryd.ntmps33
  go_wp2_with fail
  clear b0' b1 b2 b3 b4 b5 b6 b7 b8
  generalize (w.alloc (.cells #[.int .i64 c, .int .i64 n, .int .i64 s, .int .i64 k, .int .i64 t, .slice ao ch.length cap, .int .i64 g, .int .i64 h, .int .i64 y] 26)) = w1 at *
  go_loopw [3] (fun jv wr => ∃ j : Nat, jv = .int .i64 j ∧ j ≤ ch.length ∧ (List.range j).all (formAt ch) = true ∧ Ext w1 wr) (fun jv _ => ch.length - (intOf jv).toNat)
  case atStart => exact ⟨0, rfl, by omega, rfl, Ext.refl _⟩
  case round =>
    obtain ⟨j, rfl, hj, hfo, hE⟩ := hrel
    obtain ⟨wb, hwb⟩ : ∃ wb, wb = wr := ⟨_, rfl⟩
    subst hwb
    have HFO := Lib.hid hfo
    have HE := Lib.hid hE
    clear hfo hE
    obtain ⟨b0', b1, b2, b3, b4, b5, b6, b7, b8, -⟩ := HBX.out.ext HE.out
    try dsimp only at b0' b1 b2 b3 b4 b5 b6 b7 b8
    by_cases hlt : j < ch.length
    · have hji : (j : Int) < (ch.length : Int) := by omega
      obtain ⟨bb, o, hao, c0, c1⟩ := b_cells HRB.out HE.out hlt
      subst hao
      have HFA : Hid (formAt ch j = formB ch[j].1 ch[j].2) := Lib.hid (by unfold formAt; rw [getB hlt])
      generalize ch[j] = x at *
      clear b0' b1 b2 b3 b4 b6 b7 b8
      cases hf : formB x.1 x.2 with
      | false =>
        have HNV : Hid (formL ch = false) := Lib.hid (by
          rw [Bool.eq_false_iff]
          intro ha
          unfold formL at ha
          rw [List.all_eq_true] at ha
          have := ha j (List.mem_range.2 hlt)
          rw [HFA.out, hf] at this
          cases this)
        have HF := Lib.hid hf
        clear hf
        go_wp2_with (go_at_call 51; refine (HF.out ▸ form_any x.1 x.2 _).mono ?_; rintro e w2 ⟨rfl, hE2⟩)
        go_ret
        exact ⟨ret_bool (HNF.out HNV.out).symm, HX0.out.trans (HE.out.trans hE2)⟩
      | true =>
        have HF := Lib.hid hf
        clear hf
        go_wp2_with (go_at_call 51; refine (HF.out ▸ form_any x.1 x.2 _).mono ?_; rintro e w2 ⟨rfl, hE2⟩)
        go_roundw
        case rel => exact ⟨j + 1, by go_num, by omega, by rw [range_all_succ, HFO.out, HFA.out, HF.out]; rfl, HE.out.trans hE2⟩
        case measure => simp [intOf] <;> omega
    · have hji : ¬ (j : Int) < (ch.length : Int) := by omega
      have HFL : Hid (formL ch = true) := Lib.hid (by
        have : j = ch.length := by omega
        unfold formL
        rw [← this, HFO.out])
      have he := eqB g h 0 0
      have HZD : Hid (zeroB g h = (g == 0 && h == 0)) := Lib.hid rfl
      clear b0' b1 b2 b4
      cases z0 : (g == 0 && h == 0) with
      | true =>
        rw [z0] at he
        have HZ : Hid (zeroB g h = true) := Lib.hid (by rw [HZD.out, z0])
        clear z0
        go_wp2_with fail
        go_ret
        exact ⟨ret_bool HB.out.symm, HX0.out.trans HE.out⟩
      | false =>
        rw [z0] at he
        have HZ : Hid (zeroB g h = false) := Lib.hid (by rw [HZD.out, z0])
        clear z0
        go_wp2_with fail
        go_ret
        exact ⟨ret_bool HB.out.symm, HX0.out.trans HE.out⟩
end Go.Proofs.YtahaplioegeloaaDoor
