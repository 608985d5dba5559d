/- Requests: Check of the program, whole. -/
import Derived.Test.YtahaplioegeloaaDoorQ2
namespace Go.Proofs.YtahaplioegeloaaDoor
open Go.RowKit Go.Sz
set_option maxRecDepth 100000 in
set_option maxHeartbeats 6400000 in
theorem check_bad (c n s k t g h y : Int) (ch : List Bd) (ao : Option Addr) (cap : Nat) (w : World) (hbad : ¬ (0 ≤ c ∧ c < 7 ∧ 1 ≤ n ∧ n ≤ 1048576 ∧ 0 ≤ s ∧ s < 20000 ∧ 1 ≤ t ∧ t ≤ 1048576 ∧ 1 ≤ k ∧ k ≤ 5)) : Calls Tryd.prog 15 #[.agg #[.int .i64 c, .int .i64 n, .int .i64 s, .int .i64 k, .int .i64 t, .slice ao ch.length cap, .int .i64 g, .int .i64 h, .int .i64 y]] w fun e w' => e = .returned (.int .i64 290) ∧ Ext w w' := by
  have HX : Hid (Ext w (w.alloc (.cells #[.int .i64 c, .int .i64 n, .int .i64 s, .int .i64 k, .int .i64 t, .slice ao ch.length cap, .int .i64 g, .int .i64 h, .int .i64 y] 26))) := Lib.hid ((Ext.refl w).alloc _)
  obtain ⟨b0', b1, b2, b3, b4, -, -, -, -, -⟩ := BoxQ.new w ⟨c, n, s, k, t, ch, g, h, y⟩ ao cap 26 _ rfl
  unfold Rq.cells at b0' b1 b2 b3 b4
  dsimp only at b0' b1 b2 b3 b4
  have HBAD := Lib.hid hbad
  clear hbad
  by_cases q0 : c < 0
  · have g0 : c < 0 := by omega
    go_enter Tryd.func15, Tryd.ntmps15
    go_wp2_with fail
    go_ret
    exact ⟨rfl, HX.out⟩
  · have g0 : (0 : Int) ≤ c := by omega
    have g0' : ¬ c < 0 := by omega
    by_cases q1 : 6 < c
    · have g1 : (7 : Int) ≤ c := by omega
      go_enter Tryd.func15, Tryd.ntmps15
      go_wp2_with fail
      go_ret
      exact ⟨rfl, HX.out⟩
    · have g1 : c < 7 := by omega
      have g1' : ¬ (7 : Int) ≤ c := by omega
      by_cases q2 : n < 1
      · have g2 : n < 1 := by omega
        go_enter Tryd.func15, Tryd.ntmps15
        go_wp2_with fail
        go_ret
        exact ⟨rfl, HX.out⟩
      · have g2 : (1 : Int) ≤ n := by omega
        have g2' : ¬ n < 1 := by omega
        by_cases q3 : 1048576 < n
        · have g3 : (1048576 : Int) < n := by omega
          go_enter Tryd.func15, Tryd.ntmps15
          go_wp2_with fail
          go_ret
          exact ⟨rfl, HX.out⟩
        · have g3 : n ≤ 1048576 := by omega
          have g3' : ¬ (1048576 : Int) < n := by omega
          by_cases q4 : s < 0
          · have g4 : s < 0 := by omega
            go_enter Tryd.func15, Tryd.ntmps15
            go_wp2_with fail
            go_ret
            exact ⟨rfl, HX.out⟩
          · have g4 : (0 : Int) ≤ s := by omega
            have g4' : ¬ s < 0 := by omega
            by_cases q5 : 19999 < s
            · have g5 : (20000 : Int) ≤ s := by omega
              go_enter Tryd.func15, Tryd.ntmps15
              go_wp2_with fail
              go_ret
              exact ⟨rfl, HX.out⟩
            · have g5 : s < 20000 := by omega
              have g5' : ¬ (20000 : Int) ≤ s := by omega
              by_cases q6 : t < 1
              · have g6 : t < 1 := by omega
                go_enter Tryd.func15, Tryd.ntmps15
                go_wp2_with fail
                go_ret
                exact ⟨rfl, HX.out⟩
              · have g6 : (1 : Int) ≤ t := by omega
                have g6' : ¬ t < 1 := by omega
                by_cases q7 : 1048576 < t
                · have g7 : (1048576 : Int) < t := by omega
                  go_enter Tryd.func15, Tryd.ntmps15
                  go_wp2_with fail
                  go_ret
                  exact ⟨rfl, HX.out⟩
                · have g7 : t ≤ 1048576 := by omega
                  have g7' : ¬ (1048576 : Int) < t := by omega
                  by_cases q8 : k < 1
                  · have g8 : k < 1 := by omega
                    go_enter Tryd.func15, Tryd.ntmps15
                    go_wp2_with fail
                    go_ret
                    exact ⟨rfl, HX.out⟩
                  · have g8 : (1 : Int) ≤ k := by omega
                    have g8' : ¬ k < 1 := by omega
                    by_cases q9 : 5 < k
                    · have g9 : (5 : Int) < k := by omega
                      go_enter Tryd.func15, Tryd.ntmps15
                      go_wp2_with fail
                      go_ret
                      exact ⟨rfl, HX.out⟩
                    · have g9 : k ≤ 5 := by omega
                      have g9' : ¬ (5 : Int) < k := by omega
                      exact absurd (show 0 ≤ c ∧ c < 7 ∧ 1 ≤ n ∧ n ≤ 1048576 ∧ 0 ≤ s ∧ s < 20000 ∧ 1 ≤ t ∧ t ≤ 1048576 ∧ 1 ≤ k ∧ k ≤ 5 by omega) HBAD.out
theorem checkQ_any (r : Rq) (ao : Option Addr) (cap : Nat) (w : World) (hr : RepB w ao cap r.ch) (hl : r.ch.length ≤ 1000000) (hk : Kinds w) : Calls Tryd.prog 15 #[.agg (r.cells ao cap).toArray] w fun e w' => e = .returned (.int .i64 (checkQ r)) ∧ Ext w w' := by
  obtain ⟨c, n, s, k, t, ch, g, h, y⟩ := r
  by_cases hg : 0 ≤ c ∧ c < 7 ∧ 1 ≤ n ∧ n ≤ 1048576 ∧ 0 ≤ s ∧ s < 20000 ∧ 1 ≤ t ∧ t ≤ 1048576 ∧ 1 ≤ k ∧ k ≤ 5
  · obtain ⟨h1, h2, h3, h4, h5, h6, h7, h8, h9, h10⟩ := hg
    have hh : ∀ k, 1 ≤ k → k ≤ 5 → checkQ ⟨c, n, s, k, t, ch, g, h, y⟩ = resQ (bodyB (leastQ k) (mostQ k) (k == 2 || k == 3) (k == 1) ch g h y) := fun k q1 q2 => by
      unfold checkQ validQ headQ kindQ
      dsimp only
      rw [decide_eq_true h1, decide_eq_true h2, decide_eq_true h3, decide_eq_true h4, decide_eq_true h5, decide_eq_true h6, decide_eq_true h7, decide_eq_true h8, decide_eq_true q1, decide_eq_true q2]
      rfl
    obtain rfl | rfl | rfl | rfl | rfl : k = 1 ∨ k = 2 ∨ k = 3 ∨ k = 4 ∨ k = 5 := by omega
    · rw [hh 1 (by omega) (by omega)]
      exact check_in c n s t g h y ch ao cap w hr hl hk h1 h2 h3 h4 h5 h6 h7 h8 1 (by omega) (by omega) 1 8 false true rfl rfl rfl rfl
    · rw [hh 2 (by omega) (by omega)]
      exact check_in c n s t g h y ch ao cap w hr hl hk h1 h2 h3 h4 h5 h6 h7 h8 2 (by omega) (by omega) 0 0 true false rfl rfl rfl rfl
    · rw [hh 3 (by omega) (by omega)]
      exact check_in c n s t g h y ch ao cap w hr hl hk h1 h2 h3 h4 h5 h6 h7 h8 3 (by omega) (by omega) 1 1 true false rfl rfl rfl rfl
    · rw [hh 4 (by omega) (by omega)]
      exact check_in c n s t g h y ch ao cap w hr hl hk h1 h2 h3 h4 h5 h6 h7 h8 4 (by omega) (by omega) 1 1 false false rfl rfl rfl rfl
    · rw [hh 5 (by omega) (by omega)]
      exact check_in c n s t g h y ch ao cap w hr hl hk h1 h2 h3 h4 h5 h6 h7 h8 5 (by omega) (by omega) 1 1 false false rfl rfl rfl rfl
  · have hc : checkQ ⟨c, n, s, k, t, ch, g, h, y⟩ = 290 := by
      unfold checkQ validQ
      have : (headQ ⟨c, n, s, k, t, ch, g, h, y⟩ && kindQ ⟨c, n, s, k, t, ch, g, h, y⟩) = false := by
        rw [Bool.eq_false_iff]
        intro hq
        unfold headQ kindQ at hq
        simp only [Bool.and_eq_true, decide_eq_true_eq] at hq
        exact hg (by omega)
      rw [this]
      rfl
    rw [hc]
    exact check_bad c n s k t g h y ch ao cap w hg
end Go.Proofs.YtahaplioegeloaaDoor
namespace Go.Sz
open Go.RowKit
def formL (l : List Bd) : Bool := (List.range l.length).all (formAt l)
def freshL (l : List Bd) : Bool := (List.range l.length).all (freshAt l)
def zeroB (g h : Int) : Bool := g == 0 && h == 0
def refB (k : Int) (l : List Bd) (g h y : Int) : Bool := formL l && (if k = 1 then freshL l && (decide (1 ≤ (l.length : Int)) && decide ((l.length : Int) ≤ 8) && zeroB g h && decide (0 ≤ y) && decide (y ≤ 1048576)) else if k = 2 then ((l.length : Int) == 0) && formB g h && (y == 0) else if k = 3 then ((l.length : Int) == 1) && formB g h && ((l.getD 0 b0).1 != g) && (y == 0) else if k = 4 ∨ k = 5 then ((l.length : Int) == 1) && zeroB g h && (y == 0) else false)
theorem goodL_eq (l : List Bd) : goodL l l.length = (formL l && freshL l) := by
  unfold goodL formL freshL
  generalize l.length = n
  induction n with
  | zero => rfl
  | succ n ih => rw [range_all_succ, range_all_succ, range_all_succ, ih]; cases (List.range n).all (formAt l) <;> cases (List.range n).all (freshAt l) <;> cases formAt l n <;> cases freshAt l n <;> rfl
theorem freshL_one {l : List Bd} (h : l.length ≤ 1) : freshL l = true := by
  unfold freshL
  rw [List.all_eq_true]
  intro i hi
  have : i = 0 := by have := List.mem_range.1 hi; omega
  subst this
  unfold freshAt
  simp
theorem refB_eq {k : Int} (q1 : 1 ≤ k) (q2 : k ≤ 5) (l : List Bd) (g h y : Int) : refB k l g h y = bodyB (leastQ k) (mostQ k) (k == 2 || k == 3) (k == 1) l g h y := by
  unfold refB bodyB lenB giveB keyB leastQ mostQ zeroB
  rw [goodL_eq]
  obtain rfl | rfl | rfl | rfl | rfl : k = 1 ∨ k = 2 ∨ k = 3 ∨ k = 4 ∨ k = 5 := by omega
  · simp
    cases formL l <;> cases freshL l <;> simp
    rw [Bool.eq_iff_iff]
    simp
    omega
  · by_cases hl : l.length = 0
    · have := List.eq_nil_of_length_eq_zero hl
      subst this
      simp [freshL_one (l := []) (by simp), Bool.and_assoc]
    · have h1 : ¬ ((l.length : Int) ≤ 0) := by omega
      have h2 : ¬ ((l.length : Int) = 0) := by omega
      have h3 : l ≠ [] := fun e => hl (by rw [e]; rfl)
      have h6 : ((l.length : Int) == 0) = false := by rw [beq_eq_false_iff_ne]; omega
      simp [h3, h6]
  · by_cases hl : l.length = 1
    · have hf := freshL_one (l := l) (by omega)
      have h2 : l ≠ [] := fun e => by rw [e] at hl; simp at hl
      simp [hl, hf]
      cases formL l <;> cases formB g h <;> simp
    · by_cases h3 : (1 : Int) ≤ (l.length : Int)
      · have h4 : ¬ (l.length : Int) ≤ 1 := by omega
        have h5 : ¬ (l.length : Int) = 1 := by omega
        simp [h4, h5]
      · have h5 : ¬ (l.length : Int) = 1 := by omega
        simp [h3, h5]
  all_goals
    by_cases hl : l.length = 1
    · have hf := freshL_one (l := l) (by omega)
      simp [hl, hf, Bool.and_assoc]
    · by_cases h3 : (1 : Int) ≤ (l.length : Int)
      · have h4 : ¬ (l.length : Int) ≤ 1 := by omega
        have h5 : ¬ (l.length : Int) = 1 := by omega
        simp [h4, h5]
      · have h5 : ¬ (l.length : Int) = 1 := by omega
        simp [h3, h5]
end Go.Sz
