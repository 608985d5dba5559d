/- Offers: equality of bundles and offers; the reference's Valid, Before; Few. -/
import Derived.Test.YtbnaoefmjmlfbaaO2
import Derived.Laws.StructEq
namespace Go.Sz
open Go.RowKit
theorem orL_three (x y z : Int) : orL [x, y, z] = if x = 0 then (if y = 0 then z else y) else x := by
  simp only [orL]
  split
  · split
    · split <;> simp_all
    · rfl
  · rfl
theorem ret_bool {b c : Bool} (h : b = c) : Ending.returned (.bool b) = .returned (.bool c) := by rw [h]
theorem ret_i64 {b c : Int} (h : b = c) : Ending.returned (.int .i64 b) = .returned (.int .i64 c) := by rw [h]
theorem cmpO_neg {o p : Off} : cmpO o p < 0 ↔ o.s < p.s ∨ (o.s = p.s ∧ (o.a < p.a ∨ (o.a = p.a ∧ o.b < p.b))) := by
  unfold cmpO
  rw [orL_three]
  have h1 := @cmpI_zero o.s p.s
  have h2 := @cmpI_zero o.a p.a
  have h3 := @cmpI_neg o.s p.s
  have h4 := @cmpI_neg o.a p.a
  have h5 := @cmpI_neg o.b p.b
  split
  · split
    · constructor
      · intro h; exact .inr ⟨h1.1 (by assumption), .inr ⟨h2.1 (by assumption), h5.1 h⟩⟩
      · intro h; exact h5.2 (by omega)
    · constructor
      · intro h; exact .inr ⟨h1.1 (by assumption), .inl (h4.1 h)⟩
      · intro h; exact h4.2 (by omega)
  · constructor
    · intro h; exact .inl (h3.1 h)
    · intro h; exact h3.2 (by omega)
end Go.Sz
namespace Go.Proofs.Ytbnaoefmjmlfbaa
open Go.RowKit Go.Sz
theorem eqB (a b a' b' : Int) (w : World) : (Op.equalIn 10000 24 (.agg #[.int .i64 a, .int .i64 b]) (.agg #[.int .i64 a', .int .i64 b'])).run Try.prog w = .ok (a == a' && b == b') w := by
  rw [show (10000 : Nat) = 9998 + 1 + 1 from rfl, run_equalIn_struct w (9998 + 1) 24 _ _ (by kernel_rfl) (by kernel_rfl)]
  have h1 : ∀ w, (Op.equalIn 9999 3 (.int .i64 a) (.int .i64 a')).run Try.prog w = .ok (a == a') w := fun w => run_equalIn_int w 9998 _ .i64 .i64 a a' Try.underlying3
  have h2 : ∀ w, (Op.equalIn 9999 3 (.int .i64 b) (.int .i64 b')).run Try.prog w = .ok (b == b') w := fun w => run_equalIn_int w 9998 _ .i64 .i64 b b' Try.underlying3
  simp [Program.fieldsOf, Try.underlying24, Op.eqFields, part]
  rw [h1]
  by_cases ha : a = a' <;> by_cases hb : b = b' <;> simp only [h2, Result.andThen_ok] <;> simp [ha, hb]
/-- as the walk tells them -/
theorem okO_ref (o : Off) : okO o = (decide (0 ≤ o.s) && decide (o.s < 20000) && (decide (0 ≤ o.a) && decide (o.a < 4000)) && (decide (-1 ≤ o.b) && decide (o.b < 4000)) && (o.b != o.a) && (decide (1 ≤ o.u) && decide (o.u ≤ 1048592))) := by
  unfold okO withinB
  rw [show decide (o.s ≤ 19999) = decide (o.s < 20000) from decide_eq_decide.2 (by omega), show decide (o.a ≤ 3999) = decide (o.a < 4000) from decide_eq_decide.2 (by omega), show decide (o.b ≤ 3999) = decide (o.b < 4000) from decide_eq_decide.2 (by omega)]
set_option maxRecDepth 100000 in
set_option maxHeartbeats 3200000 in
theorem valid_any (o : Off) (w : World) : Calls Try.prog 28 #[.agg o.enc.toArray] w fun e w' => e = .returned (.bool (okO o)) ∧ Ext w w' := by
  obtain ⟨s, a, b, u⟩ := o
  unfold Off.enc
  dsimp only
  go_enter Try.func28, Try.ntmps28
  go_wp2_with fail
  all_goals
    go_ret
    refine ⟨?_, ?_⟩
    · rw [okO_ref]
      simp_all
      try omega
    · repeat (first | exact Below.refl _ _ | refine Below.alloc ?_ (by simp) _ | refine Below.setCell ?_ (by simp) _)
set_option maxHeartbeats 1600000 in
theorem before_any (o p : Off) (w : World) : Calls Try.prog 30 #[.agg o.enc.toArray, .agg p.enc.toArray] w fun e w' => e = .returned (.bool (decide (cmpO o p < 0))) ∧ Ext w w' := by
  have HN := Lib.hid (cmpO_neg (o := o) (p := p))
  generalize cmpO o p = c at *
  obtain ⟨s, a, b, u⟩ := o
  obtain ⟨s', a', b', u'⟩ := p
  unfold Off.enc
  dsimp only at HN ⊢
  have HX0 := Lib.hid (((Ext.refl w).alloc (.cells #[.int .i64 s, .int .i64 a, .int .i64 b, .int .i64 u] 26)).alloc (.cells #[.int .i64 s', .int .i64 a', .int .i64 b', .int .i64 u'] 26))
  by_cases h1 : s = s'
  · subst h1
    by_cases h2 : a = a'
    · subst h2
      go_enter Try.func30, Try.ntmps30
      go_wp2_with fail
      go_ret
      refine ⟨ret_bool (decide_eq_decide.2 ⟨fun h => HN.out.2 ?_, fun h => ?_⟩), HX0.out⟩
      · simp only [true_and]; omega
      · have := HN.out.1 h; omega
    · have g2 : (a != a') = true := by simpa using h2
      have H2 := Lib.hid h2
      clear h2
      go_enter Try.func30, Try.ntmps30
      go_wp2_with fail
      go_ret
      refine ⟨ret_bool (decide_eq_decide.2 ⟨fun h => HN.out.2 ?_, fun h => ?_⟩), HX0.out⟩
      · simp only [true_and]; omega
      · have := HN.out.1 h; have := H2.out; omega
  · have g1 : (s != s') = true := by simpa using h1
    have H1 := Lib.hid h1
    clear h1
    go_enter Try.func30, Try.ntmps30
    go_wp2_with fail
    go_ret
    refine ⟨ret_bool (decide_eq_decide.2 ⟨fun h => HN.out.2 ?_, fun h => ?_⟩), HX0.out⟩
    · omega
    · have := HN.out.1 h; have := H1.out; omega
theorem few_any (l : List Off) (ao : Option Addr) (cap : Nat) (w : World) (h : RepO w ao cap l) : Calls Try.prog 11 #[.slice ao l.length cap] w fun e w' => e = .returned (.bool (decide (l.length ≤ 40))) ∧ Ext w w' := by
  have hs1 := h.max
  clear h
  go_enter Try.func11, Try.ntmps11
  go_wp2_with fail
  go_ret
  refine ⟨ret_bool (decide_eq_decide.2 ⟨fun h => ?_, fun h => ?_⟩), Ext.refl _⟩
  · omega
  · omega
end Go.Proofs.Ytbnaoefmjmlfbaa
