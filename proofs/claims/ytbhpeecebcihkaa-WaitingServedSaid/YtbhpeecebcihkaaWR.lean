/- Waiting: the reference's IsBundle, Valid, tuple, Precedes, index, Few. -/
import Derived.Test.YtbhpeecebcihkaaWF
namespace Go.Sz
open Go.RowKit
theorem ret_bool {b c : Bool} (h : b = c) : Ending.returned (.bool b) = .returned (.bool c) := by rw [h]
theorem ret_i64 {b c : Int} (h : b = c) : Ending.returned (.int .i64 b) = .returned (.int .i64 c) := by rw [h]
theorem okB_ref (a b : Int) : okB a b = (decide (0 ≤ a) && decide (a < 4000) && decide (-1 ≤ b) && decide (b < 4000) && (b != a)) := by
  unfold okB withinB
  rw [show decide (a ≤ 3999) = decide (a < 4000) from decide_eq_decide.2 (by omega), show decide (b ≤ 3999) = decide (b < 4000) from decide_eq_decide.2 (by omega)]
  simp only [Bool.and_assoc]
theorem okW_ref (o : Wt) : okW o = (decide (0 ≤ o.s) && decide (o.s < 20000) && okB o.a o.b && decide (0 ≤ o.k) && decide (o.k ≤ 1073741824) && decide (0 ≤ o.t) && decide (o.t ≤ 1048576)) := by
  unfold okW withinB
  rw [show decide (o.s ≤ 19999) = decide (o.s < 20000) from decide_eq_decide.2 (by omega)]
  simp only [Bool.and_assoc]
def tup (o : Wt) : List Int := [o.a, o.b, o.k, o.t, o.s]
theorem cmps_get (o p : Wt) {k : Nat} (h : k < 5) : (cmps o p)[k]'h = cmpI ((tup o)[k]'h) ((tup p)[k]'h) := by
  match k, h with
  | 0, _ => rfl
  | 1, _ => rfl
  | 2, _ => rfl
  | 3, _ => rfl
  | 4, _ => rfl
end Go.Sz
namespace Go.Proofs.Ytbhpeecebcihkaa
open Go.RowKit Go.Sz
set_option maxRecDepth 100000 in
set_option maxHeartbeats 3200000 in
theorem isBundle_any (a b : Int) (w : World) : Calls Try.prog 50 #[.agg #[.int .i64 a, .int .i64 b]] w fun e w' => e = .returned (.bool (okB a b)) ∧ Ext w w' := by
  go_enter Try.func50, Try.ntmps50
  go_wp2_with fail
  all_goals
    go_ret
    refine ⟨?_, ?_⟩
    · rw [okB_ref]
      simp_all
      try omega
    · repeat (first | exact Below.refl _ _ | refine Below.alloc ?_ (by simp) _ | refine Below.setCell ?_ (by simp) _)
set_option maxRecDepth 100000 in
set_option maxHeartbeats 3200000 in
theorem validR_any (o : Wt) (w : World) : Calls Try.prog 34 #[.agg o.enc.toArray] w fun e w' => e = .returned (.bool (okW o)) ∧ Ext w w' := by
  obtain ⟨s, a, b, k, t⟩ := o
  unfold Wt.enc
  dsimp only
  have hX : Ext w (w.alloc (.cells #[.int .i64 s, .int .i64 a, .int .i64 b, .int .i64 k, .int .i64 t] 26)) := (Ext.refl w).alloc _
  have c0 : (w.alloc (.cells #[.int .i64 s, .int .i64 a, .int .i64 b, .int .i64 k, .int .i64 t] 26)).cell? ⟨w.heap.size, 0, none⟩ = some (.int .i64 s) := by simp
  have c1 : (w.alloc (.cells #[.int .i64 s, .int .i64 a, .int .i64 b, .int .i64 k, .int .i64 t] 26)).cell? ⟨w.heap.size, 1, none⟩ = some (.int .i64 a) := by simp
  have c2 : (w.alloc (.cells #[.int .i64 s, .int .i64 a, .int .i64 b, .int .i64 k, .int .i64 t] 26)).cell? ⟨w.heap.size, 2, none⟩ = some (.int .i64 b) := by simp
  have c3 : (w.alloc (.cells #[.int .i64 s, .int .i64 a, .int .i64 b, .int .i64 k, .int .i64 t] 26)).cell? ⟨w.heap.size, 3, none⟩ = some (.int .i64 k) := by simp
  have c4 : (w.alloc (.cells #[.int .i64 s, .int .i64 a, .int .i64 b, .int .i64 k, .int .i64 t] 26)).cell? ⟨w.heap.size, 4, none⟩ = some (.int .i64 t) := by simp
  have HR : Hid (okW ⟨s, a, b, k, t⟩ = (decide (0 ≤ s) && decide (s < 20000) && okB a b && decide (0 ≤ k) && decide (k ≤ 1073741824) && decide (0 ≤ t) && decide (t ≤ 1048576))) := Lib.hid (okW_ref _)
  have HX := Lib.hid hX
  clear hX
  obtain ⟨r1, h1⟩ : ∃ r, okB a b = r := ⟨_, rfl⟩
  have HB : Hid (∀ w, Calls Try.prog 50 #[.agg #[.int .i64 a, .int .i64 b]] w fun e w' => e = .returned (.bool r1) ∧ Ext w w') := Lib.hid fun w => h1 ▸ isBundle_any a b w
  rw [h1] at HR
  clear h1
  by_cases g1 : (0 : Int) ≤ s
  · by_cases g2 : s < 20000
    · have HR1 : Hid (okW ⟨s, a, b, k, t⟩ = (r1 && decide (0 ≤ k) && decide (k ≤ 1073741824) && decide (0 ≤ t) && decide (t ≤ 1048576))) := Lib.hid (by rw [HR.out, decide_eq_true g1, decide_eq_true g2]; simp)
      clear HR
      go_enter Try.func34, Try.ntmps34
      go_wp2_with fail
      generalize w.alloc (.cells #[.int .i64 s, .int .i64 a, .int .i64 b, .int .i64 k, .int .i64 t] 26) = w0 at *
      refine (HB.out _).mono ?_
      rintro e w1 ⟨rfl, hE⟩
      have d3 := hE.cell c3
      have d4 := hE.cell c4
      have HE := Lib.hid hE
      clear hE c0 c1 c2 c3 c4 g1 g2
      cases r1 with
      | false =>
        go_wp2_with fail
        go_ret
        exact ⟨ret_bool (by rw [HR1.out]; simp), HX.out.trans HE.out⟩
      | true =>
        go_wp2_with fail
        all_goals
          go_ret
          refine ⟨ret_bool ?_, HX.out.trans HE.out⟩
          rw [HR1.out]
          simp_all
          try omega
    · go_enter Try.func34, Try.ntmps34
      go_wp2_with fail
      go_ret
      exact ⟨ret_bool (by rw [HR.out, decide_eq_false (p := s < 20000) (by omega)]; simp), HX.out⟩
  · go_enter Try.func34, Try.ntmps34
    go_wp2_with fail
    go_ret
    exact ⟨ret_bool (by rw [HR.out, decide_eq_false (p := (0 : Int) ≤ s) (by omega)]; simp), HX.out⟩
theorem tuple_any (o : Wt) (w : World) : Calls Try.prog 51 #[.agg o.enc.toArray] w fun e w' => e = .returned (.agg #[.int .i64 o.a, .int .i64 o.b, .int .i64 o.k, .int .i64 o.t, .int .i64 o.s]) ∧ Ext w w' := by
  obtain ⟨s, a, b, k, t⟩ := o
  unfold Wt.enc
  dsimp only
  go_enter Try.func51, Try.ntmps51
  go_wp2_with fail
  go_returns
  refine ⟨by first | rfl | simp, ?_⟩
  repeat (first | exact Below.refl _ _ | refine Below.alloc ?_ (by simp) _ | refine Below.setCell ?_ (by simp) _)
end Go.Proofs.Ytbhpeecebcihkaa
