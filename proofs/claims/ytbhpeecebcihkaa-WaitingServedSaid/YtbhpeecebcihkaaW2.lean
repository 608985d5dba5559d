/- Waiting: valid, and the five closures of compare. -/
import Derived.Test.YtbhpeecebcihkaaW1
namespace Go.Proofs.Ytbhpeecebcihkaa
open Go.RowKit Go.Sz
theorem fld1_any (o : Wt) (w : World) : Calls Try.prog 43 #[.agg o.enc.toArray] w fun e w' => e = .returned (.int .i64 o.a) ∧ Ext w w' := by
  obtain ⟨s, a, b, k, t⟩ := o
  unfold Wt.enc
  dsimp only
  have hX : Ext w (w.alloc (.cells #[.int .i64 s, .int .i64 a, .int .i64 b, .int .i64 k, .int .i64 t] 26)) := (Ext.refl w).alloc _
  go_enter Try.func43, Try.ntmps43
  go_wp2_with fail
  go_ret
  exact ⟨rfl, hX⟩
theorem fld2_any (o : Wt) (w : World) : Calls Try.prog 44 #[.agg o.enc.toArray] w fun e w' => e = .returned (.int .i64 o.b) ∧ Ext w w' := by
  obtain ⟨s, a, b, k, t⟩ := o
  unfold Wt.enc
  dsimp only
  have hX : Ext w (w.alloc (.cells #[.int .i64 s, .int .i64 a, .int .i64 b, .int .i64 k, .int .i64 t] 26)) := (Ext.refl w).alloc _
  go_enter Try.func44, Try.ntmps44
  go_wp2_with fail
  go_ret
  exact ⟨rfl, hX⟩
theorem fld3_any (o : Wt) (w : World) : Calls Try.prog 45 #[.agg o.enc.toArray] w fun e w' => e = .returned (.int .i64 o.k) ∧ Ext w w' := by
  obtain ⟨s, a, b, k, t⟩ := o
  unfold Wt.enc
  dsimp only
  have hX : Ext w (w.alloc (.cells #[.int .i64 s, .int .i64 a, .int .i64 b, .int .i64 k, .int .i64 t] 26)) := (Ext.refl w).alloc _
  go_enter Try.func45, Try.ntmps45
  go_wp2_with fail
  go_ret
  exact ⟨rfl, hX⟩
theorem fld4_any (o : Wt) (w : World) : Calls Try.prog 46 #[.agg o.enc.toArray] w fun e w' => e = .returned (.int .i64 o.t) ∧ Ext w w' := by
  obtain ⟨s, a, b, k, t⟩ := o
  unfold Wt.enc
  dsimp only
  have hX : Ext w (w.alloc (.cells #[.int .i64 s, .int .i64 a, .int .i64 b, .int .i64 k, .int .i64 t] 26)) := (Ext.refl w).alloc _
  go_enter Try.func46, Try.ntmps46
  go_wp2_with fail
  go_ret
  exact ⟨rfl, hX⟩
theorem fld5_any (o : Wt) (w : World) : Calls Try.prog 47 #[.agg o.enc.toArray] w fun e w' => e = .returned (.int .i64 o.s) ∧ Ext w w' := by
  obtain ⟨s, a, b, k, t⟩ := o
  unfold Wt.enc
  dsimp only
  have hX : Ext w (w.alloc (.cells #[.int .i64 s, .int .i64 a, .int .i64 b, .int .i64 k, .int .i64 t] 26)) := (Ext.refl w).alloc _
  go_enter Try.func47, Try.ntmps47
  go_wp2_with fail
  go_ret
  exact ⟨rfl, hX⟩
set_option maxHeartbeats 1600000 in
theorem validW_any (o : Wt) (w : World) : Calls Try.prog 28 #[.agg o.enc.toArray] w fun e w' => e = .returned (.bool (okW o)) ∧ Ext w w' := by
  obtain ⟨s, a, b, k, t⟩ := o
  unfold Wt.enc
  dsimp only
  have hX : Ext w (w.alloc (.cells #[.int .i64 s, .int .i64 a, .int .i64 b, .int .i64 k, .int .i64 t] 26)) := (Ext.refl w).alloc _
  have c0 : (w.alloc (.cells #[.int .i64 s, .int .i64 a, .int .i64 b, .int .i64 k, .int .i64 t] 26)).cell? ⟨w.heap.size, 0, none⟩ = some (.int .i64 s) := by simp
  have c1 : (w.alloc (.cells #[.int .i64 s, .int .i64 a, .int .i64 b, .int .i64 k, .int .i64 t] 26)).cell? ⟨w.heap.size, 1, none⟩ = some (.int .i64 a) := by simp
  have c2 : (w.alloc (.cells #[.int .i64 s, .int .i64 a, .int .i64 b, .int .i64 k, .int .i64 t] 26)).cell? ⟨w.heap.size, 2, none⟩ = some (.int .i64 b) := by simp
  have c3 : (w.alloc (.cells #[.int .i64 s, .int .i64 a, .int .i64 b, .int .i64 k, .int .i64 t] 26)).cell? ⟨w.heap.size, 3, none⟩ = some (.int .i64 k) := by simp
  have c4 : (w.alloc (.cells #[.int .i64 s, .int .i64 a, .int .i64 b, .int .i64 k, .int .i64 t] 26)).cell? ⟨w.heap.size, 4, none⟩ = some (.int .i64 t) := by simp
  go_enter Try.func28, Try.ntmps28
  go_wp2_with fail
  generalize w.alloc (.cells #[.int .i64 s, .int .i64 a, .int .i64 b, .int .i64 k, .int .i64 t] 26) = w0 at *
  obtain ⟨r0, h0⟩ : ∃ r, withinB s 0 19999 = r := ⟨_, rfl⟩
  obtain ⟨r1, h1⟩ : ∃ r, okB a b = r := ⟨_, rfl⟩
  obtain ⟨r2, h2⟩ : ∃ r, withinB k 0 1073741824 = r := ⟨_, rfl⟩
  obtain ⟨r3, h3⟩ : ∃ r, withinB t 0 1048576 = r := ⟨_, rfl⟩
  have hW : Hid (okW ⟨s, a, b, k, t⟩ = (r0 && r1 && r2 && r3)) := Lib.hid (by unfold okW; dsimp only; rw [h0, h1, h2, h3])
  have H0 := Lib.hid h0
  have H1 := Lib.hid h1
  have H2 := Lib.hid h2
  have H3 := Lib.hid h3
  have HX := Lib.hid hX
  clear h0 h1 h2 h3 hX
  refine (in_any _ _ _ _).mono ?_
  rintro e w' ⟨rfl, rfl⟩
  rw [H0.out]
  cases r0 with
  | false =>
    go_wp2_with fail
    go_ret
    exact ⟨by rw [hW.out]; rfl, HX.out⟩
  | true =>
    go_wp2_with fail
    refine (vb_any _ _ _).mono ?_
    rintro e w1 ⟨rfl, hE⟩
    rw [H1.out]
    have d3 := hE.cell c3
    have d4 := hE.cell c4
    have HE := Lib.hid hE
    clear hE c0 c1 c2 c3 c4
    cases r1 with
    | false =>
      go_wp2_with fail
      go_ret
      exact ⟨by rw [hW.out]; rfl, HX.out.trans HE.out⟩
    | true =>
      go_wp2_with fail
      refine (in_any _ _ _ _).mono ?_
      rintro e w' ⟨rfl, rfl⟩
      rw [H2.out]
      cases r2 with
      | false =>
        go_wp2_with fail
        go_ret
        exact ⟨by rw [hW.out]; rfl, HX.out.trans HE.out⟩
      | true =>
        go_wp2_with fail
        refine (in_any _ _ _ _).mono ?_
        rintro e w' ⟨rfl, rfl⟩
        rw [H3.out]
        go_wp2_with fail
        go_ret
        exact ⟨by rw [hW.out]; rfl, HX.out.trans HE.out⟩
end Go.Proofs.Ytbhpeecebcihkaa
