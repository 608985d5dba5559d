/- Waiting: compare. -/
import Derived.Test.YtbhpeecebcihkaaW3
namespace Go.Proofs.Ytbhpeecebcihkaa
open Go.RowKit Go.Sz
theorem five_new (w : World) (t : TypeId) (B : Nat) (hB : w.heap.size = B) : FiveF (w.alloc (.cells #[.func (.func 43) #[] #[], .func (.func 44) #[] #[], .func (.func 45) #[] #[], .func (.func 46) #[] #[], .func (.func 47) #[] #[]] t)) B := by subst hB; unfold FiveF; simp
set_option maxRecDepth 100000 in
set_option maxHeartbeats 3200000 in
theorem compareW_any (o p : Wt) (w : World) : Calls Try.prog 31 #[.agg o.enc.toArray, .agg p.enc.toArray] w fun e w' => e = .returned (.int .i64 (cmpW o p)) ∧ Ext w w' := by
  have hX : Ext w ((w.alloc (.cells o.enc.toArray 26)).alloc (.cells p.enc.toArray 26)) := ((Ext.refl w).alloc _).alloc _
  have hT : TwoW o p w.heap.size (w.heap.size + 1) ((w.alloc (.cells o.enc.toArray 26)).alloc (.cells p.enc.toArray 26)) := by unfold TwoW Wt.enc; simp
  have HX := Lib.hid hX
  clear hX
  obtain ⟨t0, t1, t2, t3, t4, t5, t6, t7, t8, t9⟩ := hT
  go_enter Try.func31, Try.ntmps31
  go_wp2_with fail
  refine (by_any o p _ _ (five_new _ _ _ (by simp))).mono ?_
  rintro e w1 ⟨rfl, hE⟩
  have HE := Lib.hid ((HX.out.alloc _).trans hE)
  clear hE
  go_wp2_with fail
  go_ret
  exact ⟨rfl, HE.out⟩
end Go.Proofs.Ytbhpeecebcihkaa
