/- For all lists of waits, places are ordered by key, time and student: the given statement WaitingFairSaid. No condition. -/
import Derived.Test.YtbhpeecebcihkaaRows
import Derived.Test.YtbhpeecebcihkaaWT
import Derived.Test.YtbhpeecebcihkaaWN2
import Derived.ProofKit
import Derived.ChangeMaps5
namespace Go.Proofs.Ytbhpeecebcihkaa
open Go.ChangeShapes Go.WideShapes Go.ChangeAt Go.RowKit Go.WideElems Go.Maps Go.ChangeMaps Go.Sz

set_option maxHeartbeats 1600000 in
set_option maxRecDepth 100000 in
theorem fair_lifted (os : Os) (started : os.Started) (H : Type) (enc : TypeId × Value → H) :
    ReturnsInHanded {} Try.checked os 5 .any (Rows.waitingFairSpec.pre6 enc Try.prog Try.f5 Rows.waitingFairRow.domain false) (Rows.waitingFairSpec.post enc Try.prog Try.f5 false true false false) := by
  refine returnsInHanded_of_change (C := Try.checked) own started (by kernel_rfl) Try.func5
    (ChangeSpec.witness6 (enc := enc) (C := Try.checked) false ⟨#[], #[.slice none 0 0], []⟩ 8 (by kernel_rfl) (by kernel_rfl) (by kernel_rfl) (by kernel_rfl)) ?_
  intro W base args ds gs before hval0 hW _ _
  have hval : ∀ (j : Nat) t v, Try.f5.params[j]? = some t → args[j]? = some v → Value.okWide Try.prog W .any base t v := hval0
  have hW' := hW
  obtain ⟨p, q, hA0, hV, rfl, _, _⟩ := hW
  have hA : DataW.TrodAll enc Try.prog W 0 (fun _ => true) true Try.f5.params.toList args.toList ds p := hA0
  rw [Try.params5] at hA hval
  obtain ⟨v0, vs0, d0, ds0, p0, q0, hargs, rfl, rfl, h0, r0⟩ := trodAll_cons hA
  obtain ⟨rfl, rfl, rfl⟩ := trodAll_nil r0
  obtain rfl : args = #[v0] := by cases args; simp_all
  clear hargs
  obtain ⟨rfl, rfl⟩ := trodVars_none hV
  have h0k := h0
  obtain ⟨fuel0, hf0⟩ := h0
  obtain ⟨a0, n0, c0, hv0⟩ := okWide_slice Try.underlying22 (hval 0 22 v0 rfl rfl)
  rw [hv0] at hf0
  obtain ⟨ao0, l, cap0, hw0, hR0⟩ := trod_wts enc W _ _ fuel0 _ _ (by simpa [Value.cells] using hf0)
  clear hf0
  subst hv0
  rw [hw0] at h0k hW' hval
  rw [hw0]
  clear hA0 hval0
  have hlt0 : ∀ x ∈ p0, x.block < W.heap.size := fun x hx => by have h := hW'.lt x (by simp [hx]); simpa using h
  have harg0 : ∀ (W' : World), Below W.heap.size W W' → DataW.Trod enc Try.prog W' 0 (fun b => decide (b < W.heap.size)) true 22 (.slice ao0 l.length cap0) d0 p0 :=
    fun W' hn => Below.trod laidOut (by kernel_rfl) (of_decide_eq_true (by kernel_rfl)) h0k hn hlt0
  have fin : ∀ (W' : World), Below W.heap.size W W' → Rows.waitingFairSpec.post enc Try.checked.prog Try.f5 false true false false W #[(.slice ao0 l.length cap0)] (.bool true) W' := by
    intro W' hnx
    refine ⟨_, _, _, [], (p0 ++ []), [], hW', ?_, (trodAll_cons_mk (harg0 _ hnx) trodAll_mk0), rfl, hnx.frame _, fun h => by cases h⟩
    exact trodAll_mk1 (shut_bool Try.underlying4 true)
  have hcall := law_fair l ao0 cap0 W hR0
  refine hcall.mono fun e W' ⟨he, hE⟩ => ?_
  subst he
  exact ⟨_, rfl, fin W' hE⟩

theorem WaitingFair_holds : Rows.WaitingFairSaid :=
  OpenClaim.holds_of_wide 5 Try.f5 rfl rfl rfl rfl rfl rfl rfl ⟨rfl, rfl, rfl, rfl, rfl⟩ rfl rfl rfl rfl rfl (by kernel_rfl) Try.func5 (by kernel_rfl)
    (of_decide_eq_true (by kernel_rfl)) (by unfold Func.isWrapper; first | (rw [if_pos (by decide +kernel)]; kernel_rfl) | (rw [if_neg (by decide +kernel)]; exact ⟨rfl, rfl⟩))
    (fun os started H enc _ => fair_lifted os started H enc)

#print axioms WaitingFair_holds
end Go.Proofs.Ytbhpeecebcihkaa

