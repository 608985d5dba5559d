/- For all lists of offers, making them in any order leads to the same list: the given statement OffersTurnedSaid. No condition. -/
import Derived.Test.YtbnaoefmjmlfbaaRows
import Derived.Test.YtbnaoefmjmlfbaaOT
import Derived.Test.YtbnaoefmjmlfbaaOL6
import Derived.ProofKit
import Derived.ChangeMaps5
namespace Go.Proofs.Ytbnaoefmjmlfbaa
open Go.ChangeShapes Go.WideShapes Go.ChangeAt Go.RowKit Go.WideElems Go.Maps Go.ChangeMaps Go.Sz

theorem wf_u64 {n : Int} (h : (Lit.int .u64 n).wf = true) : 0 ≤ n ∧ n ≤ 18446744073709551615 := by
  have hmin : IntKind.u64.min = 0 := by decide
  have hmax : IntKind.u64.max = 18446744073709551615 := by decide
  simp [Lit.wf, hmin, hmax] at h
  exact h

set_option maxHeartbeats 1600000 in
set_option maxRecDepth 100000 in
theorem turned_lifted (os : Os) (started : os.Started) (H : Type) (enc : TypeId × Value → H) :
    ReturnsInHanded {} Try.checked os 8 .any (Rows.offersTurnedSpec.pre6 enc Try.prog Try.f8 Rows.offersTurnedRow.domain false) (Rows.offersTurnedSpec.post enc Try.prog Try.f8 false true false false) := by
  refine returnsInHanded_of_change (C := Try.checked) own started (by kernel_rfl) Try.func8
    (ChangeSpec.witness6 (enc := enc) (C := Try.checked) false ⟨#[], #[.slice none 0 0, .int .u64 0], []⟩ 8 (by kernel_rfl) (by kernel_rfl) (by kernel_rfl) (by kernel_rfl)) ?_
  intro W base args ds gs before hval0 hW _ _
  have hval : ∀ (j : Nat) t v, Try.f8.params[j]? = some t → args[j]? = some v → Value.okWide Try.prog W .any base t v := hval0
  have hW' := hW
  obtain ⟨p, q, hA0, hV, rfl, _, _⟩ := hW
  have hA : DataW.TrodAll enc Try.prog W 0 (fun _ => true) true Try.f8.params.toList args.toList ds p := hA0
  rw [Try.params8] at hA hval
  obtain ⟨v0, vs0, d0, ds0, p0, q0, hargs, rfl, rfl, h0, r0⟩ := trodAll_cons hA
  obtain ⟨v1, vs1, d1, ds1, p1, q1, rfl, rfl, rfl, h1, r1⟩ := trodAll_cons r0
  obtain ⟨rfl, rfl, rfl⟩ := trodAll_nil r1
  obtain rfl : args = #[v0, v1] := by cases args; simp_all
  clear hargs
  obtain ⟨rfl, rfl⟩ := trodVars_none hV
  have h0k := h0
  obtain ⟨fuel0, hf0⟩ := h0
  obtain ⟨a0, n0, c0, hv0⟩ := okWide_slice Try.underlying22 (hval 0 22 v0 rfl rfl)
  rw [hv0] at hf0
  obtain ⟨ao0, l, cap0, hw0, hR0⟩ := trod_offs enc W _ _ fuel0 _ _ (by simpa [Value.cells] using hf0)
  have h1k := h1
  obtain ⟨fuel1, hf1⟩ := h1
  obtain ⟨m1, hv1⟩ := okWide_int Try.underlying44 (hval 1 44 v1 rfl rfl)
  rw [hv1] at hf1
  obtain ⟨turn, e1, _, hR1⟩ := DataW.trod_int Try.underlying44 (by simpa [Value.cells] using hf1)
  simp only [List.cons.injEq, Value.int.injEq, true_and, and_true] at e1
  obtain rfl := e1.symm
  clear hf0
  clear hf1
  subst hv0
  subst hv1
  rw [hw0] at h0k hW' hval
  rw [hw0]
  clear hA0 hval0
  have hlt0 : ∀ x ∈ p0, x.block < W.heap.size := fun x hx => by have h := hW'.lt x (by simp [hx]); simpa using h
  have harg0 : ∀ (W' : World), Below W.heap.size W W' → DataW.Trod enc Try.prog W' 0 (fun b => decide (b < W.heap.size)) true 22 (.slice ao0 l.length cap0) d0 p0 :=
    fun W' hn => Below.trod laidOut (by kernel_rfl) (of_decide_eq_true (by kernel_rfl)) h0k hn hlt0
  have hlt1 : ∀ x ∈ p1, x.block < W.heap.size := fun x hx => by have h := hW'.lt x (by simp [hx]); simpa using h
  have harg1 : ∀ (W' : World), Below W.heap.size W W' → DataW.Trod enc Try.prog W' 0 (fun b => decide (b < W.heap.size)) true 44 (.int .u64 turn) d1 p1 :=
    fun W' hn => Below.trod laidOut (by kernel_rfl) (of_decide_eq_true (by kernel_rfl)) h1k hn hlt1
  have fin : ∀ (W' : World), Below W.heap.size W W' → Rows.offersTurnedSpec.post enc Try.checked.prog Try.f8 false true false false W #[(.slice ao0 l.length cap0), (.int .u64 turn)] (.bool true) W' := by
    intro W' hnx
    refine ⟨_, _, _, [], (p0 ++ (p1 ++ [])), [], hW', ?_, (trodAll_cons_mk (harg0 _ hnx) (trodAll_cons_mk (harg1 _ hnx) trodAll_mk0)), rfl, hnx.frame _, fun h => by cases h⟩
    exact trodAll_mk1 (shut_bool Try.underlying4 true)
  have hcall := law_turned l turn ao0 cap0 W hR0 (wf_u64 hR1)
  refine hcall.mono fun e W' ⟨he, hE⟩ => ?_
  subst he
  exact ⟨_, rfl, fin W' hE⟩

theorem OffersTurned_holds : Rows.OffersTurnedSaid :=
  OpenClaim.holds_of_wide 8 Try.f8 rfl rfl rfl rfl rfl rfl rfl ⟨rfl, rfl, rfl, rfl, rfl⟩ rfl rfl rfl rfl rfl (by kernel_rfl) Try.func8 (by kernel_rfl)
    (of_decide_eq_true (by kernel_rfl)) (by unfold Func.isWrapper; first | (rw [if_pos (by decide +kernel)]; kernel_rfl) | (rw [if_neg (by decide +kernel)]; exact ⟨rfl, rfl⟩))
    (fun os started H enc _ => turned_lifted os started H enc)

#print axioms OffersTurned_holds
end Go.Proofs.Ytbnaoefmjmlfbaa

