/- For all links and packets, New, Check and Send answer as the reference does: the given statement NetworkSpecSaid. No condition. -/
import Derived.Test.YtdlahgmbilkdcaaRows
import Derived.Test.YtdlahgmbilkdcaaNT
import Derived.ProofKit
import Derived.ChangeMaps5
namespace Go.Proofs.Ytdlahgmbilkdcaa
open Go.ChangeShapes Go.WideShapes Go.ChangeAt Go.RowKit Go.WideElems Go.Maps Go.ChangeMaps Go.Sz

set_option maxHeartbeats 1600000 in
set_option maxRecDepth 100000 in
theorem spec_lifted (os : Os) (started : os.Started) (H : Type) (enc : TypeId × Value → H) :
    ReturnsInHanded {} Try.checked os 3 .any (Rows.networkSpecSpec.pre6 enc Try.prog Try.f3 Rows.networkSpecRow.domain false) (Rows.networkSpecSpec.post enc Try.prog Try.f3 false true false false) := by
  refine returnsInHanded_of_change (C := Try.checked) own started (by kernel_rfl) Try.func3
    (ChangeSpec.witness6 (enc := enc) (C := Try.checked) false ⟨#[], #[.agg #[.slice none 0 0, .slice none 0 0], .agg #[.int .i64 0, .int .i64 0, .slice none 0 0]], []⟩ 8 (by kernel_rfl) (by kernel_rfl) (by kernel_rfl) (by kernel_rfl)) ?_
  intro W base args ds gs before hval0 hW _ _
  have hval : ∀ (j : Nat) t v, Try.f3.params[j]? = some t → args[j]? = some v → Value.okWide Try.prog W .any base t v := hval0
  have hW' := hW
  obtain ⟨p, q, hA0, hV, rfl, _, _⟩ := hW
  have hA : DataW.TrodAll enc Try.prog W 0 (fun _ => true) true Try.f3.params.toList args.toList ds p := hA0
  rw [Try.params3] at hA hval
  obtain ⟨v0, vs0, d0, ds0, p0, q0, hargs, rfl, rfl, h0, r0⟩ := trodAll_cons hA
  obtain ⟨v1, vs1, d1, ds1, p1, q1, rfl, rfl, rfl, h1, r1⟩ := trodAll_cons r0
  obtain ⟨rfl, rfl, rfl⟩ := trodAll_nil r1
  obtain rfl : args = #[v0, v1] := by cases args; simp_all
  clear hargs
  obtain ⟨rfl, rfl⟩ := trodVars_none hV
  have h0k := h0
  obtain ⟨fuel0, hf0⟩ := h0
  obtain ⟨cs0, hv0⟩ := okWide_agg Try.underlying25 (hval 0 25 v0 rfl rfl)
  rw [hv0] at hf0
  obtain ⟨n, hR0⟩ := trod_net enc W _ _ fuel0 _ _ hf0
  have h1k := h1
  obtain ⟨fuel1, hf1⟩ := h1
  obtain ⟨cs1, hv1⟩ := okWide_agg Try.underlying28 (hval 1 28 v1 rfl rfl)
  rw [hv1] at hf1
  obtain ⟨pk, hR1⟩ := trod_pk enc W _ _ fuel1 _ _ hf1
  clear hf0
  clear hf1
  subst hv0
  subst hv1
  clear hA0 hval0
  have hlt0 : ∀ x ∈ p0, x.block < W.heap.size := fun x hx => by have h := hW'.lt x (by simp [hx]); simpa using h
  have harg0 : ∀ (W' : World), Below W.heap.size W W' → DataW.Trod enc Try.prog W' 0 (fun b => decide (b < W.heap.size)) true 25 (.agg cs0) d0 p0 :=
    fun W' hn => Below.trod laidOut (by kernel_rfl) (of_decide_eq_true (by kernel_rfl)) h0k hn hlt0
  have hlt1 : ∀ x ∈ p1, x.block < W.heap.size := fun x hx => by have h := hW'.lt x (by simp [hx]); simpa using h
  have harg1 : ∀ (W' : World), Below W.heap.size W W' → DataW.Trod enc Try.prog W' 0 (fun b => decide (b < W.heap.size)) true 28 (.agg cs1) d1 p1 :=
    fun W' hn => Below.trod laidOut (by kernel_rfl) (of_decide_eq_true (by kernel_rfl)) h1k hn hlt1
  have fin : ∀ (W' : World), Below W.heap.size W W' → Rows.networkSpecSpec.post enc Try.checked.prog Try.f3 false true false false W #[(.agg cs0), (.agg cs1)] (.bool true) W' := by
    intro W' hnx
    refine ⟨_, _, _, [], (p0 ++ (p1 ++ [])), [], hW', ?_, (trodAll_cons_mk (harg0 _ hnx) (trodAll_cons_mk (harg1 _ hnx) trodAll_mk0)), rfl, hnx.frame _, fun h => by cases h⟩
    exact trodAll_mk1 (shut_bool Try.underlying4 true)
  have hcall := law_spec n pk cs0.toList cs1.toList W (by simpa [Value.cells] using hR0) (by simpa [Value.cells] using hR1)
  refine hcall.mono fun e W' ⟨he, hE⟩ => ?_
  subst he
  exact ⟨_, rfl, fin W' hE⟩

theorem NetworkSpec_holds : Rows.NetworkSpecSaid :=
  OpenClaim.holds_of_wide 3 Try.f3 rfl rfl rfl rfl rfl rfl rfl ⟨rfl, rfl, rfl, rfl, rfl⟩ rfl rfl rfl rfl rfl (by kernel_rfl) Try.func3 (by kernel_rfl)
    (of_decide_eq_true (by kernel_rfl)) (by unfold Func.isWrapper; first | (rw [if_pos (by decide +kernel)]; kernel_rfl) | (rw [if_neg (by decide +kernel)]; exact ⟨rfl, rfl⟩))
    (fun os started H enc _ => spec_lifted os started H enc)

#print axioms NetworkSpec_holds
end Go.Proofs.Ytdlahgmbilkdcaa

