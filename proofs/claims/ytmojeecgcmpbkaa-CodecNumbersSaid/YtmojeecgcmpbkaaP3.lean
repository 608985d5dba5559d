/- For every two numbers the sizes of their encodings are as told and each is decoded as itself: the given statement CodecNumbersSaid. No condition. -/
import Derived.Test.YtmojeecgcmpbkaaRows
import Derived.Test.YtmojeecgcmpbkaaL3
import Derived.Test.YtmojeecgcmpbkaaTr
import Derived.ProofKit
import Derived.ChangeMaps5
namespace Go.Proofs.Ytmojeecgcmpbkaa
open Go.ChangeShapes Go.WideShapes Go.ChangeAt Go.RowKit Go.WideElems Go.Maps Go.ChangeMaps Go.Sz

set_option maxHeartbeats 800000 in
set_option maxRecDepth 100000 in
theorem numbers_lifted (os : Os) (started : os.Started) (H : Type) (enc : TypeId × Value → H) :
    ReturnsInHanded {} Try.checked os 5 .any (Rows.codecNumbersSpec.pre6 enc Try.prog Try.f5 Rows.codecNumbersRow.domain false) (Rows.codecNumbersSpec.post enc Try.prog Try.f5 false true false false) := by
  refine returnsInHanded_of_change (C := Try.checked) own started (by kernel_rfl) Try.func5
    (ChangeSpec.witness6 (enc := enc) (C := Try.checked) false ⟨#[], #[.int .i64 0, .int .i64 0], []⟩ 8 (by kernel_rfl) (by kernel_rfl) (by kernel_rfl) (by kernel_rfl)) ?_
  intro W base args ds gs before hval0 hW _ _
  have hval : ∀ (j : Nat) t v, Try.f5.params[j]? = some t → args[j]? = some v → Value.okWide Try.prog W .any base t v := hval0
  have hW' := hW
  obtain ⟨p, q, hA0, hV, rfl, _, _⟩ := hW
  have hA : DataW.TrodAll enc Try.prog W 0 (fun _ => true) true Try.f5.params.toList args.toList ds p := hA0
  rw [Try.params5] at hA hval
  obtain ⟨v0, v1, d0, d1, p0, p1, rfl, rfl, rfl, h0, h1⟩ := trodAll_two hA
  obtain ⟨rfl, rfl⟩ := trodVars_none hV
  have h0k := h0
  have h1k := h1
  obtain ⟨a, rfl, rfl, rfl, ha⟩ := open_int Try.underlying3 (hval 0 3 v0 rfl rfl) h0
  obtain ⟨b, rfl, rfl, rfl, hb⟩ := open_int Try.underlying3 (hval 1 3 v1 rfl rfl) h1
  clear hA0 hval0
  have harg : ∀ (W' : World) (x : Int), (Lit.int .i64 x).wf = true → DataW.Trod enc Try.prog W' 0 (fun b => decide (b < W.heap.size)) true 3 (.int .i64 x) (.lit (.int .i64 x)) [] :=
    fun W' x hx => shut_int Try.underlying3 hx
  have fin : ∀ (W' : World), Below W.heap.size W W' → Rows.codecNumbersSpec.post enc Try.checked.prog Try.f5 false true false false W #[.int .i64 a, .int .i64 b] (.bool true) W' := by
    intro W' hnx
    refine ⟨_, _, _, [], _, [], hW', ?_, trodAll_mk2 (harg W' a ha) (harg W' b hb), rfl, hnx.frame _, fun h => by cases h⟩
    exact trodAll_mk1 (shut_bool Try.underlying4 true)
  refine (law_numbers a b (wf_i64 ha) (wf_i64 hb) W).mono fun e W' ⟨he, hE⟩ => ?_
  subst he
  exact ⟨_, rfl, fin W' hE⟩

theorem CodecNumbers_holds : Rows.CodecNumbersSaid :=
  OpenClaim.holds_of_wide 5 Try.f5 rfl rfl rfl rfl rfl rfl rfl ⟨rfl, rfl, rfl, rfl, rfl⟩ rfl rfl rfl rfl rfl (by kernel_rfl) Try.func5 (by kernel_rfl)
    (of_decide_eq_true (by kernel_rfl)) (by unfold Func.isWrapper; first | (rw [if_pos (by decide +kernel)]; kernel_rfl) | (rw [if_neg (by decide +kernel)]; exact ⟨rfl, rfl⟩))
    (fun os started H enc _ => numbers_lifted os started H enc)

#print axioms CodecNumbers_holds
end Go.Proofs.Ytmojeecgcmpbkaa
