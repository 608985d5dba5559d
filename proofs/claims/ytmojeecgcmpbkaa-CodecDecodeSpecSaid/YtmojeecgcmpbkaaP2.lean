/- For all bytes, Decode answers as the reference does: the given statement CodecDecodeSpecSaid. No condition. -/
import Derived.Test.YtmojeecgcmpbkaaRows
import Derived.Test.YtmojeecgcmpbkaaL2
import Derived.Test.YtmojeecgcmpbkaaTr2
import Derived.ProofKit
import Derived.ChangeMaps5
namespace Go.Proofs.Ytmojeecgcmpbkaa
open Go.ChangeShapes Go.WideShapes Go.ChangeAt Go.RowKit Go.WideElems Go.Maps Go.ChangeMaps Go.Sz

set_option maxHeartbeats 800000 in
set_option maxRecDepth 100000 in
theorem decode_lifted (os : Os) (started : os.Started) (H : Type) (enc : TypeId × Value → H) :
    ReturnsInHanded {} Try.checked os 4 .any (Rows.codecDecodeSpecSpec.pre6 enc Try.prog Try.f4 Rows.codecDecodeSpecRow.domain false) (Rows.codecDecodeSpecSpec.post enc Try.prog Try.f4 false true false false) := by
  refine returnsInHanded_of_change (C := Try.checked) own started (by kernel_rfl) Try.func4
    (ChangeSpec.witness6 (enc := enc) (C := Try.checked) false ⟨#[], #[.slice none 0 0], []⟩ 8 (by kernel_rfl) (by kernel_rfl) (by kernel_rfl) (by kernel_rfl)) ?_
  intro W base args ds gs before hval0 hW _ _
  have hval : ∀ (j : Nat) t v, Try.f4.params[j]? = some t → args[j]? = some v → Value.okWide Try.prog W .any base t v := hval0
  have hW' := hW
  obtain ⟨p, q, hA0, hV, rfl, _, _⟩ := hW
  have hA : DataW.TrodAll enc Try.prog W 0 (fun _ => true) true Try.f4.params.toList args.toList ds p := hA0
  rw [Try.params4] at hA hval
  obtain ⟨v0, d0, rfl, rfl, h0⟩ := trodAll_one hA
  obtain ⟨rfl, rfl⟩ := trodVars_none hV
  have h0k := h0
  obtain ⟨fuel, hf⟩ := h0
  obtain ⟨a0, n0, c0, rfl⟩ := okWide_slice Try.underlying27 (hval 0 27 v0 rfl rfl)
  obtain ⟨ao, bs, cap, hv, hsl⟩ := trod_bytes enc W _ _ fuel _ _ (by simpa [Value.cells] using hf)
  rw [hv] at h0k hW' hval
  rw [hv]
  clear hA0 hval0 hf hv
  simp only [List.append_nil] at hW'
  have hlt : ∀ x ∈ p, x.block < W.heap.size := fun x hx => by simpa using hW'.lt x hx
  have harg0 : ∀ (W' : World), Below W.heap.size W W' → DataW.Trod enc Try.prog W' 0 (fun b => decide (b < W.heap.size)) true 27 (.slice ao bs.length cap) d0 p :=
    fun W' hn => Below.trod laidOut (by kernel_rfl) (of_decide_eq_true (by kernel_rfl)) h0k hn hlt
  have fin : ∀ (W' : World), Below W.heap.size W W' → Rows.codecDecodeSpecSpec.post enc Try.checked.prog Try.f4 false true false false W #[.slice ao bs.length cap] (.bool true) W' := by
    intro W' hnx
    refine ⟨_, _, _, [], p, [], hW', ?_, trodAll_mk1 (harg0 _ hnx), rfl, hnx.frame _, fun h => by cases h⟩
    exact trodAll_mk1 (shut_bool Try.underlying4 true)
  refine (law_decode bs ao cap W hsl).mono fun e W' ⟨he, hE⟩ => ?_
  subst he
  exact ⟨_, rfl, fin W' hE⟩

theorem CodecDecodeSpec_holds : Rows.CodecDecodeSpecSaid :=
  OpenClaim.holds_of_wide 4 Try.f4 rfl rfl rfl rfl rfl rfl rfl ⟨rfl, rfl, rfl, rfl, rfl⟩ rfl rfl rfl rfl rfl (by kernel_rfl) Try.func4 (by kernel_rfl)
    (of_decide_eq_true (by kernel_rfl)) (by unfold Func.isWrapper; first | (rw [if_pos (by decide +kernel)]; kernel_rfl) | (rw [if_neg (by decide +kernel)]; exact ⟨rfl, rfl⟩))
    (fun os started H enc _ => decode_lifted os started H enc)

#print axioms CodecDecodeSpec_holds
end Go.Proofs.Ytmojeecgcmpbkaa
