/- The given statement NamesResolveSpecUptoSaid: for all catalogues of the bound's bulk. -/
import Derived.Test.YtimigpfoflilcaaRows
import Derived.Test.YtimigpfoflilcaaZT
import Derived.Test.YtimigpfoflilcaaL11f
import Derived.WalkKit
import Derived.ProofKit
import Derived.OpenShut
import Derived.JoinedCond
import Derived.ChangeMaps5
namespace Go.Proofs.Ytimigpfoflilcaa
open Go.ChangeShapes Go.WideShapes Go.ChangeAt Go.RowKit Go.WideElems Go.Maps Go.ChangeMaps Go.Sz
set_option maxHeartbeats 1600000 in
set_option maxRecDepth 100000 in
theorem resolve_contract (H : Type) (enc : TypeId × Value → H) (W : World) (base : Nat) (args : Array Value) (ds gs : List (DataW H)) (before : List MemPlace)
    (hval0 : ∀ (j : Nat) t v, Try.f3.params[j]? = some t → args[j]? = some v → Value.okWide Try.prog W .any base t v)
    (hW : DataW.Whole enc Try.prog Try.f3.params.toList Rows.namesResolveSpecSpec.vars false W args.toList ds gs before) (hk : Rows.uptoSmall H (ds ++ gs) = true) :
    Calls Try.prog 3 args W fun e W' => ∃ v, e = .returned v ∧ Rows.namesResolveSpecSpec.post enc Try.prog Try.f3 false true false false W args v W' := by
  have hval : ∀ (j : Nat) t v, Try.f3.params[j]? = some t → args[j]? = some v → Value.okWide Try.prog W .any base t v := hval0
  have hW' := hW
  obtain ⟨p, q, hA0, hV, rfl, _, _⟩ := hW
  have hA : DataW.TrodAll enc Try.prog W 0 (fun _ => true) true Try.f3.params.toList args.toList ds p := hA0
  rw [Try.params3] at hA hval
  obtain ⟨v0, vs0, d0, ds0, p0, q0, hargs, rfl, rfl, h0, r0⟩ := trodAll_cons hA
  obtain ⟨rfl, rfl, rfl⟩ := trodAll_nil r0
  obtain rfl : args = #[v0] := by cases args; simp_all
  clear hargs
  obtain ⟨rfl, rfl⟩ := trodVars_none hV
  have hk0 : Rows.uptoBulk d0 ≤ 1048576 := by
    have h := of_decide_eq_true hk
    simp only [List.cons_append, Rows.uptoBulkAll] at h
    omega
  have h0k := h0
  obtain ⟨fuel0, hf0⟩ := h0
  obtain ⟨cs0, hv0⟩ := okWide_agg Try.underlying29 (hval 0 29 v0 rfl rfl)
  rw [hv0] at hf0
  obtain ⟨c, dd, hR0, hX, hb1, hs1, hs2, hs3, hs4, hs5⟩ := trod_cat enc W _ _ fuel0 _ _ hf0
  obtain rfl : cs0 = (c.cells dd).toArray := by simpa [Value.cells] using congrArg List.toArray hR0
  have hbb : ∀ x ∈ c.cs, x.need.parts.length ≤ 1048576 ∧ x.bar.parts.length ≤ 1048576 := fun x hx => ⟨Nat.le_trans (hb1 x hx).1 hk0, Nat.le_trans (hb1 x hx).2 hk0⟩
  clear hf0
  subst hv0
  clear hA0 hval0
  have hlt0 : ∀ x ∈ p0, x.block < W.heap.size := fun x hx => by have h := hW'.lt x (by simp [hx]); simpa using h
  have harg0 : ∀ (W' : World), Below W.heap.size W W' → DataW.Trod enc Try.prog W' 0 (fun b => decide (b < W.heap.size)) true 29 (.agg (c.cells dd).toArray) d0 p0 :=
    fun W' hn => Below.trod laidOut (by kernel_rfl) (of_decide_eq_true (by kernel_rfl)) h0k hn hlt0
  have fin : ∀ (W' : World), Below W.heap.size W W' → Rows.namesResolveSpecSpec.post enc Try.prog Try.f3 false true false false W #[(.agg (c.cells dd).toArray)] (.bool true) W' := by
    intro W' hnx
    refine ⟨_, _, _, [], (p0 ++ []), [], hW', ?_, (trodAll_cons_mk (harg0 _ hnx) trodAll_mk0), rfl, hnx.frame _, fun h => by cases h⟩
    exact trodAll_mk1 (shut_bool Try.underlying4 true)
  have hcall := law_resolve c dd W hX hbb (fun h => few_ok h hs1 hs2 hs3 hs4 hs5)
  refine hcall.mono fun e W' ⟨he, hE⟩ => ?_
  subst he
  exact ⟨_, rfl, fin W' hE⟩
set_option maxHeartbeats 1600000 in
set_option maxRecDepth 100000 in
theorem resolve_lifted (os : Os) (started : os.Started) (H : Type) (enc : TypeId × Value → H) (F : Stop.Interp) :
    ReturnsInHanded {} Try.checked os 3 .any ((Rows.OpenSpec.upto Rows.namesResolveSpecSpec).pre6 enc Try.prog Try.f3 Rows.namesResolveSpecUptoRow.domain false) (((Rows.OpenSpec.upto Rows.namesResolveSpecSpec).at F).post enc Try.prog Try.f3 false true false false) := by
  refine returnsInHanded_of_cond (C := Try.checked) (s := Rows.OpenSpec.upto Rows.namesResolveSpecSpec) (k := Rows.uptoSmall) rfl own started (by kernel_rfl) Try.func3
    (OpenSpec.witness (enc := enc) (C := Try.checked) (s := Rows.OpenSpec.upto Rows.namesResolveSpecSpec) (k := Rows.uptoSmall) rfl false ⟨#[], #[.agg #[.slice none 0 0, .slice none 0 0, .slice none 0 0, .slice none 0 0, .slice none 0 0, .slice none 0 0, .slice none 0 0]], []⟩ 8 (by kernel_rfl) (by kernel_rfl) (by kernel_rfl)
      (x := ([.agg [.nil, .nil, .nil, .nil, .nil, .nil, .nil]], [], [])) (by kernel_rfl) rfl (by kernel_rfl)) ?_
  intro W base args ds gs before hval hW _ hk _
  exact resolve_contract H enc W base args ds gs before hval hW hk

theorem NamesResolveSpecUpto_holds : Rows.NamesResolveSpecUptoSaid :=
  OpenClaim.holds_of_cond 3 Try.f3 rfl rfl rfl rfl rfl rfl rfl ⟨rfl, rfl, rfl, rfl, rfl⟩ rfl rfl rfl rfl rfl (by kernel_rfl) Try.func3 (by kernel_rfl)
    (of_decide_eq_true (by kernel_rfl)) (by unfold Func.isWrapper; first | (rw [if_pos (by decide +kernel)]; kernel_rfl) | (rw [if_neg (by decide +kernel)]; exact ⟨rfl, rfl⟩))
    (fun os started H enc _ F => resolve_lifted os started H enc F)

#print axioms NamesResolveSpecUpto_holds
end Go.Proofs.Ytimigpfoflilcaa

