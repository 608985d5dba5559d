/- For all bytes, Decode answers as the reference does: the given card RequestsDecodeSpecCardSaid. The card ties the table of kinds to the program's text. No other condition. -/
import Derived.Test.YtahaplioegeloaaDoorRows
import Derived.Test.YtahaplioegeloaaDoorTie
import Derived.Test.YtahaplioegeloaaDoorCards
import Derived.Test.YtahaplioegeloaaDoorQH
import Derived.ProofKit
import Derived.ChangeMaps5
import Derived.LaidMore
import Derived.Stop.Joined
import Derived.SevenTiedAt
namespace Go.Proofs.YtahaplioegeloaaDoor
open Go.ChangeShapes Go.WideShapes Go.ChangeAt Go.RowKit Go.WideElems Go.Maps Go.ChangeMaps Go.Sz

theorem door_met (os : Os) (args : Array Value) : laidMetH Tryd.prog [("sizar/requests.kinds", Rows.laid_sizar_requests_kinds)] ((World.doorLaid Tryd.prog 19 os).forCall (fun _ _ => 0) ⟨#[], args, []⟩).memory :=
  laidMetH_of_parts3 (fuel := 8) (laidMet_of_run' 8 (by kernel_rfl) (by kernel_rfl)) (by kernel_rfl) (by kernel_rfl)
set_option maxHeartbeats 1600000 in
set_option maxRecDepth 100000 in
theorem lifted (os : Os) (started : os.Started) (H : Type) (enc : TypeId × Value → H) :
    ReturnsInHanded {} Tryd.checked os 4 .any (fun w args => (Rows.requestsDecodeSpecSpec.pre enc Tryd.prog Tryd.f4 [] false w args ∧ laidMetH Tryd.prog [("sizar/requests.kinds", Rows.laid_sizar_requests_kinds)] w) ∧ sizedMet enc Tryd.prog Tryd.f4 (OpenSpec.ofChange Rows.requestsDecodeSpecSpec) false w args)
      (Rows.requestsDecodeSpecSpec.post enc Tryd.prog Tryd.f4 false true false false) := by
  refine returnsInHanded_of_change_and (C := Tryd.checked) (X := fun w _ => laidMetH Tryd.prog [("sizar/requests.kinds", Rows.laid_sizar_requests_kinds)] w) (fun _ _ _ hh h => h.of_heap hh) own started (by kernel_rfl) Tryd.func4
    (ChangeSpec.witness_shaped (enc := enc) (C := Tryd.checked) (os := os) (X := fun w _ => laidMetH Tryd.prog [("sizar/requests.kinds", Rows.laid_sizar_requests_kinds)] w) false (World.doorLaid Tryd.prog 19 os) #[.slice none 0 0] 8 rfl (World.shaped_of_RefB (by kernel_rfl) (by kernel_rfl)) (by kernel_rfl) (by kernel_rfl) (by kernel_rfl) (door_met os _)) ?_
  intro W base args ds gs before hval0 hW _ _ hL _
  have hval : ∀ (j : Nat) t v, Tryd.f4.params[j]? = some t → args[j]? = some v → Value.okWide Tryd.prog W .any base t v := hval0
  have hW' := hW
  obtain ⟨p, q, hA0, hV, rfl, _, _⟩ := hW
  have hA : DataW.TrodAll enc Tryd.prog W 0 (fun _ => true) true Tryd.f4.params.toList args.toList ds p := hA0
  rw [Tryd.params4] at hA hval
  have hk := kinds_of_laid hL
  obtain ⟨v0, vs0, d0, ds0, p0, q0, hargs, rfl, rfl, h0, r0⟩ := trodAll_cons hA
  obtain ⟨rfl, rfl, rfl⟩ := trodAll_nil r0
  obtain rfl : args = #[v0] := by cases args; simp_all
  clear hargs
  obtain ⟨rfl, rfl⟩ := trodVars_none hV
  have h0k := h0
  obtain ⟨fuel0, hf0⟩ := h0
  obtain ⟨a0, n0, c0, hv0⟩ := okWide_slice Tryd.underlying29 (hval 0 29 v0 rfl rfl)
  rw [hv0] at hf0
  obtain ⟨ao0, bs, cap0, hw0, hR0⟩ := trod_bytes enc W _ _ fuel0 _ _ (by simpa [Value.cells] using hf0)
  clear hf0
  subst hv0
  rw [hw0] at h0k hW' hval
  rw [hw0]
  clear hA0 hval0
  have hlt0 : ∀ x ∈ p0, x.block < W.heap.size := fun x hx => by have h := hW'.lt x (by simp [hx]); simpa using h
  have harg0 : ∀ (W' : World), Below W.heap.size W W' → DataW.Trod enc Tryd.prog W' 0 (fun b => decide (b < W.heap.size)) true 29 (.slice ao0 bs.length cap0) d0 p0 :=
    fun W' hn => Below.trod laidOut (by kernel_rfl) (of_decide_eq_true (by kernel_rfl)) h0k hn hlt0
  have fin : ∀ (W' : World), Below W.heap.size W W' → Rows.requestsDecodeSpecSpec.post enc Tryd.checked.prog Tryd.f4 false true false false W #[(.slice ao0 bs.length cap0)] (.bool true) W' := by
    intro W' hnx
    refine ⟨_, _, _, [], (p0 ++ []), [], hW', ?_, (trodAll_cons_mk (harg0 _ hnx) trodAll_mk0), rfl, hnx.frame _, fun h => by cases h⟩
    exact trodAll_mk1 (shut_bool Tryd.underlying4 true)
  have hcall := lawq_dec bs ao0 cap0 W hR0 hk
  refine hcall.mono fun e W' ⟨he, hE⟩ => ?_
  subst he
  exact ⟨_, rfl, fin W' hE⟩

theorem RequestsDecodeSpec_row : Rows.RequestsDecodeSpecSaid :=
  OpenClaim.holds_of_wide 4 Tryd.f4 rfl rfl rfl rfl rfl rfl rfl ⟨rfl, rfl, rfl, rfl, rfl⟩ rfl rfl rfl rfl rfl (by kernel_rfl) Tryd.func4 (by kernel_rfl)
    (of_decide_eq_true (by kernel_rfl)) (by unfold Func.isWrapper; first | (rw [if_pos (by decide +kernel)]; kernel_rfl) | (rw [if_neg (by decide +kernel)]; exact ⟨rfl, rfl⟩))
    (fun os started H enc _ => lifted os started H enc)

theorem RequestsDecodeSpec_holds : Rows.RequestsDecodeSpecCardSaid :=
  Claim7.holds_tied_plain_at .later [] [.data] true (true, "2d0ed39ff181893193f166e4d585e1fe3a738db612703f24cb1f03aee915c634") true
    RequestsDecodeSpec_row (fun _ h => by cases h) (by kernel_rfl) (fun _ h => by cases h) requestsDecodeSpec_row_tie rfl ⟨rfl, rfl⟩ (by kernel_rfl) rfl
    (fun f fn hf hfn => by
      obtain rfl : f = 4 := Option.some.inj ((show Tryd.prog.funcNamed "sizar/sizarlaw29.RequestsDecodeSpec" = some 4 by kernel_rfl).symm.trans hf) |>.symm
      obtain rfl : fn = Tryd.f4 := (Option.some.inj (Tryd.func4.symm.trans hfn)).symm
      exact ⟨by kernel_rfl, fun j t ht => by
        rw [Tryd.params4] at ht
        have hm : t ∈ [29] := by simpa using Array.mem_of_getElem? ht
        have hall : ([29].all fun u => !Tryd.prog.wantsStandIn u) = true := by kernel_rfl
        exact (show Tryd.prog.wantsStandIn t = false by simpa using List.all_eq_true.1 hall t hm)⟩)
    (by kernel_rfl)

#print axioms RequestsDecodeSpec_holds
end Go.Proofs.YtahaplioegeloaaDoor
