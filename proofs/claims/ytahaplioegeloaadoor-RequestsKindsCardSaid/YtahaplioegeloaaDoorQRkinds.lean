/- What each kind needs: the given card RequestsKindsCardSaid. The card ties the table of kinds to the program's text. No other condition. -/
import Derived.Test.YtahaplioegeloaaDoorRows
import Derived.Test.YtahaplioegeloaaDoorTie
import Derived.Test.YtahaplioegeloaaDoorCards
import Derived.Test.YtahaplioegeloaaDoorQH
import Derived.Test.YtahaplioegeloaaDoorQJ
import Derived.ProofKit
import Derived.ChangeMaps5
import Derived.LaidMore
import Derived.Stop.Joined
import Derived.SevenTiedAt
namespace Go.Proofs.YtahaplioegeloaaDoor
open Go.ChangeShapes Go.WideShapes Go.ChangeAt Go.RowKit Go.WideElems Go.Maps Go.ChangeMaps Go.Sz

theorem door_met (os : Os) (args : Array Value) : laidMetH Tryd.prog [("sizar/requests.kinds", Rows.laid_sizar_requests_kinds)] ((World.doorLaid Tryd.prog 19 os).forCall (fun _ _ => 0) ⟨#[], args, []⟩).memory :=
  laidMetH_of_parts3 (fuel := 8) (laidMet_of_run' 8 (by kernel_rfl) (by kernel_rfl)) (by kernel_rfl) (by kernel_rfl)
set_option maxHeartbeats 1600000 in
set_option maxRecDepth 100000 in
theorem lifted (os : Os) (started : os.Started) (H : Type) (enc : TypeId × Value → H) :
    ReturnsInHanded {} Tryd.checked os 8 .any (fun w args => (Rows.requestsKindsSpec.pre enc Tryd.prog Tryd.f8 [] false w args ∧ laidMetH Tryd.prog [("sizar/requests.kinds", Rows.laid_sizar_requests_kinds)] w) ∧ sizedMet enc Tryd.prog Tryd.f8 (OpenSpec.ofChange Rows.requestsKindsSpec) false w args)
      (Rows.requestsKindsSpec.post enc Tryd.prog Tryd.f8 false true false false) := by
  refine returnsInHanded_of_change_and (C := Tryd.checked) (X := fun w _ => laidMetH Tryd.prog [("sizar/requests.kinds", Rows.laid_sizar_requests_kinds)] w) (fun _ _ _ hh h => h.of_heap hh) own started (by kernel_rfl) Tryd.func8
    (ChangeSpec.witness_shaped (enc := enc) (C := Tryd.checked) (os := os) (X := fun w _ => laidMetH Tryd.prog [("sizar/requests.kinds", Rows.laid_sizar_requests_kinds)] w) false (World.doorLaid Tryd.prog 19 os) #[.agg #[.int .i64 0, .int .i64 0, .int .i64 0, .int .i64 0, .int .i64 0, .slice none 0 0, .int .i64 0, .int .i64 0, .int .i64 0], .int .i64 0] 8 rfl (World.shaped_of_RefB (by kernel_rfl) (by kernel_rfl)) (by kernel_rfl) (by kernel_rfl) (by kernel_rfl) (door_met os _)) ?_
  intro W base args ds gs before hval0 hW _ _ hL _
  have hval : ∀ (j : Nat) t v, Tryd.f8.params[j]? = some t → args[j]? = some v → Value.okWide Tryd.prog W .any base t v := hval0
  have hW' := hW
  obtain ⟨p, q, hA0, hV, rfl, _, _⟩ := hW
  have hA : DataW.TrodAll enc Tryd.prog W 0 (fun _ => true) true Tryd.f8.params.toList args.toList ds p := hA0
  rw [Tryd.params8] at hA hval
  have hk := kinds_of_laid hL
  obtain ⟨v0, vs0, d0, ds0, p0, q0, hargs, rfl, rfl, h0, r0⟩ := trodAll_cons hA
  obtain ⟨v1, vs1, d1, ds1, p1, q1, rfl, rfl, rfl, h1, r1⟩ := trodAll_cons r0
  obtain ⟨rfl, rfl, rfl⟩ := trodAll_nil r1
  obtain rfl : args = #[v0, v1] := by cases args; simp_all
  clear hargs
  obtain ⟨rfl, rfl⟩ := trodVars_none hV
  have h0k := h0
  obtain ⟨fuel0, hf0⟩ := h0
  obtain ⟨cs0, hv0⟩ := okWide_agg Tryd.underlying26 (hval 0 26 v0 rfl rfl)
  rw [hv0] at hf0
  obtain ⟨r, ao0, cap0, hw0, hR0, hO0⟩ := trod_rq enc W _ _ fuel0 _ _ hf0
  obtain rfl : cs0 = (r.cells ao0 cap0).toArray := by simpa [Value.cells] using congrArg List.toArray hw0
  have h1k := h1
  obtain ⟨fuel1, hf1⟩ := h1
  obtain ⟨m1, hv1⟩ := okWide_int Tryd.underlying3 (hval 1 3 v1 rfl rfl)
  rw [hv1] at hf1
  obtain ⟨kind, e1, _, hR1⟩ := DataW.trod_int Tryd.underlying3 (by simpa [Value.cells] using hf1)
  simp only [List.cons.injEq, Value.int.injEq, true_and, and_true] at e1
  obtain rfl := e1.symm
  clear hf0
  clear hf1
  subst hv0
  subst hv1
  clear hA0 hval0
  have hlt0 : ∀ x ∈ p0, x.block < W.heap.size := fun x hx => by have h := hW'.lt x (by simp [hx]); simpa using h
  have harg0 : ∀ (W' : World), Below W.heap.size W W' → DataW.Trod enc Tryd.prog W' 0 (fun b => decide (b < W.heap.size)) true 26 (.agg (r.cells ao0 cap0).toArray) d0 p0 :=
    fun W' hn => Below.trod laidOut (by kernel_rfl) (of_decide_eq_true (by kernel_rfl)) h0k hn hlt0
  have hlt1 : ∀ x ∈ p1, x.block < W.heap.size := fun x hx => by have h := hW'.lt x (by simp [hx]); simpa using h
  have harg1 : ∀ (W' : World), Below W.heap.size W W' → DataW.Trod enc Tryd.prog W' 0 (fun b => decide (b < W.heap.size)) true 3 (.int .i64 kind) d1 p1 :=
    fun W' hn => Below.trod laidOut (by kernel_rfl) (of_decide_eq_true (by kernel_rfl)) h1k hn hlt1
  have fin : ∀ (W' : World), Below W.heap.size W W' → Rows.requestsKindsSpec.post enc Tryd.checked.prog Tryd.f8 false true false false W #[(.agg (r.cells ao0 cap0).toArray), (.int .i64 kind)] (.bool true) W' := by
    intro W' hnx
    refine ⟨_, _, _, [], (p0 ++ (p1 ++ [])), [], hW', ?_, (trodAll_cons_mk (harg0 _ hnx) (trodAll_cons_mk (harg1 _ hnx) trodAll_mk0)), rfl, hnx.frame _, fun h => by cases h⟩
    exact trodAll_mk1 (shut_bool Tryd.underlying4 true)
  have hcall := lawq_kinds r ao0 cap0 kind W hR0 hO0 hk
  refine hcall.mono fun e W' ⟨he, hE⟩ => ?_
  subst he
  exact ⟨_, rfl, fin W' hE⟩

theorem RequestsKinds_row : Rows.RequestsKindsSaid :=
  OpenClaim.holds_of_wide 8 Tryd.f8 rfl rfl rfl rfl rfl rfl rfl ⟨rfl, rfl, rfl, rfl, rfl⟩ rfl rfl rfl rfl rfl (by kernel_rfl) Tryd.func8 (by kernel_rfl)
    (of_decide_eq_true (by kernel_rfl)) (by unfold Func.isWrapper; first | (rw [if_pos (by decide +kernel)]; kernel_rfl) | (rw [if_neg (by decide +kernel)]; exact ⟨rfl, rfl⟩))
    (fun os started H enc _ => lifted os started H enc)

theorem RequestsKinds_holds : Rows.RequestsKindsCardSaid :=
  Claim7.holds_tied_plain_at .later [] [.data] true (true, "2d0ed39ff181893193f166e4d585e1fe3a738db612703f24cb1f03aee915c634") true
    RequestsKinds_row (fun _ h => by cases h) (by kernel_rfl) (fun _ h => by cases h) requestsKinds_row_tie rfl ⟨rfl, rfl⟩ (by kernel_rfl) rfl
    (fun f fn hf hfn => by
      obtain rfl : f = 8 := Option.some.inj ((show Tryd.prog.funcNamed "sizar/sizarlaw29.RequestsKinds" = some 8 by kernel_rfl).symm.trans hf) |>.symm
      obtain rfl : fn = Tryd.f8 := (Option.some.inj (Tryd.func8.symm.trans hfn)).symm
      exact ⟨by kernel_rfl, fun j t ht => by
        rw [Tryd.params8] at ht
        have hm : t ∈ [26, 3] := by simpa using Array.mem_of_getElem? ht
        have hall : ([26, 3].all fun u => !Tryd.prog.wantsStandIn u) = true := by kernel_rfl
        exact (show Tryd.prog.wantsStandIn t = false by simpa using List.all_eq_true.1 hall t hm)⟩)
    (by kernel_rfl)

#print axioms RequestsKinds_holds
end Go.Proofs.YtahaplioegeloaaDoor
