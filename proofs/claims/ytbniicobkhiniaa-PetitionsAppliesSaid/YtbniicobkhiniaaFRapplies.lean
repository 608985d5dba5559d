/- For all lists of facts, a petition that is added applies in its terms, once it is known, and touches nothing else: the given statement PetitionsAppliesSaid. No condition. -/
import Derived.Test.YtbniicobkhiniaaRows
import Derived.Test.YtbniicobkhiniaaFT
import Derived.Test.YtbniicobkhiniaaFV
import Derived.ProofKit
import Derived.ChangeMaps5
namespace Go.Proofs.Ytbniicobkhiniaa
open Go.ChangeShapes Go.WideShapes Go.ChangeAt Go.RowKit Go.WideElems Go.Maps Go.ChangeMaps Go.Sz

set_option maxHeartbeats 1600000 in
set_option maxRecDepth 100000 in
theorem applies_lifted (os : Os) (started : os.Started) (H : Type) (enc : TypeId × Value → H) :
    ReturnsInHanded {} Try.checked os 7 .any (Rows.petitionsAppliesSpec.pre6 enc Try.prog Try.f7 Rows.petitionsAppliesRow.domain false) (Rows.petitionsAppliesSpec.post enc Try.prog Try.f7 false true false false) := by
  refine returnsInHanded_of_change (C := Try.checked) own started (by kernel_rfl) Try.func7
    (ChangeSpec.witness6 (enc := enc) (C := Try.checked) false ⟨#[], #[.slice none 0 0, .int .i64 0, .int .i64 0, .int .i64 0, .int .i64 0, .agg #[.int .i64 0, .int .i64 0], .int .i64 0, .int .i64 0, .agg #[.int .i64 0, .int .i64 0, .int .i64 0]], []⟩ 8 (by kernel_rfl) (by kernel_rfl) (by kernel_rfl) (by kernel_rfl)) ?_
  intro W base args ds gs before hval0 hW _ _
  have hval : ∀ (j : Nat) t v, Try.f7.params[j]? = some t → args[j]? = some v → Value.okWide Try.prog W .any base t v := hval0
  have hW' := hW
  obtain ⟨p, q, hA0, hV, rfl, _, _⟩ := hW
  have hA : DataW.TrodAll enc Try.prog W 0 (fun _ => true) true Try.f7.params.toList args.toList ds p := hA0
  rw [Try.params7] at hA hval
  obtain ⟨v0, vs0, d0, ds0, p0, q0, hargs, rfl, rfl, h0, r0⟩ := trodAll_cons hA
  obtain ⟨v1, vs1, d1, ds1, p1, q1, rfl, rfl, rfl, h1, r1⟩ := trodAll_cons r0
  obtain ⟨v2, vs2, d2, ds2, p2, q2, rfl, rfl, rfl, h2, r2⟩ := trodAll_cons r1
  obtain ⟨v3, vs3, d3, ds3, p3, q3, rfl, rfl, rfl, h3, r3⟩ := trodAll_cons r2
  obtain ⟨v4, vs4, d4, ds4, p4, q4, rfl, rfl, rfl, h4, r4⟩ := trodAll_cons r3
  obtain ⟨v5, vs5, d5, ds5, p5, q5, rfl, rfl, rfl, h5, r5⟩ := trodAll_cons r4
  obtain ⟨v6, vs6, d6, ds6, p6, q6, rfl, rfl, rfl, h6, r6⟩ := trodAll_cons r5
  obtain ⟨v7, vs7, d7, ds7, p7, q7, rfl, rfl, rfl, h7, r7⟩ := trodAll_cons r6
  obtain ⟨v8, vs8, d8, ds8, p8, q8, rfl, rfl, rfl, h8, r8⟩ := trodAll_cons r7
  obtain ⟨rfl, rfl, rfl⟩ := trodAll_nil r8
  obtain rfl : args = #[v0, v1, v2, v3, v4, v5, v6, v7, v8] := by cases args; simp_all
  clear hargs
  obtain ⟨rfl, rfl⟩ := trodVars_none hV
  have h0k := h0
  obtain ⟨fuel0, hf0⟩ := h0
  obtain ⟨a0, n0, c0, hv0⟩ := okWide_slice Try.underlying33 (hval 0 33 v0 rfl rfl)
  rw [hv0] at hf0
  obtain ⟨ao0, l, cap0, hw0, hR0⟩ := trod_facts enc W _ _ fuel0 _ _ (by simpa [Value.cells] using hf0)
  have h1k := h1
  obtain ⟨fuel1, hf1⟩ := h1
  obtain ⟨m1, hv1⟩ := okWide_int Try.underlying3 (hval 1 3 v1 rfl rfl)
  rw [hv1] at hf1
  obtain ⟨k, e1, _, hR1⟩ := DataW.trod_int Try.underlying3 (by simpa [Value.cells] using hf1)
  simp only [List.cons.injEq, Value.int.injEq, true_and, and_true] at e1
  obtain rfl := e1.symm
  have h2k := h2
  obtain ⟨fuel2, hf2⟩ := h2
  obtain ⟨m2, hv2⟩ := okWide_int Try.underlying3 (hval 2 3 v2 rfl rfl)
  rw [hv2] at hf2
  obtain ⟨s, e2, _, hR2⟩ := DataW.trod_int Try.underlying3 (by simpa [Value.cells] using hf2)
  simp only [List.cons.injEq, Value.int.injEq, true_and, and_true] at e2
  obtain rfl := e2.symm
  have h3k := h3
  obtain ⟨fuel3, hf3⟩ := h3
  obtain ⟨m3, hv3⟩ := okWide_int Try.underlying3 (hval 3 3 v3 rfl rfl)
  rw [hv3] at hf3
  obtain ⟨o, e3, _, hR3⟩ := DataW.trod_int Try.underlying3 (by simpa [Value.cells] using hf3)
  simp only [List.cons.injEq, Value.int.injEq, true_and, and_true] at e3
  obtain rfl := e3.symm
  have h4k := h4
  obtain ⟨fuel4, hf4⟩ := h4
  obtain ⟨m4, hv4⟩ := okWide_int Try.underlying3 (hval 4 3 v4 rfl rfl)
  rw [hv4] at hf4
  obtain ⟨v, e4, _, hR4⟩ := DataW.trod_int Try.underlying3 (by simpa [Value.cells] using hf4)
  simp only [List.cons.injEq, Value.int.injEq, true_and, and_true] at e4
  obtain rfl := e4.symm
  have h5k := h5
  obtain ⟨fuel5, hf5⟩ := h5
  obtain ⟨cs5, hv5⟩ := okWide_agg Try.underlying23 (hval 5 23 v5 rfl rfl)
  rw [hv5] at hf5
  obtain ⟨fr, to, hR5⟩ := trod_span enc W _ _ fuel5 _ _ hf5
  obtain rfl : cs5 = #[.int .i64 fr, .int .i64 to] := by simpa [Value.cells] using congrArg List.toArray hR5
  have h6k := h6
  obtain ⟨fuel6, hf6⟩ := h6
  obtain ⟨m6, hv6⟩ := okWide_int Try.underlying3 (hval 6 3 v6 rfl rfl)
  rw [hv6] at hf6
  obtain ⟨kn, e6, _, hR6⟩ := DataW.trod_int Try.underlying3 (by simpa [Value.cells] using hf6)
  simp only [List.cons.injEq, Value.int.injEq, true_and, and_true] at e6
  obtain rfl := e6.symm
  have h7k := h7
  obtain ⟨fuel7, hf7⟩ := h7
  obtain ⟨m7, hv7⟩ := okWide_int Try.underlying3 (hval 7 3 v7 rfl rfl)
  rw [hv7] at hf7
  obtain ⟨t, e7, _, hR7⟩ := DataW.trod_int Try.underlying3 (by simpa [Value.cells] using hf7)
  simp only [List.cons.injEq, Value.int.injEq, true_and, and_true] at e7
  obtain rfl := e7.symm
  have h8k := h8
  obtain ⟨fuel8, hf8⟩ := h8
  obtain ⟨cs8, hv8⟩ := okWide_agg Try.underlying26 (hval 8 26 v8 rfl rfl)
  rw [hv8] at hf8
  obtain ⟨ok, os, oo, hR8⟩ := trod_key enc W _ _ fuel8 _ _ hf8
  obtain rfl : cs8 = #[.int .i64 ok, .int .i64 os, .int .i64 oo] := by simpa [Value.cells] using congrArg List.toArray hR8
  clear hf0
  clear hf1
  clear hf2
  clear hf3
  clear hf4
  clear hf5
  clear hf6
  clear hf7
  clear hf8
  subst hv0
  subst hv1
  subst hv2
  subst hv3
  subst hv4
  subst hv5
  subst hv6
  subst hv7
  subst hv8
  rw [hw0] at h0k hW' hval
  rw [hw0]
  clear hA0 hval0
  have hlt0 : ∀ x ∈ p0, x.block < W.heap.size := fun x hx => by have h := hW'.lt x (by simp [hx]); simpa using h
  have harg0 : ∀ (W' : World), Below W.heap.size W W' → DataW.Trod enc Try.prog W' 0 (fun b => decide (b < W.heap.size)) true 33 (.slice ao0 l.length cap0) d0 p0 :=
    fun W' hn => Below.trod laidOut (by kernel_rfl) (of_decide_eq_true (by kernel_rfl)) h0k hn hlt0
  have hlt1 : ∀ x ∈ p1, x.block < W.heap.size := fun x hx => by have h := hW'.lt x (by simp [hx]); simpa using h
  have harg1 : ∀ (W' : World), Below W.heap.size W W' → DataW.Trod enc Try.prog W' 0 (fun b => decide (b < W.heap.size)) true 3 (.int .i64 k) d1 p1 :=
    fun W' hn => Below.trod laidOut (by kernel_rfl) (of_decide_eq_true (by kernel_rfl)) h1k hn hlt1
  have hlt2 : ∀ x ∈ p2, x.block < W.heap.size := fun x hx => by have h := hW'.lt x (by simp [hx]); simpa using h
  have harg2 : ∀ (W' : World), Below W.heap.size W W' → DataW.Trod enc Try.prog W' 0 (fun b => decide (b < W.heap.size)) true 3 (.int .i64 s) d2 p2 :=
    fun W' hn => Below.trod laidOut (by kernel_rfl) (of_decide_eq_true (by kernel_rfl)) h2k hn hlt2
  have hlt3 : ∀ x ∈ p3, x.block < W.heap.size := fun x hx => by have h := hW'.lt x (by simp [hx]); simpa using h
  have harg3 : ∀ (W' : World), Below W.heap.size W W' → DataW.Trod enc Try.prog W' 0 (fun b => decide (b < W.heap.size)) true 3 (.int .i64 o) d3 p3 :=
    fun W' hn => Below.trod laidOut (by kernel_rfl) (of_decide_eq_true (by kernel_rfl)) h3k hn hlt3
  have hlt4 : ∀ x ∈ p4, x.block < W.heap.size := fun x hx => by have h := hW'.lt x (by simp [hx]); simpa using h
  have harg4 : ∀ (W' : World), Below W.heap.size W W' → DataW.Trod enc Try.prog W' 0 (fun b => decide (b < W.heap.size)) true 3 (.int .i64 v) d4 p4 :=
    fun W' hn => Below.trod laidOut (by kernel_rfl) (of_decide_eq_true (by kernel_rfl)) h4k hn hlt4
  have hlt5 : ∀ x ∈ p5, x.block < W.heap.size := fun x hx => by have h := hW'.lt x (by simp [hx]); simpa using h
  have harg5 : ∀ (W' : World), Below W.heap.size W W' → DataW.Trod enc Try.prog W' 0 (fun b => decide (b < W.heap.size)) true 23 (.agg #[.int .i64 fr, .int .i64 to]) d5 p5 :=
    fun W' hn => Below.trod laidOut (by kernel_rfl) (of_decide_eq_true (by kernel_rfl)) h5k hn hlt5
  have hlt6 : ∀ x ∈ p6, x.block < W.heap.size := fun x hx => by have h := hW'.lt x (by simp [hx]); simpa using h
  have harg6 : ∀ (W' : World), Below W.heap.size W W' → DataW.Trod enc Try.prog W' 0 (fun b => decide (b < W.heap.size)) true 3 (.int .i64 kn) d6 p6 :=
    fun W' hn => Below.trod laidOut (by kernel_rfl) (of_decide_eq_true (by kernel_rfl)) h6k hn hlt6
  have hlt7 : ∀ x ∈ p7, x.block < W.heap.size := fun x hx => by have h := hW'.lt x (by simp [hx]); simpa using h
  have harg7 : ∀ (W' : World), Below W.heap.size W W' → DataW.Trod enc Try.prog W' 0 (fun b => decide (b < W.heap.size)) true 3 (.int .i64 t) d7 p7 :=
    fun W' hn => Below.trod laidOut (by kernel_rfl) (of_decide_eq_true (by kernel_rfl)) h7k hn hlt7
  have hlt8 : ∀ x ∈ p8, x.block < W.heap.size := fun x hx => by have h := hW'.lt x (by simp [hx]); simpa using h
  have harg8 : ∀ (W' : World), Below W.heap.size W W' → DataW.Trod enc Try.prog W' 0 (fun b => decide (b < W.heap.size)) true 26 (.agg #[.int .i64 ok, .int .i64 os, .int .i64 oo]) d8 p8 :=
    fun W' hn => Below.trod laidOut (by kernel_rfl) (of_decide_eq_true (by kernel_rfl)) h8k hn hlt8
  have fin : ∀ (W' : World), Below W.heap.size W W' → Rows.petitionsAppliesSpec.post enc Try.checked.prog Try.f7 false true false false W #[(.slice ao0 l.length cap0), (.int .i64 k), (.int .i64 s), (.int .i64 o), (.int .i64 v), (.agg #[.int .i64 fr, .int .i64 to]), (.int .i64 kn), (.int .i64 t), (.agg #[.int .i64 ok, .int .i64 os, .int .i64 oo])] (.bool true) W' := by
    intro W' hnx
    refine ⟨_, _, _, [], (p0 ++ (p1 ++ (p2 ++ (p3 ++ (p4 ++ (p5 ++ (p6 ++ (p7 ++ (p8 ++ []))))))))), [], hW', ?_, (trodAll_cons_mk (harg0 _ hnx) (trodAll_cons_mk (harg1 _ hnx) (trodAll_cons_mk (harg2 _ hnx) (trodAll_cons_mk (harg3 _ hnx) (trodAll_cons_mk (harg4 _ hnx) (trodAll_cons_mk (harg5 _ hnx) (trodAll_cons_mk (harg6 _ hnx) (trodAll_cons_mk (harg7 _ hnx) (trodAll_cons_mk (harg8 _ hnx) trodAll_mk0))))))))), rfl, hnx.frame _, fun h => by cases h⟩
    exact trodAll_mk1 (shut_bool Try.underlying4 true)
  have hcall := law_applies l k s o v fr to kn t ok os oo (wf_i64 hR7) ao0 cap0 W hR0
  refine hcall.mono fun e W' ⟨he, hE⟩ => ?_
  subst he
  exact ⟨_, rfl, fin W' hE⟩

theorem PetitionsApplies_holds : Rows.PetitionsAppliesSaid :=
  OpenClaim.holds_of_wide 7 Try.f7 rfl rfl rfl rfl rfl rfl rfl ⟨rfl, rfl, rfl, rfl, rfl⟩ rfl rfl rfl rfl rfl (by kernel_rfl) Try.func7 (by kernel_rfl)
    (of_decide_eq_true (by kernel_rfl)) (by unfold Func.isWrapper; first | (rw [if_pos (by decide +kernel)]; kernel_rfl) | (rw [if_neg (by decide +kernel)]; exact ⟨rfl, rfl⟩))
    (fun os started H enc _ => applies_lifted os started H enc)

#print axioms PetitionsApplies_holds
end Go.Proofs.Ytbniicobkhiniaa

