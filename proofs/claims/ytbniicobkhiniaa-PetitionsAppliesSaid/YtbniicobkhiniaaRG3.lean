/- The law for regions whose operations make memory, where some operations behind the first m (moves, slices) read no memory and are taken first. No program in sight. -/
import Derived.Test.YtbniicobkhiniaaRG2
namespace Go.Sz
open Go.RowKit
section
variable {P : Program} {ops : Array Oper} {md : Region.Mode} {W0 : World} {T : Nat → Option Spec} {m : Nat}
def setAll : List Nat → Array Bool → Array Bool
  | [], b => b
  | e :: es, b => setAll es (b.setIfInBounds e true)
def earlyB (md : Region.Mode) (ops : Array Oper) : List Nat → Array Bool → Bool
  | [], _ => true
  | e :: es, b => (Region.ready md ops b).contains e && Region.free md ops b e && earlyB md ops es (b.setIfInBounds e true)
/-- each of them yields the same in every world -/
def earlyOK (P : Program) (ops : Array Oper) : List Nat → Act → (Act → Prop) → Prop
  | [], a, K => K a
  | e :: es, a, K => ∃ o u, ops[e]? = some o ∧ Yields P ops o u a ∧ earlyOK P ops es (a.put o.dst u) K
theorem earlyOK.cons {e : Nat} {es : List Nat} {a : Act} {K : Act → Prop} {o : Oper} (u : Value) (ho : ops[e]? = some o) (hy : Yields P ops o u a) (h : earlyOK P ops es (a.put o.dst u) K) : earlyOK P ops (e :: es) a K := ⟨o, u, ho, hy, h⟩
theorem wpAny_early {Q : Exit → Act → World → Prop} (hs : Region.noSelect ops = true) (hQ : ∀ c a d v w, Q (.panic c) (Act.put a d v) w → Q (.panic c) a w) : ∀ (es : List Nat) (n : Nat) (b : Array Bool) (a : Act) (w : World),
    earlyB md ops es b = true → earlyOK P ops es a (fun a' => wpAny P md ops Q n (setAll es b) a' w) → wpAny P md ops Q (n + es.length) b a w
  | [], _, _, _, _, _, h => h
  | e :: es, n, b, a, w, hB, ⟨o, u, ho, hy, h⟩ => by
    simp only [earlyB, Bool.and_eq_true] at hB
    obtain ⟨⟨h1, h2⟩, h3⟩ := hB
    rw [List.length_cons, ← Nat.add_assoc]
    exact wpAny_first ho (Region.noSelect_spec hs) (fun c a w => hQ c a o.dst u w) _ _ _ _ (fun j oj => Region.free_spec ho h2 j oj) (by simpa using h1) hy (wpAny_early hs hQ es n _ _ w h3 h)
theorem Down.early : ∀ (es : List Nat) (b : Array Bool), earlyB md ops es b = true → Down md ops b → Down md ops (setAll es b)
  | [], _, _, h => h
  | e :: es, b, hB, h => by
    simp only [earlyB, Bool.and_eq_true] at hB
    exact Down.early es _ hB.2 (h.set (by simpa using hB.1.1))
theorem setAll_size : ∀ (es : List Nat) (b : Array Bool), (setAll es b).size = b.size
  | [], _ => rfl
  | e :: es, b => by rw [setAll, setAll_size es]; simp
theorem wpAny_of_relE {Q : Exit → Act → World → Prop} {t : Nat} {fin : Array Bool} (hfs : fin.size = ops.size) (hfm : ∀ i, i < m → fin.getD i true = true) (htail : ∀ j, m ≤ j → j < ops.size → fin.getD j true = false → ∀ i, i < m → Anc md ops j i) :
    ∀ (fuel : Nat) (listed : Array Bool) (a : Act) (g : Gh) (W : World), Down md ops listed → listed.size = ops.size → (∀ j, m ≤ j → j < ops.size → listed.getD j true = fin.getD j true) → Cl W0 T All g W →
      wpAnyR P ops md W0 T m (fun a' g' => ∀ W, Cl W0 T All g' W → wpAny P md ops Q t fin a' W) fuel listed a g → wpAny P md ops Q (fuel + t) listed a W := by
  intro fuel
  induction fuel with
  | zero =>
    intro listed a g W hd hsz htl hW h
    rw [Nat.zero_add]
    have : listed = fin := by
      apply Array.ext
      · rw [hsz, hfs]
      · intro j h1 h2
        by_cases hj : j < m
        · have e1 := h.1 j hj
          have e2 := hfm j hj
          simp [h1] at e1
          simp [h2] at e2
          rw [e1, e2]
        · have := htl j (by omega) (by omega)
          simpa [h1, h2] using this
    rw [this]
    exact h.2 W hW
  | succ fuel ih =>
    intro listed a g W hd hsz htl hW h
    obtain ⟨⟨k, hkm, hk⟩, h⟩ := h
    rw [show fuel + 1 + t = (fuel + t) + 1 by omega]
    refine ⟨fun h0 => (by rw [h0] at hk; cases hk), fun i hi => ?_⟩
    obtain ⟨hun, o, ho, _⟩ := mem_ready.1 hi
    have hlt : i < ops.size := (Array.getElem?_eq_some_iff.1 ho).1
    have him : i < m := by
      rcases Nat.lt_or_ge i m with h1 | h1
      · exact h1
      · exact absurd rfl (listed_ne (anc_listed hd hi (htail i h1 hlt (by rw [← htl i h1 hlt]; exact hun) k hkm)) (mem_ready.1 hk).1)
    have next : ∀ v g' W', Cl W0 T All g' W' → wpAnyR P ops md W0 T m (fun a' g' => ∀ W, Cl W0 T All g' W → wpAny P md ops Q t fin a' W) fuel (listed.setIfInBounds i true) (a.put o.dst v) g' → wpAny P md ops Q (fuel + t) (listed.setIfInBounds i true) (a.put o.dst v) W' := fun v g' W' hW' hK =>
      ih _ _ g' W' (hd.set hi) (by simpa using hsz) (fun j h1 h2 => by rw [getD_set_ne true (by omega)]; exact htl j h1 h2) hW' hK
    have hcl : Cl W0 T (Anc md ops i) g W := hW.mono (fun _ _ => trivial) (fun _ _ => rfl)
    unfold wpOp
    simp only [ho]
    rcases h i hi him o ho with ⟨u, hy, hK⟩ | ⟨S, hy, hK⟩
    · rcases hy with ⟨hw, _, hq⟩ | ⟨hw, rfl⟩
      · simp only [hw, if_true]
        refine .inl ?_
        have hq := hq W hcl
        unfold qly at hq
        unfold Oper.wp
        generalize (execOp a.eval o).run P W = r at hq
        cases r with
        | ok n w' =>
          cases n <;> simp only [qUpon] at hq
          case value v => obtain ⟨rfl, rfl⟩ := hq; exact next _ _ _ hW hK
          case skip => obtain ⟨rfl, rfl⟩ := hq; exact next _ _ _ hW hK
        | halt x w' => simp only [qUpon] at hq
      · simp only [hw, Bool.false_eq_true, if_false]
        exact next _ _ _ hW hK
    · simp only [hy.1, if_true]
      refine .inl ?_
      have hq := hy.2.2 W hcl
      unfold gives at hq
      unfold Oper.wp
      generalize (execOp a.eval o).run P W = r at hq
      cases r with
      | ok n w' =>
        cases n <;> simp only [gUpon] at hq
        case value v => exact next _ _ _ (hW.upd hq.2 hy.2.1 hq.1) (hK v ⟨_, hW.upd hq.2 hy.2.1 hq.1⟩)
        case enter f args =>
          refine Calls.mono hq ?_
          rintro e w'' ⟨v, rfl, hR, hE⟩
          exact next _ _ _ (hW.upd hE hy.2.1 hR) (hK v ⟨_, hW.upd hE hy.2.1 hR⟩)
      | halt x w' => simp only [gUpon] at hq


def relBE (ops : Array Oper) (m t : Nat) (es : List Nat) : Bool :=
  decide (m + t + es.length = ops.size) && Region.noSelect ops && earlyB .any ops es (Array.replicate ops.size false) && lexPre .any ops m m 0 (setAll es (Array.replicate ops.size false)) &&
    ((List.range m).all fun i => (setAll es (firstB m (ops.size - m))).getD i true) &&
    ((List.range ops.size).all fun j => decide (j < m) || ((setAll es (Array.replicate ops.size false)).getD j true == (setAll es (firstB m (ops.size - m))).getD j true)) &&
    ((List.range ops.size).all fun j => decide (j < m) || (setAll es (firstB m (ops.size - m))).getD j true || (List.range m).all fun i => (ancs .any ops j).contains i)
/-- Those of es first; then the first m operations in the order of the text; the t that are left as ever. -/
theorem wp_region_relE {id : Nat} {Q : Exit → Act → World → Prop} {a : Act} {w : World} {l : List Oper} (T : Nat → Option Spec) (m t : Nat) (es : List Nat) (hm : P.follows .mixedOrders = true) (hB : relBE l.toArray m t es = true)
    (hQ : ∀ c a d v w, Q (.panic c) (Act.put a d v) w → Q (.panic c) a w)
    (h : earlyOK P l.toArray es a fun a1 => wpRel P l.toArray .any w.drew T (fun a' g' => ∀ W, Cl w.drew T All g' W → wpAny P .any l.toArray Q t (setAll es (firstB m (l.length - m))) a' W) (l.take m) 0 a1 (fun _ => none)) : (Code.region id l.toArray true).wp P Q a w := by
  simp only [relBE, Bool.and_eq_true, decide_eq_true_eq, List.all_eq_true, List.mem_range, Bool.or_eq_true, beq_iff_eq] at hB
  obtain ⟨⟨⟨⟨⟨⟨hmt, hs⟩, hea⟩, hlex⟩, hfm⟩, hft⟩, htail⟩ := hB
  have hml : m ≤ l.length := by simp at hmt; omega
  have hlen : (l.take m).length = m := by simp; omega
  have hW : Cl w.drew T All (fun _ => none) w.drew := ⟨Ext.refl _, fun _ _ _ _ hv => by cases hv⟩
  have hd : Down .any l.toArray (setAll es (Array.replicate l.toArray.size false)) := Down.early es _ hea fun j hj => by
    exfalso
    rcases Nat.lt_or_ge j l.length with h | h <;> simp [h] at hj
  refine wp_region_any hm ?_
  rw [show l.toArray.size = m + t + es.length from hmt.symm]
  refine wpAny_early hs hQ es (m + t) _ a _ (by rw [hmt]; exact hea) ?_
  rw [hmt]
  suffices H : ∀ a1, wpRel P l.toArray .any w.drew T (fun a' g' => ∀ W, Cl w.drew T All g' W → wpAny P .any l.toArray Q t (setAll es (firstB m (l.length - m))) a' W) (l.take m) 0 a1 (fun _ => none) → wpAny P .any l.toArray Q (m + t) (setAll es (Array.replicate l.toArray.size false)) a1 w.drew by
    have mono : ∀ (es : List Nat) (a : Act) (K K' : Act → Prop), (∀ a, K a → K' a) → earlyOK P l.toArray es a K → earlyOK P l.toArray es a K' := by
      intro es
      induction es with
      | nil => exact fun a K K' hk h => hk a h
      | cons e es ih => exact fun a K K' hk ⟨o, u, h1, h2, h3⟩ => ⟨o, u, h1, h2, ih _ _ _ hk h3⟩
    exact mono es a _ _ H h
  intro a1 h1
  have key := rel_lex (P := P) (md := .any) (m := m) (W0 := w.drew) (T := T) (ops := l.toArray) hs (l.take m) 0 (setAll es (Array.replicate l.toArray.size false)) a1 (fun _ => none) (fun j hj => by
    rw [hlen] at hj
    rw [List.getElem?_take, if_pos hj]
    simp) (by simp; omega) (by rw [hlen]; exact hlex) hd (fun _ _ => rfl) ⟨_, hW⟩ h1
  rw [hlen] at key
  refine wpAny_of_relE (P := P) (fin := setAll es (firstB m (l.length - m))) (by rw [setAll_size]; simp [firstB]; omega) (fun i hi => by simpa using hfm i hi) (fun j h1 h2 h3 i hi => ?_) m _ a1 _ w.drew hd (by rw [setAll_size]; simp) (fun j h1 h2 => ?_) hW key
  · rcases htail j h2 with (h | h) | h
    · omega
    · simp only [List.size_toArray] at h
      rw [h] at h3
      cases h3
    · exact h i hi
  · rcases hft j h2 with h | h
    · omega
    · simpa using h
end
end Go.Sz
