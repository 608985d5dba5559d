/- The law for regions whose operations make memory, where some operations that read no memory may come behind the forced ones. No program in sight. -/
import Derived.Test.YtbniicobkhiniaaRG
namespace Go.Sz
open Go.RowKit
section
variable {P : Program} {ops : Array Oper} {md : Region.Mode} {W0 : World} {T : Nat → Option Spec} {m : Nat}

/-- operations that read no memory and yield or stop, whatever the world -/
def wless : Op → Bool
  | .move _ | .assign _ | .extract .. => true
  | _ => false
theorem wless_all {o : Oper} {a : Act} {u : Value} {W : World} (h : wless o.op = true) (hq : qly P o a W u) : ∀ w, (execOp a.eval o).run P w = .ok (.value u) w := by
  obtain ⟨dst, op, type, pos, after, guard⟩ := o
  unfold qly at hq
  cases op <;> simp only [wless] at h <;> try cases h
  all_goals unfold execOp at hq ⊢
  all_goals simp only at hq ⊢
  · simp only [Sem.run_pure, qUpon] at hq ⊢
    intro w; rw [hq.2]
  · simp only [Sem.run_pure, qUpon] at hq ⊢
    intro w; rw [hq.2]
  · rename_i t ix
    intro w
    unfold Instr.extract at hq ⊢
    cases hv : a.eval t with
    | tuple vs =>
      rw [hv] at hq
      simp only at hq ⊢
      cases hx : vs[ix]? with
      | some v =>
        rw [hx] at hq
        simp only [Sem.run_bind, Sem.run_pure, Result.andThen_ok, qUpon] at hq ⊢
        rw [hq.2]
      | none =>
        rw [hx] at hq
        simp [stuck, go_sem, qUpon] at hq
    | _ =>
      rw [hv] at hq
      simp [stuck, go_sem, qUpon] at hq

theorem wpAny_of_rel2 {Q : Exit → Act → World → Prop} {t : Nat} {U : List Nat} (hmt : m + t = ops.size) (hsel : ∀ (j : Nat) (o : Oper) cs b, ops[j]? = some o → o.op ≠ .select cs b)
    (hQ : ∀ c a d v w, Q (.panic c) (Act.put a d v) w → Q (.panic c) a w)
    (hU : ∀ i ∈ U, i < m ∧ T i = none ∧ ∃ o, ops[i]? = some o ∧ wless o.op = true ∧ ∀ j oj, ops[j]? = some oj → j ≠ i → j ∉ direct md ops i → (∀ e ∈ oj.after, Region.binds md e = true → e.on ≠ i) → o.apart ops oj = true)
    (htail : ∀ j, m ≤ j → j < ops.size → ∀ i, i < m → Anc md ops j i ∨ (i ∈ U ∧ ∀ d ∈ direct md ops i, Anc md ops j d)) :
    ∀ (fuel : Nat) (listed : Array Bool) (a : Act) (g : Gh) (W : World), Down md ops listed → listed.size = ops.size → (∀ j, m ≤ j → j < ops.size → listed.getD j true = false) → Cl W0 T All g W →
      wpAnyR P ops md W0 T m (fun a' g' => ∀ W, Cl W0 T All g' W → wpAny P md ops Q t (firstB m t) a' W) fuel listed a g → wpAny P md ops Q (fuel + t) listed a W := by
  intro fuel
  induction fuel with
  | zero =>
    intro listed a g W hd hsz htl hW h
    rw [Nat.zero_add]
    have : listed = firstB m t := by
      unfold firstB
      apply Array.ext
      · simp [hsz, hmt]
      · intro j h1 h2
        by_cases hj : j < m
        · rw [Array.getElem_append_left (by simpa using hj)]
          have := h.1 j hj
          simpa [h1] using this
        · rw [Array.getElem_append_right (by simpa using hj)]
          have := htl j (by omega) (by omega)
          simpa [h1] using this
    rw [this]
    exact h.2 W hW
  | succ fuel ih =>
    intro listed a g W hd hsz htl hW h
    obtain ⟨⟨k, hkm, hk⟩, h⟩ := h
    rw [show fuel + 1 + t = (fuel + t) + 1 by omega]
    have next : ∀ i, i < m → i ∈ Region.ready md ops listed → ∀ a' g' W', Cl W0 T All g' W' → wpAnyR P ops md W0 T m (fun a' g' => ∀ W, Cl W0 T All g' W → wpAny P md ops Q t (firstB m t) a' W) fuel (listed.setIfInBounds i true) a' g' → wpAny P md ops Q (fuel + t) (listed.setIfInBounds i true) a' W' := fun i him hi a' g' W' hW' hK =>
      ih _ _ g' W' (hd.set hi) (by simpa using hsz) (fun j h1 h2 => by rw [getD_set_ne true (by omega)]; exact htl j h1 h2) hW' hK
    by_cases hex : ∃ i, i ∈ U ∧ i ∈ Region.ready md ops listed
    · obtain ⟨i, hiU, hir⟩ := hex
      obtain ⟨him, hTi, o, ho, hwl, hap⟩ := hU i hiU
      have hcl : Cl W0 T (Anc md ops i) g W := hW.mono (fun _ _ => trivial) (fun _ _ => rfl)
      rcases h i hir him o ho with ⟨u, hy, hK⟩ | ⟨S, hy, _⟩
      · have hy' : Yields P ops o u a := by
          rcases hy with ⟨hw, _, hq⟩ | ⟨hw, rfl⟩
          · exact .inl ⟨hw, wless_all hwl (hq W hcl)⟩
          · exact .inr ⟨hw, rfl⟩
        exact wpAny_first ho hsel (fun c a w => hQ c a o.dst u w) _ _ _ _ (fun j oj hoj hji hun hno => hap j oj hoj hji (fun hd' => absurd rfl (listed_ne (direct_ready hir j hd') hun)) hno) hir hy' (next i him hir _ _ _ hW hK)
      · rw [hy.2.1] at hTi; cases hTi
    · refine ⟨fun h0 => (by rw [h0] at hk; cases hk), fun i hi => ?_⟩
      obtain ⟨hun, o, ho, _⟩ := mem_ready.1 hi
      have hlt : i < ops.size := (Array.getElem?_eq_some_iff.1 ho).1
      have him : i < m := by
        rcases Nat.lt_or_ge i m with h1 | h1
        · exact h1
        · rcases htail i h1 hlt k hkm with ha | ⟨hkU, _⟩
          · exact absurd rfl (listed_ne (anc_listed hd hi ha) (mem_ready.1 hk).1)
          · exact absurd ⟨k, hkU, hk⟩ hex
      have hcl : Cl W0 T (Anc md ops i) g W := hW.mono (fun _ _ => trivial) (fun _ _ => rfl)
      unfold wpOp
      simp only [ho]
      rcases h i hi him o ho with ⟨u, hy, hK⟩ | ⟨S, hy, hK⟩
      · rcases hy with ⟨hw, _, hq⟩ | ⟨hw, rfl⟩
        · simp only [hw, if_true]
          refine .inl ?_
          have hq := hq W hcl
          unfold qly at hq
          unfold Oper.wp
          generalize (execOp a.eval o).run P W = r at hq
          cases r with
          | ok n w' =>
            cases n <;> simp only [qUpon] at hq
            case value v => obtain ⟨rfl, rfl⟩ := hq; exact next i him hi _ _ _ hW hK
            case skip => obtain ⟨rfl, rfl⟩ := hq; exact next i him hi _ _ _ hW hK
          | halt x w' => simp only [qUpon] at hq
        · simp only [hw, Bool.false_eq_true, if_false]
          exact next i him hi _ _ _ hW hK
      · simp only [hy.1, if_true]
        refine .inl ?_
        have hq := hy.2.2 W hcl
        unfold gives at hq
        unfold Oper.wp
        generalize (execOp a.eval o).run P W = r at hq
        cases r with
        | ok n w' =>
          cases n <;> simp only [gUpon] at hq
          case value v => exact next i him hi _ _ _ (hW.upd hq.2 hy.2.1 hq.1) (hK v ⟨_, hW.upd hq.2 hy.2.1 hq.1⟩)
          case enter f args =>
            refine Calls.mono hq ?_
            rintro e w'' ⟨v, rfl, hR, hE⟩
            exact next i him hi _ _ _ (hW.upd hE hy.2.1 hR) (hK v ⟨_, hW.upd hE hy.2.1 hR⟩)
        | halt x w' => simp only [gUpon] at hq

def relB2 (ops : Array Oper) (m t : Nat) (U : List Nat) : Bool :=
  decide (m + t = ops.size) && Region.noSelect ops && lexPre .any ops m m 0 (Array.replicate ops.size false) &&
    ((List.range t).all fun j => (List.range m).all fun i => (ancs .any ops (m + j)).contains i || (U.contains i && (direct .any ops i).all fun d => (ancs .any ops (m + j)).contains d)) &&
    (U.all fun i => decide (i < m) && (match ops[i]? with
      | some o => wless o.op && (List.range ops.size).all fun j => j == i || (direct .any ops i).contains j || (match ops[j]? with
        | some oj => (oj.after.any fun e => Region.binds .any e && e.on == i) || o.apart ops oj
        | none => true)
      | none => false))

/-- The first m operations in the order of the text, those of U among them free to come late; the t behind them as ever. -/
theorem wp_region_rel2 {id : Nat} {Q : Exit → Act → World → Prop} {a : Act} {w : World} {l : List Oper} (T : Nat → Option Spec) (m t : Nat) (U : List Nat) (hm : P.follows .mixedOrders = true) (hB : relB2 l.toArray m t U = true) (hT : ∀ i ∈ U, T i = none)
    (hQ : ∀ c a d v w, Q (.panic c) (Act.put a d v) w → Q (.panic c) a w)
    (h : wpRel P l.toArray .any w.drew T (fun a' g' => ∀ W, Cl w.drew T All g' W → wpAny P .any l.toArray Q t (firstB m t) a' W) (l.take m) 0 a (fun _ => none)) : (Code.region id l.toArray true).wp P Q a w := by
  simp only [relB2, Bool.and_eq_true, decide_eq_true_eq, List.all_eq_true, List.mem_range] at hB
  obtain ⟨⟨⟨⟨hmt, hs⟩, hlex⟩, htail⟩, hUB⟩ := hB
  have hml : m ≤ l.length := by simp at hmt; omega
  have hlen : (l.take m).length = m := by simp; omega
  have hW : Cl w.drew T All (fun _ => none) w.drew := ⟨Ext.refl _, fun _ _ _ _ hv => by cases hv⟩
  have hd : Down .any l.toArray (Array.replicate l.toArray.size false) := fun j hj => by
    exfalso
    rcases Nat.lt_or_ge j l.length with h | h <;> simp [h] at hj
  have key := rel_lex (P := P) (md := .any) (m := m) (W0 := w.drew) (T := T) (ops := l.toArray) hs (l.take m) 0 (Array.replicate l.toArray.size false) a (fun _ => none) (fun j hj => by
    rw [hlen] at hj
    rw [List.getElem?_take, if_pos hj]
    simp) (by simp; omega) (by rw [hlen]; exact hlex) hd (fun _ _ => rfl) ⟨_, hW⟩ h
  rw [hlen] at key
  refine wp_region_any hm ?_
  have := wpAny_of_rel2 (P := P) (U := U) hmt (Region.noSelect_spec hs) hQ (fun i hi => by
    have h1 := hUB i hi
    cases ho : l.toArray[i]? with
    | none => rw [ho] at h1; simp at h1
    | some o =>
      rw [ho] at h1
      simp only [Bool.and_eq_true, List.all_eq_true, List.mem_range] at h1
      obtain ⟨h0, h2, h3⟩ := h1
      refine ⟨h0, hT i hi, o, rfl, h2, fun j oj hoj hji hnd hno => ?_⟩
      have hjl : j < l.toArray.size := (Array.getElem?_eq_some_iff.1 hoj).1
      have h4 := h3 j hjl
      rw [hoj] at h4
      simp only [Bool.or_eq_true, beq_iff_eq] at h4
      rcases h4 with (h4 | h4) | h4 | h4
      · exact absurd h4 hji
      · exact absurd (by simpa using h4) hnd
      · rw [Array.any_eq_true'] at h4
        obtain ⟨e, he, hb⟩ := h4
        simp only [Bool.and_eq_true, beq_iff_eq] at hb
        exact absurd hb.2 (hno e he hb.1)
      · exact h4) (fun j h1 h2 i hi => by
    have := htail (j - m) (by omega) i hi
    rw [show m + (j - m) = j by omega] at this
    simp only [Bool.or_eq_true, Bool.and_eq_true, List.all_eq_true] at this
    rcases this with h | ⟨h, h'⟩
    · exact .inl h
    · exact .inr ⟨by simpa using h, fun d hd => h' d hd⟩) m _ a _ w.drew hd (by simp) (fun j h1 h2 => by
      simp only [List.size_toArray] at h2
      simp [h2]) hW key
  rw [hmt] at this
  exact this
end
/-- a new variable of two cells that hold nil slices -/
def spVar2 (D : Nat) (t : TypeId) : Spec := ⟨fun v W => ∃ g, v = .pointer (some ⟨g, 0, none⟩) ∧ D ≤ g ∧ W.heap[g]? = some (.cells #[.slice none 0 0, .slice none 0 0] t (0, 0)), fun hE ⟨g, h1, h0, h2⟩ => ⟨g, h1, h0, (hE.block g (Array.getElem?_eq_some_iff.1 h2).1).trans h2⟩⟩
end Go.Sz
