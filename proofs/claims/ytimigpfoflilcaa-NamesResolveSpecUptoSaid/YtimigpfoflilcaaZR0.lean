/- Names: the reference's Resolve, in plain Lean. -/
import Derived.Test.YtimigpfoflilcaaZ3
import Derived.Test.YtimigpfoflilcaaLTp
namespace Go.Sz
open Go.RowKit
def Cr.resT (l : List Cr) (x : Cr) : Cr × Bool := ({ x with need := (x.need.resT l).1, bar := (x.bar.resT l).1 }, (x.need.resT l).2 && (x.bar.resT l).2)
def Pr.resT (l : List Cr) (p : Pr) : Pr × Bool := ({ p with x := (numR l p.a p.x).getD 0, y := (numR l p.b p.y).getD 0 }, (numR l p.a p.x).isSome && (numR l p.b p.y).isSome)
def Rq.resT (l : List Cr) (q : Rq) : Rq × Bool := ({ q with fr := (q.nms.zip q.fr).map fun x => (numR l x.1 x.2).getD 0 }, (q.nms.zip q.fr).all fun x => (numR l x.1 x.2).isSome)
def Pg.resT (l : List Cr) (p : Pg) : Pg × Bool := ({ p with rq := p.rq.map fun q => (q.resT l).1 }, p.rq.all fun q => (q.resT l).2)
theorem travO_T {α β : Type} {f : α → Option β} {g : α → β × Bool} (h1 : ∀ a b, f a = some b → g a = (b, true)) (h2 : ∀ a, f a = none → (g a).2 = false) : ∀ l : List α, (l.all (fun a => (g a).2) = true → travO f l = some (l.map fun a => (g a).1)) ∧ (l.all (fun a => (g a).2) = false → travO f l = none) := by
  intro l
  induction l with
  | nil => exact ⟨fun _ => rfl, fun h => (by cases h)⟩
  | cons a l ih =>
    rw [List.all_cons, travO]
    cases e : f a with
    | none => rw [h2 a e]; exact ⟨fun h => (by cases h), fun _ => rfl⟩
    | some b =>
      rw [h1 a b e, Bool.true_and]
      refine ⟨fun h => ?_, fun h => ?_⟩
      · rw [ih.1 h, List.map_cons, h1 a b e]; rfl
      · rw [ih.2 h]; rfl
theorem resC_T (l : List Cr) : (∀ a b, resC l a = some b → Cr.resT l a = (b, true)) ∧ ∀ a, resC l a = none → (Cr.resT l a).2 = false := by
  refine ⟨fun a b h => ?_, fun a h => ?_⟩
  all_goals
    unfold resC at h
    unfold Cr.resT
    cases e : a.need.res l with
    | none =>
      rw [e] at h
      first
        | (cases h; done)
        | (rw [(Rt.resT_spec l a.need).2 e]; rfl)
    | some n =>
      cases e2 : a.bar.res l with
      | none =>
        rw [e, e2] at h
        first
          | (cases h; done)
          | (rw [(Rt.resT_spec l a.bar).2 e2, Bool.and_false])
      | some b' =>
        rw [e, e2] at h
        cases h
        try (rw [(Rt.resT_spec l a.need).1 _ e, (Rt.resT_spec l a.bar).1 _ e2]; rfl)
theorem resP_T (l : List Cr) : (∀ a b, resP l a = some b → Pr.resT l a = (b, true)) ∧ ∀ a, resP l a = none → (Pr.resT l a).2 = false := by
  refine ⟨fun a b h => ?_, fun a h => ?_⟩
  all_goals
    unfold resP at h
    unfold Pr.resT
    cases e : numR l a.a a.x with
    | none => rw [e] at h; all_goals (first | rfl | (cases h; done))
    | some n =>
      cases e2 : numR l a.b a.y with
      | none => rw [e, e2] at h; all_goals (first | rfl | (cases h; done))
      | some b' => rw [e, e2] at h; cases h; try rfl
theorem num_T (l : List Cr) : (∀ (a : ByteArray × Int) b, numR l a.1 a.2 = some b → ((numR l a.1 a.2).getD 0, (numR l a.1 a.2).isSome) = (b, true)) ∧ ∀ a : ByteArray × Int, numR l a.1 a.2 = none → (((numR l a.1 a.2).getD 0, (numR l a.1 a.2).isSome) : Int × Bool).2 = false :=
  ⟨fun a b h => by rw [h]; rfl, fun a h => by rw [h]; rfl⟩
theorem resQ_T (l : List Cr) : (∀ a b, resQ l a = some b → Rq.resT l a = (b, true)) ∧ ∀ a, resQ l a = none → (Rq.resT l a).2 = false := by
  refine ⟨fun a b h => ?_, fun a h => ?_⟩
  all_goals
    have ht := travO_T (f := fun x : ByteArray × Int => numR l x.1 x.2) (g := fun x => ((numR l x.1 x.2).getD 0, (numR l x.1 x.2).isSome)) (num_T l).1 (num_T l).2 (a.nms.zip a.fr)
    unfold resQ at h
    unfold Rq.resT
    cases e : (a.nms.zip a.fr).all fun x => (numR l x.1 x.2).isSome with
    | true => rw [ht.1 e] at h; cases h; try rfl
    | false => rw [ht.2 e] at h; all_goals (first | (cases h; done) | rfl)
theorem resG_T (l : List Cr) : (∀ a b, resG l a = some b → Pg.resT l a = (b, true)) ∧ ∀ a, resG l a = none → (Pg.resT l a).2 = false := by
  refine ⟨fun a b h => ?_, fun a h => ?_⟩
  all_goals
    have ht := travO_T (resQ_T l).1 (resQ_T l).2 a.rq
    unfold resG at h
    unfold Pg.resT
    cases e : a.rq.all fun q => (Rq.resT l q).2 with
    | true => rw [ht.1 e] at h; cases h; try rfl
    | false => rw [ht.2 e] at h; all_goals (first | (cases h; done) | rfl)
def Cat.numsT (c : Cat) : Cat := { c with cs := c.cs.map fun x => (x.resT c.cs).1, sm := c.sm.map fun x => (x.resT c.cs).1, pg := c.pg.map fun x => (x.resT c.cs).1 }
def Cat.good (c : Cat) : Bool := (c.cs.all fun x => (x.resT c.cs).2) && (c.sm.all fun x => (x.resT c.cs).2) && (c.pg.all fun x => (x.resT c.cs).2)
theorem nums_T (c : Cat) : (c.good = true → c.nums = some c.numsT) ∧ (c.good = false → c.nums = none) := by
  have h1 := travO_T (resC_T c.cs).1 (resC_T c.cs).2 c.cs
  have h2 := travO_T (resP_T c.cs).1 (resP_T c.cs).2 c.sm
  have h3 := travO_T (resG_T c.cs).1 (resG_T c.cs).2 c.pg
  unfold Cat.good
  refine ⟨fun h => ?_, fun h => ?_⟩
  · obtain ⟨h', e3⟩ := Bool.and_eq_true_iff.1 h
    obtain ⟨e1, e2⟩ := Bool.and_eq_true_iff.1 h'
    exact nums_of' (h1.1 e1) (h2.1 e2) (h3.1 e3)
  · rw [nums_none]
    cases e1 : c.cs.all fun x => (x.resT c.cs).2 with
    | false => exact .inl (h1.2 e1)
    | true =>
      cases e2 : c.sm.all fun x => (x.resT c.cs).2 with
      | false => exact .inr (.inl (h2.2 e2))
      | true =>
        cases e3 : c.pg.all fun x => (x.resT c.cs).2 with
        | false => exact .inr (.inr (h3.2 e3))
        | true => rw [e1, e2, e3] at h; cases h
/-- what holds wherever the blocks from N on, but one, stay -/
def FarN (N : Nat) (b : Option Nat) (W : World) (P : World → Prop) : Prop := ∀ W' : World, W.heap.size ≤ W'.heap.size → (∀ k, N ≤ k → k < W.heap.size → some k ≠ b → W'.heap[k]? = W.heap[k]?) → P W'
theorem FarN.now {N : Nat} {b : Option Nat} {W : World} {P : World → Prop} (h : FarN N b W P) : P W := h W (Nat.le_refl _) fun _ _ _ _ => rfl
theorem FarN.step {N : Nat} {b : Option Nat} {W V : World} {P : World → Prop} (h : FarN N b W P) (hs : W.heap.size ≤ V.heap.size) (hk : ∀ k, N ≤ k → k < W.heap.size → some k ≠ b → V.heap[k]? = W.heap[k]?) : FarN N b V P := fun W' h1 h2 =>
  h W' (Nat.le_trans hs h1) fun k hn hl hb => (h2 k hn (Nat.lt_of_lt_of_le hl hs) hb).trans (hk k hn hl hb)
theorem FarN.ext {N : Nat} {b : Option Nat} {W V : World} {P : World → Prop} (h : FarN N b W P) (hE : Ext W V) : FarN N b V P := h.step hE.size fun k _ hl _ => hE.block k hl
theorem FarN.store {N : Nat} {b : Option Nat} {W V : World} {P : World → Prop} {Y : Nat} (h : FarN N b W P) (hg : W.grownBy V (some Y)) (hY : Y < N) : FarN N b V P := h.step hg.size fun k hn hl _ => hg.block k hl (fun e => by cases e; omega)
theorem FarN.grow {N : Nat} {W V : World} {P : World → Prop} {v v' : Value} (h : FarN N v.ownBlock W P) (hg : Grows W v V v') : FarN N v'.ownBlock V P := fun W' h1 h2 =>
  h W' (Nat.le_trans hg.by_.size h1) fun k hn hk hb => (h2 k hn (Nat.lt_of_lt_of_le hk hg.by_.size) (fun e => by
    rcases hg.own k e.symm with h3 | h3
    · exact hb h3.symm
    · omega)).trans (hg.by_.block k hk hb)
theorem FarN.all {N : Nat} {b : Option Nat} {W : World} {P : World → Prop} (h : ∀ V : World, (∀ k (o : Obj), N ≤ k → some k ≠ b → W.heap[k]? = some o → o.isCells = true → V.heap[k]? = some o) → P V) : FarN N b W P := fun W' _ h2 =>
  h W' fun k _ hn hb hk _ => (h2 k hn (Array.getElem?_eq_some_iff.1 hk).1 hb).trans hk
/-- a course whose rules lie from M on, where the row that grows lies before M -/
theorem CrN.far {N M : Nat} {W : World} {x : Cr} {q : List Value} {b : Option Nat} (h : CrN M W x q) (hN : N ≤ M) (hb : ∀ k, b = some k → k < M) : FarN N b W fun V => CrN N V x q := FarN.all fun V hk => by
  obtain ⟨u, v, e, h1, h2, h3⟩ := h.keep (W := V) fun k o hM hk' ho => hk k o (by omega) (fun e => by have := hb k e.symm; omega) hk' ho
  exact ⟨u, v, e, h1.mono hN, h2.mono hN, h3⟩
theorem PgN.mono {w : World} {N M : Nat} {V : World} {p : Pg} {r : List Value} (h : PgN w N V p r) (hm : M ≤ N) : PgN w M V p r := by
  obtain ⟨a, k, rq, e, h1, h2, h3, h4⟩ := h
  exact ⟨a, k, rq, e, h1, h2, fun i q s hq hs => (h3 i q s hq hs).mono hm, fun x hx hr => Nat.le_trans hm (h4 x hx hr)⟩
theorem PgN.far {w : World} {N M : Nat} {W : World} {x : Pg} {q : List Value} {b : Option Nat} (h : PgN w M W x q) (hN : N ≤ M) (hb : ∀ k, b = some k → k < M) : FarN N b W fun V => PgN w N V x q := FarN.all fun V hk =>
  (h.keep (W := V) fun k o hM hk' ho => hk k o (by omega) (fun e => by have := hb k e.symm; omega) hk' ho).mono hN
theorem RqN.far {w : World} {N M : Nat} {W : World} {x : Rq} {q : List Value} {b : Option Nat} (h : RqN w M W x q) (hN : N ≤ M) (hb : ∀ k, b = some k → k < M) : FarN N b W fun V => RqN w N V x q := FarN.all fun V hk =>
  (h.keep (W := V) fun k o hM hk' ho => hk k o (by omega) (fun e => by have := hb k e.symm; omega) hk' ho).mono hN
end Go.Sz
