/- A list that is read under way: its rows, its elements' memory. No program in sight. -/
import Derived.Test.YtahaplioegeloaaDoorD5
namespace Go.Sz
open Go.RowKit
theorem lenP_le {bs r : List UInt8} {n : Nat} (h : lenP bs = some (n, r)) : r.length ≤ bs.length := by
  unfold lenP at h
  split at h
  · rename_i n' r' hn
    split at h
    · simp at h
      obtain ⟨rfl, rfl⟩ := h
      have := (numP_lt bs 0 0 _ _ hn (by simp) (by omega)).2
      omega
    · cases h
  · cases h
theorem four_cells {W : World} {b : Nat} {x0 x1 x2 x3 : Value} (h0 : W.cell? ⟨b, 0, none⟩ = some x0) (h1 : W.cell? ⟨b, 1, none⟩ = some x1) (h2 : W.cell? ⟨b, 2, none⟩ = some x2) (h3 : W.cell? ⟨b, 3, none⟩ = some x3) :
    ∀ (j : Nat) (u : Value), [x0, x1, x2, x3][j]? = some u → W.cell? ((⟨b, 0, none⟩ : Addr).add j) = some u := by
  intro j u hj
  rw [Addr.add_lit] 
  match j with
  | 0 => simp at hj; subst hj; exact h0
  | 1 => simp at hj; subst hj; exact h1
  | 2 => simp at hj; subst hj; exact h2
  | 3 => simp at hj; subst hj; exact h3
  | j + 4 => simp at hj
theorem ownsRow_slice {w : World} {base e size n : Nat} {v : Value} {xs : List Value} (h : w.ownsRow base e size v n xs) : ∃ ao cap, v = .slice ao n cap := by
  rcases h.2 with ⟨rfl, rfl⟩ | ⟨g, cap, cur, rfl, _⟩
  · exact ⟨none, 0, rfl⟩
  · exact ⟨_, cap, rfl⟩
/-- a list under way: its rows in own memory, its elements' memory, the reader behind them -/
structure Lst (w0 : World) (p : Addr) (B : Nat) (e : TypeId) (xs : List V) (wr : World) (v : Value) (rows : List (List Value)) (F : Nat → Prop) : Prop where
  own : wr.ownsRow (B + 1) e 4 v xs.length rows.flatten
  len : rows.length = xs.length
  wid : ∀ r ∈ rows, r.length = 4
  one : ∀ r ∈ rows, ∀ u ∈ r, u.oneCell' = true
  rep : ∀ (j : Nat) (r : List Value) (x : V), rows[j]? = some r → xs[j]? = some x → RepV wr F r x
  foot : ∀ b, F b → B + 1 ≤ b ∧ b < wr.heap.size ∧ NotBlk v b
  turn : Turn p.block w0 wr

theorem RepV.bound {w : World} {F : Nat → Prop} {cs : List Value} {v : V} (h : RepV w F cs v) : RepV w (fun b => F b ∧ b < w.heap.size) cs v := by
  induction h with
  | @mk k n s ao cap l rows hk hn hs hsl hF hlen _ ih =>
    refine .mk rows hk hn hs hsl (fun a ha hr => ⟨hF a ha hr, ?_⟩) hlen ih
    match rows, hr with
    | r :: rs, _ =>
      have h4 := hsl.wid r (by simp)
      match r, h4 with
      | u :: us, _ =>
        obtain ⟨b, o, e, hc⟩ := hsl.cells 0 0 (u :: us) u (by simp) (by simp)
        rw [ha] at e
        cases e
        exact World.block_lt_of_cell? _ _ hc

theorem Turn.grows {g : Nat} {a b c : World} {v v' : Value} (h : Turn g a b) (k : Grows b v c v') (hv : ∀ j, v.ownBlock = some j → a.heap.size ≤ j) : Turn g a c :=
  ⟨k.by_.os.trans h.os, k.by_.tape.trans h.tape, k.by_.output.trans h.output, Nat.le_trans h.size k.by_.size, fun j hj hne => by
    rw [k.by_.block j (Nat.lt_of_lt_of_le hj h.size) (fun e => by have := hv j e.symm; omega)]
    exact h.block j hj hne⟩

/-- one more element, and the list's variable -/
theorem Lst.push {w0 wr w4 w5 : World} {p : Addr} {B : Nat} {e : TypeId} {xs : List V} {v v5 : Value} {rows : List (List Value)} {F Fx : Nat → Prop} (hL : Lst w0 p B e xs wr v rows F) (hp : p.block < B) (hw0 : w0.heap.size = B)
    (hTx : Turn p.block wr w4) {cs : List Value} {x : V} (hRx : RepV w4 Fx cs x) (hFx : ∀ b, Fx b → wr.heap.size ≤ b) (h1 : ∀ u ∈ cs, u.oneCell' = true) {o : Obj} (hg : Grows (w4.alloc o) v w5 v5)
    (ho : w5.ownsRow (B + 1) e 4 v5 (xs.length + 1) (rows.flatten ++ cs)) (hB : B < wr.heap.size) (u : Value) :
    Lst w0 p B e (xs ++ [x]) (w5.setCell ⟨B, 3, none⟩ u) v5 (rows ++ [cs]) (fun b => F b ∨ (Fx b ∧ b < w4.heap.size)) := by
  have hvB : ∀ j, v.ownBlock = some j → B + 1 ≤ j := ownsRow_blocks hL.own
  have hv5B : ∀ j, v5.ownBlock = some j → B + 1 ≤ j := ownsRow_blocks ho
  have hbk : ∀ b, b < wr.heap.size → B + 1 ≤ b → NotBlk v b → (w5.setCell ⟨B, 3, none⟩ u).heap[b]? = wr.heap[b]? := fun b h1 h2 h3 => by
    rw [heap_setCell_far _ _ _ _ (by show b ≠ B; omega), hg.by_.block b (by have := hTx.size; simp; omega) (fun e => h3 b e.symm rfl), ((Ext.refl w4).alloc o).block b (by have := hTx.size; omega)]
    exact hTx.block b h1 (fun e => by cases e; omega)
  have hb4 : ∀ b, b < w4.heap.size → B + 1 ≤ b → NotBlk v b → (w5.setCell ⟨B, 3, none⟩ u).heap[b]? = w4.heap[b]? := fun b h1 h2 h3 => by
    rw [heap_setCell_far _ _ _ _ (by show b ≠ B; omega), hg.by_.block b (by simp; omega) (fun e => h3 b e.symm rfl), ((Ext.refl w4).alloc o).block b h1]
  have hsz : (w5.setCell ⟨B, 3, none⟩ u).heap.size = w5.heap.size := by simp [World.setCell]
  have hsz5 : w4.heap.size < w5.heap.size := by have := hg.by_.size; simp at this; omega
  have hlv : ∀ j, v.ownBlock = some j → j < wr.heap.size := fun j hj => by
    have h := hL.own.2
    rcases h with ⟨rfl, _⟩ | ⟨g, cap, cur, rfl, hb, hgg, rest⟩
    · cases hj
    · cases hj
      exact (Array.getElem?_eq_some_iff.1 hgg).1
  refine ⟨?_, ?_, ?_, ?_, ?_, ?_, ?_⟩
  · rw [List.flatten_append, List.length_append]
    simp only [List.flatten_cons, List.flatten_nil, List.append_nil, List.length_cons, List.length_nil, Nat.zero_add]
    exact ho.kept (Turn.setCell w5 ⟨B, 3, none⟩ u) (Or.inr fun e => by have := hv5B _ e; simp at this; omega)
  · simp [hL.len]
  · intro r hr
    rcases List.mem_append.1 hr with hr | hr
    · exact hL.wid r hr
    · simp at hr; subst hr; exact hRx.length
  · intro r hr
    rcases List.mem_append.1 hr with hr | hr
    · exact hL.one r hr
    · simp at hr; subst hr; exact h1
  · intro j r y hr hy
    have hl := hL.len
    rcases Nat.lt_or_ge j rows.length with hj | hj
    · rw [List.getElem?_append_left hj] at hr
      rw [List.getElem?_append_left (by omega)] at hy
      exact ((hL.rep j r y hr hy).keep fun b hb => hbk b (hL.foot b hb).2.1 (hL.foot b hb).1 (hL.foot b hb).2.2).weaken fun b hb => .inl hb
    · rw [List.getElem?_append_right hj] at hr
      rw [List.getElem?_append_right (by omega)] at hy
      have hj0 : j = rows.length := by
        have := (List.getElem?_eq_some_iff.1 hr).1
        simp at this; omega
      rw [show j - rows.length = 0 by omega] at hr
      rw [show j - xs.length = 0 by omega] at hy
      simp at hr hy
      subst hr hy
      refine (hRx.bound.keep fun b hb => hb4 b hb.2 (by have := hFx b hb.1; omega) fun k hk => ?_).weaken fun b hb => .inr hb
      have h2 := hlv k hk
      have h3 := hFx b hb.1
      omega
  · intro b hb
    rcases hb with hb | ⟨hb, hlt⟩
    · obtain ⟨h1, h2, h3⟩ := hL.foot b hb
      exact ⟨h1, by have := hTx.size; omega, hg.notBlk (by have := hTx.size; simp; omega) h3⟩
    · have h3 := hFx b hb
      refine ⟨by omega, by omega, hg.notBlk (by simp; omega) fun k hk => ?_⟩
      have h2 := hlv k hk
      omega
  · refine Turn.store ?_ _ _ (by show w0.heap.size ≤ B; omega)
    exact (hL.turn.trans (hTx.trans (Turn.of_ext ((Ext.refl w4).alloc o)))).grows hg fun j hj => by have := hvB j hj; omega
end Go.Sz
