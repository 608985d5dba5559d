/- Petitions: two rows of one's own, in variables of their own. -/
import Derived.Test.YtbniicobkhiniaaFJ
namespace Go.Sz
open Go.RowKit
/-- a variable of one cell, known whole -/
def Boxed1 (W : World) (B : Nat) (t : TypeId) (u : Value) : Prop := W.heap[B]? = some (.cells #[u] t (0, 0))
theorem Boxed1.lt {W : World} {B : Nat} {t : TypeId} {u : Value} (h : Boxed1 W B t u) : B < W.heap.size := (Array.getElem?_eq_some_iff.1 h).1
theorem Boxed1.cell {W : World} {B : Nat} {t : TypeId} {u : Value} (h : Boxed1 W B t u) : W.cell? ⟨B, 0, none⟩ = some u := by simp [World.cell?, show W.heap[B]? = _ from h]
theorem Boxed1.froz {W : World} {B : Nat} {t : TypeId} {u : Value} (h : Boxed1 W B t u) : W.frozen? ⟨B, 0, none⟩ = false := by simp [World.frozen?, show W.heap[B]? = _ from h]
theorem Boxed1.new (W : World) (t : TypeId) (u : Value) (B : Nat) (hB : B = W.heap.size) : Boxed1 (W.alloc (.cells #[u] t)) B t u := by subst hB; exact heap_alloc_new W _
theorem Boxed1.keep {W W' : World} {B : Nat} {t : TypeId} {u : Value} (h : Boxed1 W B t u) (hk : W'.heap[B]? = W.heap[B]?) : Boxed1 W' B t u := hk.trans h
theorem Boxed1.ext {W W' : World} {B : Nat} {t : TypeId} {u : Value} (h : Boxed1 W B t u) (hE : Ext W W') : Boxed1 W' B t u := h.keep (hE.block B h.lt)
theorem Boxed1.set {W : World} {B : Nat} {t : TypeId} {u : Value} (h : Boxed1 W B t u) (x : Value) : Boxed1 (W.setCell ⟨B, 0, none⟩ x) B t x := by
  unfold Boxed1 World.setCell at *
  simp only [Array.getElem?_modify, if_true, h, Option.map_some]
  congr 2
theorem Boxed1.own {β : Type} (B n : Nat) (t : TypeId) (f : β → Value) : OwnFrom n (fun s W => Boxed1 W B t (f s)) := fun s X Y row hs hg hrow =>
  hs.keep (hg.block B hs.lt (fun e' => by obtain ⟨_, o, ho, hc⟩ := hrow B e'.symm; rw [show X.heap[B]? = _ from hs] at ho; cases ho; cases hc))
theorem ownsRow_own {β : Type} (n D : Nat) (e : TypeId) (size : Nat) (v : Value) (k : Nat) (xs : List Value) : OwnFrom n (fun (_ : β) W => W.ownsRow D e size v k xs) := fun s X Y row hr hg hrow => by
  refine hr.kept hg ?_
  rcases hr.2 with ⟨rfl, _⟩ | ⟨g, cap, cur, rfl, _, hgb, _⟩
  · exact .inl rfl
  · refine .inr fun e' => ?_
    obtain ⟨_, o, ho, hc⟩ := hrow g (by simpa [Value.ownBlock] using e'.symm)
    rw [hgb] at ho; cases ho; cases hc
theorem four_cells {W : World} {b : Nat} {x0 x1 x2 x3 : Value} (h0 : W.cell? ⟨b, 0, none⟩ = some x0) (h1 : W.cell? ⟨b, 1, none⟩ = some x1) (h2 : W.cell? ⟨b, 2, none⟩ = some x2) (h3 : W.cell? ⟨b, 3, none⟩ = some x3) :
    ∀ j u, [x0, x1, x2, x3][j]? = some u → W.cell? ((⟨b, 0, none⟩ : Addr).add j) = some u := by
  intro j u hu
  rw [Addr.add_lit, Nat.zero_add]
  match j, hu with
  | 0, hu => cases hu; exact h0
  | 1, hu => cases hu; exact h1
  | 2, hu => cases hu; exact h2
  | 3, hu => cases hu; exact h3
  | j + 4, hu => simp at hu
/-- two rows of their own do not share a block -/
def Apart2 (u v : Value) : Prop := ∀ k, u.ownBlock = some k → v.ownBlock ≠ some k
theorem Apart2.symm {u v : Value} (h : Apart2 u v) : Apart2 v u := fun k h1 h2 => h k h2 h1
theorem ownsRow_lt' {W : World} {D e size n : Nat} {v : Value} {xs : List Value} (h : W.ownsRow D e size v n xs) : ∀ k, v.ownBlock = some k → k < W.heap.size := fun k hk => by
  rcases h.2 with ⟨rfl, _⟩ | ⟨g, cap, cur, rfl, _, h2, _⟩
  · cases hk
  · obtain rfl : g = k := by simpa [Value.ownBlock] using hk
    exact (Array.getElem?_eq_some_iff.1 h2).1
theorem ownsRow_heap {W W' : World} {D e size n : Nat} {v : Value} {xs : List Value} (h : W.ownsRow D e size v n xs) (hk : ∀ k, v.ownBlock = some k → W'.heap[k]? = W.heap[k]?) : W'.ownsRow D e size v n xs := by
  rcases h.2 with ⟨rfl, h0⟩ | ⟨g, cap, cur, rfl, h1, h2, h3⟩
  · exact ⟨h.1, .inl ⟨rfl, h0⟩⟩
  · exact ⟨h.1, .inr ⟨g, cap, cur, rfl, h1, by rw [hk g rfl]; exact h2, h3⟩⟩
/-- behind 'x = append(x, e)', x a variable of its own, beside another one -/
theorem Boxed1.appended {W w1 : World} {n1 B C : Nat} {t e t2 e2 : TypeId} {size size2 : Nat} {u v v' : Value} {k m j : Nat} {xs ys zs : List Value} {tmp : Obj}
    (hu : Boxed1 W B t u) (hv : Boxed1 W C t2 v) (hrow : W.ownsRow n1 e size u k xs) (hrow2 : W.ownsRow n1 e2 size2 v j zs) (hap : Apart2 u v) (hn1 : n1 ≤ W.heap.size) (hB : B < n1) (hC : C < n1) (hBC : B ≠ C)
    (hown' : w1.ownsRow n1 e size v' m ys) (hgrow : (W.alloc tmp).grownBy w1 u.ownBlock) (hat : v'.ownBlock = u.ownBlock ∨ v'.ownBlock = some (W.alloc tmp).heap.size) :
    Boxed1 w1 B t u ∧ Boxed1 (w1.setCell ⟨B, 0, none⟩ v') B t v' ∧ Boxed1 (w1.setCell ⟨B, 0, none⟩ v') C t2 v ∧ (w1.setCell ⟨B, 0, none⟩ v').ownsRow n1 e size v' m ys ∧ (w1.setCell ⟨B, 0, none⟩ v').ownsRow n1 e2 size2 v j zs ∧ Apart2 v' v ∧
      KeepsOthers W (w1.setCell ⟨B, 0, none⟩ v') ∧ (∀ b, b < n1 → b ≠ B → (w1.setCell ⟨B, 0, none⟩ v').heap[b]? = W.heap[b]?) ∧ W.heap.size ≤ (w1.setCell ⟨B, 0, none⟩ v').heap.size ∧ Below B W (w1.setCell ⟨B, 0, none⟩ v') := by
  have hb := ownsRow_blocks hrow
  have hb2 := ownsRow_blocks hrow2
  have hb' := ownsRow_blocks hown'
  have hl2 := ownsRow_lt' hrow2
  have hs : ∀ b, b ≠ B → (w1.setCell ⟨B, 0, none⟩ v').heap[b]? = w1.heap[b]? := fun b hb => heap_setCell_far w1 ⟨B, 0, none⟩ v' b hb
  have hg : ∀ b, b < W.heap.size → some b ≠ u.ownBlock → w1.heap[b]? = W.heap[b]? := fun b h1 h2 => (hgrow.block b (by simp; omega) h2).trans (Below.heap_alloc W tmp b h1)
  have hsz : W.heap.size ≤ w1.heap.size := Nat.le_trans (by simp) hgrow.size
  have hu1 : Boxed1 w1 B t u := hu.keep (hg B (by omega) (fun e => by have := hb B e.symm; omega))
  refine ⟨hu1, hu1.set v', hv.keep ((hs C (Ne.symm hBC)).trans (hg C (by omega) (fun e => by have := hb C e.symm; omega))), ?_, ?_, ?_, ?_, ?_, by simpa using hsz, ⟨hgrow.os, hgrow.tape, hgrow.output, by simpa using hsz, fun b h1 => ?_⟩⟩
  · exact ownsRow_heap hown' fun g hg' => hs g (by have := hb' g hg'; omega)
  · exact ownsRow_heap hrow2 fun g hg' => (hs g (by have := hb2 g hg'; omega)).trans (hg g (hl2 g hg') (fun e => hap g e.symm hg'))
  · intro g hg1 hg2
    have := hl2 g hg2
    rcases hat with h | h
    · exact hap g (h ▸ hg1) hg2
    · rw [h] at hg1; injection hg1 with hg1; rw [World.size_alloc] at hg1; omega
  · refine ((KeepsOthers.alloc W tmp).trans (KeepsOthers.of_grownBy hgrow fun j o ej hj => ?_)).trans (KeepsOthers.setCell _ _ _)
    rcases hrow.2 with ⟨rfl, _⟩ | ⟨g, cap, cur, rfl, _, hgb, _⟩
    · simp [Value.ownBlock] at ej
    · obtain rfl : g = j := by simpa [Value.ownBlock] using ej
      rw [Below.heap_alloc W tmp g (Array.getElem?_eq_some_iff.1 hgb).1, hgb] at hj; cases hj; rfl
  · intro b h1 h2
    rw [hs b h2]
    exact hg b (by omega) (fun e => by have := hb b e.symm; omega)
  · rw [hs b (by omega)]
    exact hg b (by omega) (fun e => by have := hb b e.symm; omega)
/-- behind an append onto the first of two rows -/
theorem two_rows {W w1 : World} {D2 e2 size2 : Nat} {u v v' : Value} {j : Nat} {zs : List Value} {tmp : Obj} (hv : W.ownsRow D2 e2 size2 v j zs) (hap : Apart2 u v) (hg : Grows (W.alloc tmp) u w1 v') : w1.ownsRow D2 e2 size2 v j zs ∧ Apart2 v' v := by
  have hl := ownsRow_lt' hv
  refine ⟨ownsRow_heap (ownsRow_ext hv ((Ext.refl W).alloc tmp)) fun k hk => hg.by_.block k (by have := hl k hk; simp; omega) (fun e => hap k e.symm hk), fun k h1 h2 => ?_⟩
  rcases hg.own k h1 with h | h
  · exact hap k h h2
  · have := hl k h2
    rw [World.size_alloc] at h
    omega
end Go.Sz
