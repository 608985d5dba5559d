/- Petitions: facts in memory. -/
import Derived.Test.YtbniicobkhiniaaF2
import Derived.Handy
namespace Go.Sz
open Go.RowKit
def Ft.enc (f : Ft) : List Value := [.int .i64 f.k, .int .i64 f.s, .int .i64 f.o, .int .i64 f.v, .int .i64 f.fr, .int .i64 f.to, .int .i64 f.kn, .int .i64 f.no]
def frows (l : List Ft) : List (List Value) := l.map Ft.enc
theorem frows_length (l : List Ft) : (frows l).length = l.length := List.length_map _
theorem frows_wid (l : List Ft) : ∀ r ∈ frows l, r.length = 8 := by
  intro r hr
  simp only [frows, List.mem_map] at hr
  obtain ⟨x, _, rfl⟩ := hr
  rfl
theorem frows_append (l l' : List Ft) : frows (l ++ l') = frows l ++ frows l' := List.map_append
theorem frows_one (l : List Ft) : ∀ r ∈ frows l, ∀ u ∈ r, u.oneCell' = true := by
  intro r hr
  simp only [frows, List.mem_map] at hr
  obtain ⟨x, _, rfl⟩ := hr
  intro u hu
  simp [Ft.enc] at hu
  rcases hu with rfl | rfl | rfl | rfl | rfl | rfl | rfl | rfl <;> rfl
def RepF (w : World) (ao : Option Addr) (cap : Nat) (l : List Ft) : Prop := SL w 8 ao cap (frows l)
theorem RepF.ext {w W : World} {ao : Option Addr} {cap : Nat} {l : List Ft} (h : RepF w ao cap l) (hE : Ext w W) : RepF W ao cap l := SL.ext h hE
theorem RepF.nil (w : World) : RepF w none 0 [] := SL.empty _ _
theorem RepF.max {w : World} {ao : Option Addr} {cap : Nat} {l : List Ft} (h : RepF w ao cap l) : (l.length : Int) ≤ 9223372036854775807 := by
  have h1 := SL.max h; have h2 := SL.le h; rw [frows_length] at h2; omega
theorem RepF.le {w : World} {ao : Option Addr} {cap : Nat} {l : List Ft} (h : RepF w ao cap l) : l.length ≤ cap := by
  have h2 := SL.le h; rw [frows_length] at h2; exact h2
theorem RepF.of_own {w : World} {D e n : Nat} {v : Value} {l : List Ft} (h : w.ownsRow D e 8 v n (frows l).flatten) (hn : l.length = n) : ∃ ao cap, v = .slice ao l.length cap ∧ RepF w ao cap l ∧ (∀ a, ao = some a → D ≤ a.block) := by
  obtain ⟨ao, cap, h1, h2, h3⟩ := SL.of_own h (frows_wid l) (by rw [frows_length]; exact hn)
  exact ⟨ao, cap, by rw [h1, hn], h2, h3⟩
theorem f_cells {w W : World} {ao : Option Addr} {cap : Nat} {l : List Ft} (h : RepF w ao cap l) (hE : Ext w W) {i : Nat} (hi : i < l.length) : ∃ b o, ao = some ⟨b, o, none⟩ ∧
    W.cell? ⟨b, o + i * 8, none⟩ = some (.int .i64 l[i].k) ∧ W.cell? ⟨b, o + i * 8 + 1, none⟩ = some (.int .i64 l[i].s) ∧ W.cell? ⟨b, o + i * 8 + 2, none⟩ = some (.int .i64 l[i].o) ∧ W.cell? ⟨b, o + i * 8 + 3, none⟩ = some (.int .i64 l[i].v) ∧ W.cell? ⟨b, o + i * 8 + 4, none⟩ = some (.int .i64 l[i].fr) ∧ W.cell? ⟨b, o + i * 8 + 5, none⟩ = some (.int .i64 l[i].to) ∧ W.cell? ⟨b, o + i * 8 + 6, none⟩ = some (.int .i64 l[i].kn) ∧ W.cell? ⟨b, o + i * 8 + 7, none⟩ = some (.int .i64 l[i].no) := by
  have hr : (frows l)[i]? = some (Ft.enc l[i]) := by simp [frows, hi]
  obtain ⟨b, o, rfl, _⟩ := SL.at h (by omega) i (by rw [frows_length]; exact hi)
  exact ⟨b, o, rfl, by simpa using hE.cell (SL.cellAt h hr (j := 0) rfl), hE.cell (SL.cellAt h hr (j := 1) rfl), hE.cell (SL.cellAt h hr (j := 2) rfl), hE.cell (SL.cellAt h hr (j := 3) rfl), hE.cell (SL.cellAt h hr (j := 4) rfl), hE.cell (SL.cellAt h hr (j := 5) rfl), hE.cell (SL.cellAt h hr (j := 6) rfl), hE.cell (SL.cellAt h hr (j := 7) rfl)⟩
/-- the cells of a block -/
structure CB (w : World) (B : Nat) (vs : List Value) : Prop where
  at_ : ∀ (i : Nat) (v : Value), vs[i]? = some v → w.cell? ⟨B, i, none⟩ = some v
  fz : ∀ i, w.frozen? ⟨B, i, none⟩ = false
theorem CB.keep {w w' : World} {B : Nat} {vs : List Value} (h : CB w B vs) (hk : w'.heap[B]? = w.heap[B]?) : CB w' B vs :=
  ⟨fun i v hv => by simp only [World.cell?, hk]; exact h.at_ i v hv, fun i => by simp only [World.frozen?, hk]; exact h.fz i⟩
theorem CB.ext {w w' : World} {B : Nat} {vs : List Value} (h : CB w B vs) (hB : B < w.heap.size) (hE : Ext w w') : CB w' B vs := h.keep (hE.block B hB)
theorem CB.set {w : World} {B : Nat} {vs : List Value} (h : CB w B vs) {i : Nat} (hi : i < vs.length) (u : Value) : CB (w.setCell ⟨B, i, none⟩ u) B (vs.set i u) := by
  refine ⟨fun j v hv => ?_, fun j => by simp [h.fz]⟩
  rw [List.getElem?_set] at hv
  by_cases hij : i = j
  · subst hij
    rw [if_pos rfl, if_pos hi] at hv
    cases hv
    have hc := h.at_ i vs[i] (List.getElem?_eq_getElem hi)
    exact World.cell?_setCell_same' _ _ _ (by rw [hc]; rfl)
  · rw [if_neg hij] at hv
    rw [World.cell?_setCell_other _ _ _ _ (by intro e; cases e; exact hij rfl)]
    exact h.at_ j v hv
theorem cb_new (w : World) (vs : List Value) (t : TypeId) : CB (w.alloc (.cells vs.toArray t)) w.heap.size vs := ⟨fun i v h => by simp [h], fun i => by simp⟩
theorem CB.lt {w : World} {B : Nat} {vs : List Value} (h : CB w B vs) {v : Value} (h0 : vs[0]? = some v) : B < w.heap.size := World.block_lt_of_cell? _ _ (h.at_ 0 v h0)
theorem heap_far {w : World} {p : Addr} {u : Value} {b : Nat} (h : b ≠ p.block) : (w.setCell p u).heap[b]? = w.heap[b]? := heap_setCell_far _ _ _ _ h
end Go.Sz
