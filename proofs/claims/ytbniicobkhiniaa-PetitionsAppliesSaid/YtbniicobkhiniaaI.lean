/- Rows of integers in memory; no program in sight. -/
import Derived.Test.YtbniicobkhiniaaRG2
namespace Go.Sz
open Go.RowKit
def irows (l : List Int) : List (List Value) := l.map fun x => [.int .i64 x]
theorem irows_length (l : List Int) : (irows l).length = l.length := List.length_map _
theorem irows_cell {w W : World} {ao : Option Addr} {cap : Nat} {l : List Int} (h : SL w 1 ao cap (irows l)) (hE : Ext w W) {i : Nat} (hi : i < l.length) : ∃ b o, ao = some ⟨b, o, none⟩ ∧ W.cell? ⟨b, o + i, none⟩ = some (.int .i64 l[i]) := by
  have hr : (irows l)[i]? = some [.int .i64 l[i]] := by simp [irows, hi]
  obtain ⟨b, o, e, hc⟩ := h.cells i 0 _ _ hr rfl
  exact ⟨b, o, e, by simpa using hE.cell hc⟩
theorem irows_max {w : World} {ao : Option Addr} {cap : Nat} {l : List Int} (h : SL w 1 ao cap (irows l)) : (l.length : Int) ≤ 9223372036854775807 := by
  have h1 := h.max; have h2 := h.le; rw [irows_length] at h2; omega
/-- the first that is not 0 -/
def orL : List Int → Int
  | [] => 0
  | x :: xs => if x = 0 then orL xs else x
theorem orL_skip {l : List Int} {k : Nat} (h : k < l.length) (h0 : l[k] = 0) : orL (l.drop k) = orL (l.drop (k + 1)) := by
  rw [List.drop_eq_getElem_cons h]; simp [orL, h0]
theorem orL_stop {l : List Int} {k : Nat} (h : k < l.length) (h0 : l[k] ≠ 0) : orL (l.drop k) = l[k] := by
  rw [List.drop_eq_getElem_cons h]; simp [orL, h0]
def cmpI (x y : Int) : Int := if x < y then -1 else if y < x then 1 else 0
theorem cmpI_zero {a b : Int} : cmpI a b = 0 ↔ a = b := by unfold cmpI; split <;> (try split) <;> omega
theorem cmpI_neg {a b : Int} : cmpI a b < 0 ↔ a < b := by unfold cmpI; split <;> (try split) <;> omega
def withinB (n lo hi : Int) : Bool := decide (lo ≤ n) && decide (n ≤ hi)
theorem grow_cell {w : World} {q : Addr} {v : Value} (h : w.cell? q = some v) : ∀ X, (w.drew.grow X).cell? q = some v := fun X => ((Ext.refl w).drew.trans (ext_grow _ X)).cell h
/-- a slice's rows, and where its memory lies -/
def spSLf (k n : Nat) (rows : List (List Value)) (D : Nat) : Spec := ⟨fun v W => ∃ ao c, v = .slice ao n c ∧ SL W k ao c rows ∧ ∀ a, ao = some a → D ≤ a.block, fun hE ⟨ao, c, h1, h2, h3⟩ => ⟨ao, c, h1, h2.ext hE, h3⟩⟩
/-- what is returned does not hang on memory -/
def RetV (v : Value) (w : World) (e : Ending) (w' : World) : Prop := e = .returned v ∧ Ext w w'
end Go.Sz
