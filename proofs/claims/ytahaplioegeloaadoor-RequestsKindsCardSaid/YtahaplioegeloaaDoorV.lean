/- Values of the codec as a plain type, and how they lie in memory. No program in sight. -/
import Derived.Test.YtahaplioegeloaaDoorMem
namespace Go.Sz
open Go.RowKit

/-- A value of the codec: its kind, its number, its text, its list. -/
inductive V where
  | mk (k n : Int) (s : ByteArray) (l : List V)

instance : Inhabited V := ⟨.mk 0 0 ByteArray.empty []⟩

mutual
/-- how deep lists are nested, whatever the kinds say -/
def V.ht : V → Nat
  | .mk _ _ _ l => V.htL l + 1
def V.htL : List V → Nat
  | [] => 0
  | x :: xs => max x.ht (V.htL xs)
end

mutual
def V.wf : V → Bool
  | .mk k n s l => if k = 1 then s.size == 0 && l.isEmpty else if k = 2 then n == 0 && l.isEmpty else if k = 3 then n == 0 && s.size == 0 && V.wfL l else false
def V.wfL : List V → Bool
  | [] => true
  | x :: xs => x.wf && V.wfL xs
end

mutual
def V.dep : V → Nat
  | .mk k _ _ l => if k = 3 then V.depL l + 1 else 0
def V.depL : List V → Nat
  | [] => 0
  | x :: xs => max x.dep (V.depL xs)
end

theorem V.htL_mem {l : List V} {x : V} (h : x ∈ l) : x.ht ≤ V.htL l := by
  induction l with
  | nil => cases h
  | cons y ys ih =>
    simp only [V.htL]
    rcases List.mem_cons.1 h with rfl | h
    · omega
    · have := ih h; omega

theorem V.depL_le {l : List V} {N : Nat} (h : ∀ x ∈ l, x.dep ≤ N) : V.depL l ≤ N := by
  induction l with
  | nil => simp [V.depL]
  | cons y ys ih =>
    simp only [V.depL]
    have := h y (by simp)
    have := ih (fun x hx => h x (by simp [hx]))
    omega

theorem V.depL_append (l m : List V) : V.depL (l ++ m) = max (V.depL l) (V.depL m) := by
  induction l with
  | nil => simp [V.depL]
  | cons y ys ih => simp only [List.cons_append, V.depL, ih]; omega

theorem V.wfL_append (l m : List V) : V.wfL (l ++ m) = (V.wfL l && V.wfL m) := by
  induction l with
  | nil => simp [V.wfL]
  | cons y ys ih => simp only [List.cons_append, V.wfL, ih, Bool.and_assoc]

theorem V.wfL_all (l : List V) : V.wfL l = l.all V.wf := by
  induction l with
  | nil => rfl
  | cons y ys ih => simp [V.wfL, ih]

theorem V.depL_take_succ {l : List V} {k : Nat} (hk : k < l.length) : V.depL (l.take (k + 1)) = max (V.depL (l.take k)) l[k].dep := by
  rw [List.take_succ_eq_append_getElem hk, V.depL_append]; simp [V.depL]
theorem V.wfL_take_succ {l : List V} {k : Nat} (hk : k < l.length) : V.wfL (l.take (k + 1)) = (V.wfL (l.take k) && l[k].wf) := by
  rw [List.take_succ_eq_append_getElem hk, V.wfL_append]; simp [V.wfL]
theorem V.wfL_false {l : List V} {k : Nat} (hk : k < l.length) (h : l[k].wf = false) : V.wfL l = false := by
  rw [V.wfL_all]
  rw [Bool.eq_false_iff]
  intro h2
  rw [List.all_eq_true] at h2
  rw [h2 _ (List.getElem_mem hk)] at h
  cases h

theorem V.dep_le_ht : ∀ (N : Nat) (v : V), v.ht ≤ N → v.dep ≤ v.ht := by
  intro N
  induction N with
  | zero => intro v hv; cases v; simp [V.ht] at hv
  | succ N ih =>
    intro v hv
    cases v with
    | mk k n s l =>
      simp only [V.ht] at hv
      simp only [V.dep, V.ht]
      split
      · have := V.depL_le (l := l) (N := V.htL l) (fun x hx => Nat.le_trans (ih x (by have := V.htL_mem hx; omega)) (V.htL_mem hx))
        omega
      · omega

def inI64 (n : Int) : Prop := -9223372036854775808 ≤ n ∧ n ≤ 9223372036854775807

/-- The cells cs of memory hold the value v; what is read lies in blocks of F. -/
inductive RepV (w : World) (F : Nat → Prop) : List Value → V → Prop
  | mk {k n : Int} {s : ByteArray} {ao : Option Addr} {cap : Nat} {l : List V} (rows : List (List Value)) (hk : inI64 k) (hn : inI64 n) (hs : s.size ≤ 9223372036854775807)
      (hsl : SL w 4 ao cap rows) (hF : ∀ a, ao = some a → rows ≠ [] → F a.block) (hlen : rows.length = l.length)
      (hel : ∀ (i : Nat) (r : List Value) (x : V), rows[i]? = some r → l[i]? = some x → RepV w F r x) :
      RepV w F [.int .i64 k, .int .i64 n, .string s, .slice ao l.length cap] (.mk k n s l)

theorem RepV.ext {w w' : World} {F : Nat → Prop} {cs : List Value} {v : V} (h : RepV w F cs v) (hx : Ext w w') : RepV w' F cs v := by
  induction h with
  | mk rows hk hn hs hsl hF hlen _ ih => exact .mk rows hk hn hs (hsl.ext hx) hF hlen ih

theorem RepV.weaken {w : World} {F G : Nat → Prop} {cs : List Value} {v : V} (h : RepV w F cs v) (hFG : ∀ b, F b → G b) : RepV w G cs v := by
  induction h with
  | mk rows hk hn hs hsl hF hlen _ ih => exact .mk rows hk hn hs hsl (fun a ha hr => hFG _ (hF a ha hr)) hlen ih

theorem SL.keep {w w' : World} {n : Nat} {ao : Option Addr} {cap : Nat} {rows : List (List Value)} (h : SL w n ao cap rows) (hk : ∀ a, ao = some a → rows ≠ [] → w'.heap[a.block]? = w.heap[a.block]?) : SL w' n ao cap rows :=
  ⟨h.le, h.max, h.nil, h.wid, fun i j r v hr hv => by
    obtain ⟨b, o, e, hc⟩ := h.cells i j r v hr hv
    refine ⟨b, o, e, ?_⟩
    exact (World.cell?_of_block (w := w) (a := ⟨b, o + i * n + j, none⟩) (hk ⟨b, o, none⟩ e (by rintro rfl; simp at hr))).trans hc⟩

/-- What lies in blocks that have not turned is there. -/
theorem RepV.keep {w w' : World} {F : Nat → Prop} {cs : List Value} {v : V} (h : RepV w F cs v) (hk : ∀ b, F b → w'.heap[b]? = w.heap[b]?) : RepV w' F cs v := by
  induction h with
  | mk rows hk' hn hs hsl hF hlen _ ih => exact .mk rows hk' hn hs (hsl.keep fun a ha hr => hk _ (hF a ha hr)) hF hlen ih

theorem RepV.length {w : World} {F : Nat → Prop} {cs : List Value} {v : V} (h : RepV w F cs v) : cs.length = 4 := by cases h; rfl

/-- A value's cells, as the code has them in one temporary. -/
theorem RepV.open {w : World} {F : Nat → Prop} {cs : List Value} {k n : Int} {s : ByteArray} {l : List V} (h : RepV w F cs (.mk k n s l)) :
    ∃ ao cap rows, cs = [.int .i64 k, .int .i64 n, .string s, .slice ao l.length cap] ∧ inI64 k ∧ inI64 n ∧ s.size ≤ 9223372036854775807 ∧ SL w 4 ao cap rows ∧ (∀ a, ao = some a → rows ≠ [] → F a.block) ∧ rows.length = l.length ∧
      ∀ (i : Nat) (r : List Value) (x : V), rows[i]? = some r → l[i]? = some x → RepV w F r x := by
  cases h with
  | mk rows hk hn hs hsl hF hlen hel => exact ⟨_, _, rows, rfl, hk, hn, hs, hsl, hF, hlen, hel⟩

/-- the cells of element i -/
theorem rep_cells {w : World} {F : Nat → Prop} {b o cap : Nat} {rows : List (List Value)} {l : List V} (hsl : SL w 4 (some ⟨b, o, none⟩) cap rows) (hlen : rows.length = l.length)
    (hel : ∀ (i : Nat) (r : List Value) (x : V), rows[i]? = some r → l[i]? = some x → RepV w F r x) {W : World} (hE : Ext w W) {i : Nat} (hi : i < l.length) :
    ∃ k n s l' ao' cap', l[i] = .mk k n s l' ∧ RepV W F [.int .i64 k, .int .i64 n, .string s, .slice ao' l'.length cap'] (.mk k n s l') ∧ W.cell? ⟨b, o + i * 4, none⟩ = some (.int .i64 k) ∧
      W.cell? ⟨b, o + i * 4 + 1, none⟩ = some (.int .i64 n) ∧ W.cell? ⟨b, o + i * 4 + 2, none⟩ = some (.string s) ∧ W.cell? ⟨b, o + i * 4 + 3, none⟩ = some (.slice ao' l'.length cap') := by
  have hr : rows[i]? = some rows[i] := List.getElem?_eq_getElem (by omega)
  have hR := hel i _ _ hr (List.getElem?_eq_getElem hi)
  match hx : l[i] with
  | .mk k n s l' =>
    rw [hx] at hR
    obtain ⟨ao', cap', rows', hcs, _⟩ := hR.open
    rw [hcs] at hr hR
    exact ⟨k, n, s, l', ao', cap', rfl, hR.ext hE, hE.cell (hsl.cellAt (j := 0) hr rfl), hE.cell (hsl.cellAt (j := 1) hr rfl), hE.cell (hsl.cellAt (j := 2) hr rfl), hE.cell (hsl.cellAt (j := 3) hr rfl)⟩

end Go.Sz
