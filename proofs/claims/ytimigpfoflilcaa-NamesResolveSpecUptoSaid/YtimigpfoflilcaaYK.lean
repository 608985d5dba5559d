/- Names: rows of one's own that are written into; rules in new memory. No program in sight. -/
import Derived.Test.YtimigpfoflilcaaYJ
import Derived.Test.YtimigpfoflilcaaNB
import Derived.Deep.MidRow
import Derived.Deep.RegionHeld
namespace Go.Sz
open Go.RowKit
/-- a block of cells -/
def Row (W : World) (g : Nat) (t : TypeId) (cs : List Value) : Prop := W.heap[g]? = some (.cells cs.toArray t (0, 0))
theorem Row.kpC {A B : World} {g : Nat} {t : TypeId} {cs : List Value} (h : Row A g t cs) (hk : KpC A B) : Row B g t cs := hk.2 _ _ h rfl
theorem Row.kpE {A B : World} {E g : Nat} {t : TypeId} {cs : List Value} (h : Row A g t cs) (hk : KpE E A B) (hne : g ≠ E) : Row B g t cs := hk.2 _ _ hne h rfl
theorem Row.cell {W : World} {g : Nat} {t : TypeId} {cs : List Value} (h : Row W g t cs) {j : Nat} {v : Value} (hj : cs[j]? = some v) : W.cell? ⟨g, j, none⟩ = some v := cells_at h j v hj
theorem Row.froz {W : World} {g : Nat} {t : TypeId} {cs : List Value} (h : Row W g t cs) (j : Nat) : W.frozen? ⟨g, j, none⟩ = false := by
  unfold Row at h
  simp [World.frozen?, h]
theorem Row.set1 {W : World} {g : Nat} {t : TypeId} {cs : List Value} (h : Row W g t cs) (o : Nat) (v : Value) : Row (W.setCell ⟨g, o, none⟩ v) g t (cs.set o v) := by
  unfold Row at h ⊢
  simp only [World.setCell, Array.getElem?_modify, h]
  simp
theorem Row.set {g : Nat} {t : TypeId} : ∀ {vs : List Value} {W : World} {cs : List Value} {o : Nat}, Row W g t cs → o + vs.length ≤ cs.length → Row (W.setCells g o vs) g t (cs.take o ++ vs ++ cs.drop (o + vs.length)) := by
  intro vs
  induction vs with
  | nil => intro W cs o h ho; simpa [World.setCells] using h
  | cons v r ih =>
    intro W cs o h ho
    rw [List.length_cons] at ho
    have h1 := ih (h.set1 o v) (o := o + 1) (by rw [List.length_set]; omega)
    rw [World.setCells]
    have e : (cs.set o v).take (o + 1) ++ r ++ (cs.set o v).drop (o + 1 + r.length) = cs.take o ++ (v :: r) ++ cs.drop (o + (v :: r).length) := by
      rw [List.length_cons, List.drop_set_of_lt (by omega), show o + 1 + r.length = o + (r.length + 1) by omega]
      congr 1
      rw [List.take_add_one, List.getElem?_set_self (by omega), List.take_set_of_le (Nat.le_refl _)]
      simp
    rw [e] at h1
    exact h1
theorem setCells_grown (g : Nat) : ∀ (vs : List Value) (W : World) (o : Nat), W.grownBy (W.setCells g o vs) (some g)
  | [], W, _ => ⟨rfl, rfl, rfl, Nat.le_refl _, fun _ _ _ => rfl⟩
  | v :: r, W, o => by
    have h := setCells_grown g r (W.setCell ⟨g, o, none⟩ v) (o + 1)
    rw [World.setCells]
    refine ⟨h.os, h.tape, h.output, Nat.le_trans (by simp) h.size, fun b hb hne => ?_⟩
    exact (h.block b (by simpa using hb) hne).trans (heap_setCell_far _ _ _ _ (fun e => hne (by rw [e])))
theorem Row.there {W : World} {g : Nat} {t : TypeId} {cs : List Value} (h : Row W g t cs) {o n : Nat} (ho : o + n ≤ cs.length) : W.there g o n := fun j hj => by
  have : cs[o + j]? = some cs[o + j] := List.getElem?_eq_getElem (by omega)
  exact ⟨by rw [h.cell this]; rfl, h.froz _⟩
theorem Row.of_own {w : World} {D e size n : Nat} {v : Value} {xs : List Value} (h : w.ownsRow D e size v n xs) (hn : 0 < n) : ∃ g cap rest, v = .slice (some ⟨g, 0, none⟩) n cap ∧ D ≤ g ∧ Row w g e (xs ++ rest) ∧ n ≤ cap ∧ cap ≤ maxLen ∧ (xs ++ rest).length = cap * size := by
  obtain ⟨g, cap, cur, rfl, hD, hg, h1, h2, h3, h4⟩ := own_block h hn
  have e : xs ++ cur.toList.drop (n * size) = cur.toList := by rw [← h4, List.take_append_drop]
  refine ⟨g, cap, cur.toList.drop (n * size), rfl, hD, ?_, h1, h2, ?_⟩
  · unfold Row; rw [e]; exact hg
  · rw [e, Array.length_toList, h3]
theorem Row.sl {W : World} {g size cap : Nat} {t : TypeId} {rows : List (List Value)} {rest : List Value} (h : Row W g t (rows.flatten ++ rest)) (hw : ∀ r ∈ rows, r.length = size) (hc : rows.length ≤ cap) (hm : cap ≤ maxLen) (hl : (rows.flatten ++ rest).length = cap * size) : SL W size (some ⟨g, 0, none⟩) cap rows := by
  have hfl := flat_len rows hw
  have ho : W.ownsRow 0 t size (.slice (some ⟨g, 0, none⟩) rows.length cap) rows.length rows.flatten := ⟨hfl, .inr ⟨g, cap, _, rfl, Nat.zero_le _, h, hc, hm, by simpa using hl, by simp [← hfl]⟩⟩
  obtain ⟨ao, cap', e, h2, -⟩ := SL.of_own ho hw rfl
  cases e
  exact h2
theorem Row.own {W : World} {D g size cap n : Nat} {t : TypeId} {rows : List (List Value)} {rest : List Value} (h : Row W g t (rows.flatten ++ rest)) (hw : ∀ r ∈ rows, r.length = size) (hn : rows.length = n) (hc : n ≤ cap) (hm : cap ≤ maxLen) (hl : (rows.flatten ++ rest).length = cap * size) (hD : D ≤ g) : W.ownsRow D t size (.slice (some ⟨g, 0, none⟩) n cap) n rows.flatten := by
  have hfl := flat_len rows hw
  rw [hn] at hfl
  exact ⟨hfl, .inr ⟨g, cap, _, rfl, hD, h, hc, hm, by simpa using hl, by simp [← hfl]⟩⟩
theorem set_mid {α : Type} {cs rest : List α} {m : Nat} {x y : α} (hc : cs.length = m) : (cs ++ x :: rest).set m y = (cs ++ [y]) ++ rest := by
  subst hc
  rw [List.set_append_right _ _ (Nat.le_refl _), Nat.sub_self]
  simp
/-- a store into one row of a block of rows -/
theorem flat_set {k : Nat} {rest vs : List Value} {j : Nat} (hj : j + vs.length ≤ k) : ∀ (rows : List (List Value)) (m : Nat) (r : List Value), rows[m]? = some r → (∀ r ∈ rows, r.length = k) →
    (rows.flatten ++ rest).take (m * k + j) ++ vs ++ (rows.flatten ++ rest).drop (m * k + j + vs.length) = (rows.set m (r.take j ++ vs ++ r.drop (j + vs.length))).flatten ++ rest := by
  intro rows
  induction rows with
  | nil => intro m r h; simp at h
  | cons x xs ih =>
    intro m r h hw
    have hx := hw x (List.mem_cons_self ..)
    cases m with
    | zero =>
      obtain rfl : x = r := by simpa using h
      rw [Nat.zero_mul, Nat.zero_add, List.set_cons_zero, List.flatten_cons, List.flatten_cons, List.append_assoc x, List.take_append_of_le_length (by omega), List.drop_append_of_le_length (by omega)]
      simp
    | succ m =>
      have h2 := ih m r (by simpa using h) fun r hr => hw r (List.mem_cons_of_mem _ hr)
      rw [List.set_cons_succ, List.flatten_cons, List.flatten_cons, List.append_assoc x, List.append_assoc x, ← h2]
      rw [show (m + 1) * k + j = x.length + (m * k + j) by rw [Nat.add_mul, hx]; omega, List.take_append, List.take_of_length_le (by omega), Nat.add_sub_cancel_left]
      rw [show x.length + (m * k + j) + vs.length = x.length + (m * k + j + vs.length) by omega, List.drop_append, List.drop_of_length_le (by omega), Nat.add_sub_cancel_left]
      simp
/-- a rule in memory from block N on -/
inductive RepN (N : Nat) (w : World) : Rt → List Value → Prop
  | mk (r : Rt) (ao : Option Addr) (cap : Nat) (rows : List (List Value)) (hs : SL w 6 ao cap rows) (hl : rows.length = r.kids.length)
      (hk : ∀ (i : Nat) (k : Rt) (c : List Value), r.kids[i]? = some k → rows[i]? = some c → RepN N w k c) (ho : r.ok) (hf : ∀ a, ao = some a → rows ≠ [] → N ≤ a.block) : RepN N w r (r.cells ao cap)
theorem RepN.repU {N : Nat} {w : World} {r : Rt} {c : List Value} (h : RepN N w r c) : RepU w r c := by
  induction h with
  | mk r ao cap rows hs hl _ ho _ ih => exact .mk r ao cap rows hs hl ih ho
theorem RepN.len {N : Nat} {w : World} {r : Rt} {c : List Value} (h : RepN N w r c) : c.length = 6 := h.repU.len
theorem RepN.mono {N M : Nat} {w : World} {r : Rt} {c : List Value} (h : RepN N w r c) (hm : M ≤ N) : RepN M w r c := by
  induction h with
  | mk r ao cap rows hs hl _ ho hf ih => exact .mk r ao cap rows hs hl ih ho fun a ha hr => Nat.le_trans hm (hf a ha hr)
theorem RepN.keep {N : Nat} {w W : World} {r : Rt} {c : List Value} (h : RepN N w r c) (hk : ∀ (b : Nat) (o : Obj), N ≤ b → w.heap[b]? = some o → o.isCells = true → W.heap[b]? = some o) : RepN N W r c := by
  induction h with
  | mk r ao cap rows hs hl _ ho hf ih =>
    refine .mk r ao cap rows ⟨SL.le hs, SL.max hs, SL.nil hs, SL.wid hs, fun i j r v hr hv => ?_⟩ hl ih ho hf
    obtain ⟨b, o, e, hc⟩ := SL.cells hs i j r v hr hv
    refine ⟨b, o, e, ?_⟩
    obtain ⟨ob, h1, h2⟩ := cell_isCells hc
    have hb := hf _ e (by rintro rfl; simp at hr)
    exact (World.cell?_of_block (a := ⟨b, o + i * 6 + j, none⟩) ((hk _ ob hb h1 h2).trans h1.symm)).trans hc
theorem RepN.kpC {N : Nat} {w W : World} {r : Rt} {c : List Value} (h : RepN N w r c) (hk : KpC w W) : RepN N W r c := h.keep fun b o _ h1 h2 => hk.2 b o h1 h2
theorem RepN.kpE {N E : Nat} {w W : World} {r : Rt} {c : List Value} (h : RepN N w r c) (hk : KpE E w W) (hE : E < N) : RepN N W r c := h.keep fun b o hb h1 h2 => hk.2 b o (by omega) h1 h2
theorem RepU.one {w : World} {r : Rt} {c : List Value} (h : RepU w r c) : ∀ u ∈ c, u.oneCell' = true := by
  obtain ⟨ao, cap, rfl, -, -⟩ := h.out
  intro u hu
  simp only [Rt.cells, List.mem_cons, List.not_mem_nil, or_false] at hu
  rcases hu with rfl | rfl | rfl | rfl | rfl | rfl <;> rfl
theorem kids_len (r : Rt) : r.kids.length ≤ r.parts.length := by
  rw [Rt.parts_eq, List.length_cons]
  have : ∀ l : List Rt, l.length ≤ (partsL l).length := by
    intro l
    induction l with
    | nil => simp
    | cons k ks ih => rw [partsL, List.length_append, List.length_cons, Rt.parts_eq, List.length_cons]; omega
  exact Nat.le_succ_of_le (this _)
theorem kid_parts {r k : Rt} (h : k ∈ r.kids) : k.parts.length ≤ r.parts.length := by
  rw [Rt.parts_eq r, List.length_cons]
  have : ∀ l : List Rt, k ∈ l → k.parts.length ≤ (partsL l).length := by
    intro l hl
    induction l with
    | nil => cases hl
    | cons a l' ih =>
      rw [partsL, List.length_append]
      rcases List.mem_cons.1 hl with rfl | h
      · omega
      · have := ih h; omega
  have := this _ h
  omega
theorem numR_ok {l : List Cr} {nm : ByteArray} {old n : Int} (h : numR l nm old = some n) (ho : inI64 old) (hl : ∀ c ∈ l, c.ok) : inI64 n := by
  unfold numR at h
  split at h
  · cases h; exact ho
  · obtain ⟨c, hc, rfl⟩ := Option.map_eq_some_iff.1 h
    exact (hl c (List.mem_of_find?_eq_some hc)).1
theorem num_ok {l : List Cr} {r : Rt} {c : Int} (h : r.num l = some c) (ho : r.ok) (hl : ∀ c ∈ l, c.ok) : inI64 c := by
  unfold Rt.num at h
  split at h
  · exact numR_ok h ho.2.1 hl
  · cases h; exact ho.2.1
/-- what rule answers -/
def rulePost (o : Option Rt) (w : World) : Ending → World → Prop := fun e w' => (match o with
  | some r => ∃ ao cap, e = .returned (.agg (r.cells ao cap).toArray) ∧ RepN w.heap.size w' r (r.cells ao cap)
  | none => e = .panicked [{ v := .iface 124 (.agg #[.int .i64 110]), recovered := false }]) ∧ Ext w w'
end Go.Sz
