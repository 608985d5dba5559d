/- Names: what is put together piece by piece, in plain Lean. -/
import Derived.Test.YtimigpfoflilcaaZR0
import Derived.Test.YtimigpfoflilcaaYZ
namespace Go.Sz
open Go.RowKit
theorem al_cell {w : World} {p : Addr} {v : Value} (h : w.cell? p = some v) (o : Obj) : (w.alloc o).cell? p = some v := ((Ext.refl w).alloc o).cell h
theorem al_row {w : World} {g : Nat} {t : TypeId} {cs : List Value} (h : Row w g t cs) (o : Obj) : Row (w.alloc o) g t cs := h.kpC ((Ext.refl w).alloc o).kpC
theorem row_al (w : World) (t : TypeId) (cs : List Value) : Row (w.alloc (.cells cs.toArray t)) w.heap.size t cs := by unfold Row; rw [heap_al, if_pos rfl]
/-- a list that grows, held in a cell of the block Y; its rows lie where W3 ended -/
structure Bld {α : Type} (w0 W3 : World) (Y j : Nat) (T t : TypeId) (n : Nat) (cells : Value → List Value) (P : α → List Value → World → Prop) (l : List α) (m : Nat) (v : Value) (rows : List (List Value)) (W : World) : Prop where
  ext : Ext w0 W
  kp : KpE Y W3 W
  row : Row W Y T (cells v)
  own : W.ownsRow W3.heap.size t n v m rows.flatten
  len : rows.length = m
  all : ∀ (i : Nat) x q, (l.take m)[i]? = some x → rows[i]? = some q → FarN W3.heap.size v.ownBlock W (P x q)
theorem Bld.start {α : Type} {w0 W3 : World} {Y j : Nat} {T t : TypeId} {n : Nat} {cells : Value → List Value} {P : α → List Value → World → Prop} {l : List α} {u : Value} (hE : Ext w0 W3) (h0 : w0.heap.size ≤ Y) (hY : Y < W3.heap.size) (hR : Row W3 Y T (cells u)) (hc : ∀ v u, (cells v).take j ++ [u] ++ (cells v).drop (j + 1) = cells u) (hj : ∀ v, j + 1 ≤ (cells v).length) :
    Bld w0 W3 Y j T t n cells P l 0 (.slice (some ⟨W3.heap.size, 0, none⟩) 0 0) [] ((W3.alloc (.cells #[] t)).setCell ⟨Y, j, none⟩ (.slice (some ⟨W3.heap.size, 0, none⟩) 0 0)) := by
  have hA : Ext W3 (W3.alloc (.cells #[] t)) := (Ext.refl _).alloc _
  refine ⟨(hE.trans hA).setCell h0 _, ?_, ?_, ?_, rfl, fun i x q h => by simp at h⟩
  · exact ⟨by simp, fun b o hb h1 h2 => (heap_setCell_far _ _ _ _ hb).trans (hA.kpC.2 b o h1 h2)⟩
  · rw [← hc u]
    exact Row.set (vs := [_]) (hR.kpC hA.kpC) (hj u)
  · exact own_far (own_empty W3 _ (Nat.le_refl _) t n) hY
theorem Bld.start0 {α : Type} {w0 W3 : World} {Y j : Nat} {T t : TypeId} {n N : Nat} {cells : Value → List Value} {P : α → List Value → World → Prop} {l : List α} (hN : W3.heap.size = N) (hE : Ext w0 W3) (hR : Row W3 Y T (cells (.slice (some ⟨N, 0, none⟩) 0 0))) :
    Bld w0 W3 Y j T t n cells P l 0 (.slice (some ⟨N, 0, none⟩) 0 0) [] (W3.alloc (.cells #[] t)) := by
  subst hN
  have hA : Ext W3 (W3.alloc (.cells #[] t)) := (Ext.refl _).alloc _
  exact ⟨hE.trans hA, ⟨hA.size, fun b o _ h1 h2 => hA.kpC.2 b o h1 h2⟩, hR.kpC hA.kpC, own_empty W3 _ (Nat.le_refl _) t n, rfl, fun i x q h => by simp at h⟩
theorem Bld.step {α : Type} {w0 W3 : World} {Y j : Nat} {T t : TypeId} {n : Nat} {cells : Value → List Value} {P : α → List Value → World → Prop} {l : List α} {m : Nat} {v v' : Value} {rows : List (List Value)} {W A V : World} {x : α} {q : List Value}
    (h : Bld w0 W3 Y j T t n cells P l m v rows W) (h0 : w0.heap.size ≤ Y) (hY : Y < W3.heap.size) (hc : ∀ v u, (cells v).take j ++ [u] ++ (cells v).drop (j + 1) = cells u) (hj : ∀ v, j + 1 ≤ (cells v).length)
    (hx : l[m]? = some x) (hEA : Ext W A) (hq : FarN W3.heap.size v.ownBlock A (P x q)) (hg : Grows A v V v') (ho : V.ownsRow W3.heap.size t n v' (m + 1) (rows.flatten ++ q)) :
    Bld w0 W3 Y j T t n cells P l (m + 1) v' (rows ++ [q]) (V.setCell ⟨Y, j, none⟩ v') := by
  have hblk : ∀ k, v.ownBlock = some k → W3.heap.size ≤ k := fun k hk => ownsRow_blocks h.own k hk
  have hne : ∀ b, b < W3.heap.size → some b ≠ v.ownBlock := fun b hb e => by have := hblk b e.symm; omega
  have hA3 : W3.heap.size ≤ A.heap.size := Nat.le_trans h.kp.1 hEA.size
  have hw0 : w0.heap.size ≤ W3.heap.size := Nat.le_of_lt (Nat.lt_of_le_of_lt h0 hY)
  have hgy : V.grownBy (V.setCell ⟨Y, j, none⟩ v') (some Y) := setCells_grown Y [v'] V j
  have hrA : Row A Y T (cells v) := h.row.kpC hEA.kpC
  have hrV : Row V Y T (cells v) := (hg.by_.block Y (by omega) (hne Y hY)).trans hrA
  refine ⟨?_, ?_, ?_, own_far (by rw [List.flatten_append]; simpa using ho) hY, by rw [List.length_append, h.len]; rfl, ?_⟩
  · exact (Ext.own_step (h.ext.trans hEA) hg (ownsRow_rebase (ownsRow_ext h.own hEA) fun k hk => Nat.le_trans hw0 (hblk k hk))).setCell h0 _
  · refine ⟨by have := hg.by_.size; simp; omega, fun b o hb h1 h2 => (heap_setCell_far _ _ _ _ hb).trans ?_⟩
    have hb3 := (Array.getElem?_eq_some_iff.1 h1).1
    exact (hg.by_.block b (by omega) (hne b hb3)).trans (hEA.kpC.2 b o (h.kp.2 b o hb h1 h2) h2)
  · rw [← hc v]
    exact Row.set (vs := [_]) hrV (hj v)
  · exact rows_snoc (P := fun a b => FarN W3.heap.size v'.ownBlock (V.setCell ⟨Y, j, none⟩ v') (P a b)) hx h.len (fun i a b h1 h2 => (((h.all i a b h1 h2).ext hEA).grow hg).store hgy hY) ((hq.grow hg).store hgy hY)
theorem Bld.grow_row {α : Type} {w0 W3 : World} {Y j : Nat} {T t : TypeId} {n : Nat} {cells : Value → List Value} {P : α → List Value → World → Prop} {l : List α} {m : Nat} {v v' : Value} {rows : List (List Value)} {W A V : World} (h : Bld w0 W3 Y j T t n cells P l m v rows W) (hY : Y < W3.heap.size) (hEA : Ext W A) (hg : Grows A v V v') : Row V Y T (cells v) :=
  (hg.by_.block Y (by have := h.kp.1; have := hEA.size; omega) (fun e => by have := ownsRow_blocks h.own Y e.symm; omega)).trans (h.row.kpC hEA.kpC)
/-- the list is whole -/
theorem Bld.done {α : Type} {w0 W3 : World} {Y j : Nat} {T t : TypeId} {n : Nat} {cells : Value → List Value} {P : α → List Value → World → Prop} {l : List α} {v : Value} {rows : List (List Value)} {W : World} (h : Bld w0 W3 Y j T t n cells P l l.length v rows W) (i : Nat) (x : α) (q : List Value) (hx : l[i]? = some x) (hq : rows[i]? = some q) : P x q W := (h.all i x q (by rw [List.take_length]; exact hx) hq).now
theorem Bld.lt {α : Type} {w0 W3 : World} {Y j : Nat} {T t : TypeId} {n : Nat} {cells : Value → List Value} {P : α → List Value → World → Prop} {l : List α} {m : Nat} {v : Value} {rows : List (List Value)} {W : World} (h : Bld w0 W3 Y j T t n cells P l m v rows W) : ∀ k, v.ownBlock = some k → W3.heap.size ≤ k ∧ k < W.heap.size := fun k hk => ⟨ownsRow_blocks h.own k hk, ownsRow_lt' h.own k hk⟩
theorem rows_map {α : Type} {rows : List (List Value)} {l : List α} {f : α → List Value} (hl : rows.length = l.length) (h : ∀ (i : Nat) x q, l[i]? = some x → rows[i]? = some q → q = f x) : rows = l.map f := by
  apply List.ext_getElem?
  intro i
  rw [List.getElem?_map]
  cases e : l[i]? with
  | none =>
    rw [List.getElem?_eq_none_iff] at e
    rw [List.getElem?_eq_none_iff.2 (by omega)]
    rfl
  | some x =>
    have hi := (List.getElem?_eq_some_iff.1 e).1
    have hq : rows[i]? = some rows[i] := List.getElem?_eq_getElem (by omega)
    rw [hq, h i x _ e hq]
    rfl
/-- what the reference has put together, as its answer -/
theorem res_fin {c : Cat} {d : Adr} {w w0 wA wC wD wF w9 Wf : World} {Y R : Nat} {T tC tS tP : TypeId} {f0 f1 f2 : Value → List Value} {aC aS aP : Option Addr} {kC kS kP : Nat} {rowsC rowsS rowsP : List (List Value)} (hX : RepX w d c) (hres : c.resN = (0, c.numsT))
    (h1 : Bld w0 wA Y 0 T tC 16 f0 (fun (x : Cr) q V => CrN wA.heap.size V (x.resT c.cs).1 q) c.cs c.cs.length (.slice aC c.cs.length kC) rowsC wC)
    (h2 : Bld w0 wC Y 1 T tS 4 f1 (fun (x : Pr) q (_ : World) => q = (x.resT c.cs).1.cells) c.sm c.sm.length (.slice aS c.sm.length kS) rowsS wD)
    (h3 : Bld w0 wD Y 2 T tP 7 f2 (fun (x : Pg) q V => PgN w wD.heap.size V (x.resT c.cs).1 q) c.pg c.pg.length (.slice aP c.pg.length kP) rowsP wF)
    (hE : Ext wF w9) (hk : KpE R w9 Wf) (hR : R < wA.heap.size) (hY : Y < wA.heap.size) (hEf : Ext w Wf) :
    resPost c w (.returned (.tuple #[.agg #[.slice aC c.cs.length kC, .slice aS c.sm.length kS, .slice aP c.pg.length kP, .slice d.a3 c.kl.length d.k3, .slice d.a4 c.fe.length d.k4, .slice d.a5 c.ho.length d.k5, .slice d.a6 c.cu.length d.k6], .int .i64 0])) Wf := by
  have hAC : wA.heap.size ≤ wC.heap.size := h1.kp.1
  have hCD : wC.heap.size ≤ wD.heap.size := h2.kp.1
  have k9 : KpE R wF Wf := ⟨Nat.le_trans hE.size hk.1, fun b o hb h h' => hk.2 b o hb (hE.kpC.2 b o h h') h'⟩
  have hC : ∀ (i : Nat) x q, c.cs[i]? = some x → rowsC[i]? = some q → CrN wA.heap.size Wf (x.resT c.cs).1 q := fun i x q hx hq => (((h1.done i x q hx hq).kpE h2.kp hY).kpE h3.kp hY).kpE k9 hR
  have hP : ∀ (i : Nat) x q, c.pg[i]? = some x → rowsP[i]? = some q → PgN w wD.heap.size Wf (x.resT c.cs).1 q := fun i x q hx hq => (h3.done i x q hx hq).kpE k9 (by omega)
  have oC := own_kpE (own_kpE (own_kpE h1.own h2.kp hY) h3.kp hY) k9 hR
  have oS := own_kpE (own_kpE h2.own h3.kp (by omega)) k9 (by omega)
  have oP := own_kpE h3.own k9 (by omega)
  have eS : rowsS = c.sm.map fun x => (x.resT c.cs).1.cells := rows_map h2.len fun i x q hx hq => h2.done i x q hx hq
  have lc : (c.cs.map fun x => (x.resT c.cs).1).length = c.cs.length := List.length_map _
  have ls : (c.sm.map fun x => (x.resT c.cs).1).length = c.sm.length := List.length_map _
  have lp : (c.pg.map fun x => (x.resT c.cs).1).length = c.pg.length := List.length_map _
  have hrep : RepX Wf ⟨aC, kC, aS, kS, aP, kP, d.a3, d.k3, d.a4, d.k4, d.a5, d.k5, d.a6, d.k6⟩ c.numsT := by
    refine resX (W := Wf) (D := wA.heap.size) (NC := wA.heap.size) (NP := wD.heap.size) (n := 0) (rowsC := rowsC) (rowsP := rowsP) (tC := tC) (tS := tS) (tP := tP) hX hEf (fun _ _ _ h _ => h) (Nat.zero_le _) (Nat.zero_le _) (Nat.zero_le _) (by rw [lc]; exact h1.len) (fun i x q hx hq => ?_) (fun q hq => ?_) (by rw [lc]; exact oC) ?_ (by rw [lp]; exact h3.len) (fun i x q hx hq => ?_) (fun q hq => ?_) (by rw [lp]; exact ownsRow_rebase oP fun k hk => by have := ownsRow_blocks oP k hk; omega)
    · obtain ⟨x0, hx0, rfl⟩ := getElem?_map_some' hx
      exact hC i x0 q hx0 hq
    · obtain ⟨i, hi⟩ := List.getElem?_of_mem hq
      have hil := (List.getElem?_eq_some_iff.1 hi).1
      exact (hC i _ q (List.getElem?_eq_getElem (by rw [← h1.len]; exact hil)) hi).len
    · rw [ls, List.map_map]
      rw [eS] at oS
      exact ownsRow_rebase oS fun k hk => by have := ownsRow_blocks oS k hk; omega
    · obtain ⟨x0, hx0, rfl⟩ := getElem?_map_some' hx
      exact hP i x0 q hx0 hq
    · obtain ⟨i, hi⟩ := List.getElem?_of_mem hq
      have hil := (List.getElem?_eq_some_iff.1 hi).1
      exact (hP i _ q (List.getElem?_eq_getElem (by rw [← h3.len]; exact hil)) hi).len
  refine ⟨⟨aC, kC, aS, kS, aP, kP, d.a3, d.k3, d.a4, d.k4, d.a5, d.k5, d.a6, d.k6⟩, ?_, by rw [hres]; exact hrep, hEf⟩
  rw [hres]
  show _ = Ending.returned (.tuple #[.agg #[.slice aC (c.cs.map fun x => (x.resT c.cs).1).length kC, .slice aS (c.sm.map fun x => (x.resT c.cs).1).length kS, .slice aP (c.pg.map fun x => (x.resT c.cs).1).length kP, .slice d.a3 c.kl.length d.k3, .slice d.a4 c.fe.length d.k4, .slice d.a5 c.ho.length d.k5, .slice d.a6 c.cu.length d.k6], .int .i64 0])
  rw [lc, ls, lp]
end Go.Sz
