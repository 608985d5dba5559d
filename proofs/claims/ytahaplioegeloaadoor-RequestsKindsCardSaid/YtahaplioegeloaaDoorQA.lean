/- Memory, slices, bytes: helpers of no program. -/
import Derived.Test.YtahaplioegeloaaDoorR7
import Derived.Laws.Alloc2
import Derived.Laws.NewBlocks
import Derived.Laws.EntriesVeiled
import Derived.Deep.RegionHeld3
import Derived.Deep.RegionLaw
import Derived.Lib.ConvBytes
import Derived.ProofKit
import Derived.ChangeMaps5
import Derived.Lib.AppendZeros
import Derived.Lib.Overlaps
import Derived.Laws.CopyRow
import Derived.Test.YtahaplioegeloaaDoorChecked
import Derived.Laws.StructEq
import Derived.Handy
namespace Go.Sz
open Go.RowKit Go.ChangeShapes Go.WideShapes
theorem list_of {α β : Type} {R : Nat → α → β → Prop} : ∀ (n : Nat), (∀ i, i < n → ∃ a b, R i a b) → ∃ (la : List α) (bs : List β), la.length = n ∧ bs.length = n ∧ ∀ (i : Nat) (a : α) (b : β), la[i]? = some a → bs[i]? = some b → R i a b := by
  intro n
  induction n with
  | zero => intro _; exact ⟨[], [], rfl, rfl, fun i a b h => by simp at h⟩
  | succ n ih =>
    intro h
    obtain ⟨la, bs, h1, h2, h3⟩ := ih fun i hi => h i (by omega)
    obtain ⟨a, b, hab⟩ := h n (by omega)
    refine ⟨la ++ [a], bs ++ [b], by simp [h1], by simp [h2], fun i x y hx hy => ?_⟩
    rcases Nat.lt_or_ge i n with hi | hi
    · rw [List.getElem?_append_left (by omega)] at hx hy
      exact h3 i x y hx hy
    · have hi2 : i = n := by
        have := (List.getElem?_eq_some_iff.1 hx).1
        simp at this
        omega
      subst hi2
      rw [List.getElem?_append_right (by omega)] at hx hy
      simp [h1] at hx
      simp [h2] at hy
      subst hx hy
      exact hab

theorem wf_i64 {n : Int} (h : (Lit.int .i64 n).wf = true) : inI64 n := by
  have hmin : IntKind.i64.min = -9223372036854775808 := by decide
  simp [Lit.wf, hmin] at h
  exact h
theorem sl_of_cells {w : World} {a : Addr} {len cap n : Nat} {rows : List (List Value)} (hn : 0 < n) (hl : len ≤ cap) (hc : cap ≤ maxLen) (hrl : rows.length = len) (hr : ∀ (i : Nat) (r : List Value), rows[i]? = some r → w.cells? 0 (a.add (i * n)) n = some r) : SL w n (some a) cap rows := by
  refine ⟨by omega, by unfold maxLen at hc; omega, by simp, fun r hr' => ?_, fun i j r v h1 h2 => ?_⟩
  · obtain ⟨i, hi, rfl⟩ := List.mem_iff_getElem.1 hr'
    exact (World.cells?_some (hr i _ (List.getElem?_eq_getElem hi))).2.1
  · obtain ⟨_, h3, h4⟩ := World.cells?_some (hr i r h1)
    have hj : j < n := by have := (List.getElem?_eq_some_iff.1 h2).1; omega
    have h5 := h4 j hj
    rw [h2] at h5
    obtain ⟨b, o, sp⟩ := a
    have hsp : sp = none := by
      match rows, h1, hr with
      | [], h1, hr => simp at h1
      | r0 :: rs, h1, hr =>
        obtain ⟨_, g3, g4⟩ := World.cells?_some (hr 0 r0 rfl)
        match r0, g3, g4 with
        | [], g3, g4 => simp at g3; omega
        | u :: us, g3, g4 =>
          have g5 := g4 0 hn
          have := World.cell?_spot (v := u) (by simpa using g5)
          simpa [Addr.add] using this
    subst hsp
    refine ⟨b, o, rfl, ?_⟩
    rw [Addr.add_lit, Addr.add_lit] at h5
    exact h5

/-- two cells, and a variable of two cells -/
structure Box2 (w : World) (B : Nat) (k l : Value) : Prop where
  c0 : w.cell? ⟨B, 0, none⟩ = some k
  c1 : w.cell? ⟨B, 1, none⟩ = some l
  z : ∀ i, w.frozen? ⟨B, i, none⟩ = false
theorem Box2.lt {w : World} {B : Nat} {k l : Value} (h : Box2 w B k l) : B < w.heap.size := World.block_lt_of_cell? _ _ h.c0
theorem Box2.new (w : World) (k l : Value) (t : TypeId) : Box2 (w.alloc (.cells #[k, l] t)) w.heap.size k l := ⟨by simp, by simp, fun i => by simp⟩
theorem Box2.new' (w : World) (k l : Value) (t : TypeId) (g : Nat) (hg : g = w.heap.size) : Box2 (w.alloc (.cells #[k, l] t)) g k l := by subst hg; exact Box2.new w k l t
theorem Box2.keep {w w' : World} {B : Nat} {k l : Value} (h : Box2 w B k l) (hk : w'.heap[B]? = w.heap[B]?) : Box2 w' B k l :=
  ⟨(World.cell?_of_block (w := w) (a := ⟨B, 0, none⟩) hk).trans h.c0, (World.cell?_of_block (w := w) (a := ⟨B, 1, none⟩) hk).trans h.c1, fun i => (World.frozen?_of_block (w := w) (a := ⟨B, i, none⟩) hk).trans (h.z i)⟩
theorem Box2.ext {w w' : World} {B : Nat} {k l : Value} (h : Box2 w B k l) (hE : Ext w w') : Box2 w' B k l := h.keep (hE.block B h.lt)
theorem Box2.set0 {w : World} {B : Nat} {k l : Value} (h : Box2 w B k l) (u : Value) : Box2 (w.setCell ⟨B, 0, none⟩ u) B u l :=
  ⟨World.cell?_setCell_same' _ _ _ (by rw [h.c0]; rfl), (World.cell?_setCell_other _ _ _ _ (by simp)).trans h.c1, fun i => by simpa using h.z i⟩
theorem Box2.set1 {w : World} {B : Nat} {k l : Value} (h : Box2 w B k l) (u : Value) : Box2 (w.setCell ⟨B, 1, none⟩ u) B k u :=
  ⟨(World.cell?_setCell_other _ _ _ _ (by simp)).trans h.c0, World.cell?_setCell_same' _ _ _ (by rw [h.c1]; rfl), fun i => by simpa using h.z i⟩
/-- a variable of three cells -/
structure Box3 (w : World) (B : Nat) (k l m : Value) : Prop where
  c0 : w.cell? ⟨B, 0, none⟩ = some k
  c1 : w.cell? ⟨B, 1, none⟩ = some l
  c2 : w.cell? ⟨B, 2, none⟩ = some m
  z : ∀ i, w.frozen? ⟨B, i, none⟩ = false
theorem Box3.lt {w : World} {B : Nat} {k l m : Value} (h : Box3 w B k l m) : B < w.heap.size := World.block_lt_of_cell? _ _ h.c0
theorem Box3.new (w : World) (k l m : Value) (t : TypeId) : Box3 (w.alloc (.cells #[k, l, m] t)) w.heap.size k l m := ⟨by simp, by simp, by simp, fun i => by simp⟩
theorem Box3.new' (w : World) (k l m : Value) (t : TypeId) (g : Nat) (hg : g = w.heap.size) : Box3 (w.alloc (.cells #[k, l, m] t)) g k l m := by subst hg; exact Box3.new w k l m t
theorem Box3.keep {w w' : World} {B : Nat} {k l m : Value} (h : Box3 w B k l m) (hk : w'.heap[B]? = w.heap[B]?) : Box3 w' B k l m :=
  ⟨(World.cell?_of_block (w := w) (a := ⟨B, 0, none⟩) hk).trans h.c0, (World.cell?_of_block (w := w) (a := ⟨B, 1, none⟩) hk).trans h.c1, (World.cell?_of_block (w := w) (a := ⟨B, 2, none⟩) hk).trans h.c2, fun i => (World.frozen?_of_block (w := w) (a := ⟨B, i, none⟩) hk).trans (h.z i)⟩
theorem Box3.ext {w w' : World} {B : Nat} {k l m : Value} (h : Box3 w B k l m) (hE : Ext w w') : Box3 w' B k l m := h.keep (hE.block B h.lt)
theorem Box3.set0 {w : World} {B : Nat} {k l m : Value} (h : Box3 w B k l m) (u : Value) : Box3 (w.setCell ⟨B, 0, none⟩ u) B u l m :=
  ⟨World.cell?_setCell_same' _ _ _ (by rw [h.c0]; rfl), (World.cell?_setCell_other _ _ _ _ (by simp)).trans h.c1, (World.cell?_setCell_other _ _ _ _ (by simp)).trans h.c2, fun i => by simpa using h.z i⟩
theorem Box3.set1 {w : World} {B : Nat} {k l m : Value} (h : Box3 w B k l m) (u : Value) : Box3 (w.setCell ⟨B, 1, none⟩ u) B k u m :=
  ⟨(World.cell?_setCell_other _ _ _ _ (by simp)).trans h.c0, World.cell?_setCell_same' _ _ _ (by rw [h.c1]; rfl), (World.cell?_setCell_other _ _ _ _ (by simp)).trans h.c2, fun i => by simpa using h.z i⟩
theorem Box3.set2 {w : World} {B : Nat} {k l m : Value} (h : Box3 w B k l m) (u : Value) : Box3 (w.setCell ⟨B, 2, none⟩ u) B k l u :=
  ⟨(World.cell?_setCell_other _ _ _ _ (by simp)).trans h.c0, (World.cell?_setCell_other _ _ _ _ (by simp)).trans h.c1, World.cell?_setCell_same' _ _ _ (by rw [h.c2]; rfl), fun i => by simpa using h.z i⟩
theorem three_cells {W : World} {b : Nat} {x0 x1 x2 : Value} (h0 : W.cell? ⟨b, 0, none⟩ = some x0) (h1 : W.cell? ⟨b, 1, none⟩ = some x1) (h2 : W.cell? ⟨b, 2, none⟩ = some x2) :
    ∀ (j : Nat) (u : Value), [x0, x1, x2][j]? = some u → W.cell? ((⟨b, 0, none⟩ : Addr).add j) = some u := by
  intro j u hj
  rw [Addr.add_lit]
  match j with
  | 0 => simp at hj; subst hj; exact h0
  | 1 => simp at hj; subst hj; exact h1
  | 2 => simp at hj; subst hj; exact h2
  | j + 3 => simp at hj
theorem two_cells {W : World} {b : Nat} {x0 x1 : Value} (h0 : W.cell? ⟨b, 0, none⟩ = some x0) (h1 : W.cell? ⟨b, 1, none⟩ = some x1) :
    ∀ (j : Nat) (u : Value), [x0, x1][j]? = some u → W.cell? ((⟨b, 0, none⟩ : Addr).add j) = some u := by
  intro j u hj
  rw [Addr.add_lit]
  match j with
  | 0 => simp at hj; subst hj; exact h0
  | 1 => simp at hj; subst hj; exact h1
  | j + 2 => simp at hj
/-- a part of a slice, whatever its rows' width -/
theorem SL.sub {w : World} {n b o cap : Nat} {rows : List (List Value)} (h : SL w n (some ⟨b, o, none⟩) cap rows) {p u : Nat} (hu : p + u ≤ rows.length) : SL w n (some ⟨b, o + p * n, none⟩) (cap - p) ((rows.drop p).take u) := by
  have hle := h.le
  refine ⟨by simp; omega, by have := h.max; omega, by simp, fun r hr => h.wid r (List.mem_of_mem_drop (List.mem_of_mem_take hr)), fun i j r v hr hv => ?_⟩
  rw [List.getElem?_take] at hr
  split at hr
  · rw [List.getElem?_drop] at hr
    obtain ⟨b', o', e, hc⟩ := h.cells (p + i) j r v hr hv
    cases e
    refine ⟨b, o + p * n, rfl, ?_⟩
    rw [show o + p * n + i * n + j = o + (p + i) * n + j by rw [Nat.add_mul]; omega]
    exact hc
  · cases hr
end Go.Sz
namespace Go.Sz
open Go.RowKit
section
variable {P : Program}

theorem flat_len {size : Nat} : ∀ (rows : List (List Value)), (∀ r ∈ rows, r.length = size) → rows.flatten.length = rows.length * size := by
  intro rows hw
  induction rows with
  | nil => simp
  | cons x xs ih => rw [List.flatten_cons, List.length_append, ih (fun r hr => hw r (by simp [hr])), hw x (by simp), List.length_cons, Nat.add_mul]; omega

theorem SL.flatCells {w : World} {size : Nat} {b o cap : Nat} {rows : List (List Value)} (h : SL w size (some ⟨b, o, none⟩) cap rows) : ∀ j u, rows.flatten[j]? = some u → w.cell? ((⟨b, o, none⟩ : Addr).add j) = some u := by
  intro j u hu
  rw [Addr.add_mid]
  have key : ∀ (rows : List (List Value)) (k : Nat), (∀ r ∈ rows, r.length = size) → (∀ i j r u, rows[i]? = some r → r[j]? = some u → w.cell? ⟨b, o + (k + i) * size + j, none⟩ = some u) → ∀ j u, rows.flatten[j]? = some u → w.cell? ⟨b, o + k * size + j, none⟩ = some u := by
    intro rows
    induction rows with
    | nil => intro k _ _ j u hu; simp at hu
    | cons x xs ih =>
      intro k hw hc j u hu
      have hx : x.length = size := hw x (by simp)
      rw [List.flatten_cons] at hu
      by_cases hj : j < x.length
      · rw [List.getElem?_append_left hj] at hu
        exact hc 0 j x u rfl hu
      · rw [List.getElem?_append_right (by omega)] at hu
        have := ih (k + 1) (fun r hr => hw r (by simp [hr])) (fun i j r u hr hu => by
          have := hc (i + 1) j r u (by simpa using hr) hu
          rwa [show k + (i + 1) = k + 1 + i from by omega] at this) (j - x.length) u hu
        rwa [show o + (k + 1) * size + (j - x.length) = o + k * size + j from by rw [Nat.add_mul, hx]; omega] at this
  have := key rows 0 h.wid (fun i j r u hr hu => by
    have := h.cellAt hr hu
    simpa using this) j u hu
  simpa using this

/-- append onto a slice of n elements and capacity n that is only read -/
theorem run_append_full (w : World) (t tx ty e : TypeId) (i : TypeInfo) (z : Value) (size bytes : Nat) (ht : P.underlying t = some (.slice e)) (hi : P.info? e = some i) (hz : i.zero = some z)
    (hsize : i.size = size) (hby : i.bytes = bytes) (hzs : z.cells.size = size) (hsz : 0 < size)
    (ao : Option Addr) (n : Nat) (rows : List (List Value)) (hs : SL w size ao n rows) (hrn : rows.length = n) (sv : Value) (m : Nat) (hsp : m = 0 → rows = [] → ∀ a, ao = some a → a.spot = none)
    (rows2 : List (List Value)) (hsrc : Src P size tx sv m rows2.flatten w) (hw2 : ∀ r ∈ rows2, r.length = size) (hm : rows2.length = m)
    (h63 : n + m ≤ maxLen) (hbytes : (n + m) * bytes ≤ 140737488355328) :
    ∃ ao' cap' w', (Builtin.append_ #[t, tx] ty #[.slice ao n n, sv]).run P w = .ok (.slice ao' (n + m) cap') w' ∧ SL w' size ao' cap' (rows ++ rows2) ∧ Ext w w' ∧ ((m = 0 ∧ ao' = ao) ∨ ∀ a, ao' = some a → w.heap.size ≤ a.block) := by
  subst hsize
  subst hby
  have hsmall : n + m ≤ 9223372036854775807 := by simp only [maxLen] at h63; omega
  have hsp0 : rows ≠ [] → ∀ a, ao = some a → a.spot = none := fun hr a ha => by
    obtain ⟨b, o, e, _⟩ := hs.at hsz 0 (List.length_pos_iff.2 hr)
    rw [ha] at e
    cases e
    rfl
  by_cases hm0 : m = 0
  · subst hm0
    have h2 : rows2 = [] := List.eq_nil_of_length_eq_zero hm
    subst h2
    refine ⟨ao, n, w, ?_, by simpa using hs, Ext.refl w, .inl ⟨rfl, rfl⟩⟩
    cases ao with
    | none =>
      have : n = 0 := hs.nil rfl
      subst this
      rcases hsrc.kind with ⟨e', hk⟩ | hk <;> simp [Builtin.append_, run_underlying ht, run_underlying hk, sizeOf, typeInfo, hi, hsrc.len, hsrc.cells]
    | some a =>
      obtain ⟨b, o, sp⟩ := a
      have : sp = none := by
        by_cases h0 : rows = []
        · exact hsp rfl h0 _ rfl
        · exact hsp0 h0 _ rfl
      subst this
      have hr := run_append_room_src (P := P) (w := w) t tx ty e i ht hi b o n n sv 0 [] hsrc (by omega) (by simp) (by simp)
      simpa [World.setCells] using hr
  · have hx : (Builtin.firstCells i.size n (.slice ao n n)).run P w.drew = .ok rows.flatten.toArray w.drew := by
      cases ao with
      | none =>
        have : n = 0 := hs.nil rfl
        subst this
        have h2 : rows = [] := List.eq_nil_of_length_eq_zero hrn
        subst h2
        exact run_firstCells_none w.drew i.size 0 0 0
      | some a =>
        refine run_firstCells_some w.drew i.size n a n n rows.flatten (by rw [flat_len rows hs.wid, hrn]) (fun j u hu => ?_)
        have hne : rows ≠ [] := by rintro rfl; simp at hu
        obtain ⟨b, o, sp⟩ := a
        have : sp = none := hsp0 hne _ rfl
        subst this
        simpa using hs.flatCells j u hu
    have hr := run_append_grow_src (P := P) w t tx ty e i z ht hi hz ao n n rows.flatten hx sv m rows2.flatten hsrc (by omega) (by omega) (growslice_fits (by omega) hbytes)
    have hge := grownCap_ge w (n + m) n e
    have hcm : grownCap w (n + m) n e ≤ maxLen := grownCap_le_maxLen w (n + m) n e h63
    have hlen : (rows.flatten ++ rows2.flatten).length = (n + m) * i.size := by rw [List.length_append, flat_len rows hs.wid, flat_len rows2 hw2, hrn, hm, Nat.add_mul]
    have hown : (w.drew.alloc (.cells ((rows.flatten ++ rows2.flatten).toArray ++ Builtin.zeroCells z.cells (grownCap w (n + m) n e - (n + m))) e)).ownsRow 0 e i.size
        (.slice (some ⟨w.heap.size, 0, none⟩) (n + m) (grownCap w (n + m) n e)) (n + m) (rows ++ rows2).flatten := by
      refine ⟨by rw [List.flatten_append]; exact hlen, .inr ⟨w.heap.size, _, _, rfl, Nat.zero_le _, heap_alloc_new w.drew _, hge, hcm, ?_, ?_⟩⟩
      · simp only [Array.size_append, List.size_toArray, size_zeroCells, hzs, hlen, ← Nat.add_mul]
        congr 1
        omega
      · simp only [Array.toList_append]
        rw [List.flatten_append, ← hlen]
        exact List.take_left
    obtain ⟨ao', cap', hv, hsl, _⟩ := SL.of_owns hown (fun r hr => (List.mem_append.1 hr).elim (hs.wid r) (hw2 r)) (by simp [hrn, hm])
    simp only [List.length_append, hrn, hm, Value.slice.injEq, true_and] at hv
    obtain ⟨e1, e2⟩ := hv
    subst e1 e2
    refine ⟨_, _, _, hr, hsl, ((Ext.refl w).drew).alloc _, .inr ?_⟩
    rintro a ⟨⟩
    exact Nat.le_refl _

theorem wp_append_full {o : Oper} {a : Act} {w : World} {K : Act → World → Prop} {Q : Exit → Act → World → Prop} (s x : Operand) (t tx : TypeId)
    (ho : o.op = .call { callee := .builtin .append, args := #[s, x], argTypes := #[t, tx] })
    (e : TypeId) (i : TypeInfo) (z : Value) (size bytes : Nat) (ht : P.underlying t = some (.slice e)) (hi : P.info? e = some i) (hz : i.zero = some z)
    (hsize : i.size = size) (hby : i.bytes = bytes) (hzs : z.cells.size = size) (hsz : 0 < size)
    (ao : Option Addr) (n : Nat) (rows : List (List Value)) (hv : a.eval s = .slice ao n n) (hs : SL w size ao n rows) (hrn : rows.length = n) (sv : Value) (m : Nat) (hsp : m = 0 → rows = [] → ∀ a, ao = some a → a.spot = none)
    (rows2 : List (List Value)) (hx : a.eval x = sv) (hsrc : Src P size tx sv m rows2.flatten w) (hw2 : ∀ r ∈ rows2, r.length = size) (hm : rows2.length = m)
    (h63 : n + m ≤ maxLen) (hbytes : (n + m) * bytes ≤ 140737488355328)
    (h : ∀ ao' cap' w', SL w' size ao' cap' (rows ++ rows2) → Ext w w' → ((m = 0 ∧ ao' = ao) ∨ ∀ a, ao' = some a → w.heap.size ≤ a.block) → K (a.put o.dst (.slice ao' (n + m) cap')) w') : o.wp P a w K Q := by
  obtain ⟨ao', cap', w', hr, h2, h3, h4⟩ := run_append_full (P := P) w t tx o.type e i z size bytes ht hi hz hsize hby hzs hsz ao n rows hs hrn sv m hsp rows2 hsrc hw2 hm h63 hbytes
  unfold Oper.wp execOp
  simp only [ho, resolve, invoke, builtin, Sem.run_bind, Sem.run_pure, Result.andThen_ok, List.map_toArray, List.map_cons, List.map_nil, hv, hx, hr]
  exact h ao' cap' w' h2 h3 h4

theorem wpList_append_full {ops : Array Oper} {rest : List Oper} {o : Oper} {a : Act} {w : World} {Q : Exit → Act → World → Prop} (hgd : o.guard = none) (s x : Operand) (t tx : TypeId)
    (ho : o.op = .call { callee := .builtin .append, args := #[s, x], argTypes := #[t, tx] })
    (e : TypeId) (i : TypeInfo) (z : Value) (size bytes : Nat) (ht : P.underlying t = some (.slice e)) (hi : P.info? e = some i) (hz : i.zero = some z)
    (hsize : i.size = size) (hby : i.bytes = bytes) (hzs : z.cells.size = size) (hsz : 0 < size)
    (ao : Option Addr) (n : Nat) (rows : List (List Value)) (hv : a.eval s = .slice ao n n) (hs : SL w size ao n rows) (hrn : rows.length = n) (sv : Value) (m : Nat) (hsp : m = 0 → rows = [] → ∀ a, ao = some a → a.spot = none)
    (rows2 : List (List Value)) (hx : a.eval x = sv) (hsrc : Src P size tx sv m rows2.flatten w) (hw2 : ∀ r ∈ rows2, r.length = size) (hm : rows2.length = m)
    (h63 : n + m ≤ maxLen) (hbytes : (n + m) * bytes ≤ 140737488355328)
    (h : ∀ ao' cap' w', SL w' size ao' cap' (rows ++ rows2) → Ext w w' → ((m = 0 ∧ ao' = ao) ∨ ∀ a, ao' = some a → w.heap.size ≤ a.block) → wpList P ops Q rest (a.put o.dst (.slice ao' (n + m) cap')) w') : wpList P ops Q (o :: rest) a w :=
  wpList_plain hgd fun _ hK => wp_append_full s x t tx ho e i z size bytes ht hi hz hsize hby hzs hsz ao n rows hv hs hrn sv m hsp rows2 hx hsrc hw2 hm h63 hbytes fun ao' cap' w' h2 h3 h4 => hK _ _ (h ao' cap' w' h2 h3 h4)

theorem step_append_full {ops : Array Oper} {o : Oper} {a : Act} {w : World} {K : Act → World → Prop} {Q : Exit → Act → World → Prop} {E : Prop} (hgd : o.guard = none) (s x : Operand) (t tx : TypeId)
    (ho : o.op = .call { callee := .builtin .append, args := #[s, x], argTypes := #[t, tx] })
    (e : TypeId) (i : TypeInfo) (z : Value) (size bytes : Nat) (ht : P.underlying t = some (.slice e)) (hi : P.info? e = some i) (hz : i.zero = some z)
    (hsize : i.size = size) (hby : i.bytes = bytes) (hzs : z.cells.size = size) (hsz : 0 < size)
    (ao : Option Addr) (n : Nat) (rows : List (List Value)) (hv : a.eval s = .slice ao n n) (hs : SL w size ao n rows) (hrn : rows.length = n) (sv : Value) (m : Nat) (hsp : m = 0 → rows = [] → ∀ a, ao = some a → a.spot = none)
    (rows2 : List (List Value)) (hx : a.eval x = sv) (hsrc : Src P size tx sv m rows2.flatten w) (hw2 : ∀ r ∈ rows2, r.length = size) (hm : rows2.length = m)
    (h63 : n + m ≤ maxLen) (hbytes : (n + m) * bytes ≤ 140737488355328)
    (h : ∀ ao' cap' w', SL w' size ao' cap' (rows ++ rows2) → Ext w w' → ((m = 0 ∧ ao' = ao) ∨ ∀ a, ao' = some a → w.heap.size ≤ a.block) → K (a.put o.dst (.slice ao' (n + m) cap')) w') :
    if Region.wanted o (yielded ops a.tmps) = true then Oper.wp P o a w K Q else E := by
  have hw : Region.wanted o (yielded ops a.tmps) = true := by simp [Region.wanted, hgd]
  rw [if_pos hw]
  exact wp_append_full s x t tx ho e i z size bytes ht hi hz hsize hby hzs hsz ao n rows hv hs hrn sv m hsp rows2 hx hsrc hw2 hm h63 hbytes h
end
theorem SL.setCell {w : World} {n : Nat} {ao : Option Addr} {cap : Nat} {rows : List (List Value)} (h : SL w n ao cap rows) {p : Addr} (u : Value) (hp : ∀ a, ao = some a → rows ≠ [] → a.block ≠ p.block) : SL (w.setCell p u) n ao cap rows :=
  h.keep fun a ha hr => heap_setCell_far w p u a.block (hp a ha hr)
end Go.Sz
namespace Go.Sz
open Go.RowKit

/-- the same value again: the same world -/
theorem setCell_id {w : World} {q : Addr} {v : Value} (h : w.cell? q = some v) : w.setCell q v = w := by
  obtain ⟨hp, tp, dr, os, out⟩ := w
  unfold World.setCell
  simp only [World.mk.injEq, and_true]
  apply Array.ext_getElem?
  intro i
  rw [Array.getElem?_modify]
  split
  · rename_i hi
    subst hi
    unfold World.cell? at h
    simp only at h
    cases hb : hp[q.block]? with
    | none => rfl
    | some o =>
      rw [hb] at h
      cases o with
      | cells c e f =>
        simp only at h
        by_cases hs : q.spot.isSome = true
        · rw [if_pos hs] at h; cases h
        · rw [if_neg hs] at h
          have hc : c.setIfInBounds q.off v = c := by
            apply Array.ext_getElem?
            intro j
            rw [Array.getElem?_setIfInBounds]
            split
            · rename_i hj; subst hj; rw [if_pos (Array.getElem?_eq_some_iff.1 h).1]; exact h.symm
            · rfl
          simp [hs, hc]
      | _ => rfl
  · rfl
theorem setCell_id2 {w : World} {B : Nat} {u0 u1 : Value} (h0 : w.cell? ⟨B, 0, none⟩ = some u0) (h1 : w.cell? ⟨B, 1, none⟩ = some u1) : (w.setCell ⟨B, 0, none⟩ u0).setCell ⟨B, 1, none⟩ u1 = w := by rw [setCell_id h0, setCell_id h1]
theorem setCell_id3 {w : World} {B : Nat} {u0 u1 u2 : Value} (h0 : w.cell? ⟨B, 0, none⟩ = some u0) (h1 : w.cell? ⟨B, 1, none⟩ = some u1) (h2 : w.cell? ⟨B, 2, none⟩ = some u2) : ((w.setCell ⟨B, 0, none⟩ u0).setCell ⟨B, 1, none⟩ u1).setCell ⟨B, 2, none⟩ u2 = w := by rw [setCell_id h0, setCell_id h1, setCell_id h2]

/-- What an operation that makes memory yields: a relation that growth keeps. -/
structure Spec where
  R : Value → World → Prop
  mono : ∀ {v : Value} {W W' : World}, Ext W W' → R v W → R v W'

abbrev Gh := Nat → Option Value
def upd (g : Gh) (i : Nat) (v : Value) : Gh := fun j => if j = i then some v else g j
theorem upd_same (g : Gh) (i : Nat) (v : Value) : upd g i v i = some v := by simp [upd]
theorem upd_other (g : Gh) {i j : Nat} (v : Value) (h : j ≠ i) : upd g i v j = g j := by simp [upd, h]
theorem upd_comm (g : Gh) {i j : Nat} (v u : Value) (h : i ≠ j) : upd (upd g i v) j u = upd (upd g j u) i v := by
  funext k
  by_cases h1 : k = i
  · subst h1; rw [upd_other _ _ h, upd_same, upd_same]
  · by_cases h2 : k = j
    · subst h2; rw [upd_same, upd_other _ _ h1, upd_same]
    · rw [upd_other _ _ h2, upd_other _ _ h1, upd_other _ _ h1, upd_other _ _ h2]

section
variable {P : Program} {ops : Array Oper} {md : Region.Mode} {W0 : World} {T : Nat → Option Spec} {m : Nat}

/-- The worlds that have come of W0 by growth, and in which the facts on what the operations in A have yielded hold. -/
def Cl (W0 : World) (T : Nat → Option Spec) (A : Nat → Prop) (g : Gh) (W : World) : Prop :=
  Ext W0 W ∧ ∀ i, A i → ∀ v S, g i = some v → T i = some S → S.R v W
abbrev All : Nat → Prop := fun _ => True

theorem Cl.mono {A A' : Nat → Prop} {g g' : Gh} {W : World} (h : Cl W0 T A g W) (ha : ∀ i, A' i → A i) (hg : ∀ i, A' i → g' i = g i) : Cl W0 T A' g' W :=
  ⟨h.1, fun i hi v S hv hs => h.2 i (ha i hi) v S (by rw [← hg i hi]; exact hv) hs⟩
theorem Cl.upd {g : Gh} {W W' : World} {i : Nat} {v : Value} {S : Spec} (h : Cl W0 T All g W) (hE : Ext W W') (hT : T i = some S) (hR : S.R v W') : Cl W0 T All (upd g i v) W' :=
  ⟨h.1.trans hE, fun j _ u S' hu hs => by
    by_cases hj : j = i
    · subst hj
      rw [upd_same] at hu
      rw [hT] at hs
      cases hu; cases hs
      exact hR
    · rw [upd_other _ _ hj] at hu
      exact S'.mono hE (h.2 j trivial u S' hu hs)⟩
theorem Cl.drop {g : Gh} {W : World} {i : Nat} {v : Value} (h : Cl W0 T All (Sz.upd g i v) W) (hn : g i = none) : Cl W0 T All g W :=
  ⟨h.1, fun j _ u S hu hs => h.2 j trivial u S (by
    rw [upd_other _ _ (by rintro rfl; rw [hn] at hu; cases hu)]
    exact hu) hs⟩

/-- The operations that stand ahead of operation k, by its edges. -/
def direct (md : Region.Mode) (ops : Array Oper) (k : Nat) : List Nat :=
  match ops[k]? with
  | some o => o.after.toList.filterMap fun e => if Region.binds md e then some e.on else none
  | none => []
def ancGo (md : Region.Mode) (ops : Array Oper) : Nat → List Nat → List Nat
  | 0, l => l
  | i + 1, l => ancGo md ops i (if l.contains i then direct md ops i ++ l else l)
def ancs (md : Region.Mode) (ops : Array Oper) (k : Nat) : List Nat := ancGo md ops k (direct md ops k)
def Anc (md : Region.Mode) (ops : Array Oper) (k : Nat) : Nat → Prop := fun i => (ancs md ops k).contains i = true

def Down (md : Region.Mode) (ops : Array Oper) (listed : Array Bool) : Prop :=
  ∀ j, listed.getD j false = true → ∀ i ∈ direct md ops j, listed.getD i false = true

theorem direct_ready {listed : Array Bool} {k : Nat} (h : k ∈ Region.ready md ops listed) : ∀ i ∈ direct md ops k, listed.getD i false = true := by
  obtain ⟨_, o, ho, hall⟩ := mem_ready.1 h
  intro i hi
  unfold direct at hi
  rw [ho] at hi
  obtain ⟨e, he, hei⟩ := List.mem_filterMap.1 hi
  split at hei
  · cases hei
    exact hall e (by simpa using he) (by assumption)
  · cases hei

theorem ancGo_listed {listed : Array Bool} (hd : Down md ops listed) : ∀ (n : Nat) (l : List Nat), (∀ i ∈ l, listed.getD i false = true) → ∀ i ∈ ancGo md ops n l, listed.getD i false = true := by
  intro n
  induction n with
  | zero => intro l h i hi; exact h i hi
  | succ n ih =>
    intro l h i hi
    unfold ancGo at hi
    refine ih _ ?_ i hi
    split
    · rename_i hc
      intro k hk
      rcases List.mem_append.1 hk with hk | hk
      · exact hd n (h n (by simpa using hc)) k hk
      · exact h k hk
    · exact h

theorem anc_listed {listed : Array Bool} (hd : Down md ops listed) {k i : Nat} (h : k ∈ Region.ready md ops listed) (ha : Anc md ops k i) : listed.getD i false = true :=
  ancGo_listed hd k _ (direct_ready h) i (by simpa [Anc, ancs] using ha)

theorem Down.set {listed : Array Bool} (hd : Down md ops listed) {k : Nat} (h : k ∈ Region.ready md ops listed) : Down md ops (listed.setIfInBounds k true) := by
  intro j hj i hi
  refine getD_set_true ?_
  by_cases hjk : k = j
  · subst hjk; exact direct_ready h i hi
  · rw [getD_set_ne false hjk] at hj
    exact hd j hj i hi

theorem listed_ne {listed : Array Bool} {i j : Nat} (hi : listed.getD i false = true) (hj : listed.getD j true = false) : i ≠ j := by
  rintro rfl
  rcases Nat.lt_or_ge i listed.size with h | h
  · simp [h] at hi hj
    rw [hi] at hj
    cases hj
  · simp [Array.getElem?_eq_none h] at hi

def qUpon (W : World) (u : Value) : Result Next → Prop
  | .ok (.value v) W' => W' = W ∧ v = u
  | .ok .skip W' => W' = W ∧ u = undef
  | _ => False
/-- In the world W the operation yields u and leaves W as it was. -/
def qly (P : Program) (o : Oper) (a : Act) (W : World) (u : Value) : Prop := qUpon W u ((execOp a.eval o).run P W)
def gUpon (P : Program) (W : World) (R : Value → World → Prop) : Result Next → Prop
  | .ok (.value v) W' => R v W' ∧ Ext W W'
  | .ok (.enter f args) W' => Calls P f args W' (fun e w'' => ∃ v, e = .returned v ∧ R v w'' ∧ Ext W w'')
  | _ => False
/-- In the world W the operation yields what R holds of, and makes new memory alone. -/
def gives (P : Program) (o : Oper) (a : Act) (W : World) (R : Value → World → Prop) : Prop := gUpon P W R ((execOp a.eval o).run P W)

theorem gives_some {o : Oper} {a : Act} {W : World} {R : Value → World → Prop} (h : gives P o a W R) : ∃ v W', R v W' ∧ Ext W W' := by
  unfold gives at h
  generalize (execOp a.eval o).run P W = r at h
  cases r with
  | ok n w' =>
    cases n <;> simp only [gUpon] at h
    case value v => exact ⟨v, w', h⟩
    case enter f args =>
      obtain ⟨e, w'', fr, ⟨v, _, hR, hE⟩, _⟩ := h []
      exact ⟨v, w'', hR, hE⟩
  | halt x w' => simp only [gUpon] at h

theorem qly_unique {o : Oper} {a : Act} {W : World} {u u' : Value} (h : qly P o a W u) (h' : qly P o a W u') : u = u' := by
  unfold qly at h h'
  generalize (execOp a.eval o).run P W = r at h h'
  cases r with
  | ok n w' =>
    cases n <;> simp only [qUpon] at h h'
    case value v => exact h.2.symm.trans h'.2
    case skip => exact h.2.trans h'.2.symm
  | halt x w' => simp only [qUpon] at h

/-- Operation i yields u, and no fact on memory goes with it. -/
def Yq (P : Program) (ops : Array Oper) (md : Region.Mode) (W0 : World) (T : Nat → Option Spec) (i : Nat) (o : Oper) (a : Act) (g : Gh) (u : Value) : Prop :=
  (Region.wanted o (yielded ops a.tmps) = true ∧ T i = none ∧ ∀ W, Cl W0 T (Anc md ops i) g W → qly P o a W u) ∨ (Region.wanted o (yielded ops a.tmps) = false ∧ u = undef)
/-- Operation i yields what S holds of. -/
def Yr (P : Program) (ops : Array Oper) (md : Region.Mode) (W0 : World) (T : Nat → Option Spec) (i : Nat) (o : Oper) (a : Act) (g : Gh) (S : Spec) : Prop :=
  Region.wanted o (yielded ops a.tmps) = true ∧ T i = some S ∧ ∀ W, Cl W0 T (Anc md ops i) g W → gives P o a W S.R

theorem Yq.congr {i : Nat} {o : Oper} {a a' : Act} {g g' : Gh} {u : Value} (h : Yq P ops md W0 T i o a g u) (he : execOp a'.eval o = execOp a.eval o)
    (hw : Region.wanted o (yielded ops a'.tmps) = Region.wanted o (yielded ops a.tmps)) (hg : ∀ k, Anc md ops i k → g k = g' k) : Yq P ops md W0 T i o a' g' u := by
  unfold Yq qly at *
  rw [he, hw]
  exact h.imp (fun ⟨h1, h2, h3⟩ => ⟨h1, h2, fun W hW => h3 W (hW.mono (fun _ h => h) hg)⟩) id
theorem Yr.congr {i : Nat} {o : Oper} {a a' : Act} {g g' : Gh} {S : Spec} (h : Yr P ops md W0 T i o a g S) (he : execOp a'.eval o = execOp a.eval o)
    (hw : Region.wanted o (yielded ops a'.tmps) = Region.wanted o (yielded ops a.tmps)) (hg : ∀ k, Anc md ops i k → g k = g' k) : Yr P ops md W0 T i o a' g' S := by
  unfold Yr gives at *
  rw [he, hw]
  exact ⟨h.1, h.2.1, fun W hW => h.2.2 W (hW.mono (fun _ h => h) hg)⟩
theorem Yq.unique {i : Nat} {o : Oper} {a : Act} {g : Gh} {u u' : Value} {W : World} (h : Yq P ops md W0 T i o a g u) (h' : Yq P ops md W0 T i o a g u') (hW : Cl W0 T All g W) : u = u' := by
  have hW' : Cl W0 T (Anc md ops i) g W := hW.mono (fun _ _ => trivial) (fun _ _ => rfl)
  rcases h with ⟨h1, _, h3⟩ | ⟨h1, h2⟩ <;> rcases h' with ⟨k1, _, k3⟩ | ⟨k1, k2⟩
  · exact qly_unique (h3 W hW') (k3 W hW')
  · rw [h1] at k1; cases k1
  · rw [h1] at k1; cases k1
  · rw [h2, k2]
theorem Yq.not_Yr {i : Nat} {o : Oper} {a : Act} {g : Gh} {u : Value} {S : Spec} (h : Yq P ops md W0 T i o a g u) (h' : Yr P ops md W0 T i o a g S) : False := by
  rcases h with ⟨_, h2, _⟩ | ⟨h1, _⟩
  · rw [h'.2.1] at h2; cases h2
  · rw [h'.1] at h1; cases h1

def relOp (P : Program) (ops : Array Oper) (md : Region.Mode) (W0 : World) (T : Nat → Option Spec) (i : Nat) (o : Oper) (a : Act) (g : Gh) (K : Act → Gh → Prop) : Prop :=
  (∃ u, Yq P ops md W0 T i o a g u ∧ K (a.put o.dst u) g) ∨
  (∃ S, Yr P ops md W0 T i o a g S ∧ ∀ v, (∃ W, Cl W0 T All (upd g i v) W) → K (a.put o.dst v) (upd g i v))

theorem relOp_mono {i : Nat} {o : Oper} {a : Act} {g : Gh} {K K' : Act → Gh → Prop} (hW : ∃ W, Cl W0 T All g W) (h : relOp P ops md W0 T i o a g K) (hK : ∀ v g', (∃ W, Cl W0 T All g' W) → (∀ j, j ≠ i → g' j = g j) → K (a.put o.dst v) g' → K' (a.put o.dst v) g') : relOp P ops md W0 T i o a g K' := by
  rcases h with ⟨u, hy, h⟩ | ⟨S, hy, h⟩
  · exact .inl ⟨u, hy, hK _ _ hW (fun _ _ => rfl) h⟩
  · exact .inr ⟨S, hy, fun v hv => hK _ _ hv (fun j hj => upd_other _ _ hj) (h v hv)⟩

theorem Yr.val {i : Nat} {o : Oper} {a : Act} {g : Gh} {S : Spec} (h : Yr P ops md W0 T i o a g S) (hW : ∃ W, Cl W0 T All g W) : ∃ v W, Cl W0 T All (upd g i v) W := by
  obtain ⟨W, hW⟩ := hW
  obtain ⟨v, W', hR, hE⟩ := gives_some (h.2.2 W (hW.mono (fun _ _ => trivial) (fun _ _ => rfl)))
  exact ⟨v, W', hW.upd hE h.2.1 hR⟩

theorem relOp_some {i : Nat} {o : Oper} {a : Act} {g : Gh} {K : Act → Gh → Prop} (hW : ∃ W, Cl W0 T All g W) (h : relOp P ops md W0 T i o a g K) : ∃ a' g', K a' g' := by
  rcases h with ⟨u, hy, h⟩ | ⟨S, hy, h⟩
  · exact ⟨_, _, h⟩
  · obtain ⟨v, hv⟩ := hy.val hW
    exact ⟨_, _, h v hv⟩

def wpAnyR (P : Program) (ops : Array Oper) (md : Region.Mode) (W0 : World) (T : Nat → Option Spec) (m : Nat) (Q : Act → Gh → Prop) : Nat → Array Bool → Act → Gh → Prop
  | 0, listed, a, g => (∀ i, i < m → listed.getD i false = true) ∧ Q a g
  | fuel + 1, listed, a, g => (∃ i, i < m ∧ i ∈ Region.ready md ops listed) ∧
      ∀ i ∈ Region.ready md ops listed, i < m → ∀ o, ops[i]? = some o → relOp P ops md W0 T i o a g (fun a' g' => wpAnyR P ops md W0 T m Q fuel (listed.setIfInBounds i true) a' g')

/-- An operation that may come up now may be taken first. -/
theorem rel_first {Q : Act → Gh → Prop} {i : Nat} {oi : Oper} (hi : ops[i]? = some oi) (him : i < m) (hsel : ∀ (j : Nat) (o : Oper) cs b, ops[j]? = some o → o.op ≠ .select cs b) :
    ∀ (fuel : Nat) (listed : Array Bool) (a : Act) (g : Gh), Down md ops listed → (∀ j, listed.getD j true = false → g j = none) →
      (∀ j oj, ops[j]? = some oj → j ≠ i → listed.getD j true = false → (∀ e ∈ oj.after, Region.binds md e = true → e.on ≠ i) → oi.apart ops oj = true) →
      i ∈ Region.ready md ops listed → (∃ W, Cl W0 T All g W) →
      relOp P ops md W0 T i oi a g (fun a' g' => wpAnyR P ops md W0 T m Q fuel (listed.setIfInBounds i true) a' g') → wpAnyR P ops md W0 T m Q (fuel + 1) listed a g := by
  intro fuel
  induction fuel with
  | zero =>
    intro listed a g _ _ _ hr hW H
    refine ⟨⟨i, him, hr⟩, fun j hj hjm oj hoj => ?_⟩
    by_cases hji : j = i
    · subst hji; rw [hi] at hoj; cases hoj; exact H
    · obtain ⟨a', g', h⟩ := relOp_some hW H
      have h1 := h.1 j hjm
      rw [getD_set_ne false (Ne.symm hji)] at h1
      exact absurd rfl (listed_ne h1 (mem_ready.1 hj).1)
  | succ fuel ih =>
    intro listed a g hd hg hfree hr hW H
    refine ⟨⟨i, him, hr⟩, fun j hj hjm oj hoj => ?_⟩
    by_cases hji : j = i
    · subst hji; rw [hi] at hoj; cases hoj; exact H
    · obtain ⟨hjun, oj', hoj', hall⟩ := mem_ready.1 hj
      have hiun := (mem_ready.1 hr).1
      have hnot : ∀ e ∈ oj.after, Region.binds md e = true → e.on ≠ i := fun e he hb heq => by
        rw [hoj] at hoj'; cases hoj'
        have h1 := hall e he hb
        rw [heq] at h1
        exact absurd rfl (listed_ne h1 hiun)
      have hap := hfree j oj hoj hji hjun hnot
      obtain ⟨h1, h2, h3⟩ := Oper.apart_spec hap
      have hrj := ready_mono hj hji
      have hri := ready_mono hr (Ne.symm hji)
      have hfree' : ∀ k ok, ops[k]? = some ok → k ≠ i → (listed.setIfInBounds j true).getD k true = false →
          (∀ e ∈ ok.after, Region.binds md e = true → e.on ≠ i) → oi.apart ops ok = true := fun k ok hk hki hun hno => by
        refine hfree k ok hk hki ?_ hno
        by_cases hjk : j = k
        · subst hjk; exact hjun
        · rw [getD_set_ne true hjk] at hun; exact hun
      have hg' : ∀ (g' : Gh), (∀ k, k ≠ j → g' k = g k) → ∀ k, (listed.setIfInBounds j true).getD k true = false → g' k = none := fun g' he k hk => by
        by_cases hjk : j = k
        · subst hjk
          exfalso
          have hlt : j < listed.size := by
            rcases Nat.lt_or_ge j listed.size with h | h
            · exact h
            · simp [Array.getElem?_eq_none h] at hjun
          simp [hlt] at hk
        · rw [getD_set_ne true hjk] at hk
          rw [he k (Ne.symm hjk)]
          exact hg k hk
      -- what one does not see of the other
      have ei : ∀ (a : Act) u, execOp (a.put oj.dst u).eval oi = execOp a.eval oi := fun a u => execOp_put oi (fun cs b => hsel i oi cs b hi) a oj.dst u h3
      have wi : ∀ (a : Act) u, Region.wanted oi (yielded ops (a.put oj.dst u).tmps) = Region.wanted oi (yielded ops a.tmps) := fun a u => wanted_put oi a oj.dst u h3
      have ej : ∀ (a : Act) u, execOp (a.put oi.dst u).eval oj = execOp a.eval oj := fun a u => execOp_put oj (fun cs b => hsel j oj cs b hoj) a oi.dst u h1
      have wj : ∀ (a : Act) u, Region.wanted oj (yielded ops (a.put oi.dst u).tmps) = Region.wanted oj (yielded ops a.tmps) := fun a u => wanted_put oj a oi.dst u h1
      have ai : ∀ (g : Gh) u k, Anc md ops i k → g k = upd g j u k := fun g u k hk => (upd_other _ _ (listed_ne (anc_listed hd hr hk) hjun)).symm
      have aj : ∀ (g : Gh) u k, Anc md ops j k → g k = upd g i u k := fun g u k hk => (upd_other _ _ (listed_ne (anc_listed hd hj hk) hiun)).symm
      have hcm : (listed.setIfInBounds i true).setIfInBounds j true = (listed.setIfInBounds j true).setIfInBounds i true := Array.setIfInBounds_comm _ _ (Ne.symm hji)
      have hdj := hd.set hj
      rcases H with ⟨u, hy, hA⟩ | ⟨S, hy, hA⟩
      · rcases hA.2 j hrj hjm oj hoj with ⟨x, hx, hB⟩ | ⟨S', hx, hB⟩
        · refine .inl ⟨x, hx.congr (ej a u).symm (wj a u).symm (fun _ _ => rfl), ih _ _ _ hdj (hg' g fun _ _ => rfl) hfree' hri hW (.inl ⟨u, hy.congr (ei a x) (wi a x) (fun _ _ => rfl), ?_⟩)⟩
          rw [← hcm, ← Act.put_comm a u x h2]
          exact hB
        · refine .inr ⟨S', hx.congr (ej a u).symm (wj a u).symm (fun _ _ => rfl), fun x hxW => ih _ _ _ hdj (hg' _ fun k hk => upd_other _ _ hk) hfree' hri hxW (.inl ⟨u, hy.congr (ei a x) (wi a x) (ai g x), ?_⟩)⟩
          rw [← hcm, ← Act.put_comm a u x h2]
          exact hB x hxW
      · obtain ⟨v0, hv0⟩ := hy.val hW
        rcases (hA v0 hv0).2 j hrj hjm oj hoj with ⟨x, hx, _⟩ | ⟨S', hx, _⟩
        · have hx0 : Yq P ops md W0 T j oj a g x := hx.congr (ej a v0).symm (wj a v0).symm (fun k hk => (aj g v0 k hk).symm)
          refine .inl ⟨x, hx0, ih _ _ _ hdj (hg' g fun _ _ => rfl) hfree' hri hW (.inr ⟨S, hy.congr (ei a x) (wi a x) (fun _ _ => rfl), fun v hv => ?_⟩)⟩
          rcases (hA v hv).2 j hrj hjm oj hoj with ⟨x', hx', hB⟩ | ⟨S', hx', _⟩
          · have hx1 : Yq P ops md W0 T j oj a g x' := hx'.congr (ej a v).symm (wj a v).symm (fun k hk => (aj g v k hk).symm)
            obtain ⟨W, hW⟩ := hW
            have := hx0.unique hx1 hW
            subst this
            rw [← hcm, ← Act.put_comm a v x h2]
            exact hB
          · exact (hx0.not_Yr (hx'.congr (ej a v).symm (wj a v).symm (fun k hk => (aj g v k hk).symm))).elim
        · have hx0 : Yr P ops md W0 T j oj a g S' := hx.congr (ej a v0).symm (wj a v0).symm (fun k hk => (aj g v0 k hk).symm)
          refine .inr ⟨S', hx0, fun x hxW => ih _ _ _ hdj (hg' _ fun k hk => upd_other _ _ hk) hfree' hri hxW (.inr ⟨S, hy.congr (ei a x) (wi a x) (ai g x), fun v hv => ?_⟩)⟩
          have hv' : ∃ W, Cl W0 T All (upd g i v) W := by
            obtain ⟨W, hW⟩ := hv
            rw [← upd_comm _ _ _ (Ne.symm hji)] at hW
            exact ⟨W, hW.drop (by rw [upd_other _ _ hji]; exact hg j hjun)⟩
          rcases (hA v hv').2 j hrj hjm oj hoj with ⟨x', hx', _⟩ | ⟨S'', hx', hB⟩
          · exact ((hx'.congr (ej a v).symm (wj a v).symm (fun k hk => (aj g v k hk).symm) : Yq P ops md W0 T j oj a g x').not_Yr hx0).elim
          · rw [← hcm, ← Act.put_comm a v x h2, ← upd_comm _ _ _ (Ne.symm hji)]
            exact hB x (by rw [upd_comm _ _ _ (Ne.symm hji)]; exact hv)

/-- The walk in the order of the text. -/
def wpRel (P : Program) (ops : Array Oper) (md : Region.Mode) (W0 : World) (T : Nat → Option Spec) (Q : Act → Gh → Prop) : List Oper → Nat → Act → Gh → Prop
  | [], _, a, g => Q a g
  | o :: l, k, a, g => relOp P ops md W0 T k o a g (fun a' g' => wpRel P ops md W0 T Q l (k + 1) a' g')

def lexPre (md : Region.Mode) (ops : Array Oper) (m : Nat) : Nat → Nat → Array Bool → Bool
  | 0, _, listed => (List.range m).all fun i => listed.getD i false
  | fuel + 1, k, listed => (Region.ready md ops listed).contains k && Region.free md ops listed k && lexPre md ops m fuel (k + 1) (listed.setIfInBounds k true)

theorem rel_lex {Q : Act → Gh → Prop} (hs : Region.noSelect ops = true) : ∀ (l : List Oper) (k : Nat) (listed : Array Bool) (a : Act) (g : Gh), (∀ j, j < l.length → l[j]? = ops[k + j]?) → k + l.length = m →
    lexPre md ops m l.length k listed = true → Down md ops listed → (∀ j, listed.getD j true = false → g j = none) → (∃ W, Cl W0 T All g W) → wpRel P ops md W0 T Q l k a g → wpAnyR P ops md W0 T m Q l.length listed a g
  | [], k, listed, a, g, _, _, hB, _, _, _, h => ⟨fun i hi => by
      simp only [List.length_nil, lexPre, List.all_eq_true, List.mem_range] at hB
      exact hB i hi, h⟩
  | o :: l, k, listed, a, g, hl, hk, hB, hd, hg, hW, h => by
    have h0 : ops[k]? = some o := by simpa using (hl 0 (by simp)).symm
    simp only [List.length_cons, lexPre, Bool.and_eq_true] at hB
    obtain ⟨⟨hr, hf⟩, hB'⟩ := hB
    have hr : k ∈ Region.ready md ops listed := by simpa using hr
    refine rel_first h0 (by simp at hk; omega) (Region.noSelect_spec hs) l.length listed a g hd hg (Region.free_spec h0 hf) hr hW (relOp_mono hW h fun v g' hW' hg' hK => ?_)
    refine rel_lex hs l (k + 1) _ _ g' (fun j hj => by have := hl (j + 1) (by simp; omega); simpa [Nat.add_assoc, Nat.add_comm 1 j] using this) (by simp at hk; omega) hB' (hd.set hr) (fun j hj => ?_) hW' hK
    by_cases hjk : k = j
    · subst hjk
      exfalso
      have hlt : k < listed.size := by
        rcases Nat.lt_or_ge k listed.size with h | h
        · exact h
        · have := (mem_ready.1 hr).1
          simp [Array.getElem?_eq_none h] at this
      simp [hlt] at hj
    · rw [getD_set_ne true hjk] at hj
      rw [hg' j (Ne.symm hjk)]
      exact hg j hj

def firstB (m t : Nat) : Array Bool := Array.replicate m true ++ Array.replicate t false

theorem wpAny_of_rel {Q : Exit → Act → World → Prop} {t : Nat} (hmt : m + t = ops.size) (htail : ∀ j, m ≤ j → j < ops.size → ∀ i, i < m → Anc md ops j i) :
    ∀ (fuel : Nat) (listed : Array Bool) (a : Act) (g : Gh) (W : World), Down md ops listed → listed.size = ops.size → (∀ j, m ≤ j → j < ops.size → listed.getD j true = false) → Cl W0 T All g W →
      wpAnyR P ops md W0 T m (fun a' g' => ∀ W, Cl W0 T All g' W → wpAny P md ops Q t (firstB m t) a' W) fuel listed a g → wpAny P md ops Q (fuel + t) listed a W := by
  intro fuel
  induction fuel with
  | zero =>
    intro listed a g W hd hsz htl hW h
    rw [Nat.zero_add]
    have : listed = firstB m t := by
      unfold firstB
      apply Array.ext
      · simp [hsz, hmt]
      · intro j h1 h2
        by_cases hj : j < m
        · rw [Array.getElem_append_left (by simpa using hj)]
          have := h.1 j hj
          simpa [h1] using this
        · rw [Array.getElem_append_right (by simpa using hj)]
          have := htl j (by omega) (by omega)
          simpa [h1] using this
    rw [this]
    exact h.2 W hW
  | succ fuel ih =>
    intro listed a g W hd hsz htl hW h
    obtain ⟨⟨k, hkm, hk⟩, h⟩ := h
    rw [show fuel + 1 + t = (fuel + t) + 1 by omega]
    refine ⟨fun h0 => (by rw [h0] at hk; cases hk), fun i hi => ?_⟩
    obtain ⟨hun, o, ho, _⟩ := mem_ready.1 hi
    have hlt : i < ops.size := (Array.getElem?_eq_some_iff.1 ho).1
    have him : i < m := by
      rcases Nat.lt_or_ge i m with h1 | h1
      · exact h1
      · exact absurd rfl (listed_ne (anc_listed hd hi (htail i h1 hlt k hkm)) (mem_ready.1 hk).1)
    have next : ∀ v g' W', Cl W0 T All g' W' → wpAnyR P ops md W0 T m (fun a' g' => ∀ W, Cl W0 T All g' W → wpAny P md ops Q t (firstB m t) a' W) fuel (listed.setIfInBounds i true) (a.put o.dst v) g' → wpAny P md ops Q (fuel + t) (listed.setIfInBounds i true) (a.put o.dst v) W' := fun v g' W' hW' hK =>
      ih _ _ g' W' (hd.set hi) (by simpa using hsz) (fun j h1 h2 => by rw [getD_set_ne true (by omega)]; exact htl j h1 h2) hW' hK
    have hcl : Cl W0 T (Anc md ops i) g W := hW.mono (fun _ _ => trivial) (fun _ _ => rfl)
    unfold wpOp
    simp only [ho]
    rcases h i hi him o ho with ⟨u, hy, hK⟩ | ⟨S, hy, hK⟩
    · rcases hy with ⟨hw, _, hq⟩ | ⟨hw, rfl⟩
      · simp only [hw, if_true]
        refine .inl ?_
        have hq := hq W hcl
        unfold qly at hq
        unfold Oper.wp
        generalize (execOp a.eval o).run P W = r at hq
        cases r with
        | ok n w' =>
          cases n <;> simp only [qUpon] at hq
          case value v => obtain ⟨rfl, rfl⟩ := hq; exact next _ _ _ hW hK
          case skip => obtain ⟨rfl, rfl⟩ := hq; exact next _ _ _ hW hK
        | halt x w' => simp only [qUpon] at hq
      · simp only [hw, Bool.false_eq_true, if_false]
        exact next _ _ _ hW hK
    · simp only [hy.1, if_true]
      refine .inl ?_
      have hq := hy.2.2 W hcl
      unfold gives at hq
      unfold Oper.wp
      generalize (execOp a.eval o).run P W = r at hq
      cases r with
      | ok n w' =>
        cases n <;> simp only [gUpon] at hq
        case value v => exact next _ _ _ (hW.upd hq.2 hy.2.1 hq.1) (hK v ⟨_, hW.upd hq.2 hy.2.1 hq.1⟩)
        case enter f args =>
          refine Calls.mono hq ?_
          rintro e w'' ⟨v, rfl, hR, hE⟩
          exact next _ _ _ (hW.upd hE hy.2.1 hR) (hK v ⟨_, hW.upd hE hy.2.1 hR⟩)
      | halt x w' => simp only [gUpon] at hq

def relB (ops : Array Oper) (m t : Nat) : Bool :=
  decide (m + t = ops.size) && Region.noSelect ops && lexPre .any ops m m 0 (Array.replicate ops.size false) &&
    (List.range t).all fun j => (List.range m).all fun i => (ancs .any ops (m + j)).contains i

/-- The first m operations in the order of the text; the t behind them as ever. -/
theorem wp_region_rel {id : Nat} {Q : Exit → Act → World → Prop} {a : Act} {w : World} {l : List Oper} (T : Nat → Option Spec) (m t : Nat) (hm : P.follows .mixedOrders = true) (hB : relB l.toArray m t = true)
    (h : wpRel P l.toArray .any w.drew T (fun a' g' => ∀ W, Cl w.drew T All g' W → wpAny P .any l.toArray Q t (firstB m t) a' W) (l.take m) 0 a (fun _ => none)) : (Code.region id l.toArray true).wp P Q a w := by
  simp only [relB, Bool.and_eq_true, decide_eq_true_eq, List.all_eq_true, List.mem_range] at hB
  obtain ⟨⟨⟨hmt, hs⟩, hlex⟩, htail⟩ := hB
  have hml : m ≤ l.length := by simp at hmt; omega
  have hlen : (l.take m).length = m := by simp; omega
  have hW : Cl w.drew T All (fun _ => none) w.drew := ⟨Ext.refl _, fun _ _ _ _ hv => by cases hv⟩
  have hd : Down .any l.toArray (Array.replicate l.toArray.size false) := fun j hj => by
    exfalso
    rcases Nat.lt_or_ge j l.length with h | h <;> simp [h] at hj
  have key := rel_lex (P := P) (md := .any) (m := m) (W0 := w.drew) (T := T) (ops := l.toArray) hs (l.take m) 0 (Array.replicate l.toArray.size false) a (fun _ => none) (fun j hj => by
    rw [hlen] at hj
    rw [List.getElem?_take, if_pos hj]
    simp) (by simp; omega) (by rw [hlen]; exact hlex) hd (fun _ _ => rfl) ⟨_, hW⟩ h
  rw [hlen] at key
  refine wp_region_any hm ?_
  have := wpAny_of_rel (P := P) hmt (fun j h1 h2 i hi => by
    have := htail (j - m) (by omega) i hi
    rwa [show m + (j - m) = j by omega] at this) m _ a _ w.drew hd (by simp) (fun j h1 h2 => by
      simp only [List.size_toArray] at h2
      simp [h2]) hW key
  rw [hmt] at this
  exact this

/-- All of them in the order of the text. -/
theorem wp_region_rel_all {id : Nat} {Q : Exit → Act → World → Prop} {a : Act} {w : World} {l : List Oper} (T : Nat → Option Spec) (hm : P.follows .mixedOrders = true) (hB : relB l.toArray l.length 0 = true)
    (h : wpRel P l.toArray .any w.drew T (fun a' g' => ∀ W, Cl w.drew T All g' W → Q .normal a' W) l 0 a (fun _ => none)) : (Code.region id l.toArray true).wp P Q a w := by
  refine wp_region_rel T l.length 0 hm hB ?_
  rw [List.take_length]
  have hr : Region.ready .any l.toArray (firstB l.length 0) = [] := by
    unfold Region.ready firstB
    rw [List.filter_eq_nil_iff]
    intro i hi
    have : i < l.length := by simpa using List.mem_range.1 hi
    simp [this]
  have e : (fun (a' : Act) (g' : Gh) => ∀ W, Cl w.drew T All g' W → wpAny P .any l.toArray Q 0 (firstB l.length 0) a' W) = (fun a' g' => ∀ W, Cl w.drew T All g' W → Q .normal a' W) := by
    funext a' g'
    simp only [wpAny, hr, true_and]
  rw [e]
  exact h

def plainOp : Op → Bool
  | .move _ | .assign _ | .pick .. | .build .. | .load .. | .binOp .. | .unOp .. | .convert .. | .makeInterface .. | .makeFunc .. | .slice .. | .fieldAddr .. | .field .. | .indexAddr .. | .index .. | .extract .. => true
  | _ => false
theorem noEnter {ρ : Operand → Value} {o : Oper} (h : plainOp o.op = true) : ∀ f args W W', (execOp ρ o).run P W ≠ .ok (.enter f args) W' := by
  intro f args W W' he
  have key : ∀ (s : Sem Value), ((do let a ← s; pure (Next.value a)) : Sem Next).run P W ≠ .ok (.enter f args) W' := fun s he => by
    rw [Sem.run_bind] at he
    cases hs : s.run P W with
    | ok v w' => rw [hs] at he; simp only [Result.andThen_ok, Sem.run_pure] at he; cases he
    | halt x w' => rw [hs] at he; cases he
  obtain ⟨dst, op, type, pos, after, guard⟩ := o
  cases op <;> simp only [plainOp] at h <;> try cases h
  all_goals unfold execOp at he
  all_goals simp only at he
  all_goals first | exact key _ he | (simp only [Sem.run_pure] at he; cases he) | skip
  all_goals
    rw [Sem.run_bind] at he
    rename_i c a b
    cases hs : (asBool (ρ c)).run P W with
    | ok v w' => rw [hs] at he; simp only [Result.andThen_ok, Sem.run_pure] at he; cases he
    | halt x w' => rw [hs] at he; cases he
/-! The steps. -/
theorem wpRel_nil {Q : Act → Gh → Prop} {k : Nat} {a : Act} {g : Gh} (h : Q a g) : wpRel P ops md W0 T Q [] k a g := h
theorem wpRel_skip {Q : Act → Gh → Prop} {o : Oper} {l : List Oper} {k : Nat} {a : Act} {g : Gh} (hw : Region.wanted o (yielded ops a.tmps) = false) (h : wpRel P ops md W0 T Q l (k + 1) (a.put o.dst undef) g) : wpRel P ops md W0 T Q (o :: l) k a g :=
  .inl ⟨_, .inr ⟨hw, rfl⟩, h⟩
/-- by the kit's quick step: the goal that is left is one for go_big_quiet_op -/
theorem wpRel_quick {Q : Act → Gh → Prop} {o : Oper} {l : List Oper} {k : Nat} {a : Act} {g : Gh} (hw : Region.wanted o (yielded ops a.tmps) = true) (hT : T k = none) (hpl : ∀ f args, ∀ W W', (execOp a.eval o).run P W ≠ .ok (.enter f args) W')
    (h : ∀ K : Act → Prop, (∀ a, wpRel P ops md W0 T Q l (k + 1) a g → K a) → o.quiet P a (fun W => ∃ X, W = W0.grow X) K) : wpRel P ops md W0 T Q (o :: l) k a g := by
  obtain ⟨v, h1, h2⟩ := h _ (fun _ h => h)
  refine .inl ⟨v, .inl ⟨hw, hT, fun W hW => ?_⟩, h2⟩
  have h3 := h1 W hW.1.grow
  unfold Oper.quietAt at h3
  unfold qly
  generalize hr : (execOp a.eval o).run P W = r at h3
  cases r with
  | ok n w' =>
    cases n <;> simp only [Oper.quietUpon] at h3 <;> simp only [qUpon]
    case value u => exact h3
    case skip => exact h3
    case enter f args => exact absurd hr (hpl f args W w')
  | halt x w' => simp only [Oper.quietUpon] at h3
theorem wpRel_quiet {Q : Act → Gh → Prop} {o : Oper} {l : List Oper} {k : Nat} {a : Act} {g : Gh} (u : Value) (hw : Region.wanted o (yielded ops a.tmps) = true) (hT : T k = none)
    (hq : ∀ W, Cl W0 T (Anc md ops k) g W → qUpon W u ((execOp a.eval o).run P W)) (h : wpRel P ops md W0 T Q l (k + 1) (a.put o.dst u) g) : wpRel P ops md W0 T Q (o :: l) k a g :=
  .inl ⟨u, .inl ⟨hw, hT, hq⟩, h⟩
theorem wpRel_rich {Q : Act → Gh → Prop} {o : Oper} {l : List Oper} {k : Nat} {a : Act} {g : Gh} (S : Spec) (hT : T k = some S) (hw : Region.wanted o (yielded ops a.tmps) = true)
    (hq : ∀ W, Cl W0 T (Anc md ops k) g W → gUpon P W S.R ((execOp a.eval o).run P W)) (h : ∀ v W, Cl W0 T All (upd g k v) W → S.R v W → wpRel P ops md W0 T Q l (k + 1) (a.put o.dst v) (upd g k v)) : wpRel P ops md W0 T Q (o :: l) k a g :=
  .inr ⟨S, ⟨hw, hT, hq⟩, fun v ⟨W, hW⟩ => h v W hW (hW.2 k trivial v S (upd_same _ _ _) hT)⟩
/-- a slice of n elements and capacity c that holds the rows -/
def spSL (k n c : Nat) (rows : List (List Value)) : Spec := ⟨fun v W => ∃ ao, v = .slice ao n c ∧ SL W k ao c rows, fun hE ⟨ao, h1, h2⟩ => ⟨ao, h1, h2.ext hE⟩⟩
/-- a slice of n elements that holds the rows -/
def spSL' (k n : Nat) (rows : List (List Value)) : Spec := ⟨fun v W => ∃ ao c, v = .slice ao n c ∧ SL W k ao c rows, fun hE ⟨ao, c, h1, h2⟩ => ⟨ao, c, h1, h2.ext hE⟩⟩
/-- what an append onto ao yields: a slice of n elements that holds the rows; ao's own memory if nothing was appended, else memory from D on -/
def spAp (k n : Nat) (rows : List (List Value)) (D m : Nat) (ao0 : Option Addr) : Spec := ⟨fun v W => ∃ ao c, v = .slice ao n c ∧ SL W k ao c rows ∧ ((m = 0 ∧ ao = ao0) ∨ ∀ a, ao = some a → D ≤ a.block), fun hE ⟨ao, c, h1, h2, h3⟩ => ⟨ao, c, h1, h2.ext hE, h3⟩⟩
/-- a row of the call's own, in memory from D on -/
def spOwn (D : Nat) (e : TypeId) (k n : Nat) (rows : List (List Value)) : Spec := ⟨fun v W => W.ownsRow D e k v n rows.flatten, fun hE h => ownsRow_ext h hE⟩
/-- an empty row of the call's own -/
def spE (D : Nat) (e : TypeId) (k : Nat) : Spec := ⟨fun v W => ∃ g, v = .slice (some ⟨g, 0, none⟩) 0 0 ∧ W.ownsRow D e k v 0 [], fun hE ⟨g, h, h2⟩ => ⟨g, h, ownsRow_ext h2 hE⟩⟩
/-- this very value, of a call -/
def spV (u : Value) : Spec := ⟨fun v _ => v = u, fun _ h => h⟩

/-- new rows -/
theorem sl_news (W : World) (rows : List (List Value)) (k n : Nat) (e : TypeId) (hw : ∀ r ∈ rows, r.length = k) (hn : rows.length = n) (hm : n ≤ 9223372036854775807) : SL (W.alloc (.cells rows.flatten.toArray e)) k (some ⟨W.heap.size, 0, none⟩) n rows := by
  have hown : (W.alloc (.cells rows.flatten.toArray e)).ownsRow 0 e k (.slice (some ⟨W.heap.size, 0, none⟩) n n) n rows.flatten := by
    have h := World.ownsRow_lit (base := 0) (e := e) W rows.flatten.toArray n (size := k) (Nat.zero_le _) (by unfold maxLen; omega) (by simp only [List.size_toArray]; rw [flat_len rows hw, hn])
    simpa using h
  obtain ⟨ao, cap, hv, hs, _⟩ := SL.of_owns hown hw hn
  rw [hn] at hv
  cases hv
  exact hs
theorem sl_new (W : World) (cs : List Value) (k : Nat) (e : TypeId) (hk : cs.length = k) : SL (W.alloc (.cells cs.toArray e)) k (some ⟨W.heap.size, 0, none⟩) 1 [cs] := by
  have := sl_news W [cs] k 1 e (by simpa using hk) rfl (by omega)
  simpa using this

theorem g_append_full {o : Oper} {a : Act} {W : World} (s x : Operand) (t tx : TypeId)
    (ho : o.op = .call { callee := .builtin .append, args := #[s, x], argTypes := #[t, tx] })
    (e : TypeId) (i : TypeInfo) (z : Value) (size bytes : Nat) (ht : P.underlying t = some (.slice e)) (hi : P.info? e = some i) (hz : i.zero = some z)
    (hsize : i.size = size) (hby : i.bytes = bytes) (hzs : z.cells.size = size) (hsz : 0 < size)
    (ao : Option Addr) (n : Nat) (rows : List (List Value)) (hv : a.eval s = .slice ao n n) (hs : SL W size ao n rows) (hrn : rows.length = n) (sv : Value) (m : Nat) (hsp : m = 0 → rows = [] → ∀ a, ao = some a → a.spot = none)
    (rows2 : List (List Value)) (hx : a.eval x = sv) (hsrc : Src P size tx sv m rows2.flatten W) (hw2 : ∀ r ∈ rows2, r.length = size) (hm : rows2.length = m)
    (h63 : n + m ≤ maxLen) (hbytes : (n + m) * bytes ≤ 140737488355328) (D : Nat) (hD : D ≤ W.heap.size) : gUpon P W (spAp size (n + m) (rows ++ rows2) D m ao).R ((execOp a.eval o).run P W) := by
  obtain ⟨ao', cap', w', hr, h2, h3, h4⟩ := run_append_full (P := P) W t tx o.type e i z size bytes ht hi hz hsize hby hzs hsz ao n rows hs hrn sv m hsp rows2 hsrc hw2 hm h63 hbytes
  unfold execOp
  simp only [ho, resolve, invoke, builtin, Sem.run_bind, Sem.run_pure, Result.andThen_ok, List.map_toArray, List.map_cons, List.map_nil, hv, hx, hr]
  exact ⟨⟨ao', cap', rfl, h2, h4.imp id fun h a ha => Nat.le_trans hD (h a ha)⟩, h3⟩
/-- append onto an empty row of the call's own that has no room -/
theorem run_append_fresh (w : World) (t tx ty e : TypeId) (i : TypeInfo) (z : Value) (size bytes : Nat) (ht : P.underlying t = some (.slice e)) (hi : P.info? e = some i) (hz : i.zero = some z)
    (hsize : i.size = size) (hby : i.bytes = bytes) (hzs : z.cells.size = size) (hsz : 0 < size) (D : Nat) (hD : D ≤ w.heap.size)
    (b : Nat) (hown : w.ownsRow D e size (.slice (some ⟨b, 0, none⟩) 0 0) 0 [])
    (sv : Value) (m : Nat) (rows2 : List (List Value)) (hsrc : Src P size tx sv m rows2.flatten w) (hw2 : ∀ r ∈ rows2, r.length = size) (hm : rows2.length = m)
    (h63 : m ≤ maxLen) (hbytes : m * bytes ≤ 140737488355328) :
    ∃ v' w', (Builtin.append_ #[t, tx] ty #[.slice (some ⟨b, 0, none⟩) 0 0, sv]).run P w = .ok v' w' ∧ w'.ownsRow D e size v' m rows2.flatten ∧ Ext w w' := by
  obtain ⟨ao', cap', w1, hr1, _, h1, _⟩ := run_append_full (P := P) w t tx ty e i z size bytes ht hi hz hsize hby hzs hsz (some ⟨b, 0, none⟩) 0 [] (SL.done _) rfl sv m (fun _ _ a ha => by cases ha; rfl) rows2 hsrc hw2 hm (by rw [Nat.zero_add]; exact h63) (by rw [Nat.zero_add]; exact hbytes)
  obtain ⟨v', w', hr, h2, _⟩ := run_append_src_own (P := P) w D t tx ty e i z size bytes ht hi hz hsize hby hzs _ 0 [] hown sv m rows2.flatten hsrc (by rw [Nat.zero_add]; exact h63) (by rw [Nat.zero_add]; exact hbytes) hD
  rw [hr1] at hr
  cases hr
  refine ⟨_, _, hr1, ?_, h1⟩
  simp only [Nat.zero_add, List.nil_append] at h2 ⊢
  exact h2

theorem g_append_fresh {o : Oper} {a : Act} {W : World} (s x : Operand) (t tx : TypeId)
    (ho : o.op = .call { callee := .builtin .append, args := #[s, x], argTypes := #[t, tx] })
    (e : TypeId) (i : TypeInfo) (z : Value) (size bytes : Nat) (ht : P.underlying t = some (.slice e)) (hi : P.info? e = some i) (hz : i.zero = some z)
    (hsize : i.size = size) (hby : i.bytes = bytes) (hzs : z.cells.size = size) (hsz : 0 < size) (D : Nat) (hD : D ≤ W.heap.size)
    (b : Nat) (hv : a.eval s = .slice (some ⟨b, 0, none⟩) 0 0) (hown : W.ownsRow D e size (.slice (some ⟨b, 0, none⟩) 0 0) 0 [])
    (sv : Value) (m : Nat) (rows2 : List (List Value)) (hx : a.eval x = sv) (hsrc : Src P size tx sv m rows2.flatten W) (hw2 : ∀ r ∈ rows2, r.length = size) (hm : rows2.length = m)
    (h63 : m ≤ maxLen) (hbytes : m * bytes ≤ 140737488355328) : gUpon P W (spOwn D e size m rows2).R ((execOp a.eval o).run P W) := by
  obtain ⟨v', w', hr, h2, h3⟩ := run_append_fresh (P := P) W t tx o.type e i z size bytes ht hi hz hsize hby hzs hsz D hD b hown sv m rows2 hsrc hw2 hm h63 hbytes
  unfold execOp
  simp only [ho, resolve, invoke, builtin, Sem.run_bind, Sem.run_pure, Result.andThen_ok, List.map_toArray, List.map_cons, List.map_nil, hv, hx, hr]
  exact ⟨h2, h3⟩
theorem own_empty (W : World) (D : Nat) (hD : D ≤ W.heap.size) (e : TypeId) (k : Nat) : (W.alloc (.cells #[] e)).ownsRow D e k (.slice (some ⟨W.heap.size, 0, none⟩) 0 0) 0 [] := by
  have h := World.ownsRow_lit (base := D) (e := e) W #[] 0 (size := k) hD (by unfold maxLen; omega) (by simp)
  simpa using h
/-- An owned row, read; where its memory lies. -/
theorem SL.of_own {w : World} {D e size n : Nat} {v : Value} {rows : List (List Value)} (h : w.ownsRow D e size v n rows.flatten) (hw : ∀ r ∈ rows, r.length = size) (hn : rows.length = n) :
    ∃ ao cap, v = .slice ao n cap ∧ SL w size ao cap rows ∧ (∀ a, ao = some a → D ≤ a.block) := by
  obtain ⟨ao, cap, hv, hs, hb⟩ := SL.of_owns h hw hn
  exact ⟨ao, cap, by rw [hv, hn], hs, fun a ha => ownsRow_blocks h _ (hb a ha)⟩
end
end Go.Sz
namespace Go.Sz
open Go.RowKit
section
variable {P : Program} {ops : Array Oper} {md : Region.Mode} {W0 : World} {T : Nat → Option Spec} {m : Nat}

/-- operations that read no memory and yield or stop, whatever the world -/
def wless : Op → Bool
  | .move _ | .assign _ | .extract .. => true
  | _ => false
theorem wless_all {o : Oper} {a : Act} {u : Value} {W : World} (h : wless o.op = true) (hq : qly P o a W u) : ∀ w, (execOp a.eval o).run P w = .ok (.value u) w := by
  obtain ⟨dst, op, type, pos, after, guard⟩ := o
  unfold qly at hq
  cases op <;> simp only [wless] at h <;> try cases h
  all_goals unfold execOp at hq ⊢
  all_goals simp only at hq ⊢
  · simp only [Sem.run_pure, qUpon] at hq ⊢
    intro w; rw [hq.2]
  · simp only [Sem.run_pure, qUpon] at hq ⊢
    intro w; rw [hq.2]
  · rename_i t ix
    intro w
    unfold Instr.extract at hq ⊢
    cases hv : a.eval t with
    | tuple vs =>
      rw [hv] at hq
      simp only at hq ⊢
      cases hx : vs[ix]? with
      | some v =>
        rw [hx] at hq
        simp only [Sem.run_bind, Sem.run_pure, Result.andThen_ok, qUpon] at hq ⊢
        rw [hq.2]
      | none =>
        rw [hx] at hq
        simp [stuck, go_sem, qUpon] at hq
    | _ =>
      rw [hv] at hq
      simp [stuck, go_sem, qUpon] at hq

theorem wpAny_of_rel2 {Q : Exit → Act → World → Prop} {t : Nat} {U : List Nat} (hmt : m + t = ops.size) (hsel : ∀ (j : Nat) (o : Oper) cs b, ops[j]? = some o → o.op ≠ .select cs b)
    (hQ : ∀ c a d v w, Q (.panic c) (Act.put a d v) w → Q (.panic c) a w)
    (hU : ∀ i ∈ U, i < m ∧ T i = none ∧ ∃ o, ops[i]? = some o ∧ wless o.op = true ∧ ∀ j oj, ops[j]? = some oj → j ≠ i → j ∉ direct md ops i → (∀ e ∈ oj.after, Region.binds md e = true → e.on ≠ i) → o.apart ops oj = true)
    (htail : ∀ j, m ≤ j → j < ops.size → ∀ i, i < m → Anc md ops j i ∨ (i ∈ U ∧ ∀ d ∈ direct md ops i, Anc md ops j d)) :
    ∀ (fuel : Nat) (listed : Array Bool) (a : Act) (g : Gh) (W : World), Down md ops listed → listed.size = ops.size → (∀ j, m ≤ j → j < ops.size → listed.getD j true = false) → Cl W0 T All g W →
      wpAnyR P ops md W0 T m (fun a' g' => ∀ W, Cl W0 T All g' W → wpAny P md ops Q t (firstB m t) a' W) fuel listed a g → wpAny P md ops Q (fuel + t) listed a W := by
  intro fuel
  induction fuel with
  | zero =>
    intro listed a g W hd hsz htl hW h
    rw [Nat.zero_add]
    have : listed = firstB m t := by
      unfold firstB
      apply Array.ext
      · simp [hsz, hmt]
      · intro j h1 h2
        by_cases hj : j < m
        · rw [Array.getElem_append_left (by simpa using hj)]
          have := h.1 j hj
          simpa [h1] using this
        · rw [Array.getElem_append_right (by simpa using hj)]
          have := htl j (by omega) (by omega)
          simpa [h1] using this
    rw [this]
    exact h.2 W hW
  | succ fuel ih =>
    intro listed a g W hd hsz htl hW h
    obtain ⟨⟨k, hkm, hk⟩, h⟩ := h
    rw [show fuel + 1 + t = (fuel + t) + 1 by omega]
    have next : ∀ i, i < m → i ∈ Region.ready md ops listed → ∀ a' g' W', Cl W0 T All g' W' → wpAnyR P ops md W0 T m (fun a' g' => ∀ W, Cl W0 T All g' W → wpAny P md ops Q t (firstB m t) a' W) fuel (listed.setIfInBounds i true) a' g' → wpAny P md ops Q (fuel + t) (listed.setIfInBounds i true) a' W' := fun i him hi a' g' W' hW' hK =>
      ih _ _ g' W' (hd.set hi) (by simpa using hsz) (fun j h1 h2 => by rw [getD_set_ne true (by omega)]; exact htl j h1 h2) hW' hK
    by_cases hex : ∃ i, i ∈ U ∧ i ∈ Region.ready md ops listed
    · obtain ⟨i, hiU, hir⟩ := hex
      obtain ⟨him, hTi, o, ho, hwl, hap⟩ := hU i hiU
      have hcl : Cl W0 T (Anc md ops i) g W := hW.mono (fun _ _ => trivial) (fun _ _ => rfl)
      rcases h i hir him o ho with ⟨u, hy, hK⟩ | ⟨S, hy, _⟩
      · have hy' : Yields P ops o u a := by
          rcases hy with ⟨hw, _, hq⟩ | ⟨hw, rfl⟩
          · exact .inl ⟨hw, wless_all hwl (hq W hcl)⟩
          · exact .inr ⟨hw, rfl⟩
        exact wpAny_first ho hsel (fun c a w => hQ c a o.dst u w) _ _ _ _ (fun j oj hoj hji hun hno => hap j oj hoj hji (fun hd' => absurd rfl (listed_ne (direct_ready hir j hd') hun)) hno) hir hy' (next i him hir _ _ _ hW hK)
      · rw [hy.2.1] at hTi; cases hTi
    · refine ⟨fun h0 => (by rw [h0] at hk; cases hk), fun i hi => ?_⟩
      obtain ⟨hun, o, ho, _⟩ := mem_ready.1 hi
      have hlt : i < ops.size := (Array.getElem?_eq_some_iff.1 ho).1
      have him : i < m := by
        rcases Nat.lt_or_ge i m with h1 | h1
        · exact h1
        · rcases htail i h1 hlt k hkm with ha | ⟨hkU, _⟩
          · exact absurd rfl (listed_ne (anc_listed hd hi ha) (mem_ready.1 hk).1)
          · exact absurd ⟨k, hkU, hk⟩ hex
      have hcl : Cl W0 T (Anc md ops i) g W := hW.mono (fun _ _ => trivial) (fun _ _ => rfl)
      unfold wpOp
      simp only [ho]
      rcases h i hi him o ho with ⟨u, hy, hK⟩ | ⟨S, hy, hK⟩
      · rcases hy with ⟨hw, _, hq⟩ | ⟨hw, rfl⟩
        · simp only [hw, if_true]
          refine .inl ?_
          have hq := hq W hcl
          unfold qly at hq
          unfold Oper.wp
          generalize (execOp a.eval o).run P W = r at hq
          cases r with
          | ok n w' =>
            cases n <;> simp only [qUpon] at hq
            case value v => obtain ⟨rfl, rfl⟩ := hq; exact next i him hi _ _ _ hW hK
            case skip => obtain ⟨rfl, rfl⟩ := hq; exact next i him hi _ _ _ hW hK
          | halt x w' => simp only [qUpon] at hq
        · simp only [hw, Bool.false_eq_true, if_false]
          exact next i him hi _ _ _ hW hK
      · simp only [hy.1, if_true]
        refine .inl ?_
        have hq := hy.2.2 W hcl
        unfold gives at hq
        unfold Oper.wp
        generalize (execOp a.eval o).run P W = r at hq
        cases r with
        | ok n w' =>
          cases n <;> simp only [gUpon] at hq
          case value v => exact next i him hi _ _ _ (hW.upd hq.2 hy.2.1 hq.1) (hK v ⟨_, hW.upd hq.2 hy.2.1 hq.1⟩)
          case enter f args =>
            refine Calls.mono hq ?_
            rintro e w'' ⟨v, rfl, hR, hE⟩
            exact next i him hi _ _ _ (hW.upd hE hy.2.1 hR) (hK v ⟨_, hW.upd hE hy.2.1 hR⟩)
        | halt x w' => simp only [gUpon] at hq

def relB2 (ops : Array Oper) (m t : Nat) (U : List Nat) : Bool :=
  decide (m + t = ops.size) && Region.noSelect ops && lexPre .any ops m m 0 (Array.replicate ops.size false) &&
    ((List.range t).all fun j => (List.range m).all fun i => (ancs .any ops (m + j)).contains i || (U.contains i && (direct .any ops i).all fun d => (ancs .any ops (m + j)).contains d)) &&
    (U.all fun i => decide (i < m) && (match ops[i]? with
      | some o => wless o.op && (List.range ops.size).all fun j => j == i || (direct .any ops i).contains j || (match ops[j]? with
        | some oj => (oj.after.any fun e => Region.binds .any e && e.on == i) || o.apart ops oj
        | none => true)
      | none => false))

/-- The first m operations in the order of the text, those of U among them free to come late; the t behind them as ever. -/
theorem wp_region_rel2 {id : Nat} {Q : Exit → Act → World → Prop} {a : Act} {w : World} {l : List Oper} (T : Nat → Option Spec) (m t : Nat) (U : List Nat) (hm : P.follows .mixedOrders = true) (hB : relB2 l.toArray m t U = true) (hT : ∀ i ∈ U, T i = none)
    (hQ : ∀ c a d v w, Q (.panic c) (Act.put a d v) w → Q (.panic c) a w)
    (h : wpRel P l.toArray .any w.drew T (fun a' g' => ∀ W, Cl w.drew T All g' W → wpAny P .any l.toArray Q t (firstB m t) a' W) (l.take m) 0 a (fun _ => none)) : (Code.region id l.toArray true).wp P Q a w := by
  simp only [relB2, Bool.and_eq_true, decide_eq_true_eq, List.all_eq_true, List.mem_range] at hB
  obtain ⟨⟨⟨⟨hmt, hs⟩, hlex⟩, htail⟩, hUB⟩ := hB
  have hml : m ≤ l.length := by simp at hmt; omega
  have hlen : (l.take m).length = m := by simp; omega
  have hW : Cl w.drew T All (fun _ => none) w.drew := ⟨Ext.refl _, fun _ _ _ _ hv => by cases hv⟩
  have hd : Down .any l.toArray (Array.replicate l.toArray.size false) := fun j hj => by
    exfalso
    rcases Nat.lt_or_ge j l.length with h | h <;> simp [h] at hj
  have key := rel_lex (P := P) (md := .any) (m := m) (W0 := w.drew) (T := T) (ops := l.toArray) hs (l.take m) 0 (Array.replicate l.toArray.size false) a (fun _ => none) (fun j hj => by
    rw [hlen] at hj
    rw [List.getElem?_take, if_pos hj]
    simp) (by simp; omega) (by rw [hlen]; exact hlex) hd (fun _ _ => rfl) ⟨_, hW⟩ h
  rw [hlen] at key
  refine wp_region_any hm ?_
  have := wpAny_of_rel2 (P := P) (U := U) hmt (Region.noSelect_spec hs) hQ (fun i hi => by
    have h1 := hUB i hi
    cases ho : l.toArray[i]? with
    | none => rw [ho] at h1; simp at h1
    | some o =>
      rw [ho] at h1
      simp only [Bool.and_eq_true, List.all_eq_true, List.mem_range] at h1
      obtain ⟨h0, h2, h3⟩ := h1
      refine ⟨h0, hT i hi, o, rfl, h2, fun j oj hoj hji hnd hno => ?_⟩
      have hjl : j < l.toArray.size := (Array.getElem?_eq_some_iff.1 hoj).1
      have h4 := h3 j hjl
      rw [hoj] at h4
      simp only [Bool.or_eq_true, beq_iff_eq] at h4
      rcases h4 with (h4 | h4) | h4 | h4
      · exact absurd h4 hji
      · exact absurd (by simpa using h4) hnd
      · rw [Array.any_eq_true'] at h4
        obtain ⟨e, he, hb⟩ := h4
        simp only [Bool.and_eq_true, beq_iff_eq] at hb
        exact absurd hb.2 (hno e he hb.1)
      · exact h4) (fun j h1 h2 i hi => by
    have := htail (j - m) (by omega) i hi
    rw [show m + (j - m) = j by omega] at this
    simp only [Bool.or_eq_true, Bool.and_eq_true, List.all_eq_true] at this
    rcases this with h | ⟨h, h'⟩
    · exact .inl h
    · exact .inr ⟨by simpa using h, fun d hd => h' d hd⟩) m _ a _ w.drew hd (by simp) (fun j h1 h2 => by
      simp only [List.size_toArray] at h2
      simp [h2]) hW key
  rw [hmt] at this
  exact this
end
/-- a new variable of two cells that hold nil slices -/
def spVar2 (D : Nat) (t : TypeId) : Spec := ⟨fun v W => ∃ g, v = .pointer (some ⟨g, 0, none⟩) ∧ D ≤ g ∧ W.heap[g]? = some (.cells #[.slice none 0 0, .slice none 0 0] t (0, 0)), fun hE ⟨g, h1, h0, h2⟩ => ⟨g, h1, h0, (hE.block g (Array.getElem?_eq_some_iff.1 h2).1).trans h2⟩⟩
end Go.Sz
namespace Go.Sz
open Go.RowKit
section
variable {P : Program} {ops : Array Oper} {md : Region.Mode} {W0 : World} {T : Nat → Option Spec} {m : Nat}
def setAll : List Nat → Array Bool → Array Bool
  | [], b => b
  | e :: es, b => setAll es (b.setIfInBounds e true)
def earlyB (md : Region.Mode) (ops : Array Oper) : List Nat → Array Bool → Bool
  | [], _ => true
  | e :: es, b => (Region.ready md ops b).contains e && Region.free md ops b e && earlyB md ops es (b.setIfInBounds e true)
/-- each of them yields the same in every world -/
def earlyOK (P : Program) (ops : Array Oper) : List Nat → Act → (Act → Prop) → Prop
  | [], a, K => K a
  | e :: es, a, K => ∃ o u, ops[e]? = some o ∧ Yields P ops o u a ∧ earlyOK P ops es (a.put o.dst u) K
theorem earlyOK.cons {e : Nat} {es : List Nat} {a : Act} {K : Act → Prop} {o : Oper} (u : Value) (ho : ops[e]? = some o) (hy : Yields P ops o u a) (h : earlyOK P ops es (a.put o.dst u) K) : earlyOK P ops (e :: es) a K := ⟨o, u, ho, hy, h⟩
theorem wpAny_early {Q : Exit → Act → World → Prop} (hs : Region.noSelect ops = true) (hQ : ∀ c a d v w, Q (.panic c) (Act.put a d v) w → Q (.panic c) a w) : ∀ (es : List Nat) (n : Nat) (b : Array Bool) (a : Act) (w : World),
    earlyB md ops es b = true → earlyOK P ops es a (fun a' => wpAny P md ops Q n (setAll es b) a' w) → wpAny P md ops Q (n + es.length) b a w
  | [], _, _, _, _, _, h => h
  | e :: es, n, b, a, w, hB, ⟨o, u, ho, hy, h⟩ => by
    simp only [earlyB, Bool.and_eq_true] at hB
    obtain ⟨⟨h1, h2⟩, h3⟩ := hB
    rw [List.length_cons, ← Nat.add_assoc]
    exact wpAny_first ho (Region.noSelect_spec hs) (fun c a w => hQ c a o.dst u w) _ _ _ _ (fun j oj => Region.free_spec ho h2 j oj) (by simpa using h1) hy (wpAny_early hs hQ es n _ _ w h3 h)
theorem Down.early : ∀ (es : List Nat) (b : Array Bool), earlyB md ops es b = true → Down md ops b → Down md ops (setAll es b)
  | [], _, _, h => h
  | e :: es, b, hB, h => by
    simp only [earlyB, Bool.and_eq_true] at hB
    exact Down.early es _ hB.2 (h.set (by simpa using hB.1.1))
theorem setAll_size : ∀ (es : List Nat) (b : Array Bool), (setAll es b).size = b.size
  | [], _ => rfl
  | e :: es, b => by rw [setAll, setAll_size es]; simp
theorem wpAny_of_relE {Q : Exit → Act → World → Prop} {t : Nat} {fin : Array Bool} (hfs : fin.size = ops.size) (hfm : ∀ i, i < m → fin.getD i true = true) (htail : ∀ j, m ≤ j → j < ops.size → fin.getD j true = false → ∀ i, i < m → Anc md ops j i) :
    ∀ (fuel : Nat) (listed : Array Bool) (a : Act) (g : Gh) (W : World), Down md ops listed → listed.size = ops.size → (∀ j, m ≤ j → j < ops.size → listed.getD j true = fin.getD j true) → Cl W0 T All g W →
      wpAnyR P ops md W0 T m (fun a' g' => ∀ W, Cl W0 T All g' W → wpAny P md ops Q t fin a' W) fuel listed a g → wpAny P md ops Q (fuel + t) listed a W := by
  intro fuel
  induction fuel with
  | zero =>
    intro listed a g W hd hsz htl hW h
    rw [Nat.zero_add]
    have : listed = fin := by
      apply Array.ext
      · rw [hsz, hfs]
      · intro j h1 h2
        by_cases hj : j < m
        · have e1 := h.1 j hj
          have e2 := hfm j hj
          simp [h1] at e1
          simp [h2] at e2
          rw [e1, e2]
        · have := htl j (by omega) (by omega)
          simpa [h1, h2] using this
    rw [this]
    exact h.2 W hW
  | succ fuel ih =>
    intro listed a g W hd hsz htl hW h
    obtain ⟨⟨k, hkm, hk⟩, h⟩ := h
    rw [show fuel + 1 + t = (fuel + t) + 1 by omega]
    refine ⟨fun h0 => (by rw [h0] at hk; cases hk), fun i hi => ?_⟩
    obtain ⟨hun, o, ho, _⟩ := mem_ready.1 hi
    have hlt : i < ops.size := (Array.getElem?_eq_some_iff.1 ho).1
    have him : i < m := by
      rcases Nat.lt_or_ge i m with h1 | h1
      · exact h1
      · exact absurd rfl (listed_ne (anc_listed hd hi (htail i h1 hlt (by rw [← htl i h1 hlt]; exact hun) k hkm)) (mem_ready.1 hk).1)
    have next : ∀ v g' W', Cl W0 T All g' W' → wpAnyR P ops md W0 T m (fun a' g' => ∀ W, Cl W0 T All g' W → wpAny P md ops Q t fin a' W) fuel (listed.setIfInBounds i true) (a.put o.dst v) g' → wpAny P md ops Q (fuel + t) (listed.setIfInBounds i true) (a.put o.dst v) W' := fun v g' W' hW' hK =>
      ih _ _ g' W' (hd.set hi) (by simpa using hsz) (fun j h1 h2 => by rw [getD_set_ne true (by omega)]; exact htl j h1 h2) hW' hK
    have hcl : Cl W0 T (Anc md ops i) g W := hW.mono (fun _ _ => trivial) (fun _ _ => rfl)
    unfold wpOp
    simp only [ho]
    rcases h i hi him o ho with ⟨u, hy, hK⟩ | ⟨S, hy, hK⟩
    · rcases hy with ⟨hw, _, hq⟩ | ⟨hw, rfl⟩
      · simp only [hw, if_true]
        refine .inl ?_
        have hq := hq W hcl
        unfold qly at hq
        unfold Oper.wp
        generalize (execOp a.eval o).run P W = r at hq
        cases r with
        | ok n w' =>
          cases n <;> simp only [qUpon] at hq
          case value v => obtain ⟨rfl, rfl⟩ := hq; exact next _ _ _ hW hK
          case skip => obtain ⟨rfl, rfl⟩ := hq; exact next _ _ _ hW hK
        | halt x w' => simp only [qUpon] at hq
      · simp only [hw, Bool.false_eq_true, if_false]
        exact next _ _ _ hW hK
    · simp only [hy.1, if_true]
      refine .inl ?_
      have hq := hy.2.2 W hcl
      unfold gives at hq
      unfold Oper.wp
      generalize (execOp a.eval o).run P W = r at hq
      cases r with
      | ok n w' =>
        cases n <;> simp only [gUpon] at hq
        case value v => exact next _ _ _ (hW.upd hq.2 hy.2.1 hq.1) (hK v ⟨_, hW.upd hq.2 hy.2.1 hq.1⟩)
        case enter f args =>
          refine Calls.mono hq ?_
          rintro e w'' ⟨v, rfl, hR, hE⟩
          exact next _ _ _ (hW.upd hE hy.2.1 hR) (hK v ⟨_, hW.upd hE hy.2.1 hR⟩)
      | halt x w' => simp only [gUpon] at hq


def relBE (ops : Array Oper) (m t : Nat) (es : List Nat) : Bool :=
  decide (m + t + es.length = ops.size) && Region.noSelect ops && earlyB .any ops es (Array.replicate ops.size false) && lexPre .any ops m m 0 (setAll es (Array.replicate ops.size false)) &&
    ((List.range m).all fun i => (setAll es (firstB m (ops.size - m))).getD i true) &&
    ((List.range ops.size).all fun j => decide (j < m) || ((setAll es (Array.replicate ops.size false)).getD j true == (setAll es (firstB m (ops.size - m))).getD j true)) &&
    ((List.range ops.size).all fun j => decide (j < m) || (setAll es (firstB m (ops.size - m))).getD j true || (List.range m).all fun i => (ancs .any ops j).contains i)
/-- Those of es first; then the first m operations in the order of the text; the t that are left as ever. -/
theorem wp_region_relE {id : Nat} {Q : Exit → Act → World → Prop} {a : Act} {w : World} {l : List Oper} (T : Nat → Option Spec) (m t : Nat) (es : List Nat) (hm : P.follows .mixedOrders = true) (hB : relBE l.toArray m t es = true)
    (hQ : ∀ c a d v w, Q (.panic c) (Act.put a d v) w → Q (.panic c) a w)
    (h : earlyOK P l.toArray es a fun a1 => wpRel P l.toArray .any w.drew T (fun a' g' => ∀ W, Cl w.drew T All g' W → wpAny P .any l.toArray Q t (setAll es (firstB m (l.length - m))) a' W) (l.take m) 0 a1 (fun _ => none)) : (Code.region id l.toArray true).wp P Q a w := by
  simp only [relBE, Bool.and_eq_true, decide_eq_true_eq, List.all_eq_true, List.mem_range, Bool.or_eq_true, beq_iff_eq] at hB
  obtain ⟨⟨⟨⟨⟨⟨hmt, hs⟩, hea⟩, hlex⟩, hfm⟩, hft⟩, htail⟩ := hB
  have hml : m ≤ l.length := by simp at hmt; omega
  have hlen : (l.take m).length = m := by simp; omega
  have hW : Cl w.drew T All (fun _ => none) w.drew := ⟨Ext.refl _, fun _ _ _ _ hv => by cases hv⟩
  have hd : Down .any l.toArray (setAll es (Array.replicate l.toArray.size false)) := Down.early es _ hea fun j hj => by
    exfalso
    rcases Nat.lt_or_ge j l.length with h | h <;> simp [h] at hj
  refine wp_region_any hm ?_
  rw [show l.toArray.size = m + t + es.length from hmt.symm]
  refine wpAny_early hs hQ es (m + t) _ a _ (by rw [hmt]; exact hea) ?_
  rw [hmt]
  suffices H : ∀ a1, wpRel P l.toArray .any w.drew T (fun a' g' => ∀ W, Cl w.drew T All g' W → wpAny P .any l.toArray Q t (setAll es (firstB m (l.length - m))) a' W) (l.take m) 0 a1 (fun _ => none) → wpAny P .any l.toArray Q (m + t) (setAll es (Array.replicate l.toArray.size false)) a1 w.drew by
    have mono : ∀ (es : List Nat) (a : Act) (K K' : Act → Prop), (∀ a, K a → K' a) → earlyOK P l.toArray es a K → earlyOK P l.toArray es a K' := by
      intro es
      induction es with
      | nil => exact fun a K K' hk h => hk a h
      | cons e es ih => exact fun a K K' hk ⟨o, u, h1, h2, h3⟩ => ⟨o, u, h1, h2, ih _ _ _ hk h3⟩
    exact mono es a _ _ H h
  intro a1 h1
  have key := rel_lex (P := P) (md := .any) (m := m) (W0 := w.drew) (T := T) (ops := l.toArray) hs (l.take m) 0 (setAll es (Array.replicate l.toArray.size false)) a1 (fun _ => none) (fun j hj => by
    rw [hlen] at hj
    rw [List.getElem?_take, if_pos hj]
    simp) (by simp; omega) (by rw [hlen]; exact hlex) hd (fun _ _ => rfl) ⟨_, hW⟩ h1
  rw [hlen] at key
  refine wpAny_of_relE (P := P) (fin := setAll es (firstB m (l.length - m))) (by rw [setAll_size]; simp [firstB]; omega) (fun i hi => by simpa using hfm i hi) (fun j h1 h2 h3 i hi => ?_) m _ a1 _ w.drew hd (by rw [setAll_size]; simp) (fun j h1 h2 => ?_) hW key
  · rcases htail j h2 with (h | h) | h
    · omega
    · simp only [List.size_toArray] at h
      rw [h] at h3
      cases h3
    · exact h i hi
  · rcases hft j h2 with h | h
    · omega
    · simpa using h
end
end Go.Sz
namespace Go.Sz
open Go.RowKit
def irows (l : List Int) : List (List Value) := l.map fun x => [.int .i64 x]
theorem irows_length (l : List Int) : (irows l).length = l.length := List.length_map _
theorem irows_cell {w W : World} {ao : Option Addr} {cap : Nat} {l : List Int} (h : SL w 1 ao cap (irows l)) (hE : Ext w W) {i : Nat} (hi : i < l.length) : ∃ b o, ao = some ⟨b, o, none⟩ ∧ W.cell? ⟨b, o + i, none⟩ = some (.int .i64 l[i]) := by
  have hr : (irows l)[i]? = some [.int .i64 l[i]] := by simp [irows, hi]
  obtain ⟨b, o, e, hc⟩ := h.cells i 0 _ _ hr rfl
  exact ⟨b, o, e, by simpa using hE.cell hc⟩
theorem irows_max {w : World} {ao : Option Addr} {cap : Nat} {l : List Int} (h : SL w 1 ao cap (irows l)) : (l.length : Int) ≤ 9223372036854775807 := by
  have h1 := h.max; have h2 := h.le; rw [irows_length] at h2; omega
/-- the first that is not 0 -/
def orL : List Int → Int
  | [] => 0
  | x :: xs => if x = 0 then orL xs else x
theorem orL_skip {l : List Int} {k : Nat} (h : k < l.length) (h0 : l[k] = 0) : orL (l.drop k) = orL (l.drop (k + 1)) := by
  rw [List.drop_eq_getElem_cons h]; simp [orL, h0]
theorem orL_stop {l : List Int} {k : Nat} (h : k < l.length) (h0 : l[k] ≠ 0) : orL (l.drop k) = l[k] := by
  rw [List.drop_eq_getElem_cons h]; simp [orL, h0]
def cmpI (x y : Int) : Int := if x < y then -1 else if y < x then 1 else 0
theorem cmpI_zero {a b : Int} : cmpI a b = 0 ↔ a = b := by unfold cmpI; split <;> (try split) <;> omega
theorem cmpI_neg {a b : Int} : cmpI a b < 0 ↔ a < b := by unfold cmpI; split <;> (try split) <;> omega
def withinB (n lo hi : Int) : Bool := decide (lo ≤ n) && decide (n ≤ hi)
theorem grow_cell {w : World} {q : Addr} {v : Value} (h : w.cell? q = some v) : ∀ X, (w.drew.grow X).cell? q = some v := fun X => ((Ext.refl w).drew.trans (ext_grow _ X)).cell h
/-- a slice's rows, and where its memory lies -/
def spSLf (k n : Nat) (rows : List (List Value)) (D : Nat) : Spec := ⟨fun v W => ∃ ao c, v = .slice ao n c ∧ SL W k ao c rows ∧ ∀ a, ao = some a → D ≤ a.block, fun hE ⟨ao, c, h1, h2, h3⟩ => ⟨ao, c, h1, h2.ext hE, h3⟩⟩
/-- what is returned does not hang on memory -/
def RetV (v : Value) (w : World) (e : Ending) (w' : World) : Prop := e = .returned v ∧ Ext w w'
end Go.Sz
namespace Go.Sz
open Go.RowKit
section
variable {P : Program}
theorem run_copy_K (w : World) (dT sT ty elem : TypeId) (size g o dLen dCap : Nat) (a : Addr) (sLen sCap : Nat) (cur : Array Value) (t : TypeId) (m : Nat) (cs : List Value)
    (hu : P.underlying dT = some (.slice elem)) (hs : (P.info? elem).map (·.size) = some size)
    (hg : w.heap[g]? = some (.cells cur t (0, 0))) (hm : Nat.min sLen dLen = m) (hn : cs.length = m * size)
    (hsrc : ∀ j v, cs[j]? = some v → w.cell? (a.add j) = some v) (hfit : o + cs.length ≤ cur.size) (h1 : ∀ v ∈ cs, v.oneCell' = true) :
    (Builtin.copy_ #[dT, sT] ty #[.slice (some ⟨g, o, none⟩) dLen dCap, .slice (some a) sLen sCap]).run P w =
      .ok (goInt m) (w.setRow g (cur.toList.take o ++ cs ++ cur.toList.drop (o + cs.length)).toArray) := by
  have hl := run_loadCells_list (P := P) w a cs hsrc
  have hst := run_storeCells_at P g o t cs 0 cur w hg (by simpa using hfit) h1
  cases hq : P.info? elem with
  | none => simp [hq] at hs
  | some i =>
    have hi : i.size = size := by simpa [hq] using hs
    simp [Builtin.copy_, run_underlying hu, Builtin.lenOf, Builtin.firstCells, sizeOf, typeInfo, hq, hi, hm, ← hn, hl, hst]
theorem run_clear_K (w : World) (t e ty : TypeId) (z : Value) (g o n c : Nat) (cur : Array Value) (te : TypeId) (ht : P.underlying t = some (.slice e)) (hv : (zeroValue e).run P w = .ok z w) (hn : 0 < n)
    (hg : w.heap[g]? = some (.cells cur te (0, 0))) (hfit : o + (Builtin.zeroCells z.cells n).size ≤ cur.size) (h1 : ∀ v ∈ (Builtin.zeroCells z.cells n).toList, v.oneCell' = true) :
    (Builtin.clear_ #[t] ty #[.slice (some ⟨g, o, none⟩) n c]).run P w = .ok (.tuple #[]) (w.setRow g (cur.toList.take o ++ (Builtin.zeroCells z.cells n).toList ++ cur.toList.drop (o + (Builtin.zeroCells z.cells n).toList.length)).toArray) := by
  have hst := run_storeCells_at P g o te (Builtin.zeroCells z.cells n).toList 0 cur w hg (by simpa using hfit) h1
  simp only [Nat.add_zero] at hst
  obtain ⟨m, rfl⟩ : ∃ m, n = m + 1 := ⟨n - 1, by omega⟩
  simp [Builtin.clear_, run_underlying ht, hv, hst]
/-- copy, at the operation -/
theorem wp_copy_run (w : World) {o : Oper} {a : Act} {K : Act → World → Prop} {Q : Exit → Act → World → Prop} (d s : Operand) (t t' : TypeId)
    (ho : o.op = .call { callee := .builtin .copy, args := #[d, s], argTypes := #[t, t'] }) (v u : Value) (hd : a.eval d = v) (hs : a.eval s = u) {v' : Value} {w' : World}
    (hr : (Builtin.copy_ #[t, t'] o.type #[v, u]).run P w = .ok v' w') (h : K (a.put o.dst v') w') : o.wp P a w K Q := by
  unfold Oper.wp execOp
  simp only [ho, resolve, invoke, builtin, Sem.run_bind, Sem.run_pure, Result.andThen_ok, List.map_toArray, List.map_cons, List.map_nil, hd, hs, hr]
  exact h
theorem wpList_copy_run' (w : World) {ops : Array Oper} {rest : List Oper} {o : Oper} {a : Act} {Q : Exit → Act → World → Prop} (hgd : o.guard = none) (d s : Operand) (t t' : TypeId)
    (ho : o.op = .call { callee := .builtin .copy, args := #[d, s], argTypes := #[t, t'] }) (v u : Value) (hd : a.eval d = v) (hs : a.eval s = u) {v' : Value} {w' : World}
    (hr : (Builtin.copy_ #[t, t'] o.type #[v, u]).run P w = .ok v' w') (h : wpList P ops Q rest (a.put o.dst v') w') : wpList P ops Q (o :: rest) a w :=
  wpList_plain hgd fun _ hK => wp_copy_run w d s t t' ho v u hd hs hr (hK _ _ h)
theorem step_copy_run' {ops : Array Oper} {o : Oper} {a : Act} {w : World} {K : Act → World → Prop} {Q : Exit → Act → World → Prop} {E : Prop} (hgd : o.guard = none) (d s : Operand) (t t' : TypeId)
    (ho : o.op = .call { callee := .builtin .copy, args := #[d, s], argTypes := #[t, t'] }) (v u : Value) (hd : a.eval d = v) (hs : a.eval s = u) {v' : Value} {w' : World}
    (hr : (Builtin.copy_ #[t, t'] o.type #[v, u]).run P w = .ok v' w') (h : K (a.put o.dst v') w') :
    if Region.wanted o (yielded ops a.tmps) = true then Oper.wp P o a w K Q else E := by
  have hw : Region.wanted o (yielded ops a.tmps) = true := by simp [Region.wanted, hgd]
  rw [if_pos hw]
  exact wp_copy_run w d s t t' ho v u hd hs hr h
theorem wpList_clear_run (w : World) {ops : Array Oper} {rest : List Oper} {o : Oper} {a : Act} {Q : Exit → Act → World → Prop} (hgd : o.guard = none) (s : Operand) (t : TypeId)
    (ho : o.op = .call { callee := .builtin .clear, args := #[s], argTypes := #[t] }) (u : Value) (hs : a.eval s = u) {v' : Value} {w' : World}
    (hr : (Builtin.clear_ #[t] o.type #[u]).run P w = .ok v' w') (h : wpList P ops Q rest (a.put o.dst v') w') : wpList P ops Q (o :: rest) a w :=
  wpList_plain hgd fun _ hK => by
    unfold Oper.wp execOp
    simp only [ho, resolve, invoke, builtin, Sem.run_bind, Sem.run_pure, Result.andThen_ok, List.map_toArray, List.map_cons, List.map_nil, hs, hr]
    exact hK _ _ h
end
theorem Ext.trans' {a b c : World} {v v' : Value} (h : Ext a b) (g : Grows b v c v') (hv : ∀ k, v.ownBlock = some k → a.heap.size ≤ k) : Ext a c := Below.trans h (g.below h.size hv)
/-- the block of a row that was not empty -/
theorem own_block {w : World} {D e size n : Nat} {v : Value} {xs : List Value} (h : w.ownsRow D e size v n xs) (hn : 0 < n) : ∃ g cap cur, v = .slice (some ⟨g, 0, none⟩) n cap ∧ D ≤ g ∧ w.heap[g]? = some (.cells cur e (0, 0)) ∧ n ≤ cap ∧ cap ≤ maxLen ∧ cur.size = cap * size ∧ cur.toList.take (n * size) = xs := by
  rcases h.2 with ⟨_, h0⟩ | h
  · omega
  · exact h
/-- fewer elements of the same row -/
theorem own_take {w : World} {D e size n k g cap : Nat} {xs : List Value} (h : w.ownsRow D e size (.slice (some ⟨g, 0, none⟩) n cap) n xs) (hk : k ≤ n) : w.ownsRow D e size (.slice (some ⟨g, 0, none⟩) k cap) k (xs.take (k * size)) := by
  have hl := h.1
  have hle : k * size ≤ n * size := Nat.mul_le_mul_right _ hk
  rcases h.2 with ⟨h0, _⟩ | ⟨g', cap', cur, hv, h1, h2, h3, h4, h5, h6⟩
  · cases h0
  · cases hv
    refine ⟨by rw [List.length_take, hl]; omega, .inr ⟨g, cap, cur, rfl, h1, h2, by omega, h4, h5, ?_⟩⟩
    rw [← h6, List.take_take, Nat.min_eq_left hle]
theorem flatten_take {rows : List (List Value)} {size : Nat} (h : ∀ r ∈ rows, r.length = size) (k : Nat) : (rows.take k).flatten = rows.flatten.take (k * size) := by
  induction rows generalizing k with
  | nil => simp
  | cons r rs ih =>
    cases k with
    | zero => simp
    | succ k =>
      have hr := h r (by simp)
      rw [List.take_succ_cons, List.flatten_cons, List.flatten_cons, ih (fun x hx => h x (by simp [hx])) k, List.take_append, hr]
      rw [List.take_of_length_le (l := r) (by rw [hr, Nat.add_mul]; omega), show (k + 1) * size - size = k * size by rw [Nat.add_mul]; omega]
theorem flatten_drop {rows : List (List Value)} {size : Nat} (h : ∀ r ∈ rows, r.length = size) (k : Nat) : (rows.drop k).flatten = rows.flatten.drop (k * size) := by
  induction rows generalizing k with
  | nil => simp
  | cons r rs ih =>
    cases k with
    | zero => simp
    | succ k =>
      have hr := h r (by simp)
      rw [List.drop_succ_cons, List.flatten_cons, ih (fun x hx => h x (by simp [hx])) k, List.drop_append, hr]
      rw [List.drop_of_length_le (l := r) (by rw [hr, Nat.add_mul]; omega), show (k + 1) * size - size = k * size by rw [Nat.add_mul]; omega, List.nil_append]
/-- cells behind the elements of a row are stored into: the elements stand -/
theorem own_store {w : World} {D e size m g cap : Nat} {xs : List Value} (h : w.ownsRow D e size (.slice (some ⟨g, 0, none⟩) m cap) m xs) (cur : Array Value) (hg : w.heap[g]? = some (.cells cur e (0, 0))) (o : Nat) (cs : List Value) (ho : m * size ≤ o) (hfit : o + cs.length ≤ cur.size) :
    (w.setRow g (cur.toList.take o ++ cs ++ cur.toList.drop (o + cs.length)).toArray).ownsRow D e size (.slice (some ⟨g, 0, none⟩) m cap) m xs := by
  rcases h.2 with ⟨h0, _⟩ | ⟨g', cap', cur', hv, h1, h2, h3, h4, h5, h6⟩
  · cases h0
  · cases hv
    rw [hg] at h2
    cases h2
    refine ⟨h.1, .inr ⟨g, cap, _, rfl, h1, setRow_heap w g cur _ e _ hg, h3, h4, ?_, ?_⟩⟩
    · simp only [List.size_toArray, List.length_append, List.length_take, List.length_drop, Array.length_toList]; omega
    · simp only
      rw [List.append_assoc, List.take_append_of_le_length (by simp; omega), List.take_take, Nat.min_eq_left ho]
      exact h6
theorem grows_setRow {w : World} {g k cap : Nat} (cs : Array Value) : Grows w (.slice (some ⟨g, 0, none⟩) k cap) (w.setRow g cs) (.slice (some ⟨g, 0, none⟩) k cap) :=
  ⟨⟨rfl, rfl, rfl, by simp [World.setRow], fun j _ hk => setRow_other w g j _ (fun e => hk (by simp [Value.ownBlock, e]))⟩, fun _ h => .inl h⟩
section
variable {P : Program}
/-- append where there is room: in place -/
theorem run_append_roomK (w : World) (base : Nat) (t tx ty e : TypeId) (i : TypeInfo) (size : Nat) (ht : P.underlying t = some (.slice e)) (hi : P.info? e = some i) (hsize : i.size = size)
    (g n cap : Nat) (xs : List Value) (hown : w.ownsRow base e size (.slice (some ⟨g, 0, none⟩) n cap) n xs)
    (sv : Value) (m : Nat) (news : List Value) (hs : Src P size tx sv m news w) (hroom : n + m ≤ cap) :
    ∃ w', (Builtin.append_ #[t, tx] ty #[.slice (some ⟨g, 0, none⟩) n cap, sv]).run P w = .ok (.slice (some ⟨g, 0, none⟩) (n + m) cap) w' ∧ w'.ownsRow base e size (.slice (some ⟨g, 0, none⟩) (n + m) cap) (n + m) (xs ++ news) ∧ Grows w (.slice (some ⟨g, 0, none⟩) n cap) w' (.slice (some ⟨g, 0, none⟩) (n + m) cap) := by
  subst hsize
  have hlen : (xs ++ news).length = (n + m) * i.size := by rw [List.length_append, hown.1, hs.newsLen, Nat.add_mul]
  rcases hown.2 with ⟨h0, _⟩ | ⟨g', cap', cur, hv, hbg, hg, hnc, hcm, hcs, htake⟩
  · cases h0
  · cases hv
    have hfit : n * i.size + news.length ≤ cur.size := by rw [hs.newsLen, hcs, ← Nat.add_mul]; exact Nat.mul_le_mul_right _ hroom
    have hst := run_storeCells_at P g (n * i.size) e news 0 cur w hg (by simpa using hfit) hs.one
    simp only [Nat.add_zero] at hst
    refine ⟨w.setRow g (cur.toList.take (n * i.size) ++ news ++ cur.toList.drop (n * i.size + news.length)).toArray, ?_, ⟨hlen, .inr ⟨g, cap, _, rfl, hbg, setRow_heap w g cur _ e _ hg, hroom, hcm, ?_, ?_⟩⟩, ⟨⟨rfl, rfl, rfl, by simp [World.setRow], fun k _ hk => setRow_other w g k _ (fun e => hk (by simp [Value.ownBlock, e]))⟩, fun k hk => .inl (by simpa [Value.ownBlock] using hk)⟩⟩
    · rcases hs.kind with ⟨e', hk⟩ | hk <;> simp [Builtin.append_, run_underlying ht, run_underlying hk, sizeOf, typeInfo, hi, hs.len, hroom, hs.cells, Addr.add_lit, hst]
    · simp only [List.size_toArray, List.length_append, List.length_take, List.length_drop, Array.length_toList]
      omega
    · rw [htake, ← hlen]
      exact List.take_left
theorem wp_append_run {o : Oper} {a : Act} {w : World} {K : Act → World → Prop} {Q : Exit → Act → World → Prop} (s x : Operand) (t tx : TypeId)
    (ho : o.op = .call { callee := .builtin .append, args := #[s, x], argTypes := #[t, tx] }) (v sv : Value) (hv : a.eval s = v) (hx : a.eval x = sv) {v' : Value} {w' : World}
    (hr : (Builtin.append_ #[t, tx] o.type #[v, sv]).run P w = .ok v' w') (h : K (a.put o.dst v') w') : o.wp P a w K Q := by
  unfold Oper.wp execOp
  simp only [ho, resolve, invoke, builtin, Sem.run_bind, Sem.run_pure, Result.andThen_ok, List.map_toArray, List.map_cons, List.map_nil, hv, hx, hr]
  exact h
theorem wpList_append_run' {ops : Array Oper} {rest : List Oper} {o : Oper} {a : Act} {w : World} {Q : Exit → Act → World → Prop} (hgd : o.guard = none) (s x : Operand) (t tx : TypeId)
    (ho : o.op = .call { callee := .builtin .append, args := #[s, x], argTypes := #[t, tx] }) (v sv : Value) (hv : a.eval s = v) (hx : a.eval x = sv) {v' : Value} {w' : World}
    (hr : (Builtin.append_ #[t, tx] o.type #[v, sv]).run P w = .ok v' w') (h : wpList P ops Q rest (a.put o.dst v') w') : wpList P ops Q (o :: rest) a w :=
  wpList_plain hgd fun _ hK => wp_append_run s x t tx ho v sv hv hx hr (hK _ _ h)
theorem step_append_run {ops : Array Oper} {o : Oper} {a : Act} {w : World} {K : Act → World → Prop} {Q : Exit → Act → World → Prop} {E : Prop} (hgd : o.guard = none) (s x : Operand) (t tx : TypeId)
    (ho : o.op = .call { callee := .builtin .append, args := #[s, x], argTypes := #[t, tx] }) (v sv : Value) (hv : a.eval s = v) (hx : a.eval x = sv) {v' : Value} {w' : World}
    (hr : (Builtin.append_ #[t, tx] o.type #[v, sv]).run P w = .ok v' w') (h : K (a.put o.dst v') w') :
    if Region.wanted o (yielded ops a.tmps) = true then Oper.wp P o a w K Q else E := by
  have hw : Region.wanted o (yielded ops a.tmps) = true := by simp [Region.wanted, hgd]
  rw [if_pos hw]
  exact wp_append_run s x t tx ho v sv hv hx hr h
end
theorem below_setRow {B g : Nat} {w0 w : World} (hb : Below B w0 w) (hBg : B ≤ g) (cs : Array Value) : Below B w0 (w.setRow g cs) :=
  hb.trans ⟨rfl, rfl, rfl, by simp [World.setRow], fun k hk => setRow_other w g k cs (by omega)⟩
/-- clearing what lies behind the elements -/
theorem clear_own {P : Program} {w : World} {D e size m g cap : Nat} {xs : List Value} (h : w.ownsRow D e size (.slice (some ⟨g, 0, none⟩) m cap) m xs) (t : TypeId) (z : Value) (ht : P.underlying t = some (.slice e)) (hv : ∀ w, (zeroValue e).run P w = .ok z w) (hz : z.cells.size = size) (h1 : ∀ k, ∀ v ∈ (Builtin.zeroCells z.cells k).toList, v.oneCell' = true)
    (n o : Nat) (hn : 0 < n) (ho : o = m * size) (hfit : m + n ≤ cap) : ∃ w3, (∀ ty c, (Builtin.clear_ #[t] ty #[.slice (some ⟨g, o, none⟩) n c]).run P w = .ok (.tuple #[]) w3) ∧ w3.ownsRow D e size (.slice (some ⟨g, 0, none⟩) m cap) m xs ∧ Grows w (.slice (some ⟨g, 0, none⟩) m cap) w3 (.slice (some ⟨g, 0, none⟩) m cap) := by
  subst ho
  have hh := h
  rcases h.2 with ⟨h0, _⟩ | ⟨g', cap', cur, hv', hb, hg, h3, h4, h5, h6⟩
  · cases h0
  · cases hv'
    have hsz : (Builtin.zeroCells z.cells n).size = n * size := by rw [size_zeroCells, hz]
    have hfit' : m * size + (Builtin.zeroCells z.cells n).size ≤ cur.size := by rw [hsz, h5, ← Nat.add_mul]; exact Nat.mul_le_mul_right _ hfit
    refine ⟨_, fun ty c => run_clear_K w t e ty z g (m * size) n c cur e ht (hv w) hn hg hfit' (h1 n), ?_, grows_setRow _⟩
    exact own_store hh cur hg (m * size) (Builtin.zeroCells z.cells n).toList (Nat.le_refl _) (by simpa using hfit')
end Go.Sz
namespace Go.Sz
open Go.RowKit
/-- bundles: section and lab -/
abbrev Bd := Int × Int
def brows (l : List Bd) : List (List Value) := l.map fun x => [.int .i64 x.1, .int .i64 x.2]
theorem brows_length (l : List Bd) : (brows l).length = l.length := List.length_map _
def RepB (w : World) (ao : Option Addr) (cap : Nat) (l : List Bd) : Prop := SL w 2 ao cap (brows l)
theorem RepB.ext {w W : World} {ao : Option Addr} {cap : Nat} {l : List Bd} (h : RepB w ao cap l) (hE : Ext w W) : RepB W ao cap l := SL.ext h hE
theorem RepB.max {w : World} {ao : Option Addr} {cap : Nat} {l : List Bd} (h : RepB w ao cap l) : (l.length : Int) ≤ 9223372036854775807 := by
  have h1 := SL.max h; have h2 := SL.le h; rw [brows_length] at h2; omega
theorem b_cells {w W : World} {ao : Option Addr} {cap : Nat} {l : List Bd} (h : RepB w ao cap l) (hE : Ext w W) {i : Nat} (hi : i < l.length) : ∃ b o, ao = some ⟨b, o, none⟩ ∧
    W.cell? ⟨b, o + i * 2, none⟩ = some (.int .i64 l[i].1) ∧ W.cell? ⟨b, o + i * 2 + 1, none⟩ = some (.int .i64 l[i].2) := by
  have hr : (brows l)[i]? = some [.int .i64 l[i].1, .int .i64 l[i].2] := by simp [brows, hi]
  obtain ⟨b, o, rfl, _⟩ := SL.at h (by omega) i (by rw [brows_length]; exact hi)
  exact ⟨b, o, rfl, by simpa using hE.cell (SL.cellAt h hr (j := 0) rfl), by simpa using hE.cell (SL.cellAt h hr (j := 1) rfl)⟩
theorem take_eq_of {α : Type} {l l' : List α} {k : Nat} (h1 : k < l.length) (h2 : k < l'.length) (h : l.take k = l'.take k) (he : l[k] = l'[k]) : l.take (k + 1) = l'.take (k + 1) := by
  rw [List.take_succ_eq_append_getElem h1, List.take_succ_eq_append_getElem h2, h, he]
theorem ret_bool {b c : Bool} (h : b = c) : Ending.returned (.bool b) = .returned (.bool c) := by rw [h]
theorem ret_i64 {b c : Int} (h : b = c) : Ending.returned (.int .i64 b) = .returned (.int .i64 c) := by rw [h]
/-- a request -/
structure Rq where
  c : Int
  n : Int
  s : Int
  k : Int
  t : Int
  ch : List Bd
  g : Int
  h : Int
  y : Int
deriving DecidableEq
def Rq.cells (r : Rq) (ao : Option Addr) (cap : Nat) : List Value := [.int .i64 r.c, .int .i64 r.n, .int .i64 r.s, .int .i64 r.k, .int .i64 r.t, .slice ao r.ch.length cap, .int .i64 r.g, .int .i64 r.h, .int .i64 r.y]
def Rq.ok (r : Rq) : Prop := inI64 r.c ∧ inI64 r.n ∧ inI64 r.s ∧ inI64 r.k ∧ inI64 r.t ∧ inI64 r.g ∧ inI64 r.h ∧ inI64 r.y
/-- a variable that holds a request -/
structure BoxQ (w : World) (B : Nat) (r : Rq) (ao : Option Addr) (cap : Nat) : Prop where
  c0 : w.cell? ⟨B, 0, none⟩ = some (.int .i64 r.c)
  c1 : w.cell? ⟨B, 1, none⟩ = some (.int .i64 r.n)
  c2 : w.cell? ⟨B, 2, none⟩ = some (.int .i64 r.s)
  c3 : w.cell? ⟨B, 3, none⟩ = some (.int .i64 r.k)
  c4 : w.cell? ⟨B, 4, none⟩ = some (.int .i64 r.t)
  c5 : w.cell? ⟨B, 5, none⟩ = some (.slice ao r.ch.length cap)
  c6 : w.cell? ⟨B, 6, none⟩ = some (.int .i64 r.g)
  c7 : w.cell? ⟨B, 7, none⟩ = some (.int .i64 r.h)
  c8 : w.cell? ⟨B, 8, none⟩ = some (.int .i64 r.y)
  fz : ∀ i, w.frozen? ⟨B, i, none⟩ = false
theorem BoxQ.lt {w : World} {B : Nat} {r : Rq} {ao : Option Addr} {cap : Nat} (h : BoxQ w B r ao cap) : B < w.heap.size := World.block_lt_of_cell? _ _ h.c0
theorem BoxQ.new (w : World) (r : Rq) (ao : Option Addr) (cap : Nat) (t : TypeId) (g : Nat) (hg : w.heap.size = g) : BoxQ (w.alloc (.cells (r.cells ao cap).toArray t)) g r ao cap := by subst hg; unfold Rq.cells; exact ⟨by simp, by simp, by simp, by simp, by simp, by simp, by simp, by simp, by simp, fun i => by simp⟩
theorem BoxQ.keep {w w' : World} {B : Nat} {r : Rq} {ao : Option Addr} {cap : Nat} (h : BoxQ w B r ao cap) (hk : w'.heap[B]? = w.heap[B]?) : BoxQ w' B r ao cap :=
  ⟨by simp only [World.cell?, hk]; exact h.c0, by simp only [World.cell?, hk]; exact h.c1, by simp only [World.cell?, hk]; exact h.c2, by simp only [World.cell?, hk]; exact h.c3, by simp only [World.cell?, hk]; exact h.c4, by simp only [World.cell?, hk]; exact h.c5, by simp only [World.cell?, hk]; exact h.c6, by simp only [World.cell?, hk]; exact h.c7, by simp only [World.cell?, hk]; exact h.c8, fun i => by simp only [World.frozen?, hk]; exact h.fz i⟩
theorem BoxQ.ext {w w' : World} {B : Nat} {r : Rq} {ao : Option Addr} {cap : Nat} (h : BoxQ w B r ao cap) (hE : Ext w w') : BoxQ w' B r ao cap := h.keep (hE.block B h.lt)
def formB (a b : Int) : Bool := decide (0 ≤ a) && decide (a < 4000) && decide (-1 ≤ b) && decide (b < 4000) && (a != b)
def staleQ (t now : Int) : Bool := decide (t ≤ 9223372036854775743) && decide (t + 64 < now)
def findB (l : List Bd) (x : Bd) : Int := match l.findIdx? (· == x) with
  | some i => (i : Int)
  | none => -1
theorem findB_some {l : List Bd} {x : Bd} {k : Nat} (hk : k < l.length) (hb : ∀ j (h : j < k), (l[j]'(by omega)) ≠ x) (h : l[k] = x) : findB l x = (k : Int) := by
  unfold findB
  rw [List.findIdx?_eq_some_iff_getElem.2 ⟨hk, by simpa using h, fun j hj => by simpa using hb j hj⟩]
theorem findB_none {l : List Bd} {x : Bd} (hb : ∀ j (h : j < l.length), l[j] ≠ x) : findB l x = -1 := by
  unfold findB
  rw [List.findIdx?_eq_none_iff.2 (fun y hy => by
    obtain ⟨j, hj, rfl⟩ := List.mem_iff_getElem.1 hy
    simpa using hb j hj)]
theorem findB_has {l : List Bd} {x : Bd} : 0 ≤ findB l x ↔ l.contains x = true := by
  unfold findB
  cases h : l.findIdx? (· == x) with
  | none =>
    have := List.findIdx?_eq_none_iff.1 h
    simp only [List.contains_iff_mem]
    constructor
    · intro h; omega
    · intro hm; have := this x hm; simp at this
  | some i =>
    obtain ⟨hi, hp, _⟩ := List.findIdx?_eq_some_iff_getElem.1 h
    simp only [List.contains_iff_mem]
    exact ⟨fun _ => by have : l[i] = x := by simpa using hp
                       exact this ▸ List.getElem_mem hi, fun _ => by omega⟩
end Go.Sz
namespace Go.Proofs.YtahaplioegeloaaDoor
open Go.RowKit Go.Sz
theorem eqB (a b a' b' : Int) (w : World) : (Op.equalIn 10000 24 (.agg #[.int .i64 a, .int .i64 b]) (.agg #[.int .i64 a', .int .i64 b'])).run Tryd.prog w = .ok (a == a' && b == b') w := by
  rw [show (10000 : Nat) = 9998 + 1 + 1 from rfl, run_equalIn_struct w (9998 + 1) 24 _ _ (by kernel_rfl) (by kernel_rfl)]
  have h1 : ∀ w, (Op.equalIn 9999 3 (.int .i64 a) (.int .i64 a')).run Tryd.prog w = .ok (a == a') w := fun w => run_equalIn_int w 9998 _ .i64 .i64 a a' Tryd.underlying3
  have h2 : ∀ w, (Op.equalIn 9999 3 (.int .i64 b) (.int .i64 b')).run Tryd.prog w = .ok (b == b') w := fun w => run_equalIn_int w 9998 _ .i64 .i64 b b' Tryd.underlying3
  simp [Program.fieldsOf, Tryd.underlying24, Op.eqFields, part]
  rw [h1]
  by_cases ha : a = a' <;> by_cases hb : b = b' <;> simp only [h2, Result.andThen_ok] <;> simp [ha, hb]
set_option maxRecDepth 100000 in
set_option maxHeartbeats 6400000 in
theorem formedB_any (a b : Int) (w : World) : Calls Tryd.prog 36 #[.agg #[.int .i64 a, .int .i64 b]] w fun e w' => e = .returned (.bool (formB a b)) ∧ Ext w w' := by
  go_enter Tryd.func36, Tryd.ntmps36
  go_wp2_with fail
  all_goals
    go_ret
    refine ⟨?_, ?_⟩
    · unfold formB
      simp_all
      try omega
    · repeat (first | exact Below.refl _ _ | refine Below.alloc ?_ (by simp) _ | refine Below.setCell ?_ (by simp) _)
set_option maxRecDepth 100000 in
set_option maxHeartbeats 6400000 in
theorem form_any (a b : Int) (w : World) : Calls Tryd.prog 51 #[.agg #[.int .i64 a, .int .i64 b]] w fun e w' => e = .returned (.bool (formB a b)) ∧ Ext w w' := by
  go_enter Tryd.func51, Tryd.ntmps51
  go_wp2_with fail
  all_goals
    go_ret
    refine ⟨?_, ?_⟩
    · unfold formB
      simp_all
      try omega
    · repeat (first | exact Below.refl _ _ | refine Below.alloc ?_ (by simp) _ | refine Below.setCell ?_ (by simp) _)
set_option maxRecDepth 100000 in
set_option maxHeartbeats 6400000 in
theorem indexB_any (l : List Bd) (x : Bd) (ao : Option Addr) (cap : Nat) (w : World) (h : RepB w ao cap l) : Calls Tryd.prog 56 #[.slice ao l.length cap, .agg #[.int .i64 x.1, .int .i64 x.2]] w fun e w' => e = .returned (.int .i64 (findB l x)) ∧ Ext w w' := by
  have hX : Ext w (w.alloc (.cells #[.int .i64 x.1, .int .i64 x.2] 24)) := (Ext.refl w).alloc _
  have d0 : (w.alloc (.cells #[.int .i64 x.1, .int .i64 x.2] 24)).cell? ⟨w.heap.size, 0, none⟩ = some (.int .i64 x.1) := by simp
  have d1 : (w.alloc (.cells #[.int .i64 x.1, .int .i64 x.2] 24)).cell? ⟨w.heap.size, 1, none⟩ = some (.int .i64 x.2) := by simp
  have hs1 := h.max
  have HL := Lib.hid (h.ext hX)
  have HX := Lib.hid hX
  have HD := Lib.hid (And.intro d0 d1)
  clear h hX d0 d1
  go_enter Tryd.func56, Tryd.ntmps56
  go_wp2_with fail
  generalize (w.alloc (.cells #[.int .i64 x.1, .int .i64 x.2] 24)) = w1 at *
  go_loopw [8] (fun iv wr => ∃ k : Nat, iv = .int .i64 k ∧ k ≤ l.length ∧ (∀ j (h : j < l.length), j < k → l[j] ≠ x) ∧ Ext w1 wr) (fun iv _ => l.length - (intOf iv).toNat)
  case atStart => exact ⟨0, rfl, by omega, fun j _ h => by omega, Ext.refl _⟩
  case round =>
    obtain ⟨k, rfl, hk, hn, hE⟩ := hrel
    have HN := Lib.hid hn
    have HE := Lib.hid hE
    clear hn hE
    by_cases hlt : k < l.length
    · have hki : (k : Int) < (l.length : Int) := by omega
      obtain ⟨bb, o, rfl, c0, c1⟩ := b_cells HL.out HE.out hlt
      have d0 := HE.out.cell HD.out.1
      have d1 := HE.out.cell HD.out.2
      have HNX : Hid (l[k] ≠ x → ∀ j (h : j < l.length), j < k + 1 → l[j] ≠ x) := Lib.hid fun hi j hj hjk => by
        by_cases hjk' : j = k
        · subst hjk'; exact hi
        · exact HN.out j hj (by omega)
      have HFD : Hid (l[k] = x → findB l x = (k : Int)) := Lib.hid fun hi => findB_some hlt (fun j hj => HN.out j (by omega) hj) hi
      generalize l[k] = z at *
      have he := eqB x.1 x.2 z.1 z.2
      have gc0 := grow_cell c0
      have gc1 := grow_cell c1
      have gd0 := grow_cell d0
      have gd1 := grow_cell d1
      cases hc : (x.1 == z.1 && x.2 == z.2) with
      | true =>
        have HR := Lib.hid (HFD.out (by simp only [Bool.and_eq_true, beq_iff_eq] at hc; exact (Prod.ext hc.1 hc.2).symm))
        rw [hc] at he
        clear hc
        go_wp2_with fail
        refine wp_region_rel_all (fun _ => none) (by kernel_rfl) (by kernel_rfl) ?_
        repeat (first
          | (refine wpRel_quick ?_ ?_ ?_ ?_
             · rfl
             · rfl
             · first | exact noEnter rfl | (intro f args W W'; go_simp)
             intro K hK
             go_big_quiet_op
             go_big_quiet_on)
          | (refine wpRel_skip ?_ ?_
             · rfl
             simp only [Act.put, List.setIfInBounds_toArray, List.set_cons_zero, List.set_cons_succ]))
        refine wpRel_nil ?_
        intro W3 hW3
        have HE3 := Lib.hid (HE.out.trans ((Ext.refl _).drew.trans hW3.1))
        clear hW3 he c0 c1 d0 d1 gc0 gc1 gd0 gd1
        go_wp2_with fail
        go_ret
        exact ⟨by rw [HR.out]; rfl, HX.out.trans HE3.out⟩
      | false =>
        have HR := Lib.hid (HNX.out (fun h => by subst h; simp at hc))
        rw [hc] at he
        clear hc
        go_wp2_with fail
        refine wp_region_rel_all (fun _ => none) (by kernel_rfl) (by kernel_rfl) ?_
        repeat (first
          | (refine wpRel_quick ?_ ?_ ?_ ?_
             · rfl
             · rfl
             · first | exact noEnter rfl | (intro f args W W'; go_simp)
             intro K hK
             go_big_quiet_op
             go_big_quiet_on)
          | (refine wpRel_skip ?_ ?_
             · rfl
             simp only [Act.put, List.setIfInBounds_toArray, List.set_cons_zero, List.set_cons_succ]))
        refine wpRel_nil ?_
        intro W3 hW3
        have HE3 := Lib.hid (HE.out.trans ((Ext.refl _).drew.trans hW3.1))
        clear hW3 he c0 c1 d0 d1 gc0 gc1 gd0 gd1
        go_wp2_with fail
        go_roundw
        case rel => exact ⟨k + 1, by go_num, by omega, HR.out, HE3.out⟩
        case measure => simp [intOf] <;> omega
    · have hki : ¬ (k : Int) < (l.length : Int) := by omega
      have HR : Hid (findB l x = -1) := Lib.hid (findB_none fun j hj => HN.out j hj (by omega))
      go_wp2_with fail
      go_ret
      exact ⟨by rw [HR.out]; rfl, HX.out.trans HE.out⟩
set_option maxRecDepth 100000 in
set_option maxHeartbeats 6400000 in
theorem containsB_any (l : List Bd) (x : Bd) (ao : Option Addr) (cap : Nat) (w : World) (h : RepB w ao cap l) : Calls Tryd.prog 37 #[.slice ao l.length cap, .agg #[.int .i64 x.1, .int .i64 x.2]] w fun e w' => e = .returned (.bool (l.contains x)) ∧ Ext w w' := by
  have hX : Ext w (w.alloc (.cells #[.int .i64 x.1, .int .i64 x.2] 24)) := (Ext.refl w).alloc _
  have d0 : (w.alloc (.cells #[.int .i64 x.1, .int .i64 x.2] 24)).cell? ⟨w.heap.size, 0, none⟩ = some (.int .i64 x.1) := by simp
  have d1 : (w.alloc (.cells #[.int .i64 x.1, .int .i64 x.2] 24)).cell? ⟨w.heap.size, 1, none⟩ = some (.int .i64 x.2) := by simp
  have HX := Lib.hid hX
  have HC := Lib.hid (indexB_any l x ao cap _ (h.ext hX))
  have HF : Hid (decide (0 ≤ findB l x) = l.contains x) := Lib.hid (by rw [Bool.eq_iff_iff, decide_eq_true_eq]; exact findB_has)
  clear h hX
  go_enter Tryd.func37, Tryd.ntmps37
  go_wp2_with fail
  clear d0 d1
  generalize (w.alloc (.cells #[.int .i64 x.1, .int .i64 x.2] 24)) = w1 at *
  refine HC.out.mono ?_
  rintro e w2 ⟨rfl, hE⟩
  generalize findB l x = n at *
  go_wp2_with fail
  go_ret
  exact ⟨ret_bool HF.out, HX.out.trans hE⟩
set_option maxRecDepth 100000 in
set_option maxHeartbeats 6400000 in
theorem stale_any (r : Rq) (ao : Option Addr) (cap : Nat) (now : Int) (w : World) (hr : inI64 r.t) : Calls Tryd.prog 17 #[.agg (r.cells ao cap).toArray, .int .i64 now] w fun e w' => e = .returned (.bool (staleQ r.t now)) ∧ Ext w w' := by
  have hX : Ext w (w.alloc (.cells (r.cells ao cap).toArray 26)) := (Ext.refl w).alloc _
  have hB : BoxQ (w.alloc (.cells (r.cells ao cap).toArray 26)) w.heap.size r ao cap := BoxQ.new w r ao cap 26 _ rfl
  have d4 := hB.c4
  obtain ⟨h1, h2⟩ := hr
  have HS : Hid (staleQ r.t now = (decide (r.t ≤ 9223372036854775743) && decide (r.t + 64 < now))) := Lib.hid rfl
  have HX := Lib.hid hX
  clear hX hB
  by_cases ht : r.t ≤ 9223372036854775743
  · have ht2 : r.t < 9223372036854775744 := by omega
    have hw : -9223372036854775808 ≤ r.t + 64 := by omega
    go_enter Tryd.func17, Tryd.ntmps17
    go_wp2_with fail
    go_ret
    exact ⟨ret_bool (by rw [HS.out, decide_eq_true ht]; simp <;> omega), HX.out⟩
  · have ht2 : 9223372036854775743 < r.t := by omega
    go_enter Tryd.func17, Tryd.ntmps17
    go_wp2_with fail
    go_ret
    exact ⟨ret_bool (by rw [HS.out, decide_eq_false (p := r.t ≤ 9223372036854775743) (by omega)]; rfl), HX.out⟩
set_option maxRecDepth 100000 in
set_option maxHeartbeats 6400000 in
theorem refStale_any (r : Rq) (ao : Option Addr) (cap : Nat) (now : Int) (w : World) (hr : inI64 r.t) : Calls Tryd.prog 18 #[.agg (r.cells ao cap).toArray, .int .i64 now] w fun e w' => e = .returned (.bool (staleQ r.t now)) ∧ Ext w w' := by
  have hX : Ext w (w.alloc (.cells (r.cells ao cap).toArray 26)) := (Ext.refl w).alloc _
  have hB : BoxQ (w.alloc (.cells (r.cells ao cap).toArray 26)) w.heap.size r ao cap := BoxQ.new w r ao cap 26 _ rfl
  have d4 := hB.c4
  obtain ⟨h1, h2⟩ := hr
  have HS : Hid (staleQ r.t now = (decide (r.t ≤ 9223372036854775743) && decide (r.t + 64 < now))) := Lib.hid rfl
  have HX := Lib.hid hX
  clear hX hB
  by_cases ht : r.t ≤ 9223372036854775743
  · have ht2 : r.t < 9223372036854775744 := by omega
    have hw : -9223372036854775808 ≤ r.t + 64 := by omega
    go_enter Tryd.func18, Tryd.ntmps18
    go_wp2_with fail
    go_ret
    exact ⟨ret_bool (by rw [HS.out, decide_eq_true ht]; simp <;> omega), HX.out⟩
  · have ht2 : 9223372036854775743 < r.t := by omega
    go_enter Tryd.func18, Tryd.ntmps18
    go_wp2_with fail
    go_ret
    exact ⟨ret_bool (by rw [HS.out, decide_eq_false (p := r.t ≤ 9223372036854775743) (by omega)]; rfl), HX.out⟩
theorem fewQ_any (r : Rq) (ao : Option Addr) (cap : Nat) (w : World) (h : RepB w ao cap r.ch) : Calls Tryd.prog 12 #[.agg (r.cells ao cap).toArray] w fun e w' => e = .returned (.bool (decide (r.ch.length ≤ 20))) ∧ Ext w w' := by
  have hs1 := h.max
  have hX : Ext w (w.alloc (.cells (r.cells ao cap).toArray 26)) := (Ext.refl w).alloc _
  have hB : BoxQ (w.alloc (.cells (r.cells ao cap).toArray 26)) w.heap.size r ao cap := BoxQ.new w r ao cap 26 _ rfl
  have d5 := hB.c5
  have HX := Lib.hid hX
  clear hX hB h
  go_enter Tryd.func12, Tryd.ntmps12
  go_wp2_with fail
  go_ret
  refine ⟨ret_bool (decide_eq_decide.2 ⟨fun h => ?_, fun h => ?_⟩), HX.out⟩
  · omega
  · omega
end Go.Proofs.YtahaplioegeloaaDoor
