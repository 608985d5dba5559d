/- Memory, slices, bytes: helpers of no program. -/
import Derived.Test.YtbniicobkhiniaaMem
import Derived.Laws.Alloc2
import Derived.Laws.NewBlocks
import Derived.Laws.EntriesVeiled
import Derived.Deep.RegionHeld3
import Derived.Deep.RegionLaw
import Derived.Lib.ConvBytes
import Derived.ProofKit
import Derived.ChangeMaps5
namespace Go.Sz
open Go.RowKit Go.ChangeShapes Go.WideShapes
def inI64 (n : Int) : Prop := -9223372036854775808 ≤ n ∧ n ≤ 9223372036854775807

theorem SL.keep {w w' : World} {n : Nat} {ao : Option Addr} {cap : Nat} {rows : List (List Value)} (h : SL w n ao cap rows) (hk : ∀ a, ao = some a → rows ≠ [] → w'.heap[a.block]? = w.heap[a.block]?) : SL w' n ao cap rows :=
  ⟨h.le, h.max, h.nil, h.wid, fun i j r v hr hv => by
    obtain ⟨b, o, e, hc⟩ := h.cells i j r v hr hv
    refine ⟨b, o, e, ?_⟩
    exact (World.cell?_of_block (w := w) (a := ⟨b, o + i * n + j, none⟩) (hk ⟨b, o, none⟩ e (by rintro rfl; simp at hr))).trans hc⟩

theorem Grows.cell {w w' : World} {v v' : Value} (h : Grows w v w' v') {p : Addr} {u : Value} (hn : ∀ k, v.ownBlock = some k → k ≠ p.block) (hu : w.cell? p = some u) : w'.cell? p = some u := by
  have hlt := World.block_lt_of_cell? w p hu
  rw [World.cell?_of_block (w := w) (h.by_.block p.block hlt fun e => hn _ e.symm rfl)]
  exact hu
/-- v's own block is not B -/
abbrev NotBlk (v : Value) (B : Nat) : Prop := ∀ k, v.ownBlock = some k → k ≠ B
theorem Grows.notBlk {w w' : World} {v v' : Value} (h : Grows w v w' v') {B : Nat} (hB : B < w.heap.size) (hn : NotBlk v B) : NotBlk v' B := fun k hk => by
  rcases h.own k hk with h1 | h1
  · exact hn k h1
  · omega
theorem NotBlk.fresh {w : World} {base e size n : Nat} {v : Value} {xs : List Value} (h : w.ownsRow base e size v n xs) : NotBlk v w.heap.size := fun k hk => by
  rcases h.2 with ⟨rfl, _⟩ | ⟨g, cap, cur, rfl, hb, hg, _⟩
  · simp [Value.ownBlock] at hk
  · simp [Value.ownBlock] at hk
    subst hk
    have := (Array.getElem?_eq_some_iff.1 hg).1
    omega
theorem ownsRow_blocks {w : World} {base e size n : Nat} {v : Value} {xs : List Value} (h : w.ownsRow base e size v n xs) : ∀ k, v.ownBlock = some k → base ≤ k := fun k hk => by
  rcases h.2 with ⟨rfl, _⟩ | ⟨g, cap, cur, rfl, hb, _⟩
  · simp [Value.ownBlock] at hk
  · simp [Value.ownBlock] at hk
    subst hk
    exact hb

theorem one_cell {W : World} {b o : Nat} {x : Value} (h : W.cell? ⟨b, o, none⟩ = some x) : ∀ (j : Nat) (u : Value), [x][j]? = some u → W.cell? ((⟨b, o, none⟩ : Addr).add j) = some u := by
  intro j u hj
  cases j with
  | zero => simp at hj; subst hj; exact h
  | succ j => simp at hj

theorem u64_small (n : Int) (h : 0 ≤ n) (h2 : n ≤ 9223372036854775807) : IntKind.u64.wrap n = n := by simp [IntKind.wrap, IntKind.bits, IntKind.signed]; omega

/-- an owned row, as what is appended -/
theorem Src.ofOwn {P : Program} {w : World} {base e size n : Nat} {v : Value} {xs : List Value} (h : w.ownsRow base e size v n xs) {tx e' : TypeId} (hk : P.underlying tx = some (.slice e')) (h1 : ∀ u ∈ xs, u.oneCell' = true) : Src P size tx v n xs w := by
  rcases h.2 with ⟨rfl, rfl⟩ | ⟨g, cap, cur, rfl, hb, hg, rest⟩
  · have hx : xs = [] := List.eq_nil_of_length_eq_zero (by simpa using h.1)
    subst hx
    exact Src.ofNil w hk 0
  · exact Src.ofSlice w hk ⟨g, 0, none⟩ n cap xs h.1 (h.cells rfl) h1

theorem own_one {w : World} {x : Value} {e : TypeId} {base g : Nat} (hg : g = w.heap.size) (hb : base ≤ g) : (w.alloc (.cells #[x] e)).ownsRow base e 1 (.slice (some ⟨g, 0, none⟩) 1 1) 1 [x] := by
  subst hg
  exact World.ownsRow_lit w #[x] 1 hb (by unfold maxLen; omega) rfl

theorem Ext.own_step {w w1 w2 : World} {v v2 : Value} {e size n : Nat} {xs : List Value} (h : Ext w w1) (g : Grows w1 v w2 v2) (ho : w1.ownsRow w.heap.size e size v n xs) : Ext w w2 :=
  Below.trans h (g.below h.size (ownsRow_blocks ho))
/-- bytes, as rows of one cell -/
def br (bs : List UInt8) : List (List Value) := bs.map fun b => [.int .u8 b.toNat]
theorem br_length (bs : List UInt8) : (br bs).length = bs.length := List.length_map _
theorem br_take (bs : List UInt8) (n : Nat) : br (bs.take n) = (br bs).take n := List.map_take
theorem br_drop (bs : List UInt8) (n : Nat) : br (bs.drop n) = (br bs).drop n := List.map_drop
theorem br_flatten (bs : List UInt8) : (br bs).flatten = bs.map fun b => Value.int .u8 b.toNat := by
  induction bs with
  | nil => rfl
  | cons x xs ih => simp only [br, List.map_cons, List.flatten_cons] at ih ⊢; rw [ih]; rfl

theorem SL.takes {w : World} {n : Nat} {ao : Option Addr} {cap : Nat} {rows : List (List Value)} (h : SL w n ao cap rows) {k : Nat} (_ : k ≤ rows.length) (hn : ao = none → k = 0) : SL w n ao k (rows.take k) :=
  ⟨by simp; omega, by have := h.le; have := h.max; omega, hn, fun r hr => h.wid r (List.mem_of_mem_take hr), fun i j r v hr hv => h.cells i j r v (by
    rw [List.getElem?_take] at hr
    split at hr
    · exact hr
    · cases hr) hv⟩

theorem SL.drops {w : World} {ao : Option Addr} {cap : Nat} {rows : List (List Value)} (h : SL w 1 ao cap rows) {k : Nat} (_hk : k ≤ rows.length) : SL w 1 (ao.map (·.add k)) (cap - k) (rows.drop k) := by
  refine ⟨by have := h.le; simp; omega, by have := h.max; omega, fun hn => ?_, fun r hr => h.wid r (List.mem_of_mem_drop hr), fun i j r v hr hv => ?_⟩
  · have := h.nil (by simpa using hn)
    omega
  · rw [List.getElem?_drop] at hr
    obtain ⟨b, o, rfl, hc⟩ := h.cells (k + i) j r v hr hv
    refine ⟨b, o + k, ?_, ?_⟩
    · simp [Addr.add_lit]
    · rw [show o + k + i * 1 + j = o + (k + i) * 1 + j by omega]
      exact hc

theorem SL.done {w : World} {n : Nat} (ao : Option Addr) : SL w n ao 0 [] := ⟨by simp, by omega, fun _ => rfl, by simp, by simp⟩

theorem heap_setCell_far (w : World) (q : Addr) (u : Value) (b : Nat) (hb : b ≠ q.block) : (w.setCell q u).heap[b]? = w.heap[b]? := by
  unfold World.setCell
  simp [Array.getElem?_modify, Ne.symm hb]
/-- bytes read as rows, turned to a string -/
theorem SL.toStr {P : Program} {w : World} {ao : Option Addr} {cap : Nat} {bs : List UInt8} (h : SL w 1 ao cap (br bs)) (src dst e : TypeId) (hs : P.underlying src = some (.slice e)) (he : P.underlying e = some (.int .u8)) (hd : P.underlying dst = some .string) :
    (convert src dst (.slice ao bs.length cap)).run P w = .ok (.string ⟨bs.toArray⟩) w := by
  cases ao with
  | none =>
    have h0 := h.nil rfl
    have hle := h.le
    rw [br_length] at hle
    have : bs = [] := List.eq_nil_of_length_eq_zero (by omega)
    subst this
    exact run_convert_bytes_nil w src e hs he 0 cap dst hd
  | some a =>
    cases bs with
    | nil => exact run_convert_bytes_back w src dst e a cap [] hs he hd (fun j hj => by simp at hj)
    | cons x xs =>
      obtain ⟨b, o, e1, _⟩ := h.at (by omega) 0 (by simp [br])
      cases e1
      refine run_convert_bytes_back w src dst e _ cap (x :: xs) hs he hd (fun j hj => ?_)
      have := h.cellAt (i := j) (j := 0) (r := [.int .u8 ((x :: xs)[j].toNat)]) (v := .int .u8 ((x :: xs)[j].toNat)) (by simp only [br]; rw [List.getElem?_map, List.getElem?_eq_getElem hj]; rfl) rfl
      rw [Addr.add_mid]
      simpa using this

theorem SL.blk {w : World} {n : Nat} {ao : Option Addr} {cap : Nat} {rows : List (List Value)} (h : SL w n ao cap rows) (hn : 0 < n) : ∀ a, ao = some a → rows ≠ [] → a.block < w.heap.size := by
  intro a ha hr
  match rows, hr with
  | r :: rs, _ =>
    have h4 := h.wid r (by simp)
    match r, h4 with
    | [], h4 => simp at h4; omega
    | u :: us, _ =>
      obtain ⟨b, o, e, hc⟩ := h.cells 0 0 (u :: us) u (by simp) (by simp)
      rw [ha] at e
      cases e
      have hc : w.cell? ⟨b, o + 0 * n + 0, none⟩ = some u := hc
      exact World.block_lt_of_cell? w ⟨b, o + 0 * n + 0, none⟩ hc
theorem cell_new (W : World) (c : Value) (t : TypeId) (k : Nat) (h : k = W.heap.size) : (W.alloc (.cells #[c] t)).cell? ⟨k, 0, none⟩ = some c := by subst h; simp
theorem frozen_new (W : World) (c : Value) (t : TypeId) (k : Nat) (h : k = W.heap.size) : (W.alloc (.cells #[c] t)).frozen? ⟨k, 0, none⟩ = false := by subst h; simp
theorem ext_bytesWorld (w : World) (e : TypeId) (s : ByteArray) : Ext w (Lib.bytesWorld w e s) := ⟨rfl, rfl, rfl, by rw [Lib.bytesWorld_size]; omega, fun j hj => Lib.bytesWorld_at_old w e s j hj⟩

theorem SL.part {w : World} {b o cap : Nat} {all : List UInt8} (h : SL w 1 (some ⟨b, o, none⟩) cap (br all)) {p u : Nat} (hu : p + u ≤ all.length) : SL w 1 (some ⟨b, o + p, none⟩) (cap - p) (br ((all.drop p).take u)) := by
  have hle := h.le
  rw [br_length] at hle
  refine ⟨by rw [br_length]; simp; omega, by have := h.max; omega, by simp, fun r hr => ?_, fun i j r v hr hv => ?_⟩
  · rw [br_take, br_drop] at hr
    exact h.wid r (List.mem_of_mem_drop (List.mem_of_mem_take hr))
  · rw [br_take, br_drop, List.getElem?_take] at hr
    split at hr
    · rw [List.getElem?_drop] at hr
      obtain ⟨b', o', e, hc⟩ := h.cells (p + i) j r v hr hv
      cases e
      exact ⟨b, o + p, rfl, by rw [show o + p + i * 1 + j = o + (p + i) * 1 + j by omega]; exact hc⟩
    · cases hr
theorem list_of {α β : Type} {R : Nat → α → β → Prop} : ∀ (n : Nat), (∀ i, i < n → ∃ a b, R i a b) → ∃ (la : List α) (bs : List β), la.length = n ∧ bs.length = n ∧ ∀ (i : Nat) (a : α) (b : β), la[i]? = some a → bs[i]? = some b → R i a b := by
  intro n
  induction n with
  | zero => intro _; exact ⟨[], [], rfl, rfl, fun i a b h => by simp at h⟩
  | succ n ih =>
    intro h
    obtain ⟨la, bs, h1, h2, h3⟩ := ih fun i hi => h i (by omega)
    obtain ⟨a, b, hab⟩ := h n (by omega)
    refine ⟨la ++ [a], bs ++ [b], by simp [h1], by simp [h2], fun i x y hx hy => ?_⟩
    rcases Nat.lt_or_ge i n with hi | hi
    · rw [List.getElem?_append_left (by omega)] at hx hy
      exact h3 i x y hx hy
    · have hi2 : i = n := by
        have := (List.getElem?_eq_some_iff.1 hx).1
        simp at this
        omega
      subst hi2
      rw [List.getElem?_append_right (by omega)] at hx hy
      simp [h1] at hx
      simp [h2] at hy
      subst hx hy
      exact hab

theorem wf_i64 {n : Int} (h : (Lit.int .i64 n).wf = true) : inI64 n := by
  have hmin : IntKind.i64.min = -9223372036854775808 := by decide
  simp [Lit.wf, hmin] at h
  exact h
theorem sl_of_cells {w : World} {a : Addr} {len cap n : Nat} {rows : List (List Value)} (hn : 0 < n) (hl : len ≤ cap) (hc : cap ≤ maxLen) (hrl : rows.length = len) (hr : ∀ (i : Nat) (r : List Value), rows[i]? = some r → w.cells? 0 (a.add (i * n)) n = some r) : SL w n (some a) cap rows := by
  refine ⟨by omega, by unfold maxLen at hc; omega, by simp, fun r hr' => ?_, fun i j r v h1 h2 => ?_⟩
  · obtain ⟨i, hi, rfl⟩ := List.mem_iff_getElem.1 hr'
    exact (World.cells?_some (hr i _ (List.getElem?_eq_getElem hi))).2.1
  · obtain ⟨_, h3, h4⟩ := World.cells?_some (hr i r h1)
    have hj : j < n := by have := (List.getElem?_eq_some_iff.1 h2).1; omega
    have h5 := h4 j hj
    rw [h2] at h5
    obtain ⟨b, o, sp⟩ := a
    have hsp : sp = none := by
      match rows, h1, hr with
      | [], h1, hr => simp at h1
      | r0 :: rs, h1, hr =>
        obtain ⟨_, g3, g4⟩ := World.cells?_some (hr 0 r0 rfl)
        match r0, g3, g4 with
        | [], g3, g4 => simp at g3; omega
        | u :: us, g3, g4 =>
          have g5 := g4 0 hn
          have := World.cell?_spot (v := u) (by simpa using g5)
          simpa [Addr.add] using this
    subst hsp
    refine ⟨b, o, rfl, ?_⟩
    rw [Addr.add_lit, Addr.add_lit] at h5
    exact h5

theorem ownsRow_slice {w : World} {base e size n : Nat} {v : Value} {xs : List Value} (h : w.ownsRow base e size v n xs) : ∃ ao cap, v = .slice ao n cap := by
  rcases h.2 with ⟨rfl, rfl⟩ | ⟨g, cap, cur, rfl, _⟩
  · exact ⟨none, 0, rfl⟩
  · exact ⟨_, cap, rfl⟩

/-- two cells, and a variable of two cells -/
structure Box2 (w : World) (B : Nat) (k l : Value) : Prop where
  c0 : w.cell? ⟨B, 0, none⟩ = some k
  c1 : w.cell? ⟨B, 1, none⟩ = some l
  z : ∀ i, w.frozen? ⟨B, i, none⟩ = false
theorem Box2.lt {w : World} {B : Nat} {k l : Value} (h : Box2 w B k l) : B < w.heap.size := World.block_lt_of_cell? _ _ h.c0
theorem Box2.new (w : World) (k l : Value) (t : TypeId) : Box2 (w.alloc (.cells #[k, l] t)) w.heap.size k l := ⟨by simp, by simp, fun i => by simp⟩
theorem Box2.new' (w : World) (k l : Value) (t : TypeId) (g : Nat) (hg : g = w.heap.size) : Box2 (w.alloc (.cells #[k, l] t)) g k l := by subst hg; exact Box2.new w k l t
theorem Box2.keep {w w' : World} {B : Nat} {k l : Value} (h : Box2 w B k l) (hk : w'.heap[B]? = w.heap[B]?) : Box2 w' B k l :=
  ⟨(World.cell?_of_block (w := w) (a := ⟨B, 0, none⟩) hk).trans h.c0, (World.cell?_of_block (w := w) (a := ⟨B, 1, none⟩) hk).trans h.c1, fun i => (World.frozen?_of_block (w := w) (a := ⟨B, i, none⟩) hk).trans (h.z i)⟩
theorem Box2.ext {w w' : World} {B : Nat} {k l : Value} (h : Box2 w B k l) (hE : Ext w w') : Box2 w' B k l := h.keep (hE.block B h.lt)
theorem Box2.set0 {w : World} {B : Nat} {k l : Value} (h : Box2 w B k l) (u : Value) : Box2 (w.setCell ⟨B, 0, none⟩ u) B u l :=
  ⟨World.cell?_setCell_same' _ _ _ (by rw [h.c0]; rfl), (World.cell?_setCell_other _ _ _ _ (by simp)).trans h.c1, fun i => by simpa using h.z i⟩
theorem Box2.set1 {w : World} {B : Nat} {k l : Value} (h : Box2 w B k l) (u : Value) : Box2 (w.setCell ⟨B, 1, none⟩ u) B k u :=
  ⟨(World.cell?_setCell_other _ _ _ _ (by simp)).trans h.c0, World.cell?_setCell_same' _ _ _ (by rw [h.c1]; rfl), fun i => by simpa using h.z i⟩
/-- a variable of three cells -/
structure Box3 (w : World) (B : Nat) (k l m : Value) : Prop where
  c0 : w.cell? ⟨B, 0, none⟩ = some k
  c1 : w.cell? ⟨B, 1, none⟩ = some l
  c2 : w.cell? ⟨B, 2, none⟩ = some m
  z : ∀ i, w.frozen? ⟨B, i, none⟩ = false
theorem Box3.lt {w : World} {B : Nat} {k l m : Value} (h : Box3 w B k l m) : B < w.heap.size := World.block_lt_of_cell? _ _ h.c0
theorem Box3.new (w : World) (k l m : Value) (t : TypeId) : Box3 (w.alloc (.cells #[k, l, m] t)) w.heap.size k l m := ⟨by simp, by simp, by simp, fun i => by simp⟩
theorem Box3.new' (w : World) (k l m : Value) (t : TypeId) (g : Nat) (hg : g = w.heap.size) : Box3 (w.alloc (.cells #[k, l, m] t)) g k l m := by subst hg; exact Box3.new w k l m t
theorem Box3.keep {w w' : World} {B : Nat} {k l m : Value} (h : Box3 w B k l m) (hk : w'.heap[B]? = w.heap[B]?) : Box3 w' B k l m :=
  ⟨(World.cell?_of_block (w := w) (a := ⟨B, 0, none⟩) hk).trans h.c0, (World.cell?_of_block (w := w) (a := ⟨B, 1, none⟩) hk).trans h.c1, (World.cell?_of_block (w := w) (a := ⟨B, 2, none⟩) hk).trans h.c2, fun i => (World.frozen?_of_block (w := w) (a := ⟨B, i, none⟩) hk).trans (h.z i)⟩
theorem Box3.ext {w w' : World} {B : Nat} {k l m : Value} (h : Box3 w B k l m) (hE : Ext w w') : Box3 w' B k l m := h.keep (hE.block B h.lt)
theorem Box3.set0 {w : World} {B : Nat} {k l m : Value} (h : Box3 w B k l m) (u : Value) : Box3 (w.setCell ⟨B, 0, none⟩ u) B u l m :=
  ⟨World.cell?_setCell_same' _ _ _ (by rw [h.c0]; rfl), (World.cell?_setCell_other _ _ _ _ (by simp)).trans h.c1, (World.cell?_setCell_other _ _ _ _ (by simp)).trans h.c2, fun i => by simpa using h.z i⟩
theorem Box3.set1 {w : World} {B : Nat} {k l m : Value} (h : Box3 w B k l m) (u : Value) : Box3 (w.setCell ⟨B, 1, none⟩ u) B k u m :=
  ⟨(World.cell?_setCell_other _ _ _ _ (by simp)).trans h.c0, World.cell?_setCell_same' _ _ _ (by rw [h.c1]; rfl), (World.cell?_setCell_other _ _ _ _ (by simp)).trans h.c2, fun i => by simpa using h.z i⟩
theorem Box3.set2 {w : World} {B : Nat} {k l m : Value} (h : Box3 w B k l m) (u : Value) : Box3 (w.setCell ⟨B, 2, none⟩ u) B k l u :=
  ⟨(World.cell?_setCell_other _ _ _ _ (by simp)).trans h.c0, (World.cell?_setCell_other _ _ _ _ (by simp)).trans h.c1, World.cell?_setCell_same' _ _ _ (by rw [h.c2]; rfl), fun i => by simpa using h.z i⟩
theorem three_cells {W : World} {b : Nat} {x0 x1 x2 : Value} (h0 : W.cell? ⟨b, 0, none⟩ = some x0) (h1 : W.cell? ⟨b, 1, none⟩ = some x1) (h2 : W.cell? ⟨b, 2, none⟩ = some x2) :
    ∀ (j : Nat) (u : Value), [x0, x1, x2][j]? = some u → W.cell? ((⟨b, 0, none⟩ : Addr).add j) = some u := by
  intro j u hj
  rw [Addr.add_lit]
  match j with
  | 0 => simp at hj; subst hj; exact h0
  | 1 => simp at hj; subst hj; exact h1
  | 2 => simp at hj; subst hj; exact h2
  | j + 3 => simp at hj
theorem two_cells {W : World} {b : Nat} {x0 x1 : Value} (h0 : W.cell? ⟨b, 0, none⟩ = some x0) (h1 : W.cell? ⟨b, 1, none⟩ = some x1) :
    ∀ (j : Nat) (u : Value), [x0, x1][j]? = some u → W.cell? ((⟨b, 0, none⟩ : Addr).add j) = some u := by
  intro j u hj
  rw [Addr.add_lit]
  match j with
  | 0 => simp at hj; subst hj; exact h0
  | 1 => simp at hj; subst hj; exact h1
  | j + 2 => simp at hj
/-- a part of a slice, whatever its rows' width -/
theorem SL.sub {w : World} {n b o cap : Nat} {rows : List (List Value)} (h : SL w n (some ⟨b, o, none⟩) cap rows) {p u : Nat} (hu : p + u ≤ rows.length) : SL w n (some ⟨b, o + p * n, none⟩) (cap - p) ((rows.drop p).take u) := by
  have hle := h.le
  refine ⟨by simp; omega, by have := h.max; omega, by simp, fun r hr => h.wid r (List.mem_of_mem_drop (List.mem_of_mem_take hr)), fun i j r v hr hv => ?_⟩
  rw [List.getElem?_take] at hr
  split at hr
  · rw [List.getElem?_drop] at hr
    obtain ⟨b', o', e, hc⟩ := h.cells (p + i) j r v hr hv
    cases e
    refine ⟨b, o + p * n, rfl, ?_⟩
    rw [show o + p * n + i * n + j = o + (p + i) * n + j by rw [Nat.add_mul]; omega]
    exact hc
  · cases hr
end Go.Sz
