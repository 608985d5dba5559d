/- Plain facts on worlds that only grow, on slices read as rows of cells, and on regions whose order is drawn while callees only make new memory. No program in sight. -/
import Derived.WalkKit
import Derived.WalkLawsBesides
import Derived.WalkSpells
import Derived.Outline
import Derived.Deep.QuietTactic
import Derived.BigQuiet
import Derived.RegionTactic
import Derived.Deep.RegionHeld3
import Derived.Deep.MidRow
import Derived.LoopTactic
import Derived.Lib.Hide
import Derived.Deep.AppendSrc
import Derived.Deep.AppendLies
import Derived.OwnWalk
import Derived.Defers
import Derived.Handy
import Derived.Laws.Alloc2
import Derived.Laws.NewBlocks
import Derived.Laws.EntriesVeiled
import Derived.Deep.RegionLaw
import Derived.Lib.ConvBytes
import Derived.ProofKit
import Derived.ChangeMaps5
import Derived.OrdersIn
import Derived.ControlIn
import Derived.TacticsIn
import Derived.Lib.AppendZeros
import Derived.Lib.Overlaps
import Derived.Laws.CopyRow
namespace Go.Sz
open Go.RowKit

/-- w' is w with new blocks (and draws) alone. -/
abbrev Ext (w w' : World) : Prop := Below w.heap.size w w'

theorem Ext.refl (w : World) : Ext w w := Below.refl _ _
theorem Ext.trans {a b c : World} (h : Ext a b) (k : Ext b c) : Ext a c := Below.trans h (Below.mono k h.size)
theorem Ext.alloc {a b : World} (h : Ext a b) (o : Obj) : Ext a (b.alloc o) := Below.alloc h h.size o
theorem Ext.drew {a b : World} (h : Ext a b) : Ext a b.drew := Below.drew h
theorem Ext.drewN {a b : World} (h : Ext a b) (n : Nat) : Ext a (b.drewN n) := ⟨h.os, h.tape, h.output, h.size, h.block⟩
theorem Ext.setCell {a b : World} (h : Ext a b) {p : Addr} (hp : a.heap.size ≤ p.block) (u : Value) : Ext a (b.setCell p u) := Below.setCell h hp u
theorem Ext.cell {a b : World} (h : Ext a b) {p : Addr} {v : Value} (hv : a.cell? p = some v) : b.cell? p = some v :=
  (Below.cell h (World.block_lt_of_cell? _ _ hv)).trans hv
theorem Ext.below {a b c : World} {B : Nat} (h : Below B a b) (hB : B ≤ a.heap.size) (k : Ext b c) : Below B a c :=
  h.trans (k.mono (Nat.le_trans hB h.size))

/-- What a world has grown by: new blocks, and where the tape now stands. -/
structure More where
  blocks : Array Obj
  drawn : Nat

instance : Nonempty More := ⟨⟨#[], 0⟩⟩

/-- w with the blocks X behind its own, and a count of draws. -/
def _root_.Go.World.grow (w : World) (X : More) : World := { w with heap := w.heap ++ X.blocks, drawn := X.drawn }

theorem ext_grow (w : World) (X : More) : Ext w (w.grow X) :=
  ⟨rfl, rfl, rfl, by simp [World.grow], fun k hk => by simp [World.grow, Array.getElem?_append, hk]⟩

theorem Ext.grow {w w' : World} (h : Ext w w') : ∃ X, w' = w.grow X := by
  refine ⟨⟨w'.heap.extract w.heap.size w'.heap.size, w'.drawn⟩, ?_⟩
  have hh : w'.heap = w.heap ++ w'.heap.extract w.heap.size w'.heap.size := by
    apply Array.ext_getElem?
    intro i
    by_cases hi : i < w.heap.size
    · rw [Array.getElem?_append_left hi]; exact h.block i hi
    · rw [Array.getElem?_append_right (by omega)]
      have e : w.heap.size + (i - w.heap.size) = i := by omega
      rw [Array.getElem?_extract, e]
      by_cases hj : i < w'.heap.size
      · rw [if_pos (by omega)]
      · rw [if_neg (by omega)]
        exact Array.getElem?_eq_none (by omega)
  obtain ⟨hp, tp, dr, os, out⟩ := w'
  obtain ⟨hp0, tp0, dr0, os0, out0⟩ := w
  have h1 := h.os; have h2 := h.tape; have h3 := h.output
  simp only at h1 h2 h3 hh
  subst h1; subst h2; subst h3
  simp only [World.grow]
  congr 1

theorem grow_grow (w : World) (X Y : More) : (w.grow X).grow Y = w.grow ⟨X.blocks ++ Y.blocks, Y.drawn⟩ := by simp [World.grow, Array.append_assoc]

/-- The quiet walk (Derived/Deep/Quiet.lean) at the class 'w with new blocks': callees that hand back a plain value and make memory are quiet. -/
theorem wp_region_grow_lit {P : Program} {id : Nat} {Q : Exit → Act → World → Prop} {a : Act} {w : World} {l : List Oper} (hm : P.follows .mixedOrders = true) (hB : Region.lexB .any l.toArray = true)
    (h : wpQuiet P l.toArray (fun w' => ∃ X, w' = w.grow X) (fun a' => ∀ w', (∃ X, w' = w.grow X) → Q .normal a' w') l a) : (Code.region id l.toArray true).wp P Q a w :=
  wp_region_quiet (C := fun w' => ∃ X, w' = w.grow X) hm hB (Ext.grow ⟨rfl, rfl, rfl, Nat.le_refl _, fun _ _ => rfl⟩) (by simpa using h)

theorem Calls.grow_of {P : Program} {f : FuncId} {args : Array Value} {w : World} {X : More} {v : Value}
    (h : Calls P f args (w.grow X) fun e w' => e = .returned v ∧ Ext (w.grow X) w') : Calls P f args (w.grow X) fun e w'' => e = .returned v ∧ ∃ Y, w'' = w.grow Y :=
  h.mono fun _ _ ⟨he, hx⟩ => ⟨he, by obtain ⟨Y, rfl⟩ := Ext.grow hx; exact ⟨_, grow_grow _ _ _⟩⟩

theorem Calls.grow_of_same {P : Program} {f : FuncId} {args : Array Value} {w : World} {X : More} {v : Value}
    (h : Calls P f args (w.grow X) fun e w' => e = .returned v ∧ w.grow X = w') : Calls P f args (w.grow X) fun e w'' => e = .returned v ∧ ∃ Y, w'' = w.grow Y :=
  h.mono fun _ _ ⟨he, hx⟩ => ⟨he, X, hx.symm⟩

/-- A slice's value, read as rows of n cells each. -/
structure SL (w : World) (n : Nat) (ao : Option Addr) (cap : Nat) (rows : List (List Value)) : Prop where
  le : rows.length ≤ cap
  max : cap ≤ 9223372036854775807
  nil : ao = none → cap = 0
  wid : ∀ r ∈ rows, r.length = n
  cells : ∀ (i j : Nat) (r : List Value) (v : Value), rows[i]? = some r → r[j]? = some v → ∃ b o, ao = some ⟨b, o, none⟩ ∧ w.cell? ⟨b, o + i * n + j, none⟩ = some v

theorem SL.ext {w w' : World} {n : Nat} {ao : Option Addr} {cap : Nat} {rows : List (List Value)} (h : SL w n ao cap rows) (hx : Ext w w') : SL w' n ao cap rows :=
  ⟨h.le, h.max, h.nil, h.wid, fun i j r v hr hv => let ⟨b, o, e, hc⟩ := h.cells i j r v hr hv; ⟨b, o, e, hx.cell hc⟩⟩

theorem SL.empty (w : World) (n : Nat) : SL w n none 0 [] := ⟨Nat.le_refl _, by omega, fun _ => rfl, by simp, by simp⟩

/-- Where there is an element, there is an address. -/
theorem SL.at {w : World} {n : Nat} {ao : Option Addr} {cap : Nat} {rows : List (List Value)} (h : SL w n ao cap rows) (hn : 0 < n) (i : Nat) (hi : i < rows.length) :
    ∃ b o, ao = some ⟨b, o, none⟩ ∧ b < w.heap.size := by
  have hr := List.getElem?_eq_getElem hi
  have hl := h.wid _ (List.getElem_mem hi)
  obtain ⟨b, o, e, hc⟩ := h.cells i 0 _ _ hr (List.getElem?_eq_getElem (by omega))
  exact ⟨b, o, e, World.block_lt_of_cell? _ _ hc⟩

theorem SL.cellAt {w : World} {n : Nat} {b o : Nat} {cap : Nat} {rows : List (List Value)} (h : SL w n (some ⟨b, o, none⟩) cap rows) {i j : Nat} {r : List Value} {v : Value} (hr : rows[i]? = some r) (hv : r[j]? = some v) :
    w.cell? ⟨b, o + i * n + j, none⟩ = some v := by
  obtain ⟨b', o', e, hc⟩ := h.cells i j r v hr hv
  cases e
  exact hc

theorem SL.range {w : World} {n : Nat} {b o : Nat} {cap : Nat} {rows : List (List Value)} (h : SL w n (some ⟨b, o, none⟩) cap rows) {i : Nat} {r : List Value} (hr : rows[i]? = some r) :
    w.rangeAt b (o + i * n) r := fun _ _ hv => h.cellAt hr hv


/-- w' is w but for the block that v owned and new blocks; what v' owns is what v owned, or new. -/
structure Grows (w : World) (v : Value) (w' : World) (v' : Value) : Prop where
  by_ : w.grownBy w' v.ownBlock
  own : ∀ k, v'.ownBlock = some k → v.ownBlock = some k ∨ w.heap.size ≤ k

theorem Grows.refl (w : World) (v : Value) : Grows w v w v := ⟨⟨rfl, rfl, rfl, Nat.le_refl _, fun _ _ _ => rfl⟩, fun _ h => .inl h⟩

theorem Grows.trans {w w1 w2 : World} {v v1 v2 : Value} (h : Grows w v w1 v1) (k : Grows w1 v1 w2 v2) : Grows w v w2 v2 := by
  refine ⟨⟨k.by_.os.trans h.by_.os, k.by_.tape.trans h.by_.tape, k.by_.output.trans h.by_.output, Nat.le_trans h.by_.size k.by_.size, fun j hj hne => ?_⟩, fun j hj => ?_⟩
  · rw [k.by_.block j (Nat.lt_of_lt_of_le hj h.by_.size) (fun e => ?_)]
    · exact h.by_.block j hj hne
    · rcases h.own j e.symm with h1 | h1
      · exact hne h1.symm
      · omega
  · rcases k.own j hj with h1 | h1
    · exact h.own j h1
    · exact .inr (Nat.le_trans h.by_.size h1)

/-- New blocks alone, ahead. -/
theorem Grows.ext_left {w w1 w2 : World} {v v2 : Value} (h : Ext w w1) (k : Grows w1 v w2 v2) : Grows w v w2 v2 := by
  refine ⟨⟨k.by_.os.trans h.os, k.by_.tape.trans h.tape, k.by_.output.trans h.output, Nat.le_trans h.size k.by_.size, fun j hj hne => ?_⟩, fun j hj => ?_⟩
  · rw [k.by_.block j (Nat.lt_of_lt_of_le hj h.size) hne]
    exact h.block j hj
  · rcases k.own j hj with h1 | h1
    · exact .inl h1
    · exact .inr (Nat.le_trans h.size h1)

theorem Grows.ext_right {w w1 w2 : World} {v v1 : Value} (h : Grows w v w1 v1) (k : Ext w1 w2) : Grows w v w2 v1 :=
  h.trans ⟨⟨k.os, k.tape, k.output, k.size, fun j hj _ => k.block j hj⟩, fun _ h => .inl h⟩

theorem Grows.below {w w' : World} {v v' : Value} {B : Nat} (h : Grows w v w' v') (hB : B ≤ w.heap.size) (hv : ∀ k, v.ownBlock = some k → B ≤ k) : Below B w w' :=
  (Below.refl B w).grown h.by_ hB hv

/-- From nil on: nothing that was there has turned. -/
theorem Grows.ext {w w' : World} {v v' : Value} (h : Grows w v w' v') (hv : ∀ k, v.ownBlock = some k → w.heap.size ≤ k) : Ext w w' := h.below (Nat.le_refl _) hv

theorem ownsRow_ext {w w' : World} {base e size n : Nat} {v : Value} {xs : List Value} (h : w.ownsRow base e size v n xs) (hx : Ext w w') : w'.ownsRow base e size v n xs := by
  refine ⟨h.1, ?_⟩
  rcases h.2 with hn | ⟨g, cap, cur, rfl, hb, hgg, rest⟩
  · exact .inl hn
  · exact .inr ⟨g, cap, cur, rfl, hb, by rw [hx.block g (Array.getElem?_eq_some_iff.1 hgg).1]; exact hgg, rest⟩

theorem ownsRow_base {w : World} {base base' e size n : Nat} {v : Value} {xs : List Value} (h : w.ownsRow base e size v n xs) (hb : base' ≤ base) : w.ownsRow base' e size v n xs :=
  ⟨h.1, h.2.imp id fun ⟨g, cap, cur, a, b, c⟩ => ⟨g, cap, cur, a, Nat.le_trans hb b, c⟩⟩

theorem ownsRow_rebase {w : World} {base base' e size n : Nat} {v : Value} {xs : List Value} (h : w.ownsRow base e size v n xs) (hb : ∀ k, v.ownBlock = some k → base' ≤ k) : w.ownsRow base' e size v n xs :=
  ⟨h.1, h.2.imp id fun ⟨g, cap, cur, a, b, c⟩ => ⟨g, cap, cur, a, hb g (by rw [a]; rfl), c⟩⟩

/-- An owned row, read. -/
theorem SL.of_owns {w : World} {base e size n : Nat} {v : Value} {rows : List (List Value)} (h : w.ownsRow base e size v n rows.flatten) (hw : ∀ r ∈ rows, r.length = size) (hn : rows.length = n) :
    ∃ ao cap, v = .slice ao rows.length cap ∧ SL w size ao cap rows ∧ (∀ a, ao = some a → v.ownBlock = some a.block) := by
  rcases h.2 with ⟨rfl, h0⟩ | ⟨g, cap, cur, rfl, hb, hg, hc, hm, hcs, ht⟩
  · have : rows = [] := List.eq_nil_of_length_eq_zero (by omega)
    subst this
    exact ⟨none, 0, by simp, SL.empty _ _, by simp⟩
  · refine ⟨some ⟨g, 0, none⟩, cap, by rw [hn], ⟨by omega, by unfold maxLen at hm; omega, by simp, hw, fun i j r u hr hu => ⟨g, 0, rfl, ?_⟩⟩, fun a ha => by cases ha; rfl⟩
    have hi : i < rows.length := (List.getElem?_eq_some_iff.1 hr).1
    have hj : j < r.length := (List.getElem?_eq_some_iff.1 hu).1
    have hr' : r.length = size := hw r (List.mem_of_getElem? hr)
    have hfl : rows.flatten[i * size + j]? = some u := by
      clear ht hcs hn h
      induction rows generalizing i with
      | nil => simp at hr
      | cons x xs ih =>
        have hx : x.length = size := hw x (by simp)
        cases i with
        | zero =>
          simp at hr; subst hr
          rw [List.flatten_cons, Nat.zero_mul, Nat.zero_add, List.getElem?_append_left hj]
          exact hu
        | succ i =>
          simp only [List.getElem?_cons_succ] at hr
          have := ih (fun r h => hw r (by simp [h])) i hr (by simpa using hi)
          rw [List.flatten_cons, List.getElem?_append_right (by rw [hx, Nat.add_mul]; omega), hx]
          rw [show (i + 1) * size + j - size = i * size + j from by rw [Nat.add_mul]; omega]
          exact this
    have hcells := h.cells (g := g) rfl (i * size + j) u hfl
    have hadd : (⟨g, 0, none⟩ : Addr).add (i * size + j) = ⟨g, 0 + i * size + j, none⟩ := by
      unfold Addr.add; split
      · simp_all
      · simp
    rw [hadd] at hcells
    exact hcells

section
variable {P : Program}

theorem run_append_src_own (w : World) (base : Nat) (t tx ty e : TypeId) (i : TypeInfo) (z : Value) (size bytes : Nat) (ht : P.underlying t = some (.slice e)) (hi : P.info? e = some i) (hz : i.zero = some z)
    (hsize : i.size = size) (hby : i.bytes = bytes) (hzs : z.cells.size = size)
    (v : Value) (n : Nat) (xs : List Value) (hown : w.ownsRow base e size v n xs)
    (sv : Value) (m : Nat) (news : List Value) (hs : Src P size tx sv m news w)
    (h63 : n + m ≤ maxLen) (hbytes : (n + m) * bytes ≤ 140737488355328) (hbase : base ≤ w.heap.size) :
    ∃ v' w', (Builtin.append_ #[t, tx] ty #[v, sv]).run P w = .ok v' w' ∧ w'.ownsRow base e size v' (n + m) (xs ++ news) ∧ Grows w v w' v' := by
  subst hsize
  subst hby
  have hsmall : n + m ≤ 9223372036854775807 := by simp only [maxLen] at h63; omega
  have hlen : (xs ++ news).length = (n + m) * i.size := by rw [List.length_append, hown.1, hs.newsLen, Nat.add_mul]
  have grown : ∀ (old : Nat), old < n + m → ∀ (v : Value),
      (w.drew.alloc (.cells ((xs ++ news).toArray ++ Builtin.zeroCells z.cells (grownCap w (n + m) old e - (n + m))) e)).ownsRow base e i.size
        (.slice (some ⟨w.heap.size, 0, none⟩) (n + m) (grownCap w (n + m) old e)) (n + m) (xs ++ news) ∧
      Grows w v (w.drew.alloc (.cells ((xs ++ news).toArray ++ Builtin.zeroCells z.cells (grownCap w (n + m) old e - (n + m))) e)) (.slice (some ⟨w.heap.size, 0, none⟩) (n + m) (grownCap w (n + m) old e)) := by
    intro old ho v
    have hge := grownCap_ge w (n + m) old e
    have hcm : grownCap w (n + m) old e ≤ maxLen := grownCap_le_maxLen w (n + m) old e h63
    refine ⟨⟨hlen, .inr ⟨w.heap.size, _, _, rfl, hbase, heap_alloc_new w.drew _, hge, hcm, ?_, ?_⟩⟩, ⟨⟨rfl, rfl, rfl, by simp, fun k hk _ => Below.heap_alloc w.drew _ k (by simpa using hk)⟩, fun k hk => ?_⟩⟩
    · simp only [Array.size_append, List.size_toArray, size_zeroCells, hzs, hlen, ← Nat.add_mul]
      congr 1
      omega
    · simp only [Array.toList_append]
      rw [← hlen]
      exact List.take_left
    · simp [Value.ownBlock] at hk; omega
  rcases hown.2 with ⟨rfl, rfl⟩ | ⟨g, cap, cur, rfl, hbg, hg, hnc, hcm, hcs, htake⟩
  · have hx : xs = [] := List.eq_nil_of_length_eq_zero (by simpa using hown.1)
    subst hx
    by_cases hm : m = 0
    · subst hm
      have hn : news = [] := List.eq_nil_of_length_eq_zero (by simpa using hs.newsLen)
      subst hn
      refine ⟨.slice none 0 0, w, ?_, World.ownsRow_nil w base e i.size, Grows.refl _ _⟩
      rcases hs.kind with ⟨e', hk⟩ | hk <;> simp [Builtin.append_, run_underlying ht, run_underlying hk, sizeOf, typeInfo, hi, hs.len, hs.cells]
    · have hr := run_append_grow_src (P := P) w t tx ty e i z ht hi hz none 0 0 [] (run_firstCells_none w.drew i.size 0 0 0) sv m news hs (by omega) (by omega)
        (by rw [nextslicecap_zero (by omega)]; omega)
      have hgr := grown 0 (by omega) (.slice none 0 0)
      exact ⟨_, _, hr, hgr.1, hgr.2⟩
  · by_cases hroom : n + m ≤ cap
    · have hfit : n * i.size + news.length ≤ cur.size := by rw [hs.newsLen, hcs, ← Nat.add_mul]; exact Nat.mul_le_mul_right _ hroom
      have hst := run_storeCells_at P g (n * i.size) e news 0 cur w hg (by simpa using hfit) hs.one
      simp only [Nat.add_zero] at hst
      have hr : (Builtin.append_ #[t, tx] ty #[.slice (some ⟨g, 0, none⟩) n cap, sv]).run P w =
          .ok (.slice (some ⟨g, 0, none⟩) (n + m) cap) (w.setRow g (cur.toList.take (n * i.size) ++ news ++ cur.toList.drop (n * i.size + news.length)).toArray) := by
        rcases hs.kind with ⟨e', hk⟩ | hk <;> simp [Builtin.append_, run_underlying ht, run_underlying hk, sizeOf, typeInfo, hi, hs.len, hroom, hs.cells, Addr.add_lit, hst]
      refine ⟨_, _, hr, ⟨hlen, .inr ⟨g, cap, _, rfl, hbg, setRow_heap w g cur _ e _ hg, hroom, hcm, ?_, ?_⟩⟩, ⟨⟨rfl, rfl, rfl, by simp, fun k _ hk => setRow_other w g k _ (fun e => hk (by simp [Value.ownBlock, e]))⟩, fun k hk => .inl (by simpa [Value.ownBlock] using hk)⟩⟩
      · simp only [List.size_toArray, List.length_append, List.length_take, List.length_drop, Array.length_toList]
        omega
      · rw [htake, ← hlen]
        exact List.take_left
    · have holds : ∀ j u, xs[j]? = some u → w.cell? ((⟨g, 0, none⟩ : Addr).add j) = some u := hown.cells (g := g) rfl
      have hr := run_append_grow_src (P := P) w t tx ty e i z ht hi hz (some ⟨g, 0, none⟩) n cap xs (run_firstCells_some w.drew i.size n ⟨g, 0, none⟩ n cap xs hown.1 (by simpa using holds)) sv m news hs (by omega) (by omega) (growslice_fits (by omega) hbytes)
      have hgr := grown cap (by omega) (.slice (some ⟨g, 0, none⟩) n cap)
      exact ⟨_, _, hr, hgr.1, hgr.2⟩

/-- append, at the operation. -/
theorem wp_append_S {o : Oper} {a : Act} {w : World} {K : Act → World → Prop} {Q : Exit → Act → World → Prop} (s x : Operand) (t tx : TypeId)
    (ho : o.op = .call { callee := .builtin .append, args := #[s, x], argTypes := #[t, tx] })
    (base : Nat) (e : TypeId) (i : TypeInfo) (z : Value) (size bytes : Nat) (ht : P.underlying t = some (.slice e)) (hi : P.info? e = some i) (hz : i.zero = some z)
    (hsize : i.size = size) (hby : i.bytes = bytes) (hzs : z.cells.size = size)
    (v : Value) (n : Nat) (xs : List Value) (hv : a.eval s = v) (hown : w.ownsRow base e size v n xs)
    (sv : Value) (m : Nat) (news : List Value) (hx : a.eval x = sv) (hs : Src P size tx sv m news w)
    (h63 : n + m ≤ maxLen) (hbytes : (n + m) * bytes ≤ 140737488355328) (hbase : base ≤ w.heap.size)
    (h : ∀ v' w', w'.ownsRow base e size v' (n + m) (xs ++ news) → Grows w v w' v' → K (a.put o.dst v') w') : o.wp P a w K Q := by
  obtain ⟨v', w', hr, h2, h3⟩ := run_append_src_own (P := P) w base t tx o.type e i z size bytes ht hi hz hsize hby hzs v n xs hown sv m news hs h63 hbytes hbase
  unfold Oper.wp execOp
  simp only [ho, resolve, invoke, builtin, Sem.run_bind, Sem.run_pure, Result.andThen_ok, List.map_toArray, List.map_cons, List.map_nil, hv, hx, hr]
  exact h v' w' h2 h3

theorem wpList_append_S {ops : Array Oper} {rest : List Oper} {o : Oper} {a : Act} {w : World} {Q : Exit → Act → World → Prop} (hgd : o.guard = none) (s x : Operand) (t tx : TypeId)
    (ho : o.op = .call { callee := .builtin .append, args := #[s, x], argTypes := #[t, tx] })
    (base : Nat) (e : TypeId) (i : TypeInfo) (z : Value) (size bytes : Nat) (ht : P.underlying t = some (.slice e)) (hi : P.info? e = some i) (hz : i.zero = some z)
    (hsize : i.size = size) (hby : i.bytes = bytes) (hzs : z.cells.size = size)
    (v : Value) (n : Nat) (xs : List Value) (hv : a.eval s = v) (hown : w.ownsRow base e size v n xs)
    (sv : Value) (m : Nat) (news : List Value) (hx : a.eval x = sv) (hs : Src P size tx sv m news w)
    (h63 : n + m ≤ maxLen) (hbytes : (n + m) * bytes ≤ 140737488355328) (hbase : base ≤ w.heap.size)
    (h : ∀ v' w', w'.ownsRow base e size v' (n + m) (xs ++ news) → Grows w v w' v' → wpList P ops Q rest (a.put o.dst v') w') : wpList P ops Q (o :: rest) a w :=
  wpList_plain hgd fun _ hK => wp_append_S s x t tx ho base e i z size bytes ht hi hz hsize hby hzs v n xs hv hown sv m news hx hs h63 hbytes hbase fun v' w' h2 h3 => hK _ _ (h v' w' h2 h3)

/-- append, at a step of a region that draws. -/
theorem step_append_S {ops : Array Oper} {o : Oper} {a : Act} {w : World} {K : Act → World → Prop} {Q : Exit → Act → World → Prop} {E : Prop} (hgd : o.guard = none) (s x : Operand) (t tx : TypeId)
    (ho : o.op = .call { callee := .builtin .append, args := #[s, x], argTypes := #[t, tx] })
    (base : Nat) (e : TypeId) (i : TypeInfo) (z : Value) (size bytes : Nat) (ht : P.underlying t = some (.slice e)) (hi : P.info? e = some i) (hz : i.zero = some z)
    (hsize : i.size = size) (hby : i.bytes = bytes) (hzs : z.cells.size = size)
    (v : Value) (n : Nat) (xs : List Value) (hv : a.eval s = v) (hown : w.ownsRow base e size v n xs)
    (sv : Value) (m : Nat) (news : List Value) (hx : a.eval x = sv) (hs : Src P size tx sv m news w)
    (h63 : n + m ≤ maxLen) (hbytes : (n + m) * bytes ≤ 140737488355328) (hbase : base ≤ w.heap.size)
    (h : ∀ v' w', w'.ownsRow base e size v' (n + m) (xs ++ news) → Grows w v w' v' → K (a.put o.dst v') w') :
    if Region.wanted o (yielded ops a.tmps) = true then Oper.wp P o a w K Q else E := by
  have hw : Region.wanted o (yielded ops a.tmps) = true := by simp [Region.wanted, hgd]
  rw [if_pos hw]
  exact wp_append_S s x t tx ho base e i z size bytes ht hi hz hsize hby hzs v n xs hv hown sv m news hx hs h63 hbytes hbase h

/-- A slice that was read as rows, as what is appended. -/
theorem SL.src {w : World} {size : Nat} {ao : Option Addr} {cap : Nat} {rows : List (List Value)} (h : SL w size ao cap rows) (hsz : 0 < size) {tx e' : TypeId} (hk : P.underlying tx = some (.slice e')) (h1 : ∀ r ∈ rows, ∀ u ∈ r, u.oneCell' = true) :
    Src P size tx (.slice ao rows.length cap) rows.length rows.flatten w := by
  have hfl : ∀ (rows : List (List Value)), (∀ r ∈ rows, r.length = size) → rows.flatten.length = rows.length * size := by
    intro rows hw
    induction rows with
    | nil => simp
    | cons x xs ih => rw [List.flatten_cons, List.length_append, ih (fun r hr => hw r (by simp [hr])), hw x (by simp), List.length_cons, Nat.add_mul]; omega
  have hlen := hfl rows h.wid
  have one : ∀ u ∈ rows.flatten, u.oneCell' = true := fun u hu => by
    obtain ⟨r, hr, hu⟩ := List.mem_flatten.1 hu
    exact h1 r hr u hu
  cases rows with
  | nil => cases ao with
    | none => exact Src.ofNil w hk cap
    | some a => exact Src.ofSlice w hk a 0 cap [] (by simp) (by simp) (by simp)
  | cons x xs =>
    obtain ⟨b, o, rfl, hlt⟩ := h.at hsz 0 (by simp)
    refine Src.ofSlice w hk ⟨b, o, none⟩ _ cap _ hlen (fun j u hu => ?_) one
    rw [Addr.add_mid]
    have key : ∀ (rows : List (List Value)) (k : Nat), (∀ r ∈ rows, r.length = size) → (∀ i j r u, rows[i]? = some r → r[j]? = some u → w.cell? ⟨b, o + (k + i) * size + j, none⟩ = some u) → ∀ j u, rows.flatten[j]? = some u → w.cell? ⟨b, o + k * size + j, none⟩ = some u := by
      intro rows
      induction rows with
      | nil => intro k _ _ j u hu; simp at hu
      | cons x xs ih =>
        intro k hw hc j u hu
        have hx : x.length = size := hw x (by simp)
        rw [List.flatten_cons] at hu
        by_cases hj : j < x.length
        · rw [List.getElem?_append_left hj] at hu
          exact hc 0 j x u rfl hu
        · rw [List.getElem?_append_right (by omega)] at hu
          have := ih (k + 1) (fun r hr => hw r (by simp [hr])) (fun i j r u hr hu => by
            have := hc (i + 1) j r u (by simpa using hr) hu
            rwa [show k + (i + 1) = k + 1 + i from by omega] at this) (j - x.length) u hu
          rwa [show o + (k + 1) * size + (j - x.length) = o + k * size + j from by rw [Nat.add_mul, hx]; omega] at this
    have := key (x :: xs) 0 h.wid (fun i j r u hr hu => by
      have := h.cellAt hr hu
      simpa using this) j u hu
    simpa using this

end
end Go.Sz
namespace Go.Sz
open Go.RowKit Go.ChangeShapes Go.WideShapes
def inI64 (n : Int) : Prop := -9223372036854775808 ≤ n ∧ n ≤ 9223372036854775807

theorem SL.keep {w w' : World} {n : Nat} {ao : Option Addr} {cap : Nat} {rows : List (List Value)} (h : SL w n ao cap rows) (hk : ∀ a, ao = some a → rows ≠ [] → w'.heap[a.block]? = w.heap[a.block]?) : SL w' n ao cap rows :=
  ⟨h.le, h.max, h.nil, h.wid, fun i j r v hr hv => by
    obtain ⟨b, o, e, hc⟩ := h.cells i j r v hr hv
    refine ⟨b, o, e, ?_⟩
    exact (World.cell?_of_block (w := w) (a := ⟨b, o + i * n + j, none⟩) (hk ⟨b, o, none⟩ e (by rintro rfl; simp at hr))).trans hc⟩

theorem Grows.cell {w w' : World} {v v' : Value} (h : Grows w v w' v') {p : Addr} {u : Value} (hn : ∀ k, v.ownBlock = some k → k ≠ p.block) (hu : w.cell? p = some u) : w'.cell? p = some u := by
  have hlt := World.block_lt_of_cell? w p hu
  rw [World.cell?_of_block (w := w) (h.by_.block p.block hlt fun e => hn _ e.symm rfl)]
  exact hu
/-- v's own block is not B -/
abbrev NotBlk (v : Value) (B : Nat) : Prop := ∀ k, v.ownBlock = some k → k ≠ B
theorem Grows.notBlk {w w' : World} {v v' : Value} (h : Grows w v w' v') {B : Nat} (hB : B < w.heap.size) (hn : NotBlk v B) : NotBlk v' B := fun k hk => by
  rcases h.own k hk with h1 | h1
  · exact hn k h1
  · omega
theorem NotBlk.fresh {w : World} {base e size n : Nat} {v : Value} {xs : List Value} (h : w.ownsRow base e size v n xs) : NotBlk v w.heap.size := fun k hk => by
  rcases h.2 with ⟨rfl, _⟩ | ⟨g, cap, cur, rfl, hb, hg, _⟩
  · simp [Value.ownBlock] at hk
  · simp [Value.ownBlock] at hk
    subst hk
    have := (Array.getElem?_eq_some_iff.1 hg).1
    omega
theorem ownsRow_blocks {w : World} {base e size n : Nat} {v : Value} {xs : List Value} (h : w.ownsRow base e size v n xs) : ∀ k, v.ownBlock = some k → base ≤ k := fun k hk => by
  rcases h.2 with ⟨rfl, _⟩ | ⟨g, cap, cur, rfl, hb, _⟩
  · simp [Value.ownBlock] at hk
  · simp [Value.ownBlock] at hk
    subst hk
    exact hb

theorem one_cell {W : World} {b o : Nat} {x : Value} (h : W.cell? ⟨b, o, none⟩ = some x) : ∀ (j : Nat) (u : Value), [x][j]? = some u → W.cell? ((⟨b, o, none⟩ : Addr).add j) = some u := by
  intro j u hj
  cases j with
  | zero => simp at hj; subst hj; exact h
  | succ j => simp at hj

theorem u64_small (n : Int) (h : 0 ≤ n) (h2 : n ≤ 9223372036854775807) : IntKind.u64.wrap n = n := by simp [IntKind.wrap, IntKind.bits, IntKind.signed]; omega

/-- an owned row, as what is appended -/
theorem Src.ofOwn {P : Program} {w : World} {base e size n : Nat} {v : Value} {xs : List Value} (h : w.ownsRow base e size v n xs) {tx e' : TypeId} (hk : P.underlying tx = some (.slice e')) (h1 : ∀ u ∈ xs, u.oneCell' = true) : Src P size tx v n xs w := by
  rcases h.2 with ⟨rfl, rfl⟩ | ⟨g, cap, cur, rfl, hb, hg, rest⟩
  · have hx : xs = [] := List.eq_nil_of_length_eq_zero (by simpa using h.1)
    subst hx
    exact Src.ofNil w hk 0
  · exact Src.ofSlice w hk ⟨g, 0, none⟩ n cap xs h.1 (h.cells rfl) h1

theorem own_one {w : World} {x : Value} {e : TypeId} {base g : Nat} (hg : g = w.heap.size) (hb : base ≤ g) : (w.alloc (.cells #[x] e)).ownsRow base e 1 (.slice (some ⟨g, 0, none⟩) 1 1) 1 [x] := by
  subst hg
  exact World.ownsRow_lit w #[x] 1 hb (by unfold maxLen; omega) rfl

theorem Ext.own_step {w w1 w2 : World} {v v2 : Value} {e size n : Nat} {xs : List Value} (h : Ext w w1) (g : Grows w1 v w2 v2) (ho : w1.ownsRow w.heap.size e size v n xs) : Ext w w2 :=
  Below.trans h (g.below h.size (ownsRow_blocks ho))
/-- bytes, as rows of one cell -/
def br (bs : List UInt8) : List (List Value) := bs.map fun b => [.int .u8 b.toNat]
theorem br_length (bs : List UInt8) : (br bs).length = bs.length := List.length_map _
theorem br_take (bs : List UInt8) (n : Nat) : br (bs.take n) = (br bs).take n := List.map_take
theorem br_drop (bs : List UInt8) (n : Nat) : br (bs.drop n) = (br bs).drop n := List.map_drop
theorem br_flatten (bs : List UInt8) : (br bs).flatten = bs.map fun b => Value.int .u8 b.toNat := by
  induction bs with
  | nil => rfl
  | cons x xs ih => simp only [br, List.map_cons, List.flatten_cons] at ih ⊢; rw [ih]; rfl

theorem SL.takes {w : World} {n : Nat} {ao : Option Addr} {cap : Nat} {rows : List (List Value)} (h : SL w n ao cap rows) {k : Nat} (_ : k ≤ rows.length) (hn : ao = none → k = 0) : SL w n ao k (rows.take k) :=
  ⟨by simp; omega, by have := h.le; have := h.max; omega, hn, fun r hr => h.wid r (List.mem_of_mem_take hr), fun i j r v hr hv => h.cells i j r v (by
    rw [List.getElem?_take] at hr
    split at hr
    · exact hr
    · cases hr) hv⟩

theorem SL.drops {w : World} {ao : Option Addr} {cap : Nat} {rows : List (List Value)} (h : SL w 1 ao cap rows) {k : Nat} (_hk : k ≤ rows.length) : SL w 1 (ao.map (·.add k)) (cap - k) (rows.drop k) := by
  refine ⟨by have := h.le; simp; omega, by have := h.max; omega, fun hn => ?_, fun r hr => h.wid r (List.mem_of_mem_drop hr), fun i j r v hr hv => ?_⟩
  · have := h.nil (by simpa using hn)
    omega
  · rw [List.getElem?_drop] at hr
    obtain ⟨b, o, rfl, hc⟩ := h.cells (k + i) j r v hr hv
    refine ⟨b, o + k, ?_, ?_⟩
    · simp [Addr.add_lit]
    · rw [show o + k + i * 1 + j = o + (k + i) * 1 + j by omega]
      exact hc

theorem SL.done {w : World} {n : Nat} (ao : Option Addr) : SL w n ao 0 [] := ⟨by simp, by omega, fun _ => rfl, by simp, by simp⟩

theorem heap_setCell_far (w : World) (q : Addr) (u : Value) (b : Nat) (hb : b ≠ q.block) : (w.setCell q u).heap[b]? = w.heap[b]? := by
  unfold World.setCell
  simp [Array.getElem?_modify, Ne.symm hb]
/-- bytes read as rows, turned to a string -/
theorem SL.toStr {P : Program} {w : World} {ao : Option Addr} {cap : Nat} {bs : List UInt8} (h : SL w 1 ao cap (br bs)) (src dst e : TypeId) (hs : P.underlying src = some (.slice e)) (he : P.underlying e = some (.int .u8)) (hd : P.underlying dst = some .string) :
    (convert src dst (.slice ao bs.length cap)).run P w = .ok (.string ⟨bs.toArray⟩) w := by
  cases ao with
  | none =>
    have h0 := h.nil rfl
    have hle := h.le
    rw [br_length] at hle
    have : bs = [] := List.eq_nil_of_length_eq_zero (by omega)
    subst this
    exact run_convert_bytes_nil w src e hs he 0 cap dst hd
  | some a =>
    cases bs with
    | nil => exact run_convert_bytes_back w src dst e a cap [] hs he hd (fun j hj => by simp at hj)
    | cons x xs =>
      obtain ⟨b, o, e1, _⟩ := h.at (by omega) 0 (by simp [br])
      cases e1
      refine run_convert_bytes_back w src dst e _ cap (x :: xs) hs he hd (fun j hj => ?_)
      have := h.cellAt (i := j) (j := 0) (r := [.int .u8 ((x :: xs)[j].toNat)]) (v := .int .u8 ((x :: xs)[j].toNat)) (by simp only [br]; rw [List.getElem?_map, List.getElem?_eq_getElem hj]; rfl) rfl
      rw [Addr.add_mid]
      simpa using this

theorem SL.blk {w : World} {n : Nat} {ao : Option Addr} {cap : Nat} {rows : List (List Value)} (h : SL w n ao cap rows) (hn : 0 < n) : ∀ a, ao = some a → rows ≠ [] → a.block < w.heap.size := by
  intro a ha hr
  match rows, hr with
  | r :: rs, _ =>
    have h4 := h.wid r (by simp)
    match r, h4 with
    | [], h4 => simp at h4; omega
    | u :: us, _ =>
      obtain ⟨b, o, e, hc⟩ := h.cells 0 0 (u :: us) u (by simp) (by simp)
      rw [ha] at e
      cases e
      have hc : w.cell? ⟨b, o + 0 * n + 0, none⟩ = some u := hc
      exact World.block_lt_of_cell? w ⟨b, o + 0 * n + 0, none⟩ hc
theorem cell_new (W : World) (c : Value) (t : TypeId) (k : Nat) (h : k = W.heap.size) : (W.alloc (.cells #[c] t)).cell? ⟨k, 0, none⟩ = some c := by subst h; simp
theorem frozen_new (W : World) (c : Value) (t : TypeId) (k : Nat) (h : k = W.heap.size) : (W.alloc (.cells #[c] t)).frozen? ⟨k, 0, none⟩ = false := by subst h; simp
theorem ext_bytesWorld (w : World) (e : TypeId) (s : ByteArray) : Ext w (Lib.bytesWorld w e s) := ⟨rfl, rfl, rfl, by rw [Lib.bytesWorld_size]; omega, fun j hj => Lib.bytesWorld_at_old w e s j hj⟩

theorem SL.part {w : World} {b o cap : Nat} {all : List UInt8} (h : SL w 1 (some ⟨b, o, none⟩) cap (br all)) {p u : Nat} (hu : p + u ≤ all.length) : SL w 1 (some ⟨b, o + p, none⟩) (cap - p) (br ((all.drop p).take u)) := by
  have hle := h.le
  rw [br_length] at hle
  refine ⟨by rw [br_length]; simp; omega, by have := h.max; omega, by simp, fun r hr => ?_, fun i j r v hr hv => ?_⟩
  · rw [br_take, br_drop] at hr
    exact h.wid r (List.mem_of_mem_drop (List.mem_of_mem_take hr))
  · rw [br_take, br_drop, List.getElem?_take] at hr
    split at hr
    · rw [List.getElem?_drop] at hr
      obtain ⟨b', o', e, hc⟩ := h.cells (p + i) j r v hr hv
      cases e
      exact ⟨b, o + p, rfl, by rw [show o + p + i * 1 + j = o + (p + i) * 1 + j by omega]; exact hc⟩
    · cases hr
theorem list_of {α β : Type} {R : Nat → α → β → Prop} : ∀ (n : Nat), (∀ i, i < n → ∃ a b, R i a b) → ∃ (la : List α) (bs : List β), la.length = n ∧ bs.length = n ∧ ∀ (i : Nat) (a : α) (b : β), la[i]? = some a → bs[i]? = some b → R i a b := by
  intro n
  induction n with
  | zero => intro _; exact ⟨[], [], rfl, rfl, fun i a b h => by simp at h⟩
  | succ n ih =>
    intro h
    obtain ⟨la, bs, h1, h2, h3⟩ := ih fun i hi => h i (by omega)
    obtain ⟨a, b, hab⟩ := h n (by omega)
    refine ⟨la ++ [a], bs ++ [b], by simp [h1], by simp [h2], fun i x y hx hy => ?_⟩
    rcases Nat.lt_or_ge i n with hi | hi
    · rw [List.getElem?_append_left (by omega)] at hx hy
      exact h3 i x y hx hy
    · have hi2 : i = n := by
        have := (List.getElem?_eq_some_iff.1 hx).1
        simp at this
        omega
      subst hi2
      rw [List.getElem?_append_right (by omega)] at hx hy
      simp [h1] at hx
      simp [h2] at hy
      subst hx hy
      exact hab

theorem wf_i64 {n : Int} (h : (Lit.int .i64 n).wf = true) : inI64 n := by
  have hmin : IntKind.i64.min = -9223372036854775808 := by decide
  simp [Lit.wf, hmin] at h
  exact h
theorem sl_of_cells {w : World} {a : Addr} {len cap n : Nat} {rows : List (List Value)} (hn : 0 < n) (hl : len ≤ cap) (hc : cap ≤ maxLen) (hrl : rows.length = len) (hr : ∀ (i : Nat) (r : List Value), rows[i]? = some r → w.cells? 0 (a.add (i * n)) n = some r) : SL w n (some a) cap rows := by
  refine ⟨by omega, by unfold maxLen at hc; omega, by simp, fun r hr' => ?_, fun i j r v h1 h2 => ?_⟩
  · obtain ⟨i, hi, rfl⟩ := List.mem_iff_getElem.1 hr'
    exact (World.cells?_some (hr i _ (List.getElem?_eq_getElem hi))).2.1
  · obtain ⟨_, h3, h4⟩ := World.cells?_some (hr i r h1)
    have hj : j < n := by have := (List.getElem?_eq_some_iff.1 h2).1; omega
    have h5 := h4 j hj
    rw [h2] at h5
    obtain ⟨b, o, sp⟩ := a
    have hsp : sp = none := by
      match rows, h1, hr with
      | [], h1, hr => simp at h1
      | r0 :: rs, h1, hr =>
        obtain ⟨_, g3, g4⟩ := World.cells?_some (hr 0 r0 rfl)
        match r0, g3, g4 with
        | [], g3, g4 => simp at g3; omega
        | u :: us, g3, g4 =>
          have g5 := g4 0 hn
          have := World.cell?_spot (v := u) (by simpa using g5)
          simpa [Addr.add] using this
    subst hsp
    refine ⟨b, o, rfl, ?_⟩
    rw [Addr.add_lit, Addr.add_lit] at h5
    exact h5

theorem ownsRow_slice {w : World} {base e size n : Nat} {v : Value} {xs : List Value} (h : w.ownsRow base e size v n xs) : ∃ ao cap, v = .slice ao n cap := by
  rcases h.2 with ⟨rfl, rfl⟩ | ⟨g, cap, cur, rfl, _⟩
  · exact ⟨none, 0, rfl⟩
  · exact ⟨_, cap, rfl⟩

/-- two cells, and a variable of two cells -/
structure Box2 (w : World) (B : Nat) (k l : Value) : Prop where
  c0 : w.cell? ⟨B, 0, none⟩ = some k
  c1 : w.cell? ⟨B, 1, none⟩ = some l
  z : ∀ i, w.frozen? ⟨B, i, none⟩ = false
theorem Box2.lt {w : World} {B : Nat} {k l : Value} (h : Box2 w B k l) : B < w.heap.size := World.block_lt_of_cell? _ _ h.c0
theorem Box2.new (w : World) (k l : Value) (t : TypeId) : Box2 (w.alloc (.cells #[k, l] t)) w.heap.size k l := ⟨by simp, by simp, fun i => by simp⟩
theorem Box2.new' (w : World) (k l : Value) (t : TypeId) (g : Nat) (hg : g = w.heap.size) : Box2 (w.alloc (.cells #[k, l] t)) g k l := by subst hg; exact Box2.new w k l t
theorem Box2.keep {w w' : World} {B : Nat} {k l : Value} (h : Box2 w B k l) (hk : w'.heap[B]? = w.heap[B]?) : Box2 w' B k l :=
  ⟨(World.cell?_of_block (w := w) (a := ⟨B, 0, none⟩) hk).trans h.c0, (World.cell?_of_block (w := w) (a := ⟨B, 1, none⟩) hk).trans h.c1, fun i => (World.frozen?_of_block (w := w) (a := ⟨B, i, none⟩) hk).trans (h.z i)⟩
theorem Box2.ext {w w' : World} {B : Nat} {k l : Value} (h : Box2 w B k l) (hE : Ext w w') : Box2 w' B k l := h.keep (hE.block B h.lt)
theorem Box2.set0 {w : World} {B : Nat} {k l : Value} (h : Box2 w B k l) (u : Value) : Box2 (w.setCell ⟨B, 0, none⟩ u) B u l :=
  ⟨World.cell?_setCell_same' _ _ _ (by rw [h.c0]; rfl), (World.cell?_setCell_other _ _ _ _ (by simp)).trans h.c1, fun i => by simpa using h.z i⟩
theorem Box2.set1 {w : World} {B : Nat} {k l : Value} (h : Box2 w B k l) (u : Value) : Box2 (w.setCell ⟨B, 1, none⟩ u) B k u :=
  ⟨(World.cell?_setCell_other _ _ _ _ (by simp)).trans h.c0, World.cell?_setCell_same' _ _ _ (by rw [h.c1]; rfl), fun i => by simpa using h.z i⟩
/-- a variable of three cells -/
structure Box3 (w : World) (B : Nat) (k l m : Value) : Prop where
  c0 : w.cell? ⟨B, 0, none⟩ = some k
  c1 : w.cell? ⟨B, 1, none⟩ = some l
  c2 : w.cell? ⟨B, 2, none⟩ = some m
  z : ∀ i, w.frozen? ⟨B, i, none⟩ = false
theorem Box3.lt {w : World} {B : Nat} {k l m : Value} (h : Box3 w B k l m) : B < w.heap.size := World.block_lt_of_cell? _ _ h.c0
theorem Box3.new (w : World) (k l m : Value) (t : TypeId) : Box3 (w.alloc (.cells #[k, l, m] t)) w.heap.size k l m := ⟨by simp, by simp, by simp, fun i => by simp⟩
theorem Box3.new' (w : World) (k l m : Value) (t : TypeId) (g : Nat) (hg : g = w.heap.size) : Box3 (w.alloc (.cells #[k, l, m] t)) g k l m := by subst hg; exact Box3.new w k l m t
theorem Box3.keep {w w' : World} {B : Nat} {k l m : Value} (h : Box3 w B k l m) (hk : w'.heap[B]? = w.heap[B]?) : Box3 w' B k l m :=
  ⟨(World.cell?_of_block (w := w) (a := ⟨B, 0, none⟩) hk).trans h.c0, (World.cell?_of_block (w := w) (a := ⟨B, 1, none⟩) hk).trans h.c1, (World.cell?_of_block (w := w) (a := ⟨B, 2, none⟩) hk).trans h.c2, fun i => (World.frozen?_of_block (w := w) (a := ⟨B, i, none⟩) hk).trans (h.z i)⟩
theorem Box3.ext {w w' : World} {B : Nat} {k l m : Value} (h : Box3 w B k l m) (hE : Ext w w') : Box3 w' B k l m := h.keep (hE.block B h.lt)
theorem Box3.set0 {w : World} {B : Nat} {k l m : Value} (h : Box3 w B k l m) (u : Value) : Box3 (w.setCell ⟨B, 0, none⟩ u) B u l m :=
  ⟨World.cell?_setCell_same' _ _ _ (by rw [h.c0]; rfl), (World.cell?_setCell_other _ _ _ _ (by simp)).trans h.c1, (World.cell?_setCell_other _ _ _ _ (by simp)).trans h.c2, fun i => by simpa using h.z i⟩
theorem Box3.set1 {w : World} {B : Nat} {k l m : Value} (h : Box3 w B k l m) (u : Value) : Box3 (w.setCell ⟨B, 1, none⟩ u) B k u m :=
  ⟨(World.cell?_setCell_other _ _ _ _ (by simp)).trans h.c0, World.cell?_setCell_same' _ _ _ (by rw [h.c1]; rfl), (World.cell?_setCell_other _ _ _ _ (by simp)).trans h.c2, fun i => by simpa using h.z i⟩
theorem Box3.set2 {w : World} {B : Nat} {k l m : Value} (h : Box3 w B k l m) (u : Value) : Box3 (w.setCell ⟨B, 2, none⟩ u) B k l u :=
  ⟨(World.cell?_setCell_other _ _ _ _ (by simp)).trans h.c0, (World.cell?_setCell_other _ _ _ _ (by simp)).trans h.c1, World.cell?_setCell_same' _ _ _ (by rw [h.c2]; rfl), fun i => by simpa using h.z i⟩
theorem three_cells {W : World} {b : Nat} {x0 x1 x2 : Value} (h0 : W.cell? ⟨b, 0, none⟩ = some x0) (h1 : W.cell? ⟨b, 1, none⟩ = some x1) (h2 : W.cell? ⟨b, 2, none⟩ = some x2) :
    ∀ (j : Nat) (u : Value), [x0, x1, x2][j]? = some u → W.cell? ((⟨b, 0, none⟩ : Addr).add j) = some u := by
  intro j u hj
  rw [Addr.add_lit]
  match j with
  | 0 => simp at hj; subst hj; exact h0
  | 1 => simp at hj; subst hj; exact h1
  | 2 => simp at hj; subst hj; exact h2
  | j + 3 => simp at hj
theorem two_cells {W : World} {b : Nat} {x0 x1 : Value} (h0 : W.cell? ⟨b, 0, none⟩ = some x0) (h1 : W.cell? ⟨b, 1, none⟩ = some x1) :
    ∀ (j : Nat) (u : Value), [x0, x1][j]? = some u → W.cell? ((⟨b, 0, none⟩ : Addr).add j) = some u := by
  intro j u hj
  rw [Addr.add_lit]
  match j with
  | 0 => simp at hj; subst hj; exact h0
  | 1 => simp at hj; subst hj; exact h1
  | j + 2 => simp at hj
/-- a part of a slice, whatever its rows' width -/
theorem SL.sub {w : World} {n b o cap : Nat} {rows : List (List Value)} (h : SL w n (some ⟨b, o, none⟩) cap rows) {p u : Nat} (hu : p + u ≤ rows.length) : SL w n (some ⟨b, o + p * n, none⟩) (cap - p) ((rows.drop p).take u) := by
  have hle := h.le
  refine ⟨by simp; omega, by have := h.max; omega, by simp, fun r hr => h.wid r (List.mem_of_mem_drop (List.mem_of_mem_take hr)), fun i j r v hr hv => ?_⟩
  rw [List.getElem?_take] at hr
  split at hr
  · rw [List.getElem?_drop] at hr
    obtain ⟨b', o', e, hc⟩ := h.cells (p + i) j r v hr hv
    cases e
    refine ⟨b, o + p * n, rfl, ?_⟩
    rw [show o + p * n + i * n + j = o + (p + i) * n + j by rw [Nat.add_mul]; omega]
    exact hc
  · cases hr
end Go.Sz
namespace Go.Sz
open Go.RowKit
section
variable {P : Program}

theorem flat_len {size : Nat} : ∀ (rows : List (List Value)), (∀ r ∈ rows, r.length = size) → rows.flatten.length = rows.length * size := by
  intro rows hw
  induction rows with
  | nil => simp
  | cons x xs ih => rw [List.flatten_cons, List.length_append, ih (fun r hr => hw r (by simp [hr])), hw x (by simp), List.length_cons, Nat.add_mul]; omega

theorem SL.flatCells {w : World} {size : Nat} {b o cap : Nat} {rows : List (List Value)} (h : SL w size (some ⟨b, o, none⟩) cap rows) : ∀ j u, rows.flatten[j]? = some u → w.cell? ((⟨b, o, none⟩ : Addr).add j) = some u := by
  intro j u hu
  rw [Addr.add_mid]
  have key : ∀ (rows : List (List Value)) (k : Nat), (∀ r ∈ rows, r.length = size) → (∀ i j r u, rows[i]? = some r → r[j]? = some u → w.cell? ⟨b, o + (k + i) * size + j, none⟩ = some u) → ∀ j u, rows.flatten[j]? = some u → w.cell? ⟨b, o + k * size + j, none⟩ = some u := by
    intro rows
    induction rows with
    | nil => intro k _ _ j u hu; simp at hu
    | cons x xs ih =>
      intro k hw hc j u hu
      have hx : x.length = size := hw x (by simp)
      rw [List.flatten_cons] at hu
      by_cases hj : j < x.length
      · rw [List.getElem?_append_left hj] at hu
        exact hc 0 j x u rfl hu
      · rw [List.getElem?_append_right (by omega)] at hu
        have := ih (k + 1) (fun r hr => hw r (by simp [hr])) (fun i j r u hr hu => by
          have := hc (i + 1) j r u (by simpa using hr) hu
          rwa [show k + (i + 1) = k + 1 + i from by omega] at this) (j - x.length) u hu
        rwa [show o + (k + 1) * size + (j - x.length) = o + k * size + j from by rw [Nat.add_mul, hx]; omega] at this
  have := key rows 0 h.wid (fun i j r u hr hu => by
    have := h.cellAt hr hu
    simpa using this) j u hu
  simpa using this

/-- append onto a slice of n elements and capacity n that is only read -/
theorem run_append_full (w : World) (t tx ty e : TypeId) (i : TypeInfo) (z : Value) (size bytes : Nat) (ht : P.underlying t = some (.slice e)) (hi : P.info? e = some i) (hz : i.zero = some z)
    (hsize : i.size = size) (hby : i.bytes = bytes) (hzs : z.cells.size = size) (hsz : 0 < size)
    (ao : Option Addr) (n : Nat) (rows : List (List Value)) (hs : SL w size ao n rows) (hrn : rows.length = n) (sv : Value) (m : Nat) (hsp : m = 0 → rows = [] → ∀ a, ao = some a → a.spot = none)
    (rows2 : List (List Value)) (hsrc : Src P size tx sv m rows2.flatten w) (hw2 : ∀ r ∈ rows2, r.length = size) (hm : rows2.length = m)
    (h63 : n + m ≤ maxLen) (hbytes : (n + m) * bytes ≤ 140737488355328) :
    ∃ ao' cap' w', (Builtin.append_ #[t, tx] ty #[.slice ao n n, sv]).run P w = .ok (.slice ao' (n + m) cap') w' ∧ SL w' size ao' cap' (rows ++ rows2) ∧ Ext w w' ∧ ((m = 0 ∧ ao' = ao) ∨ ∀ a, ao' = some a → w.heap.size ≤ a.block) := by
  subst hsize
  subst hby
  have hsmall : n + m ≤ 9223372036854775807 := by simp only [maxLen] at h63; omega
  have hsp0 : rows ≠ [] → ∀ a, ao = some a → a.spot = none := fun hr a ha => by
    obtain ⟨b, o, e, _⟩ := hs.at hsz 0 (List.length_pos_iff.2 hr)
    rw [ha] at e
    cases e
    rfl
  by_cases hm0 : m = 0
  · subst hm0
    have h2 : rows2 = [] := List.eq_nil_of_length_eq_zero hm
    subst h2
    refine ⟨ao, n, w, ?_, by simpa using hs, Ext.refl w, .inl ⟨rfl, rfl⟩⟩
    cases ao with
    | none =>
      have : n = 0 := hs.nil rfl
      subst this
      rcases hsrc.kind with ⟨e', hk⟩ | hk <;> simp [Builtin.append_, run_underlying ht, run_underlying hk, sizeOf, typeInfo, hi, hsrc.len, hsrc.cells]
    | some a =>
      obtain ⟨b, o, sp⟩ := a
      have : sp = none := by
        by_cases h0 : rows = []
        · exact hsp rfl h0 _ rfl
        · exact hsp0 h0 _ rfl
      subst this
      have hr := run_append_room_src (P := P) (w := w) t tx ty e i ht hi b o n n sv 0 [] hsrc (by omega) (by simp) (by simp)
      simpa [World.setCells] using hr
  · have hx : (Builtin.firstCells i.size n (.slice ao n n)).run P w.drew = .ok rows.flatten.toArray w.drew := by
      cases ao with
      | none =>
        have : n = 0 := hs.nil rfl
        subst this
        have h2 : rows = [] := List.eq_nil_of_length_eq_zero hrn
        subst h2
        exact run_firstCells_none w.drew i.size 0 0 0
      | some a =>
        refine run_firstCells_some w.drew i.size n a n n rows.flatten (by rw [flat_len rows hs.wid, hrn]) (fun j u hu => ?_)
        have hne : rows ≠ [] := by rintro rfl; simp at hu
        obtain ⟨b, o, sp⟩ := a
        have : sp = none := hsp0 hne _ rfl
        subst this
        simpa using hs.flatCells j u hu
    have hr := run_append_grow_src (P := P) w t tx ty e i z ht hi hz ao n n rows.flatten hx sv m rows2.flatten hsrc (by omega) (by omega) (growslice_fits (by omega) hbytes)
    have hge := grownCap_ge w (n + m) n e
    have hcm : grownCap w (n + m) n e ≤ maxLen := grownCap_le_maxLen w (n + m) n e h63
    have hlen : (rows.flatten ++ rows2.flatten).length = (n + m) * i.size := by rw [List.length_append, flat_len rows hs.wid, flat_len rows2 hw2, hrn, hm, Nat.add_mul]
    have hown : (w.drew.alloc (.cells ((rows.flatten ++ rows2.flatten).toArray ++ Builtin.zeroCells z.cells (grownCap w (n + m) n e - (n + m))) e)).ownsRow 0 e i.size
        (.slice (some ⟨w.heap.size, 0, none⟩) (n + m) (grownCap w (n + m) n e)) (n + m) (rows ++ rows2).flatten := by
      refine ⟨by rw [List.flatten_append]; exact hlen, .inr ⟨w.heap.size, _, _, rfl, Nat.zero_le _, heap_alloc_new w.drew _, hge, hcm, ?_, ?_⟩⟩
      · simp only [Array.size_append, List.size_toArray, size_zeroCells, hzs, hlen, ← Nat.add_mul]
        congr 1
        omega
      · simp only [Array.toList_append]
        rw [List.flatten_append, ← hlen]
        exact List.take_left
    obtain ⟨ao', cap', hv, hsl, _⟩ := SL.of_owns hown (fun r hr => (List.mem_append.1 hr).elim (hs.wid r) (hw2 r)) (by simp [hrn, hm])
    simp only [List.length_append, hrn, hm, Value.slice.injEq, true_and] at hv
    obtain ⟨e1, e2⟩ := hv
    subst e1 e2
    refine ⟨_, _, _, hr, hsl, ((Ext.refl w).drew).alloc _, .inr ?_⟩
    rintro a ⟨⟩
    exact Nat.le_refl _

theorem wp_append_full {o : Oper} {a : Act} {w : World} {K : Act → World → Prop} {Q : Exit → Act → World → Prop} (s x : Operand) (t tx : TypeId)
    (ho : o.op = .call { callee := .builtin .append, args := #[s, x], argTypes := #[t, tx] })
    (e : TypeId) (i : TypeInfo) (z : Value) (size bytes : Nat) (ht : P.underlying t = some (.slice e)) (hi : P.info? e = some i) (hz : i.zero = some z)
    (hsize : i.size = size) (hby : i.bytes = bytes) (hzs : z.cells.size = size) (hsz : 0 < size)
    (ao : Option Addr) (n : Nat) (rows : List (List Value)) (hv : a.eval s = .slice ao n n) (hs : SL w size ao n rows) (hrn : rows.length = n) (sv : Value) (m : Nat) (hsp : m = 0 → rows = [] → ∀ a, ao = some a → a.spot = none)
    (rows2 : List (List Value)) (hx : a.eval x = sv) (hsrc : Src P size tx sv m rows2.flatten w) (hw2 : ∀ r ∈ rows2, r.length = size) (hm : rows2.length = m)
    (h63 : n + m ≤ maxLen) (hbytes : (n + m) * bytes ≤ 140737488355328)
    (h : ∀ ao' cap' w', SL w' size ao' cap' (rows ++ rows2) → Ext w w' → ((m = 0 ∧ ao' = ao) ∨ ∀ a, ao' = some a → w.heap.size ≤ a.block) → K (a.put o.dst (.slice ao' (n + m) cap')) w') : o.wp P a w K Q := by
  obtain ⟨ao', cap', w', hr, h2, h3, h4⟩ := run_append_full (P := P) w t tx o.type e i z size bytes ht hi hz hsize hby hzs hsz ao n rows hs hrn sv m hsp rows2 hsrc hw2 hm h63 hbytes
  unfold Oper.wp execOp
  simp only [ho, resolve, invoke, builtin, Sem.run_bind, Sem.run_pure, Result.andThen_ok, List.map_toArray, List.map_cons, List.map_nil, hv, hx, hr]
  exact h ao' cap' w' h2 h3 h4

theorem wpList_append_full {ops : Array Oper} {rest : List Oper} {o : Oper} {a : Act} {w : World} {Q : Exit → Act → World → Prop} (hgd : o.guard = none) (s x : Operand) (t tx : TypeId)
    (ho : o.op = .call { callee := .builtin .append, args := #[s, x], argTypes := #[t, tx] })
    (e : TypeId) (i : TypeInfo) (z : Value) (size bytes : Nat) (ht : P.underlying t = some (.slice e)) (hi : P.info? e = some i) (hz : i.zero = some z)
    (hsize : i.size = size) (hby : i.bytes = bytes) (hzs : z.cells.size = size) (hsz : 0 < size)
    (ao : Option Addr) (n : Nat) (rows : List (List Value)) (hv : a.eval s = .slice ao n n) (hs : SL w size ao n rows) (hrn : rows.length = n) (sv : Value) (m : Nat) (hsp : m = 0 → rows = [] → ∀ a, ao = some a → a.spot = none)
    (rows2 : List (List Value)) (hx : a.eval x = sv) (hsrc : Src P size tx sv m rows2.flatten w) (hw2 : ∀ r ∈ rows2, r.length = size) (hm : rows2.length = m)
    (h63 : n + m ≤ maxLen) (hbytes : (n + m) * bytes ≤ 140737488355328)
    (h : ∀ ao' cap' w', SL w' size ao' cap' (rows ++ rows2) → Ext w w' → ((m = 0 ∧ ao' = ao) ∨ ∀ a, ao' = some a → w.heap.size ≤ a.block) → wpList P ops Q rest (a.put o.dst (.slice ao' (n + m) cap')) w') : wpList P ops Q (o :: rest) a w :=
  wpList_plain hgd fun _ hK => wp_append_full s x t tx ho e i z size bytes ht hi hz hsize hby hzs hsz ao n rows hv hs hrn sv m hsp rows2 hx hsrc hw2 hm h63 hbytes fun ao' cap' w' h2 h3 h4 => hK _ _ (h ao' cap' w' h2 h3 h4)

theorem step_append_full {ops : Array Oper} {o : Oper} {a : Act} {w : World} {K : Act → World → Prop} {Q : Exit → Act → World → Prop} {E : Prop} (hgd : o.guard = none) (s x : Operand) (t tx : TypeId)
    (ho : o.op = .call { callee := .builtin .append, args := #[s, x], argTypes := #[t, tx] })
    (e : TypeId) (i : TypeInfo) (z : Value) (size bytes : Nat) (ht : P.underlying t = some (.slice e)) (hi : P.info? e = some i) (hz : i.zero = some z)
    (hsize : i.size = size) (hby : i.bytes = bytes) (hzs : z.cells.size = size) (hsz : 0 < size)
    (ao : Option Addr) (n : Nat) (rows : List (List Value)) (hv : a.eval s = .slice ao n n) (hs : SL w size ao n rows) (hrn : rows.length = n) (sv : Value) (m : Nat) (hsp : m = 0 → rows = [] → ∀ a, ao = some a → a.spot = none)
    (rows2 : List (List Value)) (hx : a.eval x = sv) (hsrc : Src P size tx sv m rows2.flatten w) (hw2 : ∀ r ∈ rows2, r.length = size) (hm : rows2.length = m)
    (h63 : n + m ≤ maxLen) (hbytes : (n + m) * bytes ≤ 140737488355328)
    (h : ∀ ao' cap' w', SL w' size ao' cap' (rows ++ rows2) → Ext w w' → ((m = 0 ∧ ao' = ao) ∨ ∀ a, ao' = some a → w.heap.size ≤ a.block) → K (a.put o.dst (.slice ao' (n + m) cap')) w') :
    if Region.wanted o (yielded ops a.tmps) = true then Oper.wp P o a w K Q else E := by
  have hw : Region.wanted o (yielded ops a.tmps) = true := by simp [Region.wanted, hgd]
  rw [if_pos hw]
  exact wp_append_full s x t tx ho e i z size bytes ht hi hz hsize hby hzs hsz ao n rows hv hs hrn sv m hsp rows2 hx hsrc hw2 hm h63 hbytes h
end
theorem SL.setCell {w : World} {n : Nat} {ao : Option Addr} {cap : Nat} {rows : List (List Value)} (h : SL w n ao cap rows) {p : Addr} (u : Value) (hp : ∀ a, ao = some a → rows ≠ [] → a.block ≠ p.block) : SL (w.setCell p u) n ao cap rows :=
  h.keep fun a ha hr => heap_setCell_far w p u a.block (hp a ha hr)
end Go.Sz
namespace Go.Sz
open Go.RowKit

/-- the same value again: the same world -/
theorem setCell_id {w : World} {q : Addr} {v : Value} (h : w.cell? q = some v) : w.setCell q v = w := by
  obtain ⟨hp, tp, dr, os, out⟩ := w
  unfold World.setCell
  simp only [World.mk.injEq, and_true]
  apply Array.ext_getElem?
  intro i
  rw [Array.getElem?_modify]
  split
  · rename_i hi
    subst hi
    unfold World.cell? at h
    simp only at h
    cases hb : hp[q.block]? with
    | none => rfl
    | some o =>
      rw [hb] at h
      cases o with
      | cells c e f =>
        simp only at h
        by_cases hs : q.spot.isSome = true
        · rw [if_pos hs] at h; cases h
        · rw [if_neg hs] at h
          have hc : c.setIfInBounds q.off v = c := by
            apply Array.ext_getElem?
            intro j
            rw [Array.getElem?_setIfInBounds]
            split
            · rename_i hj; subst hj; rw [if_pos (Array.getElem?_eq_some_iff.1 h).1]; exact h.symm
            · rfl
          simp [hs, hc]
      | _ => rfl
  · rfl
theorem setCell_id2 {w : World} {B : Nat} {u0 u1 : Value} (h0 : w.cell? ⟨B, 0, none⟩ = some u0) (h1 : w.cell? ⟨B, 1, none⟩ = some u1) : (w.setCell ⟨B, 0, none⟩ u0).setCell ⟨B, 1, none⟩ u1 = w := by rw [setCell_id h0, setCell_id h1]
theorem setCell_id3 {w : World} {B : Nat} {u0 u1 u2 : Value} (h0 : w.cell? ⟨B, 0, none⟩ = some u0) (h1 : w.cell? ⟨B, 1, none⟩ = some u1) (h2 : w.cell? ⟨B, 2, none⟩ = some u2) : ((w.setCell ⟨B, 0, none⟩ u0).setCell ⟨B, 1, none⟩ u1).setCell ⟨B, 2, none⟩ u2 = w := by rw [setCell_id h0, setCell_id h1, setCell_id h2]

/-- What an operation that makes memory yields: a relation that growth keeps. -/
structure Spec where
  R : Value → World → Prop
  mono : ∀ {v : Value} {W W' : World}, Ext W W' → R v W → R v W'

abbrev Gh := Nat → Option Value
def upd (g : Gh) (i : Nat) (v : Value) : Gh := fun j => if j = i then some v else g j
theorem upd_same (g : Gh) (i : Nat) (v : Value) : upd g i v i = some v := by simp [upd]
theorem upd_other (g : Gh) {i j : Nat} (v : Value) (h : j ≠ i) : upd g i v j = g j := by simp [upd, h]
theorem upd_comm (g : Gh) {i j : Nat} (v u : Value) (h : i ≠ j) : upd (upd g i v) j u = upd (upd g j u) i v := by
  funext k
  by_cases h1 : k = i
  · subst h1; rw [upd_other _ _ h, upd_same, upd_same]
  · by_cases h2 : k = j
    · subst h2; rw [upd_same, upd_other _ _ h1, upd_same]
    · rw [upd_other _ _ h2, upd_other _ _ h1, upd_other _ _ h1, upd_other _ _ h2]

section
variable {P : Program} {ops : Array Oper} {md : Region.Mode} {W0 : World} {T : Nat → Option Spec} {m : Nat}

/-- The worlds that have come of W0 by growth, and in which the facts on what the operations in A have yielded hold. -/
def Cl (W0 : World) (T : Nat → Option Spec) (A : Nat → Prop) (g : Gh) (W : World) : Prop :=
  Ext W0 W ∧ ∀ i, A i → ∀ v S, g i = some v → T i = some S → S.R v W
abbrev All : Nat → Prop := fun _ => True

theorem Cl.mono {A A' : Nat → Prop} {g g' : Gh} {W : World} (h : Cl W0 T A g W) (ha : ∀ i, A' i → A i) (hg : ∀ i, A' i → g' i = g i) : Cl W0 T A' g' W :=
  ⟨h.1, fun i hi v S hv hs => h.2 i (ha i hi) v S (by rw [← hg i hi]; exact hv) hs⟩
theorem Cl.upd {g : Gh} {W W' : World} {i : Nat} {v : Value} {S : Spec} (h : Cl W0 T All g W) (hE : Ext W W') (hT : T i = some S) (hR : S.R v W') : Cl W0 T All (upd g i v) W' :=
  ⟨h.1.trans hE, fun j _ u S' hu hs => by
    by_cases hj : j = i
    · subst hj
      rw [upd_same] at hu
      rw [hT] at hs
      cases hu; cases hs
      exact hR
    · rw [upd_other _ _ hj] at hu
      exact S'.mono hE (h.2 j trivial u S' hu hs)⟩
theorem Cl.drop {g : Gh} {W : World} {i : Nat} {v : Value} (h : Cl W0 T All (Sz.upd g i v) W) (hn : g i = none) : Cl W0 T All g W :=
  ⟨h.1, fun j _ u S hu hs => h.2 j trivial u S (by
    rw [upd_other _ _ (by rintro rfl; rw [hn] at hu; cases hu)]
    exact hu) hs⟩

/-- The operations that stand ahead of operation k, by its edges. -/
def direct (md : Region.Mode) (ops : Array Oper) (k : Nat) : List Nat :=
  match ops[k]? with
  | some o => o.after.toList.filterMap fun e => if Region.binds md e then some e.on else none
  | none => []
def ancGo (md : Region.Mode) (ops : Array Oper) : Nat → List Nat → List Nat
  | 0, l => l
  | i + 1, l => ancGo md ops i (if l.contains i then direct md ops i ++ l else l)
def ancs (md : Region.Mode) (ops : Array Oper) (k : Nat) : List Nat := ancGo md ops k (direct md ops k)
def Anc (md : Region.Mode) (ops : Array Oper) (k : Nat) : Nat → Prop := fun i => (ancs md ops k).contains i = true

def Down (md : Region.Mode) (ops : Array Oper) (listed : Array Bool) : Prop :=
  ∀ j, listed.getD j false = true → ∀ i ∈ direct md ops j, listed.getD i false = true

theorem direct_ready {listed : Array Bool} {k : Nat} (h : k ∈ Region.ready md ops listed) : ∀ i ∈ direct md ops k, listed.getD i false = true := by
  obtain ⟨_, o, ho, hall⟩ := mem_ready.1 h
  intro i hi
  unfold direct at hi
  rw [ho] at hi
  obtain ⟨e, he, hei⟩ := List.mem_filterMap.1 hi
  split at hei
  · cases hei
    exact hall e (by simpa using he) (by assumption)
  · cases hei

theorem ancGo_listed {listed : Array Bool} (hd : Down md ops listed) : ∀ (n : Nat) (l : List Nat), (∀ i ∈ l, listed.getD i false = true) → ∀ i ∈ ancGo md ops n l, listed.getD i false = true := by
  intro n
  induction n with
  | zero => intro l h i hi; exact h i hi
  | succ n ih =>
    intro l h i hi
    unfold ancGo at hi
    refine ih _ ?_ i hi
    split
    · rename_i hc
      intro k hk
      rcases List.mem_append.1 hk with hk | hk
      · exact hd n (h n (by simpa using hc)) k hk
      · exact h k hk
    · exact h

theorem anc_listed {listed : Array Bool} (hd : Down md ops listed) {k i : Nat} (h : k ∈ Region.ready md ops listed) (ha : Anc md ops k i) : listed.getD i false = true :=
  ancGo_listed hd k _ (direct_ready h) i (by simpa [Anc, ancs] using ha)

theorem Down.set {listed : Array Bool} (hd : Down md ops listed) {k : Nat} (h : k ∈ Region.ready md ops listed) : Down md ops (listed.setIfInBounds k true) := by
  intro j hj i hi
  refine getD_set_true ?_
  by_cases hjk : k = j
  · subst hjk; exact direct_ready h i hi
  · rw [getD_set_ne false hjk] at hj
    exact hd j hj i hi

theorem listed_ne {listed : Array Bool} {i j : Nat} (hi : listed.getD i false = true) (hj : listed.getD j true = false) : i ≠ j := by
  rintro rfl
  rcases Nat.lt_or_ge i listed.size with h | h
  · simp [h] at hi hj
    rw [hi] at hj
    cases hj
  · simp [Array.getElem?_eq_none h] at hi

def qUpon (W : World) (u : Value) : Result Next → Prop
  | .ok (.value v) W' => W' = W ∧ v = u
  | .ok .skip W' => W' = W ∧ u = undef
  | _ => False
/-- In the world W the operation yields u and leaves W as it was. -/
def qly (P : Program) (o : Oper) (a : Act) (W : World) (u : Value) : Prop := qUpon W u ((execOp a.eval o).run P W)
def gUpon (P : Program) (W : World) (R : Value → World → Prop) : Result Next → Prop
  | .ok (.value v) W' => R v W' ∧ Ext W W'
  | .ok (.enter f args) W' => Calls P f args W' (fun e w'' => ∃ v, e = .returned v ∧ R v w'' ∧ Ext W w'')
  | _ => False
/-- In the world W the operation yields what R holds of, and makes new memory alone. -/
def gives (P : Program) (o : Oper) (a : Act) (W : World) (R : Value → World → Prop) : Prop := gUpon P W R ((execOp a.eval o).run P W)

theorem gives_some {o : Oper} {a : Act} {W : World} {R : Value → World → Prop} (h : gives P o a W R) : ∃ v W', R v W' ∧ Ext W W' := by
  unfold gives at h
  generalize (execOp a.eval o).run P W = r at h
  cases r with
  | ok n w' =>
    cases n <;> simp only [gUpon] at h
    case value v => exact ⟨v, w', h⟩
    case enter f args =>
      obtain ⟨e, w'', fr, ⟨v, _, hR, hE⟩, _⟩ := h []
      exact ⟨v, w'', hR, hE⟩
  | halt x w' => simp only [gUpon] at h

theorem qly_unique {o : Oper} {a : Act} {W : World} {u u' : Value} (h : qly P o a W u) (h' : qly P o a W u') : u = u' := by
  unfold qly at h h'
  generalize (execOp a.eval o).run P W = r at h h'
  cases r with
  | ok n w' =>
    cases n <;> simp only [qUpon] at h h'
    case value v => exact h.2.symm.trans h'.2
    case skip => exact h.2.trans h'.2.symm
  | halt x w' => simp only [qUpon] at h

/-- Operation i yields u, and no fact on memory goes with it. -/
def Yq (P : Program) (ops : Array Oper) (md : Region.Mode) (W0 : World) (T : Nat → Option Spec) (i : Nat) (o : Oper) (a : Act) (g : Gh) (u : Value) : Prop :=
  (Region.wanted o (yielded ops a.tmps) = true ∧ T i = none ∧ ∀ W, Cl W0 T (Anc md ops i) g W → qly P o a W u) ∨ (Region.wanted o (yielded ops a.tmps) = false ∧ u = undef)
/-- Operation i yields what S holds of. -/
def Yr (P : Program) (ops : Array Oper) (md : Region.Mode) (W0 : World) (T : Nat → Option Spec) (i : Nat) (o : Oper) (a : Act) (g : Gh) (S : Spec) : Prop :=
  Region.wanted o (yielded ops a.tmps) = true ∧ T i = some S ∧ ∀ W, Cl W0 T (Anc md ops i) g W → gives P o a W S.R

theorem Yq.congr {i : Nat} {o : Oper} {a a' : Act} {g g' : Gh} {u : Value} (h : Yq P ops md W0 T i o a g u) (he : execOp a'.eval o = execOp a.eval o)
    (hw : Region.wanted o (yielded ops a'.tmps) = Region.wanted o (yielded ops a.tmps)) (hg : ∀ k, Anc md ops i k → g k = g' k) : Yq P ops md W0 T i o a' g' u := by
  unfold Yq qly at *
  rw [he, hw]
  exact h.imp (fun ⟨h1, h2, h3⟩ => ⟨h1, h2, fun W hW => h3 W (hW.mono (fun _ h => h) hg)⟩) id
theorem Yr.congr {i : Nat} {o : Oper} {a a' : Act} {g g' : Gh} {S : Spec} (h : Yr P ops md W0 T i o a g S) (he : execOp a'.eval o = execOp a.eval o)
    (hw : Region.wanted o (yielded ops a'.tmps) = Region.wanted o (yielded ops a.tmps)) (hg : ∀ k, Anc md ops i k → g k = g' k) : Yr P ops md W0 T i o a' g' S := by
  unfold Yr gives at *
  rw [he, hw]
  exact ⟨h.1, h.2.1, fun W hW => h.2.2 W (hW.mono (fun _ h => h) hg)⟩
theorem Yq.unique {i : Nat} {o : Oper} {a : Act} {g : Gh} {u u' : Value} {W : World} (h : Yq P ops md W0 T i o a g u) (h' : Yq P ops md W0 T i o a g u') (hW : Cl W0 T All g W) : u = u' := by
  have hW' : Cl W0 T (Anc md ops i) g W := hW.mono (fun _ _ => trivial) (fun _ _ => rfl)
  rcases h with ⟨h1, _, h3⟩ | ⟨h1, h2⟩ <;> rcases h' with ⟨k1, _, k3⟩ | ⟨k1, k2⟩
  · exact qly_unique (h3 W hW') (k3 W hW')
  · rw [h1] at k1; cases k1
  · rw [h1] at k1; cases k1
  · rw [h2, k2]
theorem Yq.not_Yr {i : Nat} {o : Oper} {a : Act} {g : Gh} {u : Value} {S : Spec} (h : Yq P ops md W0 T i o a g u) (h' : Yr P ops md W0 T i o a g S) : False := by
  rcases h with ⟨_, h2, _⟩ | ⟨h1, _⟩
  · rw [h'.2.1] at h2; cases h2
  · rw [h'.1] at h1; cases h1

def relOp (P : Program) (ops : Array Oper) (md : Region.Mode) (W0 : World) (T : Nat → Option Spec) (i : Nat) (o : Oper) (a : Act) (g : Gh) (K : Act → Gh → Prop) : Prop :=
  (∃ u, Yq P ops md W0 T i o a g u ∧ K (a.put o.dst u) g) ∨
  (∃ S, Yr P ops md W0 T i o a g S ∧ ∀ v, (∃ W, Cl W0 T All (upd g i v) W) → K (a.put o.dst v) (upd g i v))

theorem relOp_mono {i : Nat} {o : Oper} {a : Act} {g : Gh} {K K' : Act → Gh → Prop} (hW : ∃ W, Cl W0 T All g W) (h : relOp P ops md W0 T i o a g K) (hK : ∀ v g', (∃ W, Cl W0 T All g' W) → (∀ j, j ≠ i → g' j = g j) → K (a.put o.dst v) g' → K' (a.put o.dst v) g') : relOp P ops md W0 T i o a g K' := by
  rcases h with ⟨u, hy, h⟩ | ⟨S, hy, h⟩
  · exact .inl ⟨u, hy, hK _ _ hW (fun _ _ => rfl) h⟩
  · exact .inr ⟨S, hy, fun v hv => hK _ _ hv (fun j hj => upd_other _ _ hj) (h v hv)⟩

theorem Yr.val {i : Nat} {o : Oper} {a : Act} {g : Gh} {S : Spec} (h : Yr P ops md W0 T i o a g S) (hW : ∃ W, Cl W0 T All g W) : ∃ v W, Cl W0 T All (upd g i v) W := by
  obtain ⟨W, hW⟩ := hW
  obtain ⟨v, W', hR, hE⟩ := gives_some (h.2.2 W (hW.mono (fun _ _ => trivial) (fun _ _ => rfl)))
  exact ⟨v, W', hW.upd hE h.2.1 hR⟩

theorem relOp_some {i : Nat} {o : Oper} {a : Act} {g : Gh} {K : Act → Gh → Prop} (hW : ∃ W, Cl W0 T All g W) (h : relOp P ops md W0 T i o a g K) : ∃ a' g', K a' g' := by
  rcases h with ⟨u, hy, h⟩ | ⟨S, hy, h⟩
  · exact ⟨_, _, h⟩
  · obtain ⟨v, hv⟩ := hy.val hW
    exact ⟨_, _, h v hv⟩

def wpAnyR (P : Program) (ops : Array Oper) (md : Region.Mode) (W0 : World) (T : Nat → Option Spec) (m : Nat) (Q : Act → Gh → Prop) : Nat → Array Bool → Act → Gh → Prop
  | 0, listed, a, g => (∀ i, i < m → listed.getD i false = true) ∧ Q a g
  | fuel + 1, listed, a, g => (∃ i, i < m ∧ i ∈ Region.ready md ops listed) ∧
      ∀ i ∈ Region.ready md ops listed, i < m → ∀ o, ops[i]? = some o → relOp P ops md W0 T i o a g (fun a' g' => wpAnyR P ops md W0 T m Q fuel (listed.setIfInBounds i true) a' g')

/-- An operation that may come up now may be taken first. -/
theorem rel_first {Q : Act → Gh → Prop} {i : Nat} {oi : Oper} (hi : ops[i]? = some oi) (him : i < m) (hsel : ∀ (j : Nat) (o : Oper) cs b, ops[j]? = some o → o.op ≠ .select cs b) :
    ∀ (fuel : Nat) (listed : Array Bool) (a : Act) (g : Gh), Down md ops listed → (∀ j, listed.getD j true = false → g j = none) →
      (∀ j oj, ops[j]? = some oj → j ≠ i → listed.getD j true = false → (∀ e ∈ oj.after, Region.binds md e = true → e.on ≠ i) → oi.apart ops oj = true) →
      i ∈ Region.ready md ops listed → (∃ W, Cl W0 T All g W) →
      relOp P ops md W0 T i oi a g (fun a' g' => wpAnyR P ops md W0 T m Q fuel (listed.setIfInBounds i true) a' g') → wpAnyR P ops md W0 T m Q (fuel + 1) listed a g := by
  intro fuel
  induction fuel with
  | zero =>
    intro listed a g _ _ _ hr hW H
    refine ⟨⟨i, him, hr⟩, fun j hj hjm oj hoj => ?_⟩
    by_cases hji : j = i
    · subst hji; rw [hi] at hoj; cases hoj; exact H
    · obtain ⟨a', g', h⟩ := relOp_some hW H
      have h1 := h.1 j hjm
      rw [getD_set_ne false (Ne.symm hji)] at h1
      exact absurd rfl (listed_ne h1 (mem_ready.1 hj).1)
  | succ fuel ih =>
    intro listed a g hd hg hfree hr hW H
    refine ⟨⟨i, him, hr⟩, fun j hj hjm oj hoj => ?_⟩
    by_cases hji : j = i
    · subst hji; rw [hi] at hoj; cases hoj; exact H
    · obtain ⟨hjun, oj', hoj', hall⟩ := mem_ready.1 hj
      have hiun := (mem_ready.1 hr).1
      have hnot : ∀ e ∈ oj.after, Region.binds md e = true → e.on ≠ i := fun e he hb heq => by
        rw [hoj] at hoj'; cases hoj'
        have h1 := hall e he hb
        rw [heq] at h1
        exact absurd rfl (listed_ne h1 hiun)
      have hap := hfree j oj hoj hji hjun hnot
      obtain ⟨h1, h2, h3⟩ := Oper.apart_spec hap
      have hrj := ready_mono hj hji
      have hri := ready_mono hr (Ne.symm hji)
      have hfree' : ∀ k ok, ops[k]? = some ok → k ≠ i → (listed.setIfInBounds j true).getD k true = false →
          (∀ e ∈ ok.after, Region.binds md e = true → e.on ≠ i) → oi.apart ops ok = true := fun k ok hk hki hun hno => by
        refine hfree k ok hk hki ?_ hno
        by_cases hjk : j = k
        · subst hjk; exact hjun
        · rw [getD_set_ne true hjk] at hun; exact hun
      have hg' : ∀ (g' : Gh), (∀ k, k ≠ j → g' k = g k) → ∀ k, (listed.setIfInBounds j true).getD k true = false → g' k = none := fun g' he k hk => by
        by_cases hjk : j = k
        · subst hjk
          exfalso
          have hlt : j < listed.size := by
            rcases Nat.lt_or_ge j listed.size with h | h
            · exact h
            · simp [Array.getElem?_eq_none h] at hjun
          simp [hlt] at hk
        · rw [getD_set_ne true hjk] at hk
          rw [he k (Ne.symm hjk)]
          exact hg k hk
      -- what one does not see of the other
      have ei : ∀ (a : Act) u, execOp (a.put oj.dst u).eval oi = execOp a.eval oi := fun a u => execOp_put oi (fun cs b => hsel i oi cs b hi) a oj.dst u h3
      have wi : ∀ (a : Act) u, Region.wanted oi (yielded ops (a.put oj.dst u).tmps) = Region.wanted oi (yielded ops a.tmps) := fun a u => wanted_put oi a oj.dst u h3
      have ej : ∀ (a : Act) u, execOp (a.put oi.dst u).eval oj = execOp a.eval oj := fun a u => execOp_put oj (fun cs b => hsel j oj cs b hoj) a oi.dst u h1
      have wj : ∀ (a : Act) u, Region.wanted oj (yielded ops (a.put oi.dst u).tmps) = Region.wanted oj (yielded ops a.tmps) := fun a u => wanted_put oj a oi.dst u h1
      have ai : ∀ (g : Gh) u k, Anc md ops i k → g k = upd g j u k := fun g u k hk => (upd_other _ _ (listed_ne (anc_listed hd hr hk) hjun)).symm
      have aj : ∀ (g : Gh) u k, Anc md ops j k → g k = upd g i u k := fun g u k hk => (upd_other _ _ (listed_ne (anc_listed hd hj hk) hiun)).symm
      have hcm : (listed.setIfInBounds i true).setIfInBounds j true = (listed.setIfInBounds j true).setIfInBounds i true := Array.setIfInBounds_comm _ _ (Ne.symm hji)
      have hdj := hd.set hj
      rcases H with ⟨u, hy, hA⟩ | ⟨S, hy, hA⟩
      · rcases hA.2 j hrj hjm oj hoj with ⟨x, hx, hB⟩ | ⟨S', hx, hB⟩
        · refine .inl ⟨x, hx.congr (ej a u).symm (wj a u).symm (fun _ _ => rfl), ih _ _ _ hdj (hg' g fun _ _ => rfl) hfree' hri hW (.inl ⟨u, hy.congr (ei a x) (wi a x) (fun _ _ => rfl), ?_⟩)⟩
          rw [← hcm, ← Act.put_comm a u x h2]
          exact hB
        · refine .inr ⟨S', hx.congr (ej a u).symm (wj a u).symm (fun _ _ => rfl), fun x hxW => ih _ _ _ hdj (hg' _ fun k hk => upd_other _ _ hk) hfree' hri hxW (.inl ⟨u, hy.congr (ei a x) (wi a x) (ai g x), ?_⟩)⟩
          rw [← hcm, ← Act.put_comm a u x h2]
          exact hB x hxW
      · obtain ⟨v0, hv0⟩ := hy.val hW
        rcases (hA v0 hv0).2 j hrj hjm oj hoj with ⟨x, hx, _⟩ | ⟨S', hx, _⟩
        · have hx0 : Yq P ops md W0 T j oj a g x := hx.congr (ej a v0).symm (wj a v0).symm (fun k hk => (aj g v0 k hk).symm)
          refine .inl ⟨x, hx0, ih _ _ _ hdj (hg' g fun _ _ => rfl) hfree' hri hW (.inr ⟨S, hy.congr (ei a x) (wi a x) (fun _ _ => rfl), fun v hv => ?_⟩)⟩
          rcases (hA v hv).2 j hrj hjm oj hoj with ⟨x', hx', hB⟩ | ⟨S', hx', _⟩
          · have hx1 : Yq P ops md W0 T j oj a g x' := hx'.congr (ej a v).symm (wj a v).symm (fun k hk => (aj g v k hk).symm)
            obtain ⟨W, hW⟩ := hW
            have := hx0.unique hx1 hW
            subst this
            rw [← hcm, ← Act.put_comm a v x h2]
            exact hB
          · exact (hx0.not_Yr (hx'.congr (ej a v).symm (wj a v).symm (fun k hk => (aj g v k hk).symm))).elim
        · have hx0 : Yr P ops md W0 T j oj a g S' := hx.congr (ej a v0).symm (wj a v0).symm (fun k hk => (aj g v0 k hk).symm)
          refine .inr ⟨S', hx0, fun x hxW => ih _ _ _ hdj (hg' _ fun k hk => upd_other _ _ hk) hfree' hri hxW (.inr ⟨S, hy.congr (ei a x) (wi a x) (ai g x), fun v hv => ?_⟩)⟩
          have hv' : ∃ W, Cl W0 T All (upd g i v) W := by
            obtain ⟨W, hW⟩ := hv
            rw [← upd_comm _ _ _ (Ne.symm hji)] at hW
            exact ⟨W, hW.drop (by rw [upd_other _ _ hji]; exact hg j hjun)⟩
          rcases (hA v hv').2 j hrj hjm oj hoj with ⟨x', hx', _⟩ | ⟨S'', hx', hB⟩
          · exact ((hx'.congr (ej a v).symm (wj a v).symm (fun k hk => (aj g v k hk).symm) : Yq P ops md W0 T j oj a g x').not_Yr hx0).elim
          · rw [← hcm, ← Act.put_comm a v x h2, ← upd_comm _ _ _ (Ne.symm hji)]
            exact hB x (by rw [upd_comm _ _ _ (Ne.symm hji)]; exact hv)

/-- The walk in the order of the text. -/
def wpRel (P : Program) (ops : Array Oper) (md : Region.Mode) (W0 : World) (T : Nat → Option Spec) (Q : Act → Gh → Prop) : List Oper → Nat → Act → Gh → Prop
  | [], _, a, g => Q a g
  | o :: l, k, a, g => relOp P ops md W0 T k o a g (fun a' g' => wpRel P ops md W0 T Q l (k + 1) a' g')

def lexPre (md : Region.Mode) (ops : Array Oper) (m : Nat) : Nat → Nat → Array Bool → Bool
  | 0, _, listed => (List.range m).all fun i => listed.getD i false
  | fuel + 1, k, listed => (Region.ready md ops listed).contains k && Region.free md ops listed k && lexPre md ops m fuel (k + 1) (listed.setIfInBounds k true)

theorem rel_lex {Q : Act → Gh → Prop} (hs : Region.noSelect ops = true) : ∀ (l : List Oper) (k : Nat) (listed : Array Bool) (a : Act) (g : Gh), (∀ j, j < l.length → l[j]? = ops[k + j]?) → k + l.length = m →
    lexPre md ops m l.length k listed = true → Down md ops listed → (∀ j, listed.getD j true = false → g j = none) → (∃ W, Cl W0 T All g W) → wpRel P ops md W0 T Q l k a g → wpAnyR P ops md W0 T m Q l.length listed a g
  | [], k, listed, a, g, _, _, hB, _, _, _, h => ⟨fun i hi => by
      simp only [List.length_nil, lexPre, List.all_eq_true, List.mem_range] at hB
      exact hB i hi, h⟩
  | o :: l, k, listed, a, g, hl, hk, hB, hd, hg, hW, h => by
    have h0 : ops[k]? = some o := by simpa using (hl 0 (by simp)).symm
    simp only [List.length_cons, lexPre, Bool.and_eq_true] at hB
    obtain ⟨⟨hr, hf⟩, hB'⟩ := hB
    have hr : k ∈ Region.ready md ops listed := by simpa using hr
    refine rel_first h0 (by simp at hk; omega) (Region.noSelect_spec hs) l.length listed a g hd hg (Region.free_spec h0 hf) hr hW (relOp_mono hW h fun v g' hW' hg' hK => ?_)
    refine rel_lex hs l (k + 1) _ _ g' (fun j hj => by have := hl (j + 1) (by simp; omega); simpa [Nat.add_assoc, Nat.add_comm 1 j] using this) (by simp at hk; omega) hB' (hd.set hr) (fun j hj => ?_) hW' hK
    by_cases hjk : k = j
    · subst hjk
      exfalso
      have hlt : k < listed.size := by
        rcases Nat.lt_or_ge k listed.size with h | h
        · exact h
        · have := (mem_ready.1 hr).1
          simp [Array.getElem?_eq_none h] at this
      simp [hlt] at hj
    · rw [getD_set_ne true hjk] at hj
      rw [hg' j (Ne.symm hjk)]
      exact hg j hj

def firstB (m t : Nat) : Array Bool := Array.replicate m true ++ Array.replicate t false

theorem wpAny_of_rel {Q : Exit → Act → World → Prop} {t : Nat} (hmt : m + t = ops.size) (htail : ∀ j, m ≤ j → j < ops.size → ∀ i, i < m → Anc md ops j i) :
    ∀ (fuel : Nat) (listed : Array Bool) (a : Act) (g : Gh) (W : World), Down md ops listed → listed.size = ops.size → (∀ j, m ≤ j → j < ops.size → listed.getD j true = false) → Cl W0 T All g W →
      wpAnyR P ops md W0 T m (fun a' g' => ∀ W, Cl W0 T All g' W → wpAny P md ops Q t (firstB m t) a' W) fuel listed a g → wpAny P md ops Q (fuel + t) listed a W := by
  intro fuel
  induction fuel with
  | zero =>
    intro listed a g W hd hsz htl hW h
    rw [Nat.zero_add]
    have : listed = firstB m t := by
      unfold firstB
      apply Array.ext
      · simp [hsz, hmt]
      · intro j h1 h2
        by_cases hj : j < m
        · rw [Array.getElem_append_left (by simpa using hj)]
          have := h.1 j hj
          simpa [h1] using this
        · rw [Array.getElem_append_right (by simpa using hj)]
          have := htl j (by omega) (by omega)
          simpa [h1] using this
    rw [this]
    exact h.2 W hW
  | succ fuel ih =>
    intro listed a g W hd hsz htl hW h
    obtain ⟨⟨k, hkm, hk⟩, h⟩ := h
    rw [show fuel + 1 + t = (fuel + t) + 1 by omega]
    refine ⟨fun h0 => (by rw [h0] at hk; cases hk), fun i hi => ?_⟩
    obtain ⟨hun, o, ho, _⟩ := mem_ready.1 hi
    have hlt : i < ops.size := (Array.getElem?_eq_some_iff.1 ho).1
    have him : i < m := by
      rcases Nat.lt_or_ge i m with h1 | h1
      · exact h1
      · exact absurd rfl (listed_ne (anc_listed hd hi (htail i h1 hlt k hkm)) (mem_ready.1 hk).1)
    have next : ∀ v g' W', Cl W0 T All g' W' → wpAnyR P ops md W0 T m (fun a' g' => ∀ W, Cl W0 T All g' W → wpAny P md ops Q t (firstB m t) a' W) fuel (listed.setIfInBounds i true) (a.put o.dst v) g' → wpAny P md ops Q (fuel + t) (listed.setIfInBounds i true) (a.put o.dst v) W' := fun v g' W' hW' hK =>
      ih _ _ g' W' (hd.set hi) (by simpa using hsz) (fun j h1 h2 => by rw [getD_set_ne true (by omega)]; exact htl j h1 h2) hW' hK
    have hcl : Cl W0 T (Anc md ops i) g W := hW.mono (fun _ _ => trivial) (fun _ _ => rfl)
    unfold wpOp
    simp only [ho]
    rcases h i hi him o ho with ⟨u, hy, hK⟩ | ⟨S, hy, hK⟩
    · rcases hy with ⟨hw, _, hq⟩ | ⟨hw, rfl⟩
      · simp only [hw, if_true]
        refine .inl ?_
        have hq := hq W hcl
        unfold qly at hq
        unfold Oper.wp
        generalize (execOp a.eval o).run P W = r at hq
        cases r with
        | ok n w' =>
          cases n <;> simp only [qUpon] at hq
          case value v => obtain ⟨rfl, rfl⟩ := hq; exact next _ _ _ hW hK
          case skip => obtain ⟨rfl, rfl⟩ := hq; exact next _ _ _ hW hK
        | halt x w' => simp only [qUpon] at hq
      · simp only [hw, Bool.false_eq_true, if_false]
        exact next _ _ _ hW hK
    · simp only [hy.1, if_true]
      refine .inl ?_
      have hq := hy.2.2 W hcl
      unfold gives at hq
      unfold Oper.wp
      generalize (execOp a.eval o).run P W = r at hq
      cases r with
      | ok n w' =>
        cases n <;> simp only [gUpon] at hq
        case value v => exact next _ _ _ (hW.upd hq.2 hy.2.1 hq.1) (hK v ⟨_, hW.upd hq.2 hy.2.1 hq.1⟩)
        case enter f args =>
          refine Calls.mono hq ?_
          rintro e w'' ⟨v, rfl, hR, hE⟩
          exact next _ _ _ (hW.upd hE hy.2.1 hR) (hK v ⟨_, hW.upd hE hy.2.1 hR⟩)
      | halt x w' => simp only [gUpon] at hq

def relB (ops : Array Oper) (m t : Nat) : Bool :=
  decide (m + t = ops.size) && Region.noSelect ops && lexPre .any ops m m 0 (Array.replicate ops.size false) &&
    (List.range t).all fun j => (List.range m).all fun i => (ancs .any ops (m + j)).contains i

/-- The first m operations in the order of the text; the t behind them as ever. -/
theorem wp_region_rel {id : Nat} {Q : Exit → Act → World → Prop} {a : Act} {w : World} {l : List Oper} (T : Nat → Option Spec) (m t : Nat) (hm : P.follows .mixedOrders = true) (hB : relB l.toArray m t = true)
    (h : wpRel P l.toArray .any w.drew T (fun a' g' => ∀ W, Cl w.drew T All g' W → wpAny P .any l.toArray Q t (firstB m t) a' W) (l.take m) 0 a (fun _ => none)) : (Code.region id l.toArray true).wp P Q a w := by
  simp only [relB, Bool.and_eq_true, decide_eq_true_eq, List.all_eq_true, List.mem_range] at hB
  obtain ⟨⟨⟨hmt, hs⟩, hlex⟩, htail⟩ := hB
  have hml : m ≤ l.length := by simp at hmt; omega
  have hlen : (l.take m).length = m := by simp; omega
  have hW : Cl w.drew T All (fun _ => none) w.drew := ⟨Ext.refl _, fun _ _ _ _ hv => by cases hv⟩
  have hd : Down .any l.toArray (Array.replicate l.toArray.size false) := fun j hj => by
    exfalso
    rcases Nat.lt_or_ge j l.length with h | h <;> simp [h] at hj
  have key := rel_lex (P := P) (md := .any) (m := m) (W0 := w.drew) (T := T) (ops := l.toArray) hs (l.take m) 0 (Array.replicate l.toArray.size false) a (fun _ => none) (fun j hj => by
    rw [hlen] at hj
    rw [List.getElem?_take, if_pos hj]
    simp) (by simp; omega) (by rw [hlen]; exact hlex) hd (fun _ _ => rfl) ⟨_, hW⟩ h
  rw [hlen] at key
  refine wp_region_any hm ?_
  have := wpAny_of_rel (P := P) hmt (fun j h1 h2 i hi => by
    have := htail (j - m) (by omega) i hi
    rwa [show m + (j - m) = j by omega] at this) m _ a _ w.drew hd (by simp) (fun j h1 h2 => by
      simp only [List.size_toArray] at h2
      simp [h2]) hW key
  rw [hmt] at this
  exact this

/-- All of them in the order of the text. -/
theorem wp_region_rel_all {id : Nat} {Q : Exit → Act → World → Prop} {a : Act} {w : World} {l : List Oper} (T : Nat → Option Spec) (hm : P.follows .mixedOrders = true) (hB : relB l.toArray l.length 0 = true)
    (h : wpRel P l.toArray .any w.drew T (fun a' g' => ∀ W, Cl w.drew T All g' W → Q .normal a' W) l 0 a (fun _ => none)) : (Code.region id l.toArray true).wp P Q a w := by
  refine wp_region_rel T l.length 0 hm hB ?_
  rw [List.take_length]
  have hr : Region.ready .any l.toArray (firstB l.length 0) = [] := by
    unfold Region.ready firstB
    rw [List.filter_eq_nil_iff]
    intro i hi
    have : i < l.length := by simpa using List.mem_range.1 hi
    simp [this]
  have e : (fun (a' : Act) (g' : Gh) => ∀ W, Cl w.drew T All g' W → wpAny P .any l.toArray Q 0 (firstB l.length 0) a' W) = (fun a' g' => ∀ W, Cl w.drew T All g' W → Q .normal a' W) := by
    funext a' g'
    simp only [wpAny, hr, true_and]
  rw [e]
  exact h

def plainOp : Op → Bool
  | .move _ | .assign _ | .pick .. | .build .. | .load .. | .binOp .. | .unOp .. | .convert .. | .makeInterface .. | .makeFunc .. | .slice .. | .fieldAddr .. | .field .. | .indexAddr .. | .index .. | .extract .. => true
  | _ => false
theorem noEnter {ρ : Operand → Value} {o : Oper} (h : plainOp o.op = true) : ∀ f args W W', (execOp ρ o).run P W ≠ .ok (.enter f args) W' := by
  intro f args W W' he
  have key : ∀ (s : Sem Value), ((do let a ← s; pure (Next.value a)) : Sem Next).run P W ≠ .ok (.enter f args) W' := fun s he => by
    rw [Sem.run_bind] at he
    cases hs : s.run P W with
    | ok v w' => rw [hs] at he; simp only [Result.andThen_ok, Sem.run_pure] at he; cases he
    | halt x w' => rw [hs] at he; cases he
  obtain ⟨dst, op, type, pos, after, guard⟩ := o
  cases op <;> simp only [plainOp] at h <;> try cases h
  all_goals unfold execOp at he
  all_goals simp only at he
  all_goals first | exact key _ he | (simp only [Sem.run_pure] at he; cases he) | skip
  all_goals
    rw [Sem.run_bind] at he
    rename_i c a b
    cases hs : (asBool (ρ c)).run P W with
    | ok v w' => rw [hs] at he; simp only [Result.andThen_ok, Sem.run_pure] at he; cases he
    | halt x w' => rw [hs] at he; cases he
/-! The steps. -/
theorem wpRel_nil {Q : Act → Gh → Prop} {k : Nat} {a : Act} {g : Gh} (h : Q a g) : wpRel P ops md W0 T Q [] k a g := h
theorem wpRel_skip {Q : Act → Gh → Prop} {o : Oper} {l : List Oper} {k : Nat} {a : Act} {g : Gh} (hw : Region.wanted o (yielded ops a.tmps) = false) (h : wpRel P ops md W0 T Q l (k + 1) (a.put o.dst undef) g) : wpRel P ops md W0 T Q (o :: l) k a g :=
  .inl ⟨_, .inr ⟨hw, rfl⟩, h⟩
/-- by the kit's quick step: the goal that is left is one for go_big_quiet_op -/
theorem wpRel_quick {Q : Act → Gh → Prop} {o : Oper} {l : List Oper} {k : Nat} {a : Act} {g : Gh} (hw : Region.wanted o (yielded ops a.tmps) = true) (hT : T k = none) (hpl : ∀ f args, ∀ W W', (execOp a.eval o).run P W ≠ .ok (.enter f args) W')
    (h : ∀ K : Act → Prop, (∀ a, wpRel P ops md W0 T Q l (k + 1) a g → K a) → o.quiet P a (fun W => ∃ X, W = W0.grow X) K) : wpRel P ops md W0 T Q (o :: l) k a g := by
  obtain ⟨v, h1, h2⟩ := h _ (fun _ h => h)
  refine .inl ⟨v, .inl ⟨hw, hT, fun W hW => ?_⟩, h2⟩
  have h3 := h1 W hW.1.grow
  unfold Oper.quietAt at h3
  unfold qly
  generalize hr : (execOp a.eval o).run P W = r at h3
  cases r with
  | ok n w' =>
    cases n <;> simp only [Oper.quietUpon] at h3 <;> simp only [qUpon]
    case value u => exact h3
    case skip => exact h3
    case enter f args => exact absurd hr (hpl f args W w')
  | halt x w' => simp only [Oper.quietUpon] at h3
theorem wpRel_quiet {Q : Act → Gh → Prop} {o : Oper} {l : List Oper} {k : Nat} {a : Act} {g : Gh} (u : Value) (hw : Region.wanted o (yielded ops a.tmps) = true) (hT : T k = none)
    (hq : ∀ W, Cl W0 T (Anc md ops k) g W → qUpon W u ((execOp a.eval o).run P W)) (h : wpRel P ops md W0 T Q l (k + 1) (a.put o.dst u) g) : wpRel P ops md W0 T Q (o :: l) k a g :=
  .inl ⟨u, .inl ⟨hw, hT, hq⟩, h⟩
theorem wpRel_rich {Q : Act → Gh → Prop} {o : Oper} {l : List Oper} {k : Nat} {a : Act} {g : Gh} (S : Spec) (hT : T k = some S) (hw : Region.wanted o (yielded ops a.tmps) = true)
    (hq : ∀ W, Cl W0 T (Anc md ops k) g W → gUpon P W S.R ((execOp a.eval o).run P W)) (h : ∀ v W, Cl W0 T All (upd g k v) W → S.R v W → wpRel P ops md W0 T Q l (k + 1) (a.put o.dst v) (upd g k v)) : wpRel P ops md W0 T Q (o :: l) k a g :=
  .inr ⟨S, ⟨hw, hT, hq⟩, fun v ⟨W, hW⟩ => h v W hW (hW.2 k trivial v S (upd_same _ _ _) hT)⟩
/-- a slice of n elements and capacity c that holds the rows -/
def spSL (k n c : Nat) (rows : List (List Value)) : Spec := ⟨fun v W => ∃ ao, v = .slice ao n c ∧ SL W k ao c rows, fun hE ⟨ao, h1, h2⟩ => ⟨ao, h1, h2.ext hE⟩⟩
/-- a slice of n elements that holds the rows -/
def spSL' (k n : Nat) (rows : List (List Value)) : Spec := ⟨fun v W => ∃ ao c, v = .slice ao n c ∧ SL W k ao c rows, fun hE ⟨ao, c, h1, h2⟩ => ⟨ao, c, h1, h2.ext hE⟩⟩
/-- what an append onto ao yields: a slice of n elements that holds the rows; ao's own memory if nothing was appended, else memory from D on -/
def spAp (k n : Nat) (rows : List (List Value)) (D m : Nat) (ao0 : Option Addr) : Spec := ⟨fun v W => ∃ ao c, v = .slice ao n c ∧ SL W k ao c rows ∧ ((m = 0 ∧ ao = ao0) ∨ ∀ a, ao = some a → D ≤ a.block), fun hE ⟨ao, c, h1, h2, h3⟩ => ⟨ao, c, h1, h2.ext hE, h3⟩⟩
/-- a row of the call's own, in memory from D on -/
def spOwn (D : Nat) (e : TypeId) (k n : Nat) (rows : List (List Value)) : Spec := ⟨fun v W => W.ownsRow D e k v n rows.flatten, fun hE h => ownsRow_ext h hE⟩
/-- an empty row of the call's own -/
def spE (D : Nat) (e : TypeId) (k : Nat) : Spec := ⟨fun v W => ∃ g, v = .slice (some ⟨g, 0, none⟩) 0 0 ∧ W.ownsRow D e k v 0 [], fun hE ⟨g, h, h2⟩ => ⟨g, h, ownsRow_ext h2 hE⟩⟩
/-- this very value, of a call -/
def spV (u : Value) : Spec := ⟨fun v _ => v = u, fun _ h => h⟩

/-- new rows -/
theorem sl_news (W : World) (rows : List (List Value)) (k n : Nat) (e : TypeId) (hw : ∀ r ∈ rows, r.length = k) (hn : rows.length = n) (hm : n ≤ 9223372036854775807) : SL (W.alloc (.cells rows.flatten.toArray e)) k (some ⟨W.heap.size, 0, none⟩) n rows := by
  have hown : (W.alloc (.cells rows.flatten.toArray e)).ownsRow 0 e k (.slice (some ⟨W.heap.size, 0, none⟩) n n) n rows.flatten := by
    have h := World.ownsRow_lit (base := 0) (e := e) W rows.flatten.toArray n (size := k) (Nat.zero_le _) (by unfold maxLen; omega) (by simp only [List.size_toArray]; rw [flat_len rows hw, hn])
    simpa using h
  obtain ⟨ao, cap, hv, hs, _⟩ := SL.of_owns hown hw hn
  rw [hn] at hv
  cases hv
  exact hs
theorem sl_new (W : World) (cs : List Value) (k : Nat) (e : TypeId) (hk : cs.length = k) : SL (W.alloc (.cells cs.toArray e)) k (some ⟨W.heap.size, 0, none⟩) 1 [cs] := by
  have := sl_news W [cs] k 1 e (by simpa using hk) rfl (by omega)
  simpa using this

theorem g_append_full {o : Oper} {a : Act} {W : World} (s x : Operand) (t tx : TypeId)
    (ho : o.op = .call { callee := .builtin .append, args := #[s, x], argTypes := #[t, tx] })
    (e : TypeId) (i : TypeInfo) (z : Value) (size bytes : Nat) (ht : P.underlying t = some (.slice e)) (hi : P.info? e = some i) (hz : i.zero = some z)
    (hsize : i.size = size) (hby : i.bytes = bytes) (hzs : z.cells.size = size) (hsz : 0 < size)
    (ao : Option Addr) (n : Nat) (rows : List (List Value)) (hv : a.eval s = .slice ao n n) (hs : SL W size ao n rows) (hrn : rows.length = n) (sv : Value) (m : Nat) (hsp : m = 0 → rows = [] → ∀ a, ao = some a → a.spot = none)
    (rows2 : List (List Value)) (hx : a.eval x = sv) (hsrc : Src P size tx sv m rows2.flatten W) (hw2 : ∀ r ∈ rows2, r.length = size) (hm : rows2.length = m)
    (h63 : n + m ≤ maxLen) (hbytes : (n + m) * bytes ≤ 140737488355328) (D : Nat) (hD : D ≤ W.heap.size) : gUpon P W (spAp size (n + m) (rows ++ rows2) D m ao).R ((execOp a.eval o).run P W) := by
  obtain ⟨ao', cap', w', hr, h2, h3, h4⟩ := run_append_full (P := P) W t tx o.type e i z size bytes ht hi hz hsize hby hzs hsz ao n rows hs hrn sv m hsp rows2 hsrc hw2 hm h63 hbytes
  unfold execOp
  simp only [ho, resolve, invoke, builtin, Sem.run_bind, Sem.run_pure, Result.andThen_ok, List.map_toArray, List.map_cons, List.map_nil, hv, hx, hr]
  exact ⟨⟨ao', cap', rfl, h2, h4.imp id fun h a ha => Nat.le_trans hD (h a ha)⟩, h3⟩
/-- append onto an empty row of the call's own that has no room -/
theorem run_append_fresh (w : World) (t tx ty e : TypeId) (i : TypeInfo) (z : Value) (size bytes : Nat) (ht : P.underlying t = some (.slice e)) (hi : P.info? e = some i) (hz : i.zero = some z)
    (hsize : i.size = size) (hby : i.bytes = bytes) (hzs : z.cells.size = size) (hsz : 0 < size) (D : Nat) (hD : D ≤ w.heap.size)
    (b : Nat) (hown : w.ownsRow D e size (.slice (some ⟨b, 0, none⟩) 0 0) 0 [])
    (sv : Value) (m : Nat) (rows2 : List (List Value)) (hsrc : Src P size tx sv m rows2.flatten w) (hw2 : ∀ r ∈ rows2, r.length = size) (hm : rows2.length = m)
    (h63 : m ≤ maxLen) (hbytes : m * bytes ≤ 140737488355328) :
    ∃ v' w', (Builtin.append_ #[t, tx] ty #[.slice (some ⟨b, 0, none⟩) 0 0, sv]).run P w = .ok v' w' ∧ w'.ownsRow D e size v' m rows2.flatten ∧ Ext w w' := by
  obtain ⟨ao', cap', w1, hr1, _, h1, _⟩ := run_append_full (P := P) w t tx ty e i z size bytes ht hi hz hsize hby hzs hsz (some ⟨b, 0, none⟩) 0 [] (SL.done _) rfl sv m (fun _ _ a ha => by cases ha; rfl) rows2 hsrc hw2 hm (by rw [Nat.zero_add]; exact h63) (by rw [Nat.zero_add]; exact hbytes)
  obtain ⟨v', w', hr, h2, _⟩ := run_append_src_own (P := P) w D t tx ty e i z size bytes ht hi hz hsize hby hzs _ 0 [] hown sv m rows2.flatten hsrc (by rw [Nat.zero_add]; exact h63) (by rw [Nat.zero_add]; exact hbytes) hD
  rw [hr1] at hr
  cases hr
  refine ⟨_, _, hr1, ?_, h1⟩
  simp only [Nat.zero_add, List.nil_append] at h2 ⊢
  exact h2

theorem g_append_fresh {o : Oper} {a : Act} {W : World} (s x : Operand) (t tx : TypeId)
    (ho : o.op = .call { callee := .builtin .append, args := #[s, x], argTypes := #[t, tx] })
    (e : TypeId) (i : TypeInfo) (z : Value) (size bytes : Nat) (ht : P.underlying t = some (.slice e)) (hi : P.info? e = some i) (hz : i.zero = some z)
    (hsize : i.size = size) (hby : i.bytes = bytes) (hzs : z.cells.size = size) (hsz : 0 < size) (D : Nat) (hD : D ≤ W.heap.size)
    (b : Nat) (hv : a.eval s = .slice (some ⟨b, 0, none⟩) 0 0) (hown : W.ownsRow D e size (.slice (some ⟨b, 0, none⟩) 0 0) 0 [])
    (sv : Value) (m : Nat) (rows2 : List (List Value)) (hx : a.eval x = sv) (hsrc : Src P size tx sv m rows2.flatten W) (hw2 : ∀ r ∈ rows2, r.length = size) (hm : rows2.length = m)
    (h63 : m ≤ maxLen) (hbytes : m * bytes ≤ 140737488355328) : gUpon P W (spOwn D e size m rows2).R ((execOp a.eval o).run P W) := by
  obtain ⟨v', w', hr, h2, h3⟩ := run_append_fresh (P := P) W t tx o.type e i z size bytes ht hi hz hsize hby hzs hsz D hD b hown sv m rows2 hsrc hw2 hm h63 hbytes
  unfold execOp
  simp only [ho, resolve, invoke, builtin, Sem.run_bind, Sem.run_pure, Result.andThen_ok, List.map_toArray, List.map_cons, List.map_nil, hv, hx, hr]
  exact ⟨h2, h3⟩
theorem own_empty (W : World) (D : Nat) (hD : D ≤ W.heap.size) (e : TypeId) (k : Nat) : (W.alloc (.cells #[] e)).ownsRow D e k (.slice (some ⟨W.heap.size, 0, none⟩) 0 0) 0 [] := by
  have h := World.ownsRow_lit (base := D) (e := e) W #[] 0 (size := k) hD (by unfold maxLen; omega) (by simp)
  simpa using h
/-- An owned row, read; where its memory lies. -/
theorem SL.of_own {w : World} {D e size n : Nat} {v : Value} {rows : List (List Value)} (h : w.ownsRow D e size v n rows.flatten) (hw : ∀ r ∈ rows, r.length = size) (hn : rows.length = n) :
    ∃ ao cap, v = .slice ao n cap ∧ SL w size ao cap rows ∧ (∀ a, ao = some a → D ≤ a.block) := by
  obtain ⟨ao, cap, hv, hs, hb⟩ := SL.of_owns h hw hn
  exact ⟨ao, cap, by rw [hv, hn], hs, fun a ha => ownsRow_blocks h _ (hb a ha)⟩
end
end Go.Sz
namespace Go.Sz
open Go.RowKit
section
variable {P : Program} {ops : Array Oper} {md : Region.Mode} {W0 : World} {T : Nat → Option Spec} {m : Nat}

/-- operations that read no memory and yield or stop, whatever the world -/
def wless : Op → Bool
  | .move _ | .assign _ | .extract .. => true
  | _ => false
theorem wless_all {o : Oper} {a : Act} {u : Value} {W : World} (h : wless o.op = true) (hq : qly P o a W u) : ∀ w, (execOp a.eval o).run P w = .ok (.value u) w := by
  obtain ⟨dst, op, type, pos, after, guard⟩ := o
  unfold qly at hq
  cases op <;> simp only [wless] at h <;> try cases h
  all_goals unfold execOp at hq ⊢
  all_goals simp only at hq ⊢
  · simp only [Sem.run_pure, qUpon] at hq ⊢
    intro w; rw [hq.2]
  · simp only [Sem.run_pure, qUpon] at hq ⊢
    intro w; rw [hq.2]
  · rename_i t ix
    intro w
    unfold Instr.extract at hq ⊢
    cases hv : a.eval t with
    | tuple vs =>
      rw [hv] at hq
      simp only at hq ⊢
      cases hx : vs[ix]? with
      | some v =>
        rw [hx] at hq
        simp only [Sem.run_bind, Sem.run_pure, Result.andThen_ok, qUpon] at hq ⊢
        rw [hq.2]
      | none =>
        rw [hx] at hq
        simp [stuck, go_sem, qUpon] at hq
    | _ =>
      rw [hv] at hq
      simp [stuck, go_sem, qUpon] at hq

theorem wpAny_of_rel2 {Q : Exit → Act → World → Prop} {t : Nat} {U : List Nat} (hmt : m + t = ops.size) (hsel : ∀ (j : Nat) (o : Oper) cs b, ops[j]? = some o → o.op ≠ .select cs b)
    (hQ : ∀ c a d v w, Q (.panic c) (Act.put a d v) w → Q (.panic c) a w)
    (hU : ∀ i ∈ U, i < m ∧ T i = none ∧ ∃ o, ops[i]? = some o ∧ wless o.op = true ∧ ∀ j oj, ops[j]? = some oj → j ≠ i → j ∉ direct md ops i → (∀ e ∈ oj.after, Region.binds md e = true → e.on ≠ i) → o.apart ops oj = true)
    (htail : ∀ j, m ≤ j → j < ops.size → ∀ i, i < m → Anc md ops j i ∨ (i ∈ U ∧ ∀ d ∈ direct md ops i, Anc md ops j d)) :
    ∀ (fuel : Nat) (listed : Array Bool) (a : Act) (g : Gh) (W : World), Down md ops listed → listed.size = ops.size → (∀ j, m ≤ j → j < ops.size → listed.getD j true = false) → Cl W0 T All g W →
      wpAnyR P ops md W0 T m (fun a' g' => ∀ W, Cl W0 T All g' W → wpAny P md ops Q t (firstB m t) a' W) fuel listed a g → wpAny P md ops Q (fuel + t) listed a W := by
  intro fuel
  induction fuel with
  | zero =>
    intro listed a g W hd hsz htl hW h
    rw [Nat.zero_add]
    have : listed = firstB m t := by
      unfold firstB
      apply Array.ext
      · simp [hsz, hmt]
      · intro j h1 h2
        by_cases hj : j < m
        · rw [Array.getElem_append_left (by simpa using hj)]
          have := h.1 j hj
          simpa [h1] using this
        · rw [Array.getElem_append_right (by simpa using hj)]
          have := htl j (by omega) (by omega)
          simpa [h1] using this
    rw [this]
    exact h.2 W hW
  | succ fuel ih =>
    intro listed a g W hd hsz htl hW h
    obtain ⟨⟨k, hkm, hk⟩, h⟩ := h
    rw [show fuel + 1 + t = (fuel + t) + 1 by omega]
    have next : ∀ i, i < m → i ∈ Region.ready md ops listed → ∀ a' g' W', Cl W0 T All g' W' → wpAnyR P ops md W0 T m (fun a' g' => ∀ W, Cl W0 T All g' W → wpAny P md ops Q t (firstB m t) a' W) fuel (listed.setIfInBounds i true) a' g' → wpAny P md ops Q (fuel + t) (listed.setIfInBounds i true) a' W' := fun i him hi a' g' W' hW' hK =>
      ih _ _ g' W' (hd.set hi) (by simpa using hsz) (fun j h1 h2 => by rw [getD_set_ne true (by omega)]; exact htl j h1 h2) hW' hK
    by_cases hex : ∃ i, i ∈ U ∧ i ∈ Region.ready md ops listed
    · obtain ⟨i, hiU, hir⟩ := hex
      obtain ⟨him, hTi, o, ho, hwl, hap⟩ := hU i hiU
      have hcl : Cl W0 T (Anc md ops i) g W := hW.mono (fun _ _ => trivial) (fun _ _ => rfl)
      rcases h i hir him o ho with ⟨u, hy, hK⟩ | ⟨S, hy, _⟩
      · have hy' : Yields P ops o u a := by
          rcases hy with ⟨hw, _, hq⟩ | ⟨hw, rfl⟩
          · exact .inl ⟨hw, wless_all hwl (hq W hcl)⟩
          · exact .inr ⟨hw, rfl⟩
        exact wpAny_first ho hsel (fun c a w => hQ c a o.dst u w) _ _ _ _ (fun j oj hoj hji hun hno => hap j oj hoj hji (fun hd' => absurd rfl (listed_ne (direct_ready hir j hd') hun)) hno) hir hy' (next i him hir _ _ _ hW hK)
      · rw [hy.2.1] at hTi; cases hTi
    · refine ⟨fun h0 => (by rw [h0] at hk; cases hk), fun i hi => ?_⟩
      obtain ⟨hun, o, ho, _⟩ := mem_ready.1 hi
      have hlt : i < ops.size := (Array.getElem?_eq_some_iff.1 ho).1
      have him : i < m := by
        rcases Nat.lt_or_ge i m with h1 | h1
        · exact h1
        · rcases htail i h1 hlt k hkm with ha | ⟨hkU, _⟩
          · exact absurd rfl (listed_ne (anc_listed hd hi ha) (mem_ready.1 hk).1)
          · exact absurd ⟨k, hkU, hk⟩ hex
      have hcl : Cl W0 T (Anc md ops i) g W := hW.mono (fun _ _ => trivial) (fun _ _ => rfl)
      unfold wpOp
      simp only [ho]
      rcases h i hi him o ho with ⟨u, hy, hK⟩ | ⟨S, hy, hK⟩
      · rcases hy with ⟨hw, _, hq⟩ | ⟨hw, rfl⟩
        · simp only [hw, if_true]
          refine .inl ?_
          have hq := hq W hcl
          unfold qly at hq
          unfold Oper.wp
          generalize (execOp a.eval o).run P W = r at hq
          cases r with
          | ok n w' =>
            cases n <;> simp only [qUpon] at hq
            case value v => obtain ⟨rfl, rfl⟩ := hq; exact next i him hi _ _ _ hW hK
            case skip => obtain ⟨rfl, rfl⟩ := hq; exact next i him hi _ _ _ hW hK
          | halt x w' => simp only [qUpon] at hq
        · simp only [hw, Bool.false_eq_true, if_false]
          exact next i him hi _ _ _ hW hK
      · simp only [hy.1, if_true]
        refine .inl ?_
        have hq := hy.2.2 W hcl
        unfold gives at hq
        unfold Oper.wp
        generalize (execOp a.eval o).run P W = r at hq
        cases r with
        | ok n w' =>
          cases n <;> simp only [gUpon] at hq
          case value v => exact next i him hi _ _ _ (hW.upd hq.2 hy.2.1 hq.1) (hK v ⟨_, hW.upd hq.2 hy.2.1 hq.1⟩)
          case enter f args =>
            refine Calls.mono hq ?_
            rintro e w'' ⟨v, rfl, hR, hE⟩
            exact next i him hi _ _ _ (hW.upd hE hy.2.1 hR) (hK v ⟨_, hW.upd hE hy.2.1 hR⟩)
        | halt x w' => simp only [gUpon] at hq

def relB2 (ops : Array Oper) (m t : Nat) (U : List Nat) : Bool :=
  decide (m + t = ops.size) && Region.noSelect ops && lexPre .any ops m m 0 (Array.replicate ops.size false) &&
    ((List.range t).all fun j => (List.range m).all fun i => (ancs .any ops (m + j)).contains i || (U.contains i && (direct .any ops i).all fun d => (ancs .any ops (m + j)).contains d)) &&
    (U.all fun i => decide (i < m) && (match ops[i]? with
      | some o => wless o.op && (List.range ops.size).all fun j => j == i || (direct .any ops i).contains j || (match ops[j]? with
        | some oj => (oj.after.any fun e => Region.binds .any e && e.on == i) || o.apart ops oj
        | none => true)
      | none => false))

/-- The first m operations in the order of the text, those of U among them free to come late; the t behind them as ever. -/
theorem wp_region_rel2 {id : Nat} {Q : Exit → Act → World → Prop} {a : Act} {w : World} {l : List Oper} (T : Nat → Option Spec) (m t : Nat) (U : List Nat) (hm : P.follows .mixedOrders = true) (hB : relB2 l.toArray m t U = true) (hT : ∀ i ∈ U, T i = none)
    (hQ : ∀ c a d v w, Q (.panic c) (Act.put a d v) w → Q (.panic c) a w)
    (h : wpRel P l.toArray .any w.drew T (fun a' g' => ∀ W, Cl w.drew T All g' W → wpAny P .any l.toArray Q t (firstB m t) a' W) (l.take m) 0 a (fun _ => none)) : (Code.region id l.toArray true).wp P Q a w := by
  simp only [relB2, Bool.and_eq_true, decide_eq_true_eq, List.all_eq_true, List.mem_range] at hB
  obtain ⟨⟨⟨⟨hmt, hs⟩, hlex⟩, htail⟩, hUB⟩ := hB
  have hml : m ≤ l.length := by simp at hmt; omega
  have hlen : (l.take m).length = m := by simp; omega
  have hW : Cl w.drew T All (fun _ => none) w.drew := ⟨Ext.refl _, fun _ _ _ _ hv => by cases hv⟩
  have hd : Down .any l.toArray (Array.replicate l.toArray.size false) := fun j hj => by
    exfalso
    rcases Nat.lt_or_ge j l.length with h | h <;> simp [h] at hj
  have key := rel_lex (P := P) (md := .any) (m := m) (W0 := w.drew) (T := T) (ops := l.toArray) hs (l.take m) 0 (Array.replicate l.toArray.size false) a (fun _ => none) (fun j hj => by
    rw [hlen] at hj
    rw [List.getElem?_take, if_pos hj]
    simp) (by simp; omega) (by rw [hlen]; exact hlex) hd (fun _ _ => rfl) ⟨_, hW⟩ h
  rw [hlen] at key
  refine wp_region_any hm ?_
  have := wpAny_of_rel2 (P := P) (U := U) hmt (Region.noSelect_spec hs) hQ (fun i hi => by
    have h1 := hUB i hi
    cases ho : l.toArray[i]? with
    | none => rw [ho] at h1; simp at h1
    | some o =>
      rw [ho] at h1
      simp only [Bool.and_eq_true, List.all_eq_true, List.mem_range] at h1
      obtain ⟨h0, h2, h3⟩ := h1
      refine ⟨h0, hT i hi, o, rfl, h2, fun j oj hoj hji hnd hno => ?_⟩
      have hjl : j < l.toArray.size := (Array.getElem?_eq_some_iff.1 hoj).1
      have h4 := h3 j hjl
      rw [hoj] at h4
      simp only [Bool.or_eq_true, beq_iff_eq] at h4
      rcases h4 with (h4 | h4) | h4 | h4
      · exact absurd h4 hji
      · exact absurd (by simpa using h4) hnd
      · rw [Array.any_eq_true'] at h4
        obtain ⟨e, he, hb⟩ := h4
        simp only [Bool.and_eq_true, beq_iff_eq] at hb
        exact absurd hb.2 (hno e he hb.1)
      · exact h4) (fun j h1 h2 i hi => by
    have := htail (j - m) (by omega) i hi
    rw [show m + (j - m) = j by omega] at this
    simp only [Bool.or_eq_true, Bool.and_eq_true, List.all_eq_true] at this
    rcases this with h | ⟨h, h'⟩
    · exact .inl h
    · exact .inr ⟨by simpa using h, fun d hd => h' d hd⟩) m _ a _ w.drew hd (by simp) (fun j h1 h2 => by
      simp only [List.size_toArray] at h2
      simp [h2]) hW key
  rw [hmt] at this
  exact this
end
/-- a new variable of two cells that hold nil slices -/
def spVar2 (D : Nat) (t : TypeId) : Spec := ⟨fun v W => ∃ g, v = .pointer (some ⟨g, 0, none⟩) ∧ D ≤ g ∧ W.heap[g]? = some (.cells #[.slice none 0 0, .slice none 0 0] t (0, 0)), fun hE ⟨g, h1, h0, h2⟩ => ⟨g, h1, h0, (hE.block g (Array.getElem?_eq_some_iff.1 h2).1).trans h2⟩⟩
end Go.Sz
namespace Go.Sz
open Go.RowKit
section
variable {P : Program} {ops : Array Oper} {md : Region.Mode} {W0 : World} {T : Nat → Option Spec} {m : Nat}
def setAll : List Nat → Array Bool → Array Bool
  | [], b => b
  | e :: es, b => setAll es (b.setIfInBounds e true)
def earlyB (md : Region.Mode) (ops : Array Oper) : List Nat → Array Bool → Bool
  | [], _ => true
  | e :: es, b => (Region.ready md ops b).contains e && Region.free md ops b e && earlyB md ops es (b.setIfInBounds e true)
/-- each of them yields the same in every world -/
def earlyOK (P : Program) (ops : Array Oper) : List Nat → Act → (Act → Prop) → Prop
  | [], a, K => K a
  | e :: es, a, K => ∃ o u, ops[e]? = some o ∧ Yields P ops o u a ∧ earlyOK P ops es (a.put o.dst u) K
theorem earlyOK.cons {e : Nat} {es : List Nat} {a : Act} {K : Act → Prop} {o : Oper} (u : Value) (ho : ops[e]? = some o) (hy : Yields P ops o u a) (h : earlyOK P ops es (a.put o.dst u) K) : earlyOK P ops (e :: es) a K := ⟨o, u, ho, hy, h⟩
theorem wpAny_early {Q : Exit → Act → World → Prop} (hs : Region.noSelect ops = true) (hQ : ∀ c a d v w, Q (.panic c) (Act.put a d v) w → Q (.panic c) a w) : ∀ (es : List Nat) (n : Nat) (b : Array Bool) (a : Act) (w : World),
    earlyB md ops es b = true → earlyOK P ops es a (fun a' => wpAny P md ops Q n (setAll es b) a' w) → wpAny P md ops Q (n + es.length) b a w
  | [], _, _, _, _, _, h => h
  | e :: es, n, b, a, w, hB, ⟨o, u, ho, hy, h⟩ => by
    simp only [earlyB, Bool.and_eq_true] at hB
    obtain ⟨⟨h1, h2⟩, h3⟩ := hB
    rw [List.length_cons, ← Nat.add_assoc]
    exact wpAny_first ho (Region.noSelect_spec hs) (fun c a w => hQ c a o.dst u w) _ _ _ _ (fun j oj => Region.free_spec ho h2 j oj) (by simpa using h1) hy (wpAny_early hs hQ es n _ _ w h3 h)
theorem Down.early : ∀ (es : List Nat) (b : Array Bool), earlyB md ops es b = true → Down md ops b → Down md ops (setAll es b)
  | [], _, _, h => h
  | e :: es, b, hB, h => by
    simp only [earlyB, Bool.and_eq_true] at hB
    exact Down.early es _ hB.2 (h.set (by simpa using hB.1.1))
theorem setAll_size : ∀ (es : List Nat) (b : Array Bool), (setAll es b).size = b.size
  | [], _ => rfl
  | e :: es, b => by rw [setAll, setAll_size es]; simp
theorem wpAny_of_relE {Q : Exit → Act → World → Prop} {t : Nat} {fin : Array Bool} (hfs : fin.size = ops.size) (hfm : ∀ i, i < m → fin.getD i true = true) (htail : ∀ j, m ≤ j → j < ops.size → fin.getD j true = false → ∀ i, i < m → Anc md ops j i) :
    ∀ (fuel : Nat) (listed : Array Bool) (a : Act) (g : Gh) (W : World), Down md ops listed → listed.size = ops.size → (∀ j, m ≤ j → j < ops.size → listed.getD j true = fin.getD j true) → Cl W0 T All g W →
      wpAnyR P ops md W0 T m (fun a' g' => ∀ W, Cl W0 T All g' W → wpAny P md ops Q t fin a' W) fuel listed a g → wpAny P md ops Q (fuel + t) listed a W := by
  intro fuel
  induction fuel with
  | zero =>
    intro listed a g W hd hsz htl hW h
    rw [Nat.zero_add]
    have : listed = fin := by
      apply Array.ext
      · rw [hsz, hfs]
      · intro j h1 h2
        by_cases hj : j < m
        · have e1 := h.1 j hj
          have e2 := hfm j hj
          simp [h1] at e1
          simp [h2] at e2
          rw [e1, e2]
        · have := htl j (by omega) (by omega)
          simpa [h1, h2] using this
    rw [this]
    exact h.2 W hW
  | succ fuel ih =>
    intro listed a g W hd hsz htl hW h
    obtain ⟨⟨k, hkm, hk⟩, h⟩ := h
    rw [show fuel + 1 + t = (fuel + t) + 1 by omega]
    refine ⟨fun h0 => (by rw [h0] at hk; cases hk), fun i hi => ?_⟩
    obtain ⟨hun, o, ho, _⟩ := mem_ready.1 hi
    have hlt : i < ops.size := (Array.getElem?_eq_some_iff.1 ho).1
    have him : i < m := by
      rcases Nat.lt_or_ge i m with h1 | h1
      · exact h1
      · exact absurd rfl (listed_ne (anc_listed hd hi (htail i h1 hlt (by rw [← htl i h1 hlt]; exact hun) k hkm)) (mem_ready.1 hk).1)
    have next : ∀ v g' W', Cl W0 T All g' W' → wpAnyR P ops md W0 T m (fun a' g' => ∀ W, Cl W0 T All g' W → wpAny P md ops Q t fin a' W) fuel (listed.setIfInBounds i true) (a.put o.dst v) g' → wpAny P md ops Q (fuel + t) (listed.setIfInBounds i true) (a.put o.dst v) W' := fun v g' W' hW' hK =>
      ih _ _ g' W' (hd.set hi) (by simpa using hsz) (fun j h1 h2 => by rw [getD_set_ne true (by omega)]; exact htl j h1 h2) hW' hK
    have hcl : Cl W0 T (Anc md ops i) g W := hW.mono (fun _ _ => trivial) (fun _ _ => rfl)
    unfold wpOp
    simp only [ho]
    rcases h i hi him o ho with ⟨u, hy, hK⟩ | ⟨S, hy, hK⟩
    · rcases hy with ⟨hw, _, hq⟩ | ⟨hw, rfl⟩
      · simp only [hw, if_true]
        refine .inl ?_
        have hq := hq W hcl
        unfold qly at hq
        unfold Oper.wp
        generalize (execOp a.eval o).run P W = r at hq
        cases r with
        | ok n w' =>
          cases n <;> simp only [qUpon] at hq
          case value v => obtain ⟨rfl, rfl⟩ := hq; exact next _ _ _ hW hK
          case skip => obtain ⟨rfl, rfl⟩ := hq; exact next _ _ _ hW hK
        | halt x w' => simp only [qUpon] at hq
      · simp only [hw, Bool.false_eq_true, if_false]
        exact next _ _ _ hW hK
    · simp only [hy.1, if_true]
      refine .inl ?_
      have hq := hy.2.2 W hcl
      unfold gives at hq
      unfold Oper.wp
      generalize (execOp a.eval o).run P W = r at hq
      cases r with
      | ok n w' =>
        cases n <;> simp only [gUpon] at hq
        case value v => exact next _ _ _ (hW.upd hq.2 hy.2.1 hq.1) (hK v ⟨_, hW.upd hq.2 hy.2.1 hq.1⟩)
        case enter f args =>
          refine Calls.mono hq ?_
          rintro e w'' ⟨v, rfl, hR, hE⟩
          exact next _ _ _ (hW.upd hE hy.2.1 hR) (hK v ⟨_, hW.upd hE hy.2.1 hR⟩)
      | halt x w' => simp only [gUpon] at hq


def relBE (ops : Array Oper) (m t : Nat) (es : List Nat) : Bool :=
  decide (m + t + es.length = ops.size) && Region.noSelect ops && earlyB .any ops es (Array.replicate ops.size false) && lexPre .any ops m m 0 (setAll es (Array.replicate ops.size false)) &&
    ((List.range m).all fun i => (setAll es (firstB m (ops.size - m))).getD i true) &&
    ((List.range ops.size).all fun j => decide (j < m) || ((setAll es (Array.replicate ops.size false)).getD j true == (setAll es (firstB m (ops.size - m))).getD j true)) &&
    ((List.range ops.size).all fun j => decide (j < m) || (setAll es (firstB m (ops.size - m))).getD j true || (List.range m).all fun i => (ancs .any ops j).contains i)
/-- Those of es first; then the first m operations in the order of the text; the t that are left as ever. -/
theorem wp_region_relE {id : Nat} {Q : Exit → Act → World → Prop} {a : Act} {w : World} {l : List Oper} (T : Nat → Option Spec) (m t : Nat) (es : List Nat) (hm : P.follows .mixedOrders = true) (hB : relBE l.toArray m t es = true)
    (hQ : ∀ c a d v w, Q (.panic c) (Act.put a d v) w → Q (.panic c) a w)
    (h : earlyOK P l.toArray es a fun a1 => wpRel P l.toArray .any w.drew T (fun a' g' => ∀ W, Cl w.drew T All g' W → wpAny P .any l.toArray Q t (setAll es (firstB m (l.length - m))) a' W) (l.take m) 0 a1 (fun _ => none)) : (Code.region id l.toArray true).wp P Q a w := by
  simp only [relBE, Bool.and_eq_true, decide_eq_true_eq, List.all_eq_true, List.mem_range, Bool.or_eq_true, beq_iff_eq] at hB
  obtain ⟨⟨⟨⟨⟨⟨hmt, hs⟩, hea⟩, hlex⟩, hfm⟩, hft⟩, htail⟩ := hB
  have hml : m ≤ l.length := by simp at hmt; omega
  have hlen : (l.take m).length = m := by simp; omega
  have hW : Cl w.drew T All (fun _ => none) w.drew := ⟨Ext.refl _, fun _ _ _ _ hv => by cases hv⟩
  have hd : Down .any l.toArray (setAll es (Array.replicate l.toArray.size false)) := Down.early es _ hea fun j hj => by
    exfalso
    rcases Nat.lt_or_ge j l.length with h | h <;> simp [h] at hj
  refine wp_region_any hm ?_
  rw [show l.toArray.size = m + t + es.length from hmt.symm]
  refine wpAny_early hs hQ es (m + t) _ a _ (by rw [hmt]; exact hea) ?_
  rw [hmt]
  suffices H : ∀ a1, wpRel P l.toArray .any w.drew T (fun a' g' => ∀ W, Cl w.drew T All g' W → wpAny P .any l.toArray Q t (setAll es (firstB m (l.length - m))) a' W) (l.take m) 0 a1 (fun _ => none) → wpAny P .any l.toArray Q (m + t) (setAll es (Array.replicate l.toArray.size false)) a1 w.drew by
    have mono : ∀ (es : List Nat) (a : Act) (K K' : Act → Prop), (∀ a, K a → K' a) → earlyOK P l.toArray es a K → earlyOK P l.toArray es a K' := by
      intro es
      induction es with
      | nil => exact fun a K K' hk h => hk a h
      | cons e es ih => exact fun a K K' hk ⟨o, u, h1, h2, h3⟩ => ⟨o, u, h1, h2, ih _ _ _ hk h3⟩
    exact mono es a _ _ H h
  intro a1 h1
  have key := rel_lex (P := P) (md := .any) (m := m) (W0 := w.drew) (T := T) (ops := l.toArray) hs (l.take m) 0 (setAll es (Array.replicate l.toArray.size false)) a1 (fun _ => none) (fun j hj => by
    rw [hlen] at hj
    rw [List.getElem?_take, if_pos hj]
    simp) (by simp; omega) (by rw [hlen]; exact hlex) hd (fun _ _ => rfl) ⟨_, hW⟩ h1
  rw [hlen] at key
  refine wpAny_of_relE (P := P) (fin := setAll es (firstB m (l.length - m))) (by rw [setAll_size]; simp [firstB]; omega) (fun i hi => by simpa using hfm i hi) (fun j h1 h2 h3 i hi => ?_) m _ a1 _ w.drew hd (by rw [setAll_size]; simp) (fun j h1 h2 => ?_) hW key
  · rcases htail j h2 with (h | h) | h
    · omega
    · simp only [List.size_toArray] at h
      rw [h] at h3
      cases h3
    · exact h i hi
  · rcases hft j h2 with h | h
    · omega
    · simpa using h
end
end Go.Sz
namespace Go.Sz
open Go.RowKit
section
variable {P : Program} {md : Region.Mode} {ops : Array Oper}
theorem rows_in {l n : Nat} {row : String} {args : Array Value} {w : World} {R : Value → World → Prop} (h : Rows P row args w R) : RowsIn (Fence.wide.inRound l) n P row args w R :=
  fun c cs _ => let ⟨v, w', r, s⟩ := h c cs; ⟨v, w', r, stepsIn_wide.2 s⟩
theorem calls_in {l n : Nat} {f : FuncId} {args : Array Value} {w : World} {R : Ending → World → Prop} (h : Calls P f args w R) : CallsIn (Fence.wide.inRound l) n P f args w R := (callsIn_wide (n := n)).2 h
theorem operIn_of {l n : Nat} {o : Oper} {a : Act} {w : World} {K K' : Act → World → Prop} {Q : Exit → Act → World → Prop} (hd : ∀ c, o.op ≠ .defer c) (hK : ∀ a w, K a w → K' a w) (h : o.wp P a w K Q) : o.wpIn (Fence.wide.inRound l) n P a w K' Q := by
  refine ⟨fun _ _ => trivial, ?_⟩
  rw [show (Fence.wide.inRound l).round = some l from rfl, Oper.semAt_some l _ _ hd]
  unfold Oper.wp at h
  generalize (execOp a.eval o).run P w = r at *
  cases r with
  | ok x w' =>
    cases x <;> simp only [Oper.upon, Oper.uponIn] at h ⊢
    case enter =>
      refine ⟨fun e => (by cases e), calls_in (Calls.mono h ?_)⟩
      intro e w' he
      cases e <;> first | exact hK _ _ he | exact he
    case row => exact ⟨fun e => (by cases e), (rows_in h).mono fun _ _ he => hK _ _ he⟩
    all_goals first | exact hK _ _ h | exact h.elim
  | halt x w' =>
    cases x <;> simp only [Oper.upon, Oper.uponIn] at h ⊢ <;> first | exact h | exact h.elim
theorem wpAnyIn_of {l n : Nat} {Q : Exit → Act → World → Prop} (hL : ¬ LetsOut Q) (hd : ∀ (i : Nat) (o : Oper), ops[i]? = some o → ∀ c, o.op ≠ .defer c) :
    ∀ (k : Nat) (listed : Array Bool) (a : Act) (w : World), wpAny P md ops Q k listed a w → wpAnyIn (Fence.wide.inRound l) n P md ops Q k listed a w := by
  intro k
  induction k with
  | zero => intro listed a w h; exact h
  | succ k ih =>
    intro listed a w h
    refine ⟨h.1, fun i hi => ?_⟩
    have h1 := h.2 i hi
    unfold wpOp at h1
    unfold wpOpIn
    cases ho : ops[i]? with
    | none => simp only [ho] at h1 ⊢; exact ih _ _ _ h1
    | some o =>
      simp only [ho] at h1 ⊢
      by_cases hw : Region.wanted o (yielded ops a.tmps) = true
      · simp only [hw, if_true] at h1 ⊢
        rcases h1 with h1 | h1
        · exact operIn_of (hd i o ho) (fun a w h => ih _ _ _ h) h1
        · exact absurd h1.2 hL
      · simp only [hw, if_false, Bool.false_eq_true] at h1 ⊢
        exact ⟨fun _ _ => trivial, ih _ _ _ h1⟩
def noDefer (ops : Array Oper) : Bool := ops.all fun o => match o.op with | .defer _ => false | _ => true
theorem noDefer_at {ops : Array Oper} (h : noDefer ops = true) {i : Nat} {o : Oper} (ho : ops[i]? = some o) : ∀ c, o.op ≠ .defer c := by
  intro c hc
  have := (Array.all_eq_true_iff_forall_mem.1 h) o (Array.mem_of_getElem? ho)
  rw [hc] at this
  cases this
/-- what may end a region, but running out of room -/
def noOut (Q : Exit → Act → World → Prop) : Exit → Act → World → Prop
  | .outgrown, _, _ => False
  | e, a, w => Q e a w
theorem noOut_imp {Q : Exit → Act → World → Prop} : ∀ e a w, noOut Q e a w → Q e a w := by
  intro e a w h
  cases e <;> first | exact h | exact h.elim
theorem wpIn_round_any {l n id : Nat} {Q : Exit → Act → World → Prop} {a : Act} {w : World} (hm : P.follows .mixedOrders = true) (hd : noDefer ops = true)
    (h : wpAny P .any ops (noOut Q) ops.size (Array.replicate ops.size false) a w.drew) : (Code.region id ops true).wpIn (Fence.wide.inRound l) n P Q a w := by
  refine wpIn_mono ?_ (noOut_imp (Q := Q))
  exact wpIn_region_any hm (wpAnyIn_of (fun ⟨_, _, h⟩ => h) (fun i o ho => noDefer_at hd ho) _ _ _ _ h)
theorem wpAny_region_rel {Q : Exit → Act → World → Prop} {a : Act} {w : World} {l : List Oper} (T : Nat → Option Spec) (m t : Nat) (hB : relB l.toArray m t = true)
    (h : wpRel P l.toArray .any w.drew T (fun a' g' => ∀ W, Cl w.drew T All g' W → wpAny P .any l.toArray Q t (firstB m t) a' W) (l.take m) 0 a (fun _ => none)) : wpAny P .any l.toArray Q l.toArray.size (Array.replicate l.toArray.size false) a w.drew := by
  simp only [relB, Bool.and_eq_true, decide_eq_true_eq, List.all_eq_true, List.mem_range] at hB
  obtain ⟨⟨⟨hmt, hs⟩, hlex⟩, htail⟩ := hB
  have hml : m ≤ l.length := by simp at hmt; omega
  have hlen : (l.take m).length = m := by simp; omega
  have hW : Cl w.drew T All (fun _ => none) w.drew := ⟨Ext.refl _, fun _ _ _ _ hv => by cases hv⟩
  have hd : Down .any l.toArray (Array.replicate l.toArray.size false) := fun j hj => by
    exfalso
    rcases Nat.lt_or_ge j l.length with h | h <;> simp [h] at hj
  have key := rel_lex (P := P) (md := .any) (m := m) (W0 := w.drew) (T := T) (ops := l.toArray) hs (l.take m) 0 (Array.replicate l.toArray.size false) a (fun _ => none) (fun j hj => by
    rw [hlen] at hj
    rw [List.getElem?_take, if_pos hj]
    simp) (by simp; omega) (by rw [hlen]; exact hlex) hd (fun _ _ => rfl) ⟨_, hW⟩ h
  rw [hlen] at key
  have := wpAny_of_rel (P := P) hmt (fun j h1 h2 i hi => by
    have := htail (j - m) (by omega) i hi
    rwa [show m + (j - m) = j by omega] at this) m _ a _ w.drew hd (by simp) (fun j h1 h2 => by
      simp only [List.size_toArray] at h2
      simp [h2]) hW key
  rw [hmt] at this
  exact this
theorem wpIn_round_rel {yl n id : Nat} {Q : Exit → Act → World → Prop} {a : Act} {w : World} {l : List Oper} (T : Nat → Option Spec) (m t : Nat) (hm : P.follows .mixedOrders = true) (hd : noDefer l.toArray = true) (hB : relB l.toArray m t = true)
    (h : wpRel P l.toArray .any w.drew T (fun a' g' => ∀ W, Cl w.drew T All g' W → wpAny P .any l.toArray (noOut Q) t (firstB m t) a' W) (l.take m) 0 a (fun _ => none)) : (Code.region id l.toArray true).wpIn (Fence.wide.inRound yl) n P Q a w :=
  wpIn_round_any hm hd (wpAny_region_rel T m t hB h)
theorem wpIn_round_rel_all {yl n id : Nat} {Q : Exit → Act → World → Prop} {a : Act} {w : World} {l : List Oper} (T : Nat → Option Spec) (hm : P.follows .mixedOrders = true) (hd : noDefer l.toArray = true) (hB : relB l.toArray l.length 0 = true)
    (h : wpRel P l.toArray .any w.drew T (fun a' g' => ∀ W, Cl w.drew T All g' W → Q .normal a' W) l 0 a (fun _ => none)) : (Code.region id l.toArray true).wpIn (Fence.wide.inRound yl) n P Q a w := by
  refine wpIn_round_any hm hd ?_
  refine wpAny_region_rel T l.length 0 hB ?_
  rw [List.take_length]
  have hr : Region.ready .any l.toArray (firstB l.length 0) = [] := by
    unfold Region.ready firstB
    rw [List.filter_eq_nil_iff]
    intro i hi
    have : i < l.length := by simpa using List.mem_range.1 hi
    simp [this]
  have e : (fun (a' : Act) (g' : Gh) => ∀ W, Cl w.drew T All g' W → wpAny P .any l.toArray (noOut Q) 0 (firstB l.length 0) a' W) = (fun a' g' => ∀ W, Cl w.drew T All g' W → Q .normal a' W) := by
    funext a' g'
    simp only [wpAny, hr, true_and]
    rfl
  rw [e]
  exact h
end
end Go.Sz
namespace Go.Sz
open Go.RowKit
def irows (l : List Int) : List (List Value) := l.map fun x => [.int .i64 x]
theorem irows_length (l : List Int) : (irows l).length = l.length := List.length_map _
theorem irows_cell {w W : World} {ao : Option Addr} {cap : Nat} {l : List Int} (h : SL w 1 ao cap (irows l)) (hE : Ext w W) {i : Nat} (hi : i < l.length) : ∃ b o, ao = some ⟨b, o, none⟩ ∧ W.cell? ⟨b, o + i, none⟩ = some (.int .i64 l[i]) := by
  have hr : (irows l)[i]? = some [.int .i64 l[i]] := by simp [irows, hi]
  obtain ⟨b, o, e, hc⟩ := h.cells i 0 _ _ hr rfl
  exact ⟨b, o, e, by simpa using hE.cell hc⟩
theorem irows_max {w : World} {ao : Option Addr} {cap : Nat} {l : List Int} (h : SL w 1 ao cap (irows l)) : (l.length : Int) ≤ 9223372036854775807 := by
  have h1 := h.max; have h2 := h.le; rw [irows_length] at h2; omega
/-- the first that is not 0 -/
def orL : List Int → Int
  | [] => 0
  | x :: xs => if x = 0 then orL xs else x
theorem orL_skip {l : List Int} {k : Nat} (h : k < l.length) (h0 : l[k] = 0) : orL (l.drop k) = orL (l.drop (k + 1)) := by
  rw [List.drop_eq_getElem_cons h]; simp [orL, h0]
theorem orL_stop {l : List Int} {k : Nat} (h : k < l.length) (h0 : l[k] ≠ 0) : orL (l.drop k) = l[k] := by
  rw [List.drop_eq_getElem_cons h]; simp [orL, h0]
def cmpI (x y : Int) : Int := if x < y then -1 else if y < x then 1 else 0
theorem cmpI_zero {a b : Int} : cmpI a b = 0 ↔ a = b := by unfold cmpI; split <;> (try split) <;> omega
theorem cmpI_neg {a b : Int} : cmpI a b < 0 ↔ a < b := by unfold cmpI; split <;> (try split) <;> omega
def withinB (n lo hi : Int) : Bool := decide (lo ≤ n) && decide (n ≤ hi)
theorem grow_cell {w : World} {q : Addr} {v : Value} (h : w.cell? q = some v) : ∀ X, (w.drew.grow X).cell? q = some v := fun X => ((Ext.refl w).drew.trans (ext_grow _ X)).cell h
/-- a slice's rows, and where its memory lies -/
def spSLf (k n : Nat) (rows : List (List Value)) (D : Nat) : Spec := ⟨fun v W => ∃ ao c, v = .slice ao n c ∧ SL W k ao c rows ∧ ∀ a, ao = some a → D ≤ a.block, fun hE ⟨ao, c, h1, h2, h3⟩ => ⟨ao, c, h1, h2.ext hE, h3⟩⟩
/-- what is returned does not hang on memory -/
def RetV (v : Value) (w : World) (e : Ending) (w' : World) : Prop := e = .returned v ∧ Ext w w'
end Go.Sz
namespace Go.Sz
open Go.RowKit
section
variable {P : Program}
theorem run_copy_K (w : World) (dT sT ty elem : TypeId) (size g o dLen dCap : Nat) (a : Addr) (sLen sCap : Nat) (cur : Array Value) (t : TypeId) (m : Nat) (cs : List Value)
    (hu : P.underlying dT = some (.slice elem)) (hs : (P.info? elem).map (·.size) = some size)
    (hg : w.heap[g]? = some (.cells cur t (0, 0))) (hm : Nat.min sLen dLen = m) (hn : cs.length = m * size)
    (hsrc : ∀ j v, cs[j]? = some v → w.cell? (a.add j) = some v) (hfit : o + cs.length ≤ cur.size) (h1 : ∀ v ∈ cs, v.oneCell' = true) :
    (Builtin.copy_ #[dT, sT] ty #[.slice (some ⟨g, o, none⟩) dLen dCap, .slice (some a) sLen sCap]).run P w =
      .ok (goInt m) (w.setRow g (cur.toList.take o ++ cs ++ cur.toList.drop (o + cs.length)).toArray) := by
  have hl := run_loadCells_list (P := P) w a cs hsrc
  have hst := run_storeCells_at P g o t cs 0 cur w hg (by simpa using hfit) h1
  cases hq : P.info? elem with
  | none => simp [hq] at hs
  | some i =>
    have hi : i.size = size := by simpa [hq] using hs
    simp [Builtin.copy_, run_underlying hu, Builtin.lenOf, Builtin.firstCells, sizeOf, typeInfo, hq, hi, hm, ← hn, hl, hst]
theorem run_clear_K (w : World) (t e ty : TypeId) (z : Value) (g o n c : Nat) (cur : Array Value) (te : TypeId) (ht : P.underlying t = some (.slice e)) (hv : (zeroValue e).run P w = .ok z w) (hn : 0 < n)
    (hg : w.heap[g]? = some (.cells cur te (0, 0))) (hfit : o + (Builtin.zeroCells z.cells n).size ≤ cur.size) (h1 : ∀ v ∈ (Builtin.zeroCells z.cells n).toList, v.oneCell' = true) :
    (Builtin.clear_ #[t] ty #[.slice (some ⟨g, o, none⟩) n c]).run P w = .ok (.tuple #[]) (w.setRow g (cur.toList.take o ++ (Builtin.zeroCells z.cells n).toList ++ cur.toList.drop (o + (Builtin.zeroCells z.cells n).toList.length)).toArray) := by
  have hst := run_storeCells_at P g o te (Builtin.zeroCells z.cells n).toList 0 cur w hg (by simpa using hfit) h1
  simp only [Nat.add_zero] at hst
  obtain ⟨m, rfl⟩ : ∃ m, n = m + 1 := ⟨n - 1, by omega⟩
  simp [Builtin.clear_, run_underlying ht, hv, hst]
/-- copy, at the operation -/
theorem wp_copy_run (w : World) {o : Oper} {a : Act} {K : Act → World → Prop} {Q : Exit → Act → World → Prop} (d s : Operand) (t t' : TypeId)
    (ho : o.op = .call { callee := .builtin .copy, args := #[d, s], argTypes := #[t, t'] }) (v u : Value) (hd : a.eval d = v) (hs : a.eval s = u) {v' : Value} {w' : World}
    (hr : (Builtin.copy_ #[t, t'] o.type #[v, u]).run P w = .ok v' w') (h : K (a.put o.dst v') w') : o.wp P a w K Q := by
  unfold Oper.wp execOp
  simp only [ho, resolve, invoke, builtin, Sem.run_bind, Sem.run_pure, Result.andThen_ok, List.map_toArray, List.map_cons, List.map_nil, hd, hs, hr]
  exact h
theorem wpList_copy_run' (w : World) {ops : Array Oper} {rest : List Oper} {o : Oper} {a : Act} {Q : Exit → Act → World → Prop} (hgd : o.guard = none) (d s : Operand) (t t' : TypeId)
    (ho : o.op = .call { callee := .builtin .copy, args := #[d, s], argTypes := #[t, t'] }) (v u : Value) (hd : a.eval d = v) (hs : a.eval s = u) {v' : Value} {w' : World}
    (hr : (Builtin.copy_ #[t, t'] o.type #[v, u]).run P w = .ok v' w') (h : wpList P ops Q rest (a.put o.dst v') w') : wpList P ops Q (o :: rest) a w :=
  wpList_plain hgd fun _ hK => wp_copy_run w d s t t' ho v u hd hs hr (hK _ _ h)
theorem step_copy_run' {ops : Array Oper} {o : Oper} {a : Act} {w : World} {K : Act → World → Prop} {Q : Exit → Act → World → Prop} {E : Prop} (hgd : o.guard = none) (d s : Operand) (t t' : TypeId)
    (ho : o.op = .call { callee := .builtin .copy, args := #[d, s], argTypes := #[t, t'] }) (v u : Value) (hd : a.eval d = v) (hs : a.eval s = u) {v' : Value} {w' : World}
    (hr : (Builtin.copy_ #[t, t'] o.type #[v, u]).run P w = .ok v' w') (h : K (a.put o.dst v') w') :
    if Region.wanted o (yielded ops a.tmps) = true then Oper.wp P o a w K Q else E := by
  have hw : Region.wanted o (yielded ops a.tmps) = true := by simp [Region.wanted, hgd]
  rw [if_pos hw]
  exact wp_copy_run w d s t t' ho v u hd hs hr h
theorem wpList_clear_run (w : World) {ops : Array Oper} {rest : List Oper} {o : Oper} {a : Act} {Q : Exit → Act → World → Prop} (hgd : o.guard = none) (s : Operand) (t : TypeId)
    (ho : o.op = .call { callee := .builtin .clear, args := #[s], argTypes := #[t] }) (u : Value) (hs : a.eval s = u) {v' : Value} {w' : World}
    (hr : (Builtin.clear_ #[t] o.type #[u]).run P w = .ok v' w') (h : wpList P ops Q rest (a.put o.dst v') w') : wpList P ops Q (o :: rest) a w :=
  wpList_plain hgd fun _ hK => by
    unfold Oper.wp execOp
    simp only [ho, resolve, invoke, builtin, Sem.run_bind, Sem.run_pure, Result.andThen_ok, List.map_toArray, List.map_cons, List.map_nil, hs, hr]
    exact hK _ _ h
end
theorem Ext.trans' {a b c : World} {v v' : Value} (h : Ext a b) (g : Grows b v c v') (hv : ∀ k, v.ownBlock = some k → a.heap.size ≤ k) : Ext a c := Below.trans h (g.below h.size hv)
/-- the block of a row that was not empty -/
theorem own_block {w : World} {D e size n : Nat} {v : Value} {xs : List Value} (h : w.ownsRow D e size v n xs) (hn : 0 < n) : ∃ g cap cur, v = .slice (some ⟨g, 0, none⟩) n cap ∧ D ≤ g ∧ w.heap[g]? = some (.cells cur e (0, 0)) ∧ n ≤ cap ∧ cap ≤ maxLen ∧ cur.size = cap * size ∧ cur.toList.take (n * size) = xs := by
  rcases h.2 with ⟨_, h0⟩ | h
  · omega
  · exact h
/-- fewer elements of the same row -/
theorem own_take {w : World} {D e size n k g cap : Nat} {xs : List Value} (h : w.ownsRow D e size (.slice (some ⟨g, 0, none⟩) n cap) n xs) (hk : k ≤ n) : w.ownsRow D e size (.slice (some ⟨g, 0, none⟩) k cap) k (xs.take (k * size)) := by
  have hl := h.1
  have hle : k * size ≤ n * size := Nat.mul_le_mul_right _ hk
  rcases h.2 with ⟨h0, _⟩ | ⟨g', cap', cur, hv, h1, h2, h3, h4, h5, h6⟩
  · cases h0
  · cases hv
    refine ⟨by rw [List.length_take, hl]; omega, .inr ⟨g, cap, cur, rfl, h1, h2, by omega, h4, h5, ?_⟩⟩
    rw [← h6, List.take_take, Nat.min_eq_left hle]
theorem flatten_take {rows : List (List Value)} {size : Nat} (h : ∀ r ∈ rows, r.length = size) (k : Nat) : (rows.take k).flatten = rows.flatten.take (k * size) := by
  induction rows generalizing k with
  | nil => simp
  | cons r rs ih =>
    cases k with
    | zero => simp
    | succ k =>
      have hr := h r (by simp)
      rw [List.take_succ_cons, List.flatten_cons, List.flatten_cons, ih (fun x hx => h x (by simp [hx])) k, List.take_append, hr]
      rw [List.take_of_length_le (l := r) (by rw [hr, Nat.add_mul]; omega), show (k + 1) * size - size = k * size by rw [Nat.add_mul]; omega]
theorem flatten_drop {rows : List (List Value)} {size : Nat} (h : ∀ r ∈ rows, r.length = size) (k : Nat) : (rows.drop k).flatten = rows.flatten.drop (k * size) := by
  induction rows generalizing k with
  | nil => simp
  | cons r rs ih =>
    cases k with
    | zero => simp
    | succ k =>
      have hr := h r (by simp)
      rw [List.drop_succ_cons, List.flatten_cons, ih (fun x hx => h x (by simp [hx])) k, List.drop_append, hr]
      rw [List.drop_of_length_le (l := r) (by rw [hr, Nat.add_mul]; omega), show (k + 1) * size - size = k * size by rw [Nat.add_mul]; omega, List.nil_append]
/-- cells behind the elements of a row are stored into: the elements stand -/
theorem own_store {w : World} {D e size m g cap : Nat} {xs : List Value} (h : w.ownsRow D e size (.slice (some ⟨g, 0, none⟩) m cap) m xs) (cur : Array Value) (hg : w.heap[g]? = some (.cells cur e (0, 0))) (o : Nat) (cs : List Value) (ho : m * size ≤ o) (hfit : o + cs.length ≤ cur.size) :
    (w.setRow g (cur.toList.take o ++ cs ++ cur.toList.drop (o + cs.length)).toArray).ownsRow D e size (.slice (some ⟨g, 0, none⟩) m cap) m xs := by
  rcases h.2 with ⟨h0, _⟩ | ⟨g', cap', cur', hv, h1, h2, h3, h4, h5, h6⟩
  · cases h0
  · cases hv
    rw [hg] at h2
    cases h2
    refine ⟨h.1, .inr ⟨g, cap, _, rfl, h1, setRow_heap w g cur _ e _ hg, h3, h4, ?_, ?_⟩⟩
    · simp only [List.size_toArray, List.length_append, List.length_take, List.length_drop, Array.length_toList]; omega
    · simp only
      rw [List.append_assoc, List.take_append_of_le_length (by simp; omega), List.take_take, Nat.min_eq_left ho]
      exact h6
theorem grows_setRow {w : World} {g k cap : Nat} (cs : Array Value) : Grows w (.slice (some ⟨g, 0, none⟩) k cap) (w.setRow g cs) (.slice (some ⟨g, 0, none⟩) k cap) :=
  ⟨⟨rfl, rfl, rfl, by simp [World.setRow], fun j _ hk => setRow_other w g j _ (fun e => hk (by simp [Value.ownBlock, e]))⟩, fun _ h => .inl h⟩
section
variable {P : Program}
/-- append where there is room: in place -/
theorem run_append_roomK (w : World) (base : Nat) (t tx ty e : TypeId) (i : TypeInfo) (size : Nat) (ht : P.underlying t = some (.slice e)) (hi : P.info? e = some i) (hsize : i.size = size)
    (g n cap : Nat) (xs : List Value) (hown : w.ownsRow base e size (.slice (some ⟨g, 0, none⟩) n cap) n xs)
    (sv : Value) (m : Nat) (news : List Value) (hs : Src P size tx sv m news w) (hroom : n + m ≤ cap) :
    ∃ w', (Builtin.append_ #[t, tx] ty #[.slice (some ⟨g, 0, none⟩) n cap, sv]).run P w = .ok (.slice (some ⟨g, 0, none⟩) (n + m) cap) w' ∧ w'.ownsRow base e size (.slice (some ⟨g, 0, none⟩) (n + m) cap) (n + m) (xs ++ news) ∧ Grows w (.slice (some ⟨g, 0, none⟩) n cap) w' (.slice (some ⟨g, 0, none⟩) (n + m) cap) := by
  subst hsize
  have hlen : (xs ++ news).length = (n + m) * i.size := by rw [List.length_append, hown.1, hs.newsLen, Nat.add_mul]
  rcases hown.2 with ⟨h0, _⟩ | ⟨g', cap', cur, hv, hbg, hg, hnc, hcm, hcs, htake⟩
  · cases h0
  · cases hv
    have hfit : n * i.size + news.length ≤ cur.size := by rw [hs.newsLen, hcs, ← Nat.add_mul]; exact Nat.mul_le_mul_right _ hroom
    have hst := run_storeCells_at P g (n * i.size) e news 0 cur w hg (by simpa using hfit) hs.one
    simp only [Nat.add_zero] at hst
    refine ⟨w.setRow g (cur.toList.take (n * i.size) ++ news ++ cur.toList.drop (n * i.size + news.length)).toArray, ?_, ⟨hlen, .inr ⟨g, cap, _, rfl, hbg, setRow_heap w g cur _ e _ hg, hroom, hcm, ?_, ?_⟩⟩, ⟨⟨rfl, rfl, rfl, by simp [World.setRow], fun k _ hk => setRow_other w g k _ (fun e => hk (by simp [Value.ownBlock, e]))⟩, fun k hk => .inl (by simpa [Value.ownBlock] using hk)⟩⟩
    · rcases hs.kind with ⟨e', hk⟩ | hk <;> simp [Builtin.append_, run_underlying ht, run_underlying hk, sizeOf, typeInfo, hi, hs.len, hroom, hs.cells, Addr.add_lit, hst]
    · simp only [List.size_toArray, List.length_append, List.length_take, List.length_drop, Array.length_toList]
      omega
    · rw [htake, ← hlen]
      exact List.take_left
theorem wp_append_run {o : Oper} {a : Act} {w : World} {K : Act → World → Prop} {Q : Exit → Act → World → Prop} (s x : Operand) (t tx : TypeId)
    (ho : o.op = .call { callee := .builtin .append, args := #[s, x], argTypes := #[t, tx] }) (v sv : Value) (hv : a.eval s = v) (hx : a.eval x = sv) {v' : Value} {w' : World}
    (hr : (Builtin.append_ #[t, tx] o.type #[v, sv]).run P w = .ok v' w') (h : K (a.put o.dst v') w') : o.wp P a w K Q := by
  unfold Oper.wp execOp
  simp only [ho, resolve, invoke, builtin, Sem.run_bind, Sem.run_pure, Result.andThen_ok, List.map_toArray, List.map_cons, List.map_nil, hv, hx, hr]
  exact h
theorem wpList_append_run' {ops : Array Oper} {rest : List Oper} {o : Oper} {a : Act} {w : World} {Q : Exit → Act → World → Prop} (hgd : o.guard = none) (s x : Operand) (t tx : TypeId)
    (ho : o.op = .call { callee := .builtin .append, args := #[s, x], argTypes := #[t, tx] }) (v sv : Value) (hv : a.eval s = v) (hx : a.eval x = sv) {v' : Value} {w' : World}
    (hr : (Builtin.append_ #[t, tx] o.type #[v, sv]).run P w = .ok v' w') (h : wpList P ops Q rest (a.put o.dst v') w') : wpList P ops Q (o :: rest) a w :=
  wpList_plain hgd fun _ hK => wp_append_run s x t tx ho v sv hv hx hr (hK _ _ h)
theorem step_append_run {ops : Array Oper} {o : Oper} {a : Act} {w : World} {K : Act → World → Prop} {Q : Exit → Act → World → Prop} {E : Prop} (hgd : o.guard = none) (s x : Operand) (t tx : TypeId)
    (ho : o.op = .call { callee := .builtin .append, args := #[s, x], argTypes := #[t, tx] }) (v sv : Value) (hv : a.eval s = v) (hx : a.eval x = sv) {v' : Value} {w' : World}
    (hr : (Builtin.append_ #[t, tx] o.type #[v, sv]).run P w = .ok v' w') (h : K (a.put o.dst v') w') :
    if Region.wanted o (yielded ops a.tmps) = true then Oper.wp P o a w K Q else E := by
  have hw : Region.wanted o (yielded ops a.tmps) = true := by simp [Region.wanted, hgd]
  rw [if_pos hw]
  exact wp_append_run s x t tx ho v sv hv hx hr h
end
theorem below_setRow {B g : Nat} {w0 w : World} (hb : Below B w0 w) (hBg : B ≤ g) (cs : Array Value) : Below B w0 (w.setRow g cs) :=
  hb.trans ⟨rfl, rfl, rfl, by simp [World.setRow], fun k hk => setRow_other w g k cs (by omega)⟩
/-- clearing what lies behind the elements -/
theorem clear_own {P : Program} {w : World} {D e size m g cap : Nat} {xs : List Value} (h : w.ownsRow D e size (.slice (some ⟨g, 0, none⟩) m cap) m xs) (t : TypeId) (z : Value) (ht : P.underlying t = some (.slice e)) (hv : ∀ w, (zeroValue e).run P w = .ok z w) (hz : z.cells.size = size) (h1 : ∀ k, ∀ v ∈ (Builtin.zeroCells z.cells k).toList, v.oneCell' = true)
    (n o : Nat) (hn : 0 < n) (ho : o = m * size) (hfit : m + n ≤ cap) : ∃ w3, (∀ ty c, (Builtin.clear_ #[t] ty #[.slice (some ⟨g, o, none⟩) n c]).run P w = .ok (.tuple #[]) w3) ∧ w3.ownsRow D e size (.slice (some ⟨g, 0, none⟩) m cap) m xs ∧ Grows w (.slice (some ⟨g, 0, none⟩) m cap) w3 (.slice (some ⟨g, 0, none⟩) m cap) := by
  subst ho
  have hh := h
  rcases h.2 with ⟨h0, _⟩ | ⟨g', cap', cur, hv', hb, hg, h3, h4, h5, h6⟩
  · cases h0
  · cases hv'
    have hsz : (Builtin.zeroCells z.cells n).size = n * size := by rw [size_zeroCells, hz]
    have hfit' : m * size + (Builtin.zeroCells z.cells n).size ≤ cur.size := by rw [hsz, h5, ← Nat.add_mul]; exact Nat.mul_le_mul_right _ hfit
    refine ⟨_, fun ty c => run_clear_K w t e ty z g (m * size) n c cur e ht (hv w) hn hg hfit' (h1 n), ?_, grows_setRow _⟩
    exact own_store hh cur hg (m * size) (Builtin.zeroCells z.cells n).toList (Nat.le_refl _) (by simpa using hfit')
end Go.Sz
