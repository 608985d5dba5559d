/- Plain facts on worlds that only grow, on slices read as rows of cells, and on regions whose order is drawn while callees only make new memory. No program in sight. -/
import Derived.WalkKit
import Derived.WalkLawsBesides
import Derived.WalkSpells
import Derived.Outline
import Derived.Deep.QuietTactic
import Derived.BigQuiet
import Derived.RegionTactic
import Derived.Deep.RegionHeld3
import Derived.Deep.MidRow
import Derived.LoopTactic
import Derived.Lib.Hide
import Derived.Deep.AppendSrc
import Derived.Deep.AppendLies
import Derived.OwnWalk
import Derived.Defers
import Derived.Handy
namespace Go.Sz
open Go.RowKit

/-- w' is w with new blocks (and draws) alone. -/
abbrev Ext (w w' : World) : Prop := Below w.heap.size w w'

theorem Ext.refl (w : World) : Ext w w := Below.refl _ _
theorem Ext.trans {a b c : World} (h : Ext a b) (k : Ext b c) : Ext a c := Below.trans h (Below.mono k h.size)
theorem Ext.alloc {a b : World} (h : Ext a b) (o : Obj) : Ext a (b.alloc o) := Below.alloc h h.size o
theorem Ext.drew {a b : World} (h : Ext a b) : Ext a b.drew := Below.drew h
theorem Ext.drewN {a b : World} (h : Ext a b) (n : Nat) : Ext a (b.drewN n) := ⟨h.os, h.tape, h.output, h.size, h.block⟩
theorem Ext.setCell {a b : World} (h : Ext a b) {p : Addr} (hp : a.heap.size ≤ p.block) (u : Value) : Ext a (b.setCell p u) := Below.setCell h hp u
theorem Ext.cell {a b : World} (h : Ext a b) {p : Addr} {v : Value} (hv : a.cell? p = some v) : b.cell? p = some v :=
  (Below.cell h (World.block_lt_of_cell? _ _ hv)).trans hv
theorem Ext.below {a b c : World} {B : Nat} (h : Below B a b) (hB : B ≤ a.heap.size) (k : Ext b c) : Below B a c :=
  h.trans (k.mono (Nat.le_trans hB h.size))

/-- What a world has grown by: new blocks, and where the tape now stands. -/
structure More where
  blocks : Array Obj
  drawn : Nat

instance : Nonempty More := ⟨⟨#[], 0⟩⟩

/-- w with the blocks X behind its own, and a count of draws. -/
def _root_.Go.World.grow (w : World) (X : More) : World := { w with heap := w.heap ++ X.blocks, drawn := X.drawn }

theorem ext_grow (w : World) (X : More) : Ext w (w.grow X) :=
  ⟨rfl, rfl, rfl, by simp [World.grow], fun k hk => by simp [World.grow, Array.getElem?_append, hk]⟩

theorem Ext.grow {w w' : World} (h : Ext w w') : ∃ X, w' = w.grow X := by
  refine ⟨⟨w'.heap.extract w.heap.size w'.heap.size, w'.drawn⟩, ?_⟩
  have hh : w'.heap = w.heap ++ w'.heap.extract w.heap.size w'.heap.size := by
    apply Array.ext_getElem?
    intro i
    by_cases hi : i < w.heap.size
    · rw [Array.getElem?_append_left hi]; exact h.block i hi
    · rw [Array.getElem?_append_right (by omega)]
      have e : w.heap.size + (i - w.heap.size) = i := by omega
      rw [Array.getElem?_extract, e]
      by_cases hj : i < w'.heap.size
      · rw [if_pos (by omega)]
      · rw [if_neg (by omega)]
        exact Array.getElem?_eq_none (by omega)
  obtain ⟨hp, tp, dr, os, out⟩ := w'
  obtain ⟨hp0, tp0, dr0, os0, out0⟩ := w
  have h1 := h.os; have h2 := h.tape; have h3 := h.output
  simp only at h1 h2 h3 hh
  subst h1; subst h2; subst h3
  simp only [World.grow]
  congr 1

theorem grow_grow (w : World) (X Y : More) : (w.grow X).grow Y = w.grow ⟨X.blocks ++ Y.blocks, Y.drawn⟩ := by simp [World.grow, Array.append_assoc]

/-- The quiet walk (Derived/Deep/Quiet.lean) at the class 'w with new blocks': callees that hand back a plain value and make memory are quiet. -/
theorem wp_region_grow_lit {P : Program} {id : Nat} {Q : Exit → Act → World → Prop} {a : Act} {w : World} {l : List Oper} (hm : P.follows .mixedOrders = true) (hB : Region.lexB .any l.toArray = true)
    (h : wpQuiet P l.toArray (fun w' => ∃ X, w' = w.grow X) (fun a' => ∀ w', (∃ X, w' = w.grow X) → Q .normal a' w') l a) : (Code.region id l.toArray true).wp P Q a w :=
  wp_region_quiet (C := fun w' => ∃ X, w' = w.grow X) hm hB (Ext.grow ⟨rfl, rfl, rfl, Nat.le_refl _, fun _ _ => rfl⟩) (by simpa using h)

theorem Calls.grow_of {P : Program} {f : FuncId} {args : Array Value} {w : World} {X : More} {v : Value}
    (h : Calls P f args (w.grow X) fun e w' => e = .returned v ∧ Ext (w.grow X) w') : Calls P f args (w.grow X) fun e w'' => e = .returned v ∧ ∃ Y, w'' = w.grow Y :=
  h.mono fun _ _ ⟨he, hx⟩ => ⟨he, by obtain ⟨Y, rfl⟩ := Ext.grow hx; exact ⟨_, grow_grow _ _ _⟩⟩

theorem Calls.grow_of_same {P : Program} {f : FuncId} {args : Array Value} {w : World} {X : More} {v : Value}
    (h : Calls P f args (w.grow X) fun e w' => e = .returned v ∧ w.grow X = w') : Calls P f args (w.grow X) fun e w'' => e = .returned v ∧ ∃ Y, w'' = w.grow Y :=
  h.mono fun _ _ ⟨he, hx⟩ => ⟨he, X, hx.symm⟩

/-- A slice's value, read as rows of n cells each. -/
structure SL (w : World) (n : Nat) (ao : Option Addr) (cap : Nat) (rows : List (List Value)) : Prop where
  le : rows.length ≤ cap
  max : cap ≤ 9223372036854775807
  nil : ao = none → cap = 0
  wid : ∀ r ∈ rows, r.length = n
  cells : ∀ (i j : Nat) (r : List Value) (v : Value), rows[i]? = some r → r[j]? = some v → ∃ b o, ao = some ⟨b, o, none⟩ ∧ w.cell? ⟨b, o + i * n + j, none⟩ = some v

theorem SL.ext {w w' : World} {n : Nat} {ao : Option Addr} {cap : Nat} {rows : List (List Value)} (h : SL w n ao cap rows) (hx : Ext w w') : SL w' n ao cap rows :=
  ⟨h.le, h.max, h.nil, h.wid, fun i j r v hr hv => let ⟨b, o, e, hc⟩ := h.cells i j r v hr hv; ⟨b, o, e, hx.cell hc⟩⟩

theorem SL.empty (w : World) (n : Nat) : SL w n none 0 [] := ⟨Nat.le_refl _, by omega, fun _ => rfl, by simp, by simp⟩

/-- Where there is an element, there is an address. -/
theorem SL.at {w : World} {n : Nat} {ao : Option Addr} {cap : Nat} {rows : List (List Value)} (h : SL w n ao cap rows) (hn : 0 < n) (i : Nat) (hi : i < rows.length) :
    ∃ b o, ao = some ⟨b, o, none⟩ ∧ b < w.heap.size := by
  have hr := List.getElem?_eq_getElem hi
  have hl := h.wid _ (List.getElem_mem hi)
  obtain ⟨b, o, e, hc⟩ := h.cells i 0 _ _ hr (List.getElem?_eq_getElem (by omega))
  exact ⟨b, o, e, World.block_lt_of_cell? _ _ hc⟩

theorem SL.cellAt {w : World} {n : Nat} {b o : Nat} {cap : Nat} {rows : List (List Value)} (h : SL w n (some ⟨b, o, none⟩) cap rows) {i j : Nat} {r : List Value} {v : Value} (hr : rows[i]? = some r) (hv : r[j]? = some v) :
    w.cell? ⟨b, o + i * n + j, none⟩ = some v := by
  obtain ⟨b', o', e, hc⟩ := h.cells i j r v hr hv
  cases e
  exact hc

theorem SL.range {w : World} {n : Nat} {b o : Nat} {cap : Nat} {rows : List (List Value)} (h : SL w n (some ⟨b, o, none⟩) cap rows) {i : Nat} {r : List Value} (hr : rows[i]? = some r) :
    w.rangeAt b (o + i * n) r := fun _ _ hv => h.cellAt hr hv


/-- w' is w but for the block that v owned and new blocks; what v' owns is what v owned, or new. -/
structure Grows (w : World) (v : Value) (w' : World) (v' : Value) : Prop where
  by_ : w.grownBy w' v.ownBlock
  own : ∀ k, v'.ownBlock = some k → v.ownBlock = some k ∨ w.heap.size ≤ k

theorem Grows.refl (w : World) (v : Value) : Grows w v w v := ⟨⟨rfl, rfl, rfl, Nat.le_refl _, fun _ _ _ => rfl⟩, fun _ h => .inl h⟩

theorem Grows.trans {w w1 w2 : World} {v v1 v2 : Value} (h : Grows w v w1 v1) (k : Grows w1 v1 w2 v2) : Grows w v w2 v2 := by
  refine ⟨⟨k.by_.os.trans h.by_.os, k.by_.tape.trans h.by_.tape, k.by_.output.trans h.by_.output, Nat.le_trans h.by_.size k.by_.size, fun j hj hne => ?_⟩, fun j hj => ?_⟩
  · rw [k.by_.block j (Nat.lt_of_lt_of_le hj h.by_.size) (fun e => ?_)]
    · exact h.by_.block j hj hne
    · rcases h.own j e.symm with h1 | h1
      · exact hne h1.symm
      · omega
  · rcases k.own j hj with h1 | h1
    · exact h.own j h1
    · exact .inr (Nat.le_trans h.by_.size h1)

/-- New blocks alone, ahead. -/
theorem Grows.ext_left {w w1 w2 : World} {v v2 : Value} (h : Ext w w1) (k : Grows w1 v w2 v2) : Grows w v w2 v2 := by
  refine ⟨⟨k.by_.os.trans h.os, k.by_.tape.trans h.tape, k.by_.output.trans h.output, Nat.le_trans h.size k.by_.size, fun j hj hne => ?_⟩, fun j hj => ?_⟩
  · rw [k.by_.block j (Nat.lt_of_lt_of_le hj h.size) hne]
    exact h.block j hj
  · rcases k.own j hj with h1 | h1
    · exact .inl h1
    · exact .inr (Nat.le_trans h.size h1)

theorem Grows.ext_right {w w1 w2 : World} {v v1 : Value} (h : Grows w v w1 v1) (k : Ext w1 w2) : Grows w v w2 v1 :=
  h.trans ⟨⟨k.os, k.tape, k.output, k.size, fun j hj _ => k.block j hj⟩, fun _ h => .inl h⟩

theorem Grows.below {w w' : World} {v v' : Value} {B : Nat} (h : Grows w v w' v') (hB : B ≤ w.heap.size) (hv : ∀ k, v.ownBlock = some k → B ≤ k) : Below B w w' :=
  (Below.refl B w).grown h.by_ hB hv

/-- From nil on: nothing that was there has turned. -/
theorem Grows.ext {w w' : World} {v v' : Value} (h : Grows w v w' v') (hv : ∀ k, v.ownBlock = some k → w.heap.size ≤ k) : Ext w w' := h.below (Nat.le_refl _) hv

theorem ownsRow_ext {w w' : World} {base e size n : Nat} {v : Value} {xs : List Value} (h : w.ownsRow base e size v n xs) (hx : Ext w w') : w'.ownsRow base e size v n xs := by
  refine ⟨h.1, ?_⟩
  rcases h.2 with hn | ⟨g, cap, cur, rfl, hb, hgg, rest⟩
  · exact .inl hn
  · exact .inr ⟨g, cap, cur, rfl, hb, by rw [hx.block g (Array.getElem?_eq_some_iff.1 hgg).1]; exact hgg, rest⟩

theorem ownsRow_base {w : World} {base base' e size n : Nat} {v : Value} {xs : List Value} (h : w.ownsRow base e size v n xs) (hb : base' ≤ base) : w.ownsRow base' e size v n xs :=
  ⟨h.1, h.2.imp id fun ⟨g, cap, cur, a, b, c⟩ => ⟨g, cap, cur, a, Nat.le_trans hb b, c⟩⟩

theorem ownsRow_rebase {w : World} {base base' e size n : Nat} {v : Value} {xs : List Value} (h : w.ownsRow base e size v n xs) (hb : ∀ k, v.ownBlock = some k → base' ≤ k) : w.ownsRow base' e size v n xs :=
  ⟨h.1, h.2.imp id fun ⟨g, cap, cur, a, b, c⟩ => ⟨g, cap, cur, a, hb g (by rw [a]; rfl), c⟩⟩

/-- An owned row, read. -/
theorem SL.of_owns {w : World} {base e size n : Nat} {v : Value} {rows : List (List Value)} (h : w.ownsRow base e size v n rows.flatten) (hw : ∀ r ∈ rows, r.length = size) (hn : rows.length = n) :
    ∃ ao cap, v = .slice ao rows.length cap ∧ SL w size ao cap rows ∧ (∀ a, ao = some a → v.ownBlock = some a.block) := by
  rcases h.2 with ⟨rfl, h0⟩ | ⟨g, cap, cur, rfl, hb, hg, hc, hm, hcs, ht⟩
  · have : rows = [] := List.eq_nil_of_length_eq_zero (by omega)
    subst this
    exact ⟨none, 0, by simp, SL.empty _ _, by simp⟩
  · refine ⟨some ⟨g, 0, none⟩, cap, by rw [hn], ⟨by omega, by unfold maxLen at hm; omega, by simp, hw, fun i j r u hr hu => ⟨g, 0, rfl, ?_⟩⟩, fun a ha => by cases ha; rfl⟩
    have hi : i < rows.length := (List.getElem?_eq_some_iff.1 hr).1
    have hj : j < r.length := (List.getElem?_eq_some_iff.1 hu).1
    have hr' : r.length = size := hw r (List.mem_of_getElem? hr)
    have hfl : rows.flatten[i * size + j]? = some u := by
      clear ht hcs hn h
      induction rows generalizing i with
      | nil => simp at hr
      | cons x xs ih =>
        have hx : x.length = size := hw x (by simp)
        cases i with
        | zero =>
          simp at hr; subst hr
          rw [List.flatten_cons, Nat.zero_mul, Nat.zero_add, List.getElem?_append_left hj]
          exact hu
        | succ i =>
          simp only [List.getElem?_cons_succ] at hr
          have := ih (fun r h => hw r (by simp [h])) i hr (by simpa using hi)
          rw [List.flatten_cons, List.getElem?_append_right (by rw [hx, Nat.add_mul]; omega), hx]
          rw [show (i + 1) * size + j - size = i * size + j from by rw [Nat.add_mul]; omega]
          exact this
    have hcells := h.cells (g := g) rfl (i * size + j) u hfl
    have hadd : (⟨g, 0, none⟩ : Addr).add (i * size + j) = ⟨g, 0 + i * size + j, none⟩ := by
      unfold Addr.add; split
      · simp_all
      · simp
    rw [hadd] at hcells
    exact hcells

section
variable {P : Program}

theorem run_append_src_own (w : World) (base : Nat) (t tx ty e : TypeId) (i : TypeInfo) (z : Value) (size bytes : Nat) (ht : P.underlying t = some (.slice e)) (hi : P.info? e = some i) (hz : i.zero = some z)
    (hsize : i.size = size) (hby : i.bytes = bytes) (hzs : z.cells.size = size)
    (v : Value) (n : Nat) (xs : List Value) (hown : w.ownsRow base e size v n xs)
    (sv : Value) (m : Nat) (news : List Value) (hs : Src P size tx sv m news w)
    (h63 : n + m ≤ maxLen) (hbytes : (n + m) * bytes ≤ 140737488355328) (hbase : base ≤ w.heap.size) :
    ∃ v' w', (Builtin.append_ #[t, tx] ty #[v, sv]).run P w = .ok v' w' ∧ w'.ownsRow base e size v' (n + m) (xs ++ news) ∧ Grows w v w' v' := by
  subst hsize
  subst hby
  have hsmall : n + m ≤ 9223372036854775807 := by simp only [maxLen] at h63; omega
  have hlen : (xs ++ news).length = (n + m) * i.size := by rw [List.length_append, hown.1, hs.newsLen, Nat.add_mul]
  have grown : ∀ (old : Nat), old < n + m → ∀ (v : Value),
      (w.drew.alloc (.cells ((xs ++ news).toArray ++ Builtin.zeroCells z.cells (grownCap w (n + m) old e - (n + m))) e)).ownsRow base e i.size
        (.slice (some ⟨w.heap.size, 0, none⟩) (n + m) (grownCap w (n + m) old e)) (n + m) (xs ++ news) ∧
      Grows w v (w.drew.alloc (.cells ((xs ++ news).toArray ++ Builtin.zeroCells z.cells (grownCap w (n + m) old e - (n + m))) e)) (.slice (some ⟨w.heap.size, 0, none⟩) (n + m) (grownCap w (n + m) old e)) := by
    intro old ho v
    have hge := grownCap_ge w (n + m) old e
    have hcm : grownCap w (n + m) old e ≤ maxLen := grownCap_le_maxLen w (n + m) old e h63
    refine ⟨⟨hlen, .inr ⟨w.heap.size, _, _, rfl, hbase, heap_alloc_new w.drew _, hge, hcm, ?_, ?_⟩⟩, ⟨⟨rfl, rfl, rfl, by simp, fun k hk _ => Below.heap_alloc w.drew _ k (by simpa using hk)⟩, fun k hk => ?_⟩⟩
    · simp only [Array.size_append, List.size_toArray, size_zeroCells, hzs, hlen, ← Nat.add_mul]
      congr 1
      omega
    · simp only [Array.toList_append]
      rw [← hlen]
      exact List.take_left
    · simp [Value.ownBlock] at hk; omega
  rcases hown.2 with ⟨rfl, rfl⟩ | ⟨g, cap, cur, rfl, hbg, hg, hnc, hcm, hcs, htake⟩
  · have hx : xs = [] := List.eq_nil_of_length_eq_zero (by simpa using hown.1)
    subst hx
    by_cases hm : m = 0
    · subst hm
      have hn : news = [] := List.eq_nil_of_length_eq_zero (by simpa using hs.newsLen)
      subst hn
      refine ⟨.slice none 0 0, w, ?_, World.ownsRow_nil w base e i.size, Grows.refl _ _⟩
      rcases hs.kind with ⟨e', hk⟩ | hk <;> simp [Builtin.append_, run_underlying ht, run_underlying hk, sizeOf, typeInfo, hi, hs.len, hs.cells]
    · have hr := run_append_grow_src (P := P) w t tx ty e i z ht hi hz none 0 0 [] (run_firstCells_none w.drew i.size 0 0 0) sv m news hs (by omega) (by omega)
        (by rw [nextslicecap_zero (by omega)]; omega)
      have hgr := grown 0 (by omega) (.slice none 0 0)
      exact ⟨_, _, hr, hgr.1, hgr.2⟩
  · by_cases hroom : n + m ≤ cap
    · have hfit : n * i.size + news.length ≤ cur.size := by rw [hs.newsLen, hcs, ← Nat.add_mul]; exact Nat.mul_le_mul_right _ hroom
      have hst := run_storeCells_at P g (n * i.size) e news 0 cur w hg (by simpa using hfit) hs.one
      simp only [Nat.add_zero] at hst
      have hr : (Builtin.append_ #[t, tx] ty #[.slice (some ⟨g, 0, none⟩) n cap, sv]).run P w =
          .ok (.slice (some ⟨g, 0, none⟩) (n + m) cap) (w.setRow g (cur.toList.take (n * i.size) ++ news ++ cur.toList.drop (n * i.size + news.length)).toArray) := by
        rcases hs.kind with ⟨e', hk⟩ | hk <;> simp [Builtin.append_, run_underlying ht, run_underlying hk, sizeOf, typeInfo, hi, hs.len, hroom, hs.cells, Addr.add_lit, hst]
      refine ⟨_, _, hr, ⟨hlen, .inr ⟨g, cap, _, rfl, hbg, setRow_heap w g cur _ e _ hg, hroom, hcm, ?_, ?_⟩⟩, ⟨⟨rfl, rfl, rfl, by simp, fun k _ hk => setRow_other w g k _ (fun e => hk (by simp [Value.ownBlock, e]))⟩, fun k hk => .inl (by simpa [Value.ownBlock] using hk)⟩⟩
      · simp only [List.size_toArray, List.length_append, List.length_take, List.length_drop, Array.length_toList]
        omega
      · rw [htake, ← hlen]
        exact List.take_left
    · have holds : ∀ j u, xs[j]? = some u → w.cell? ((⟨g, 0, none⟩ : Addr).add j) = some u := hown.cells (g := g) rfl
      have hr := run_append_grow_src (P := P) w t tx ty e i z ht hi hz (some ⟨g, 0, none⟩) n cap xs (run_firstCells_some w.drew i.size n ⟨g, 0, none⟩ n cap xs hown.1 (by simpa using holds)) sv m news hs (by omega) (by omega) (growslice_fits (by omega) hbytes)
      have hgr := grown cap (by omega) (.slice (some ⟨g, 0, none⟩) n cap)
      exact ⟨_, _, hr, hgr.1, hgr.2⟩

/-- append, at the operation. -/
theorem wp_append_S {o : Oper} {a : Act} {w : World} {K : Act → World → Prop} {Q : Exit → Act → World → Prop} (s x : Operand) (t tx : TypeId)
    (ho : o.op = .call { callee := .builtin .append, args := #[s, x], argTypes := #[t, tx] })
    (base : Nat) (e : TypeId) (i : TypeInfo) (z : Value) (size bytes : Nat) (ht : P.underlying t = some (.slice e)) (hi : P.info? e = some i) (hz : i.zero = some z)
    (hsize : i.size = size) (hby : i.bytes = bytes) (hzs : z.cells.size = size)
    (v : Value) (n : Nat) (xs : List Value) (hv : a.eval s = v) (hown : w.ownsRow base e size v n xs)
    (sv : Value) (m : Nat) (news : List Value) (hx : a.eval x = sv) (hs : Src P size tx sv m news w)
    (h63 : n + m ≤ maxLen) (hbytes : (n + m) * bytes ≤ 140737488355328) (hbase : base ≤ w.heap.size)
    (h : ∀ v' w', w'.ownsRow base e size v' (n + m) (xs ++ news) → Grows w v w' v' → K (a.put o.dst v') w') : o.wp P a w K Q := by
  obtain ⟨v', w', hr, h2, h3⟩ := run_append_src_own (P := P) w base t tx o.type e i z size bytes ht hi hz hsize hby hzs v n xs hown sv m news hs h63 hbytes hbase
  unfold Oper.wp execOp
  simp only [ho, resolve, invoke, builtin, Sem.run_bind, Sem.run_pure, Result.andThen_ok, List.map_toArray, List.map_cons, List.map_nil, hv, hx, hr]
  exact h v' w' h2 h3

theorem wpList_append_S {ops : Array Oper} {rest : List Oper} {o : Oper} {a : Act} {w : World} {Q : Exit → Act → World → Prop} (hgd : o.guard = none) (s x : Operand) (t tx : TypeId)
    (ho : o.op = .call { callee := .builtin .append, args := #[s, x], argTypes := #[t, tx] })
    (base : Nat) (e : TypeId) (i : TypeInfo) (z : Value) (size bytes : Nat) (ht : P.underlying t = some (.slice e)) (hi : P.info? e = some i) (hz : i.zero = some z)
    (hsize : i.size = size) (hby : i.bytes = bytes) (hzs : z.cells.size = size)
    (v : Value) (n : Nat) (xs : List Value) (hv : a.eval s = v) (hown : w.ownsRow base e size v n xs)
    (sv : Value) (m : Nat) (news : List Value) (hx : a.eval x = sv) (hs : Src P size tx sv m news w)
    (h63 : n + m ≤ maxLen) (hbytes : (n + m) * bytes ≤ 140737488355328) (hbase : base ≤ w.heap.size)
    (h : ∀ v' w', w'.ownsRow base e size v' (n + m) (xs ++ news) → Grows w v w' v' → wpList P ops Q rest (a.put o.dst v') w') : wpList P ops Q (o :: rest) a w :=
  wpList_plain hgd fun _ hK => wp_append_S s x t tx ho base e i z size bytes ht hi hz hsize hby hzs v n xs hv hown sv m news hx hs h63 hbytes hbase fun v' w' h2 h3 => hK _ _ (h v' w' h2 h3)

/-- append, at a step of a region that draws. -/
theorem step_append_S {ops : Array Oper} {o : Oper} {a : Act} {w : World} {K : Act → World → Prop} {Q : Exit → Act → World → Prop} {E : Prop} (hgd : o.guard = none) (s x : Operand) (t tx : TypeId)
    (ho : o.op = .call { callee := .builtin .append, args := #[s, x], argTypes := #[t, tx] })
    (base : Nat) (e : TypeId) (i : TypeInfo) (z : Value) (size bytes : Nat) (ht : P.underlying t = some (.slice e)) (hi : P.info? e = some i) (hz : i.zero = some z)
    (hsize : i.size = size) (hby : i.bytes = bytes) (hzs : z.cells.size = size)
    (v : Value) (n : Nat) (xs : List Value) (hv : a.eval s = v) (hown : w.ownsRow base e size v n xs)
    (sv : Value) (m : Nat) (news : List Value) (hx : a.eval x = sv) (hs : Src P size tx sv m news w)
    (h63 : n + m ≤ maxLen) (hbytes : (n + m) * bytes ≤ 140737488355328) (hbase : base ≤ w.heap.size)
    (h : ∀ v' w', w'.ownsRow base e size v' (n + m) (xs ++ news) → Grows w v w' v' → K (a.put o.dst v') w') :
    if Region.wanted o (yielded ops a.tmps) = true then Oper.wp P o a w K Q else E := by
  have hw : Region.wanted o (yielded ops a.tmps) = true := by simp [Region.wanted, hgd]
  rw [if_pos hw]
  exact wp_append_S s x t tx ho base e i z size bytes ht hi hz hsize hby hzs v n xs hv hown sv m news hx hs h63 hbytes hbase h

/-- A slice that was read as rows, as what is appended. -/
theorem SL.src {w : World} {size : Nat} {ao : Option Addr} {cap : Nat} {rows : List (List Value)} (h : SL w size ao cap rows) (hsz : 0 < size) {tx e' : TypeId} (hk : P.underlying tx = some (.slice e')) (h1 : ∀ r ∈ rows, ∀ u ∈ r, u.oneCell' = true) :
    Src P size tx (.slice ao rows.length cap) rows.length rows.flatten w := by
  have hfl : ∀ (rows : List (List Value)), (∀ r ∈ rows, r.length = size) → rows.flatten.length = rows.length * size := by
    intro rows hw
    induction rows with
    | nil => simp
    | cons x xs ih => rw [List.flatten_cons, List.length_append, ih (fun r hr => hw r (by simp [hr])), hw x (by simp), List.length_cons, Nat.add_mul]; omega
  have hlen := hfl rows h.wid
  have one : ∀ u ∈ rows.flatten, u.oneCell' = true := fun u hu => by
    obtain ⟨r, hr, hu⟩ := List.mem_flatten.1 hu
    exact h1 r hr u hu
  cases rows with
  | nil => cases ao with
    | none => exact Src.ofNil w hk cap
    | some a => exact Src.ofSlice w hk a 0 cap [] (by simp) (by simp) (by simp)
  | cons x xs =>
    obtain ⟨b, o, rfl, hlt⟩ := h.at hsz 0 (by simp)
    refine Src.ofSlice w hk ⟨b, o, none⟩ _ cap _ hlen (fun j u hu => ?_) one
    rw [Addr.add_mid]
    have key : ∀ (rows : List (List Value)) (k : Nat), (∀ r ∈ rows, r.length = size) → (∀ i j r u, rows[i]? = some r → r[j]? = some u → w.cell? ⟨b, o + (k + i) * size + j, none⟩ = some u) → ∀ j u, rows.flatten[j]? = some u → w.cell? ⟨b, o + k * size + j, none⟩ = some u := by
      intro rows
      induction rows with
      | nil => intro k _ _ j u hu; simp at hu
      | cons x xs ih =>
        intro k hw hc j u hu
        have hx : x.length = size := hw x (by simp)
        rw [List.flatten_cons] at hu
        by_cases hj : j < x.length
        · rw [List.getElem?_append_left hj] at hu
          exact hc 0 j x u rfl hu
        · rw [List.getElem?_append_right (by omega)] at hu
          have := ih (k + 1) (fun r hr => hw r (by simp [hr])) (fun i j r u hr hu => by
            have := hc (i + 1) j r u (by simpa using hr) hu
            rwa [show k + (i + 1) = k + 1 + i from by omega] at this) (j - x.length) u hu
          rwa [show o + (k + 1) * size + (j - x.length) = o + k * size + j from by rw [Nat.add_mul, hx]; omega] at this
    have := key (x :: xs) 0 h.wid (fun i j r u hr hu => by
      have := h.cellAt hr hu
      simpa using this) j u hu
    simpa using this

end
end Go.Sz
