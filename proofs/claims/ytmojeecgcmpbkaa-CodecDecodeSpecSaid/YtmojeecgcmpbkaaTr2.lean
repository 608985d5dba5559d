/- What the reading of an argument says of memory: a value of the codec lies there. -/
import Derived.Test.YtmojeecgcmpbkaaRd
import Derived.Test.YtmojeecgcmpbkaaChecked
import Derived.ProofKit
import Derived.ChangeMaps5
namespace Go.Sz
open Go.RowKit

theorem list_of {α β : Type} {R : Nat → α → β → Prop} : ∀ (n : Nat), (∀ i, i < n → ∃ a b, R i a b) → ∃ (la : List α) (bs : List β), la.length = n ∧ bs.length = n ∧ ∀ (i : Nat) (a : α) (b : β), la[i]? = some a → bs[i]? = some b → R i a b := by
  intro n
  induction n with
  | zero => intro _; exact ⟨[], [], rfl, rfl, fun i a b h => by simp at h⟩
  | succ n ih =>
    intro h
    obtain ⟨la, bs, h1, h2, h3⟩ := ih fun i hi => h i (by omega)
    obtain ⟨a, b, hab⟩ := h n (by omega)
    refine ⟨la ++ [a], bs ++ [b], by simp [h1], by simp [h2], fun i x y hx hy => ?_⟩
    rcases Nat.lt_or_ge i n with hi | hi
    · rw [List.getElem?_append_left (by omega)] at hx hy
      exact h3 i x y hx hy
    · have hi2 : i = n := by
        have := (List.getElem?_eq_some_iff.1 hx).1
        simp at this
        omega
      subst hi2
      rw [List.getElem?_append_right (by omega)] at hx hy
      simp [h1] at hx
      simp [h2] at hy
      subst hx hy
      exact hab

theorem wf_i64 {n : Int} (h : (Lit.int .i64 n).wf = true) : inI64 n := by
  have hmin : IntKind.i64.min = -9223372036854775808 := by decide
  simp [Lit.wf, hmin] at h
  exact h
end Go.Sz
namespace Go.Proofs.Ytmojeecgcmpbkaa
open Go.RowKit Go.Sz Go.ChangeShapes Go.WideShapes

theorem own : ownKnob Try.prog.godebug = none := by kernel_rfl
theorem laidOut : laidOutB Try.prog = true := by kernel_rfl

theorem okWide_agg {w : World} {base : Nat} {v : Value} (h : Value.okWide Try.prog w .any base 24 v) : ∃ cs, v = .agg cs := by
  unfold Value.okWide at h
  rw [Try.underlying24] at h
  obtain ⟨cs, rfl, _⟩ := h
  exact ⟨cs, rfl⟩

theorem cellsV : Try.prog.cellsOf 24 = 4 := by kernel_rfl
theorem cellsI : Try.prog.cellsOf 3 = 1 := by kernel_rfl
theorem cellsS : Try.prog.cellsOf 9 = 1 := by kernel_rfl
theorem cellsL : Try.prog.cellsOf 22 = 1 := by kernel_rfl

theorem sl_of_cells {w : World} {a : Addr} {len cap n : Nat} {rows : List (List Value)} (hn : 0 < n) (hl : len ≤ cap) (hc : cap ≤ maxLen) (hrl : rows.length = len) (hr : ∀ (i : Nat) (r : List Value), rows[i]? = some r → w.cells? 0 (a.add (i * n)) n = some r) : SL w n (some a) cap rows := by
  refine ⟨by omega, by unfold maxLen at hc; omega, by simp, fun r hr' => ?_, fun i j r v h1 h2 => ?_⟩
  · obtain ⟨i, hi, rfl⟩ := List.mem_iff_getElem.1 hr'
    exact (World.cells?_some (hr i _ (List.getElem?_eq_getElem hi))).2.1
  · obtain ⟨_, h3, h4⟩ := World.cells?_some (hr i r h1)
    have hj : j < n := by have := (List.getElem?_eq_some_iff.1 h2).1; omega
    have h5 := h4 j hj
    rw [h2] at h5
    obtain ⟨b, o, sp⟩ := a
    have hsp : sp = none := by
      match rows, h1, hr with
      | [], h1, hr => simp at h1
      | r0 :: rs, h1, hr =>
        obtain ⟨_, g3, g4⟩ := World.cells?_some (hr 0 r0 rfl)
        match r0, g3, g4 with
        | [], g3, g4 => simp at g3; omega
        | u :: us, g3, g4 =>
          have g5 := g4 0 hn
          have := World.cell?_spot (v := u) (by simpa using g5)
          simpa [Addr.add] using this
    subst hsp
    refine ⟨b, o, rfl, ?_⟩
    rw [Addr.add_lit, Addr.add_lit] at h5
    exact h5

theorem trod_rep {H : Type} (enc : TypeId × Value → H) (w : World) (sp : Nat → Bool) (held : Bool) : ∀ (fuel : Nat) (cs : List Value) (x : DataW H × List MemPlace),
    DataW.trod enc Try.prog w 0 sp held fuel 24 cs = some x → ∃ v, RepV w (fun b => b < w.heap.size) cs v := by
  intro fuel
  induction fuel using Nat.strongRecOn with
  | ind fuel ih =>
    intro cs x h
    obtain ⟨xs, n, hn, hx, hl, hlen, hf⟩ := DataW.trod_struct Try.underlying24 h
    rw [cellsV] at hl
    match cs, hl with
    | [c0, c1, c2, c3], _ =>
    have f0 : DataW.trod enc Try.prog w 0 sp held n 3 (([c0, c1, c2, c3].drop 0).take (Try.prog.cellsOf 3)) = xs[0]? := hf 0 _ rfl
    have f1 : DataW.trod enc Try.prog w 0 sp held n 3 (([c0, c1, c2, c3].drop 1).take (Try.prog.cellsOf 3)) = xs[1]? := hf 1 _ rfl
    have f2 : DataW.trod enc Try.prog w 0 sp held n 9 (([c0, c1, c2, c3].drop 2).take (Try.prog.cellsOf 9)) = xs[2]? := hf 2 _ rfl
    have f3 : DataW.trod enc Try.prog w 0 sp held n 22 (([c0, c1, c2, c3].drop 3).take (Try.prog.cellsOf 22)) = xs[3]? := hf 3 _ rfl
    simp only [cellsI, cellsS, cellsL, List.drop_zero, List.drop_succ_cons, List.take_succ_cons, List.take_zero] at f0 f1 f2 f3
    rw [List.getElem?_eq_getElem (by rw [hlen]; simp)] at f0 f1 f2 f3
    obtain ⟨k, e0, _, w0⟩ := DataW.trod_int Try.underlying3 f0
    obtain ⟨m, e1, _, w1⟩ := DataW.trod_int Try.underlying3 f1
    obtain ⟨s, e2, _, w2⟩ := DataW.trod_string Try.underlying9 f2
    simp only [List.cons.injEq, and_true] at e0 e1 e2
    subst e0 e1 e2
    unfold maxLen at w2
    rcases DataW.trod_slice Try.underlying22 f3 with ⟨e3, _⟩ | ⟨a, len, cap, elems, rest, n2, hn2, e3, _, _, hlc, hcm, hel, hrow, _⟩
    · simp only [List.cons.injEq, and_true] at e3
      subst e3
      exact ⟨.mk k m s [], RepV.mk (ao := none) (cap := 0) (l := []) [] (wf_i64 w0) (wf_i64 w1) (by omega) (SL.empty _ _) (by simp) rfl (by simp)⟩
    · simp only [List.cons.injEq, and_true] at e3
      subst e3
      rw [cellsV] at hrow
      obtain ⟨rows, l, h1, h2, h3⟩ := list_of (R := fun i (r : List Value) (v : V) => w.cells? 0 (a.add (i * 4)) 4 = some r ∧ RepV w (fun b => b < w.heap.size) r v) len fun i hi => by
        have h4 := hrow i hi
        rw [List.getElem?_eq_getElem (by omega)] at h4
        obtain ⟨r, h5, h6⟩ := Option.bind_eq_some_iff.1 h4
        obtain ⟨v, hv⟩ := ih n2 (by omega) r _ h6
        exact ⟨r, v, h5, hv⟩
      have hsl : SL w 4 (some a) cap rows := sl_of_cells (by omega) hlc hcm h1 fun i r hr => (h3 i r (l[i]'(by have := (List.getElem?_eq_some_iff.1 hr).1; omega)) hr (List.getElem?_eq_getElem _)).1
      have := RepV.mk (l := l) (k := k) (n := m) (s := s) (F := fun b => b < w.heap.size) rows (wf_i64 w0) (wf_i64 w1) (by omega) hsl (fun a' ha hr => by
        cases ha
        match rows, hr, h1, h3 with
        | r :: rs, _, h1, h3 =>
          have hr := (h3 0 r (l[0]'(by simp at h1; omega)) rfl (List.getElem?_eq_getElem _)).1
          have := World.cells?_block hr (by omega)
          simpa [Addr.add] using this) (by omega) (fun i r z hr hz => (h3 i r z hr hz).2)
      rw [h2] at this
      exact ⟨_, this⟩

theorem cellsB : Try.prog.cellsOf 5 = 1 := by kernel_rfl
theorem trod_bytes {H : Type} (enc : TypeId × Value → H) (w : World) (sp : Nat → Bool) (held : Bool) (fuel : Nat) (v : Value) (x : DataW H × List MemPlace) (h : DataW.trod enc Try.prog w 0 sp held fuel 27 [v] = some x) :
    ∃ ao bs cap, v = .slice ao (List.length bs) cap ∧ SL w 1 ao cap (br bs) := by
  rcases DataW.trod_slice Try.underlying27 h with ⟨e3, _⟩ | ⟨a, len, cap, elems, rest, n2, hn2, e3, _, _, hlc, hcm, hel, hrow, _⟩
  · simp only [List.cons.injEq, and_true] at e3
    subst e3
    exact ⟨none, [], 0, rfl, SL.empty _ _⟩
  · simp only [List.cons.injEq, and_true] at e3
    subst e3
    rw [cellsB] at hrow
    obtain ⟨rows, bs, h1, h2, h3⟩ := list_of (R := fun i (r : List Value) (b : UInt8) => w.cells? 0 (a.add (i * 1)) 1 = some r ∧ r = [.int .u8 b.toNat]) len fun i hi => by
      have h4 := hrow i hi
      rw [List.getElem?_eq_getElem (by omega)] at h4
      obtain ⟨r, h5, h6⟩ := Option.bind_eq_some_iff.1 h4
      obtain ⟨m, e0, _, w0⟩ := DataW.trod_int Try.underlying5 h6
      have hr : 0 ≤ m ∧ m < 256 := by
        have hmin : IntKind.u8.min = 0 := by decide
        have hmax : IntKind.u8.max = 255 := by decide
        simp [Lit.wf, hmin, hmax] at w0
        omega
      refine ⟨r, UInt8.ofNat m.toNat, h5, ?_⟩
      rw [e0, UInt8.toNat_ofNat']
      simp
      omega
    have hrows : rows = br bs := by
      apply List.ext_getElem?
      intro i
      rcases Nat.lt_or_ge i len with hi | hi
      · have := (h3 i (rows[i]'(by omega)) (bs[i]'(by omega)) (List.getElem?_eq_getElem _) (List.getElem?_eq_getElem _)).2
        rw [List.getElem?_eq_getElem (by omega), this]
        simp only [br, List.getElem?_map]
        rw [List.getElem?_eq_getElem (by omega)]
        rfl
      · rw [List.getElem?_eq_none (by omega), List.getElem?_eq_none (by rw [br_length]; omega)]
    refine ⟨some a, bs, cap, by rw [h2], ?_⟩
    rw [← hrows]
    exact sl_of_cells (by omega) hlc hcm h1 fun i r hr => (h3 i r (bs[i]'(by have := (List.getElem?_eq_some_iff.1 hr).1; omega)) hr (List.getElem?_eq_getElem _)).1
end Go.Proofs.Ytmojeecgcmpbkaa
