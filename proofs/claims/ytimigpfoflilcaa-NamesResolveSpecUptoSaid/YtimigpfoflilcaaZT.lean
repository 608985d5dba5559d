/- Names: what the reading of a catalogue says of memory. -/
import Derived.Test.YtimigpfoflilcaaRows
import Derived.Test.YtimigpfoflilcaaYQ
import Derived.OpenShut
namespace Go.Proofs.Ytimigpfoflilcaa
open Go.RowKit Go.Sz Go.ChangeShapes Go.WideShapes

theorem own : ownKnob Try.prog.godebug = none := by kernel_rfl
theorem laidOut : laidOutB Try.prog = true := by kernel_rfl
theorem cellsI : Try.prog.cellsOf 3 = 1 := by kernel_rfl
theorem cellsS : Try.prog.cellsOf 9 = 1 := by kernel_rfl
theorem cellsB : Try.prog.cellsOf 4 = 1 := by kernel_rfl
theorem cellsM : Try.prog.cellsOf 59 = 2 := by kernel_rfl
theorem cellsR : Try.prog.cellsOf 39 = 6 := by kernel_rfl
theorem cellsC : Try.prog.cellsOf 41 = 16 := by kernel_rfl
theorem cellsP : Try.prog.cellsOf 51 = 4 := by kernel_rfl
theorem cellsQ : Try.prog.cellsOf 64 = 6 := by kernel_rfl
theorem cellsG : Try.prog.cellsOf 62 = 7 := by kernel_rfl
theorem cellsK : Try.prog.cellsOf 80 = 4 := by kernel_rfl
theorem cellsF : Try.prog.cellsOf 84 = 2 := by kernel_rfl
theorem cellsU : Try.prog.cellsOf 109 = 4 := by kernel_rfl
theorem cellsX : Try.prog.cellsOf 29 = 7 := by kernel_rfl
theorem cellsRs : Try.prog.cellsOf 37 = 1 := by kernel_rfl
theorem cellsSs : Try.prog.cellsOf 36 = 1 := by kernel_rfl
theorem cellsIs : Try.prog.cellsOf 45 = 1 := by kernel_rfl
theorem cellsCs : Try.prog.cellsOf 22 = 1 := by kernel_rfl
theorem cellsPs : Try.prog.cellsOf 23 = 1 := by kernel_rfl
theorem cellsQs : Try.prog.cellsOf 60 = 1 := by kernel_rfl
theorem cellsGs : Try.prog.cellsOf 24 = 1 := by kernel_rfl
theorem cellsKs : Try.prog.cellsOf 25 = 1 := by kernel_rfl
theorem cellsFs : Try.prog.cellsOf 26 = 1 := by kernel_rfl
theorem cellsUs : Try.prog.cellsOf 27 = 1 := by kernel_rfl

set_option maxRecDepth 100000 in
theorem okWide_agg {w : World} {base : Nat} {t : TypeId} {fs : Array Field} (ht : Try.prog.underlying t = some (.struct fs)) {v : Value} (h : Value.okWide Try.prog w .any base t v) : ∃ cs, v = .agg cs := by
  unfold Value.okWide at h
  rw [ht] at h
  obtain ⟨cs, rfl, _⟩ := h
  exact ⟨cs, rfl⟩
theorem bulk_mem {H : Type} {d : DataW H} {l : List (DataW H)} (h : d ∈ l) : Rows.uptoBulk d ≤ Rows.uptoBulkAll l := by
  induction l with
  | nil => cases h
  | cons x r ih =>
    simp only [Rows.uptoBulkAll]
    rcases List.mem_cons.1 h with e | e
    · subst e; omega
    · have := ih e; omega
theorem bulk_part {H : Type} {xs : List (DataW H × List MemPlace)} {i : Nat} {x : DataW H × List MemPlace} {ps : List MemPlace} (h : xs[i]? = some x) : Rows.uptoBulk x.1 + 1 ≤ Rows.uptoBulk (DataW.agg (xs.map (·.1)), ps).1 := by
  have := bulk_mem (List.mem_map_of_mem (f := (·.1)) (List.mem_of_getElem? h))
  simp only [Rows.uptoBulk]
  omega
theorem le_sum_mem {l : List Nat} {a : Nat} (h : a ∈ l) : a ≤ l.sum := by
  induction l with
  | nil => cases h
  | cons b l ih =>
    rw [List.sum_cons]
    rcases List.mem_cons.1 h with e | e
    · omega
    · have := ih e; omega
theorem rows_eq {α : Type} {f : α → List Value} {rows : List (List Value)} {l : List α} (hl : rows.length = l.length) (h : ∀ (i : Nat) a r, l[i]? = some a → rows[i]? = some r → r = f a) : rows = l.map f := by
  apply List.ext_getElem?
  intro i
  rcases Nat.lt_or_ge i l.length with hi | hi
  · rw [List.getElem?_map, List.getElem?_eq_getElem hi, List.getElem?_eq_getElem (by omega)]
    have := h i _ _ (List.getElem?_eq_getElem hi) (List.getElem?_eq_getElem (by omega : i < rows.length))
    rw [this]
    rfl
  · rw [List.getElem?_eq_none (by omega), List.getElem?_eq_none (by rw [List.length_map]; omega)]
/-- rows that are read -/
theorem trod_rows {H : Type} {α : Type} (enc : TypeId × Value → H) (w : World) (sp : Nat → Bool) (held : Bool) {ts e : TypeId} (n : Nat) (hn0 : 0 < n) (hu : Try.prog.underlying ts = some (.slice e)) (hc : Try.prog.cellsOf e = n) (R : α → List Value → Prop) (sz : α → Nat) (fuel : Nat)
    (hel : ∀ (f : Nat) (r : List Value) (y : DataW H × List MemPlace), f < fuel → DataW.trod enc Try.prog w 0 sp held f e r = some y → ∃ a, R a r ∧ sz a ≤ Rows.uptoBulk y.1) (v : Value) (x : DataW H × List MemPlace) (h : DataW.trod enc Try.prog w 0 sp held fuel ts [v] = some x) :
    ∃ ao l cap rows, v = .slice ao (List.length l) cap ∧ SL w n ao cap rows ∧ rows.length = l.length ∧ (∀ (i : Nat) (a : α) (r : List Value), l[i]? = some a → rows[i]? = some r → R a r) ∧ (l.map sz).sum + 1 ≤ Rows.uptoBulk x.1 := by
  rcases DataW.trod_slice hu h with ⟨e3, rfl⟩ | ⟨ad, len, cap, elems, rest, n2, hn2, e3, hx, _, hlc, hcm, hlen, hrow, _⟩
  · simp only [List.cons.injEq, and_true] at e3
    subst e3
    exact ⟨none, [], 0, [], rfl, SL.empty _ _, rfl, fun i a r h => by simp at h, by simp [Rows.uptoBulk]⟩
  · simp only [List.cons.injEq, and_true] at e3
    subst e3
    rw [hc] at hrow
    obtain ⟨rows, l, h1, h2, h3⟩ := list_of (R := fun i (r : List Value) (a : α) => w.cells? 0 (ad.add (i * n)) n = some r ∧ R a r ∧ ∃ y, elems[i]? = some y ∧ sz a ≤ Rows.uptoBulk y.1) len fun i hi => by
      have h4 := hrow i hi
      rw [List.getElem?_eq_getElem (by omega)] at h4
      obtain ⟨r, h5, h6⟩ := Option.bind_eq_some_iff.1 h4
      obtain ⟨a, ha, hs⟩ := hel n2 r _ (by omega) h6
      exact ⟨r, a, h5, ha, _, List.getElem?_eq_getElem (by omega), hs⟩
    have hrl : rows.length = l.length := by omega
    refine ⟨some ad, l, cap, rows, by rw [h2], sl_of_cells hn0 hlc hcm h1 (fun i r hr => (h3 i r (l[i]'(by have := (List.getElem?_eq_some_iff.1 hr).1; omega)) hr (List.getElem?_eq_getElem _)).1), hrl, fun i a r ha hr => (h3 i r a hr ha).2.1, ?_⟩
    rw [hx]
    simp only [Rows.uptoBulk]
    have key : ∀ (l : List α) (es : List (DataW H × List MemPlace)), l.length = es.length → (∀ (i : Nat) a y, l[i]? = some a → es[i]? = some y → sz a ≤ Rows.uptoBulk y.1) → (l.map sz).sum ≤ Rows.uptoBulkAll (es.map (·.1)) := by
      intro l
      induction l with
      | nil => intro es h _; simp
      | cons a l ih =>
        intro es hl hh
        cases es with
        | nil => simp at hl
        | cons y es =>
          have h1 := hh 0 a y rfl rfl
          have h2 := ih es (by simpa using hl) fun i b z hb hz => hh (i + 1) b z hb hz
          simp only [List.map_cons, List.sum_cons, Rows.uptoBulkAll]
          omega
    have := key l elems (by omega) fun i a y ha hy => by
      have hil := (List.getElem?_eq_some_iff.1 ha).1
      obtain ⟨-, -, y', hy', hs⟩ := h3 i (rows[i]'(by omega)) a (List.getElem?_eq_getElem _) ha
      rw [hy] at hy'
      cases hy'
      exact hs
    omega
set_option maxRecDepth 100000 in
set_option maxHeartbeats 6400000 in
theorem trod_mean {H : Type} (enc : TypeId × Value → H) (w : World) (sp : Nat → Bool) (held : Bool) (fuel : Nat) (cs : List Value) (x : DataW H × List MemPlace) (h : DataW.trod enc Try.prog w 0 sp held fuel 59 cs = some x) : ∃ a b : Int, cs = [.int .i64 a, .int .i64 b] ∧ inI64 a ∧ inI64 b := by
  obtain ⟨xs, n, hn, hx, hl, hlen, hf⟩ := DataW.trod_struct Try.underlying59 h
  rw [cellsM] at hl
  match cs, hl with
  | [c0, c1], _ =>
  have f0 : DataW.trod enc Try.prog w 0 sp held n 3 (([c0, c1].drop 0).take (Try.prog.cellsOf 3)) = xs[0]? := hf 0 _ rfl
  have f1 : DataW.trod enc Try.prog w 0 sp held n 3 (([c0, c1].drop 1).take (Try.prog.cellsOf 3)) = xs[1]? := hf 1 _ rfl
  simp only [cellsI, List.drop_zero, List.drop_succ_cons, List.take_succ_cons, List.take_zero] at f0 f1
  obtain ⟨x0, hx0⟩ : ∃ y, xs[0]? = some y := ⟨_, List.getElem?_eq_getElem (by rw [hlen]; simp)⟩
  obtain ⟨x1, hx1⟩ : ∃ y, xs[1]? = some y := ⟨_, List.getElem?_eq_getElem (by rw [hlen]; simp)⟩
  rw [hx0] at f0
  rw [hx1] at f1
  obtain ⟨a0, e0, _, w0⟩ := DataW.trod_int Try.underlying3 f0
  simp only [List.cons.injEq, and_true] at e0
  obtain ⟨a1, e1, _, w1⟩ := DataW.trod_int Try.underlying3 f1
  simp only [List.cons.injEq, and_true] at e1
  subst e0
  subst e1
  exact ⟨a0, a1, rfl, wf_i64 w0, wf_i64 w1⟩
set_option maxRecDepth 100000 in
set_option maxHeartbeats 6400000 in
theorem trod_rule_step {H : Type} (enc : TypeId × Value → H) (w : World) (sp : Nat → Bool) (held : Bool) (fuel : Nat) (ih : ∀ f, f < fuel → ∀ (cs : List Value) (x : DataW H × List MemPlace), DataW.trod enc Try.prog w 0 sp held f 39 cs = some x → ∃ r : Rt, RepU w r cs ∧ r.parts.length ≤ Rows.uptoBulk x.1) (cs : List Value) (x : DataW H × List MemPlace) (h : DataW.trod enc Try.prog w 0 sp held fuel 39 cs = some x) : ∃ r : Rt, RepU w r cs ∧ r.parts.length ≤ Rows.uptoBulk x.1 := by
  obtain ⟨xs, n, hn, hx, hl, hlen, hf⟩ := DataW.trod_struct Try.underlying39 h
  rw [cellsR] at hl
  match cs, hl with
  | [c0, c1, c2, c3, c4, c5], _ =>
  have f0 : DataW.trod enc Try.prog w 0 sp held n 3 (([c0, c1, c2, c3, c4, c5].drop 0).take (Try.prog.cellsOf 3)) = xs[0]? := hf 0 _ rfl
  have f1 : DataW.trod enc Try.prog w 0 sp held n 3 (([c0, c1, c2, c3, c4, c5].drop 1).take (Try.prog.cellsOf 3)) = xs[1]? := hf 1 _ rfl
  have f2 : DataW.trod enc Try.prog w 0 sp held n 9 (([c0, c1, c2, c3, c4, c5].drop 2).take (Try.prog.cellsOf 9)) = xs[2]? := hf 2 _ rfl
  have f3 : DataW.trod enc Try.prog w 0 sp held n 3 (([c0, c1, c2, c3, c4, c5].drop 3).take (Try.prog.cellsOf 3)) = xs[3]? := hf 3 _ rfl
  have f4 : DataW.trod enc Try.prog w 0 sp held n 3 (([c0, c1, c2, c3, c4, c5].drop 4).take (Try.prog.cellsOf 3)) = xs[4]? := hf 4 _ rfl
  have f5 : DataW.trod enc Try.prog w 0 sp held n 37 (([c0, c1, c2, c3, c4, c5].drop 5).take (Try.prog.cellsOf 37)) = xs[5]? := hf 5 _ rfl
  simp only [cellsI, cellsRs, cellsS, List.drop_zero, List.drop_succ_cons, List.take_succ_cons, List.take_zero] at f0 f1 f2 f3 f4 f5
  obtain ⟨x0, hx0⟩ : ∃ y, xs[0]? = some y := ⟨_, List.getElem?_eq_getElem (by rw [hlen]; simp)⟩
  obtain ⟨x1, hx1⟩ : ∃ y, xs[1]? = some y := ⟨_, List.getElem?_eq_getElem (by rw [hlen]; simp)⟩
  obtain ⟨x2, hx2⟩ : ∃ y, xs[2]? = some y := ⟨_, List.getElem?_eq_getElem (by rw [hlen]; simp)⟩
  obtain ⟨x3, hx3⟩ : ∃ y, xs[3]? = some y := ⟨_, List.getElem?_eq_getElem (by rw [hlen]; simp)⟩
  obtain ⟨x4, hx4⟩ : ∃ y, xs[4]? = some y := ⟨_, List.getElem?_eq_getElem (by rw [hlen]; simp)⟩
  obtain ⟨x5, hx5⟩ : ∃ y, xs[5]? = some y := ⟨_, List.getElem?_eq_getElem (by rw [hlen]; simp)⟩
  rw [hx0] at f0
  rw [hx1] at f1
  rw [hx2] at f2
  rw [hx3] at f3
  rw [hx4] at f4
  rw [hx5] at f5
  obtain ⟨a0, e0, _, w0⟩ := DataW.trod_int Try.underlying3 f0
  simp only [List.cons.injEq, and_true] at e0
  obtain ⟨a1, e1, _, w1⟩ := DataW.trod_int Try.underlying3 f1
  simp only [List.cons.injEq, and_true] at e1
  obtain ⟨a2, e2, y2, w2⟩ := DataW.trod_string Try.underlying9 f2
  simp only [List.cons.injEq, and_true] at e2
  obtain ⟨a3, e3, _, w3⟩ := DataW.trod_int Try.underlying3 f3
  simp only [List.cons.injEq, and_true] at e3
  obtain ⟨a4, e4, _, w4⟩ := DataW.trod_int Try.underlying3 f4
  simp only [List.cons.injEq, and_true] at e4
  obtain ⟨ao, l, cap, rows, e5, hsl, hrl, hrr, hsz⟩ := trod_rows enc w sp held 6 (by omega) Try.underlying37 cellsR (RepU w) (fun r => r.parts.length) n (fun f r y hf hy => ih f (by omega) r y hy) _ _ f5
  subst e0
  subst e1
  subst e2
  subst e3
  subst e4
  subst e5
  refine ⟨.mk a0 a1 a2 a3 a4 l, RepU.mk (.mk a0 a1 a2 a3 a4 l) ao cap rows hsl hrl hrr ⟨wf_i64 w0, wf_i64 w1, wf_i64 w3, wf_i64 w4⟩, ?_⟩
  have hb := bulk_part (ps := xs.flatMap (·.2)) hx5
  rw [hx, Rt.parts_eq, List.length_cons]
  have hp : (partsL l).length = (l.map fun r => r.parts.length).sum := by
    rw [partsL_eq, List.length_flatten, List.map_map]
    rfl
  show (partsL l).length + 1 ≤ _
  rw [hp]
  omega
theorem trod_rule {H : Type} (enc : TypeId × Value → H) (w : World) (sp : Nat → Bool) (held : Bool) : ∀ (fuel : Nat) (cs : List Value) (x : DataW H × List MemPlace), DataW.trod enc Try.prog w 0 sp held fuel 39 cs = some x → ∃ r : Rt, RepU w r cs ∧ r.parts.length ≤ Rows.uptoBulk x.1 := by
  intro fuel
  induction fuel using Nat.strongRecOn with
  | _ fuel ih => exact trod_rule_step enc w sp held fuel ih
set_option maxRecDepth 100000 in
set_option maxHeartbeats 6400000 in
theorem trod_course {H : Type} (enc : TypeId × Value → H) (w : World) (sp : Nat → Bool) (held : Bool) (fuel : Nat) (cs : List Value) (x : DataW H × List MemPlace) (h : DataW.trod enc Try.prog w 0 sp held fuel 41 cs = some x) : ∃ c : Cr, (∃ u v, cs = c.head ++ u ++ v ∧ RepU w c.need u ∧ RepU w c.bar v ∧ c.ok) ∧ c.nm.size ≤ maxLen ∧ c.need.parts.length ≤ Rows.uptoBulk x.1 ∧ c.bar.parts.length ≤ Rows.uptoBulk x.1 := by
  obtain ⟨xs, n, hn, hx, hl, hlen, hf⟩ := DataW.trod_struct Try.underlying41 h
  rw [cellsC] at hl
  match cs, hl with
  | [c0, c1, c2, c3, c4, c5, c6, c7, c8, c9, c10, c11, c12, c13, c14, c15], _ =>
  have f0 : DataW.trod enc Try.prog w 0 sp held n 9 (([c0, c1, c2, c3, c4, c5, c6, c7, c8, c9, c10, c11, c12, c13, c14, c15].drop 0).take (Try.prog.cellsOf 9)) = xs[0]? := hf 0 _ rfl
  have f1 : DataW.trod enc Try.prog w 0 sp held n 3 (([c0, c1, c2, c3, c4, c5, c6, c7, c8, c9, c10, c11, c12, c13, c14, c15].drop 1).take (Try.prog.cellsOf 3)) = xs[1]? := hf 1 _ rfl
  have f2 : DataW.trod enc Try.prog w 0 sp held n 3 (([c0, c1, c2, c3, c4, c5, c6, c7, c8, c9, c10, c11, c12, c13, c14, c15].drop 2).take (Try.prog.cellsOf 3)) = xs[2]? := hf 2 _ rfl
  have f3 : DataW.trod enc Try.prog w 0 sp held n 3 (([c0, c1, c2, c3, c4, c5, c6, c7, c8, c9, c10, c11, c12, c13, c14, c15].drop 3).take (Try.prog.cellsOf 3)) = xs[3]? := hf 3 _ rfl
  have f4 : DataW.trod enc Try.prog w 0 sp held n 39 (([c0, c1, c2, c3, c4, c5, c6, c7, c8, c9, c10, c11, c12, c13, c14, c15].drop 4).take (Try.prog.cellsOf 39)) = xs[4]? := hf 4 _ rfl
  have f5 : DataW.trod enc Try.prog w 0 sp held n 39 (([c0, c1, c2, c3, c4, c5, c6, c7, c8, c9, c10, c11, c12, c13, c14, c15].drop 10).take (Try.prog.cellsOf 39)) = xs[5]? := hf 5 _ rfl
  simp only [cellsI, cellsR, cellsS, List.drop_zero, List.drop_succ_cons, List.take_succ_cons, List.take_zero] at f0 f1 f2 f3 f4 f5
  obtain ⟨x0, hx0⟩ : ∃ y, xs[0]? = some y := ⟨_, List.getElem?_eq_getElem (by rw [hlen]; simp)⟩
  obtain ⟨x1, hx1⟩ : ∃ y, xs[1]? = some y := ⟨_, List.getElem?_eq_getElem (by rw [hlen]; simp)⟩
  obtain ⟨x2, hx2⟩ : ∃ y, xs[2]? = some y := ⟨_, List.getElem?_eq_getElem (by rw [hlen]; simp)⟩
  obtain ⟨x3, hx3⟩ : ∃ y, xs[3]? = some y := ⟨_, List.getElem?_eq_getElem (by rw [hlen]; simp)⟩
  obtain ⟨x4, hx4⟩ : ∃ y, xs[4]? = some y := ⟨_, List.getElem?_eq_getElem (by rw [hlen]; simp)⟩
  obtain ⟨x5, hx5⟩ : ∃ y, xs[5]? = some y := ⟨_, List.getElem?_eq_getElem (by rw [hlen]; simp)⟩
  rw [hx0] at f0
  rw [hx1] at f1
  rw [hx2] at f2
  rw [hx3] at f3
  rw [hx4] at f4
  rw [hx5] at f5
  obtain ⟨a0, e0, y0, w0⟩ := DataW.trod_string Try.underlying9 f0
  simp only [List.cons.injEq, and_true] at e0
  obtain ⟨a1, e1, _, w1⟩ := DataW.trod_int Try.underlying3 f1
  simp only [List.cons.injEq, and_true] at e1
  obtain ⟨a2, e2, _, w2⟩ := DataW.trod_int Try.underlying3 f2
  simp only [List.cons.injEq, and_true] at e2
  obtain ⟨a3, e3, _, w3⟩ := DataW.trod_int Try.underlying3 f3
  simp only [List.cons.injEq, and_true] at e3
  obtain ⟨r4, hr4, hp4⟩ := trod_rule enc w sp held n _ _ f4
  obtain ⟨r5, hr5, hp5⟩ := trod_rule enc w sp held n _ _ f5
  subst e0
  subst e1
  subst e2
  subst e3
  refine ⟨⟨a0, a1, a2, a3, r4, r5⟩, ⟨_, _, rfl, hr4, hr5, wf_i64 w1, wf_i64 w2, wf_i64 w3⟩, w0, ?_, ?_⟩
  · have := bulk_part (ps := xs.flatMap (·.2)) hx4; rw [hx]; show r4.parts.length ≤ _; omega
  · have := bulk_part (ps := xs.flatMap (·.2)) hx5; rw [hx]; show r5.parts.length ≤ _; omega
set_option maxRecDepth 100000 in
set_option maxHeartbeats 6400000 in
theorem trod_pair {H : Type} (enc : TypeId × Value → H) (w : World) (sp : Nat → Bool) (held : Bool) (fuel : Nat) (cs : List Value) (x : DataW H × List MemPlace) (h : DataW.trod enc Try.prog w 0 sp held fuel 51 cs = some x) : ∃ p : Pr, cs = p.cells := by
  obtain ⟨xs, n, hn, hx, hl, hlen, hf⟩ := DataW.trod_struct Try.underlying51 h
  rw [cellsP] at hl
  match cs, hl with
  | [c0, c1, c2, c3], _ =>
  have f0 : DataW.trod enc Try.prog w 0 sp held n 9 (([c0, c1, c2, c3].drop 0).take (Try.prog.cellsOf 9)) = xs[0]? := hf 0 _ rfl
  have f1 : DataW.trod enc Try.prog w 0 sp held n 9 (([c0, c1, c2, c3].drop 1).take (Try.prog.cellsOf 9)) = xs[1]? := hf 1 _ rfl
  have f2 : DataW.trod enc Try.prog w 0 sp held n 3 (([c0, c1, c2, c3].drop 2).take (Try.prog.cellsOf 3)) = xs[2]? := hf 2 _ rfl
  have f3 : DataW.trod enc Try.prog w 0 sp held n 3 (([c0, c1, c2, c3].drop 3).take (Try.prog.cellsOf 3)) = xs[3]? := hf 3 _ rfl
  simp only [cellsI, cellsS, List.drop_zero, List.drop_succ_cons, List.take_succ_cons, List.take_zero] at f0 f1 f2 f3
  obtain ⟨x0, hx0⟩ : ∃ y, xs[0]? = some y := ⟨_, List.getElem?_eq_getElem (by rw [hlen]; simp)⟩
  obtain ⟨x1, hx1⟩ : ∃ y, xs[1]? = some y := ⟨_, List.getElem?_eq_getElem (by rw [hlen]; simp)⟩
  obtain ⟨x2, hx2⟩ : ∃ y, xs[2]? = some y := ⟨_, List.getElem?_eq_getElem (by rw [hlen]; simp)⟩
  obtain ⟨x3, hx3⟩ : ∃ y, xs[3]? = some y := ⟨_, List.getElem?_eq_getElem (by rw [hlen]; simp)⟩
  rw [hx0] at f0
  rw [hx1] at f1
  rw [hx2] at f2
  rw [hx3] at f3
  obtain ⟨a0, e0, y0, w0⟩ := DataW.trod_string Try.underlying9 f0
  simp only [List.cons.injEq, and_true] at e0
  obtain ⟨a1, e1, y1, w1⟩ := DataW.trod_string Try.underlying9 f1
  simp only [List.cons.injEq, and_true] at e1
  obtain ⟨a2, e2, _, w2⟩ := DataW.trod_int Try.underlying3 f2
  simp only [List.cons.injEq, and_true] at e2
  obtain ⟨a3, e3, _, w3⟩ := DataW.trod_int Try.underlying3 f3
  simp only [List.cons.injEq, and_true] at e3
  subst e0
  subst e1
  subst e2
  subst e3
  exact ⟨⟨a0, a1, a2, a3⟩, rfl⟩
set_option maxRecDepth 100000 in
set_option maxHeartbeats 6400000 in
theorem trod_class {H : Type} (enc : TypeId × Value → H) (w : World) (sp : Nat → Bool) (held : Bool) (fuel : Nat) (cs : List Value) (x : DataW H × List MemPlace) (h : DataW.trod enc Try.prog w 0 sp held fuel 80 cs = some x) : ∃ p : Kl, cs = p.cells ∧ p.nm.size ≤ maxLen := by
  obtain ⟨xs, n, hn, hx, hl, hlen, hf⟩ := DataW.trod_struct Try.underlying80 h
  rw [cellsK] at hl
  match cs, hl with
  | [c0, c1, c2, c3], _ =>
  have f0 : DataW.trod enc Try.prog w 0 sp held n 9 (([c0, c1, c2, c3].drop 0).take (Try.prog.cellsOf 9)) = xs[0]? := hf 0 _ rfl
  have f1 : DataW.trod enc Try.prog w 0 sp held n 3 (([c0, c1, c2, c3].drop 1).take (Try.prog.cellsOf 3)) = xs[1]? := hf 1 _ rfl
  have f2 : DataW.trod enc Try.prog w 0 sp held n 59 (([c0, c1, c2, c3].drop 2).take (Try.prog.cellsOf 59)) = xs[2]? := hf 2 _ rfl
  simp only [cellsI, cellsM, cellsS, List.drop_zero, List.drop_succ_cons, List.take_succ_cons, List.take_zero] at f0 f1 f2
  obtain ⟨x0, hx0⟩ : ∃ y, xs[0]? = some y := ⟨_, List.getElem?_eq_getElem (by rw [hlen]; simp)⟩
  obtain ⟨x1, hx1⟩ : ∃ y, xs[1]? = some y := ⟨_, List.getElem?_eq_getElem (by rw [hlen]; simp)⟩
  obtain ⟨x2, hx2⟩ : ∃ y, xs[2]? = some y := ⟨_, List.getElem?_eq_getElem (by rw [hlen]; simp)⟩
  rw [hx0] at f0
  rw [hx1] at f1
  rw [hx2] at f2
  obtain ⟨a0, e0, y0, w0⟩ := DataW.trod_string Try.underlying9 f0
  simp only [List.cons.injEq, and_true] at e0
  obtain ⟨a1, e1, _, w1⟩ := DataW.trod_int Try.underlying3 f1
  simp only [List.cons.injEq, and_true] at e1
  obtain ⟨a2, b2, e2, w2, v2⟩ := trod_mean enc w sp held n _ _ f2
  simp only [List.cons.injEq, and_true] at e2
  obtain ⟨g2, g3⟩ := e2
  subst e0
  subst e1
  subst g2
  subst g3
  exact ⟨⟨a0, a1, a2, b2⟩, rfl, w0⟩
set_option maxRecDepth 100000 in
set_option maxHeartbeats 6400000 in
theorem trod_fee {H : Type} (enc : TypeId × Value → H) (w : World) (sp : Nat → Bool) (held : Bool) (fuel : Nat) (cs : List Value) (x : DataW H × List MemPlace) (h : DataW.trod enc Try.prog w 0 sp held fuel 84 cs = some x) : ∃ p : Fe, cs = p.cells ∧ p.nm.size ≤ maxLen := by
  obtain ⟨xs, n, hn, hx, hl, hlen, hf⟩ := DataW.trod_struct Try.underlying84 h
  rw [cellsF] at hl
  match cs, hl with
  | [c0, c1], _ =>
  have f0 : DataW.trod enc Try.prog w 0 sp held n 9 (([c0, c1].drop 0).take (Try.prog.cellsOf 9)) = xs[0]? := hf 0 _ rfl
  have f1 : DataW.trod enc Try.prog w 0 sp held n 3 (([c0, c1].drop 1).take (Try.prog.cellsOf 3)) = xs[1]? := hf 1 _ rfl
  simp only [cellsI, cellsS, List.drop_zero, List.drop_succ_cons, List.take_succ_cons, List.take_zero] at f0 f1
  obtain ⟨x0, hx0⟩ : ∃ y, xs[0]? = some y := ⟨_, List.getElem?_eq_getElem (by rw [hlen]; simp)⟩
  obtain ⟨x1, hx1⟩ : ∃ y, xs[1]? = some y := ⟨_, List.getElem?_eq_getElem (by rw [hlen]; simp)⟩
  rw [hx0] at f0
  rw [hx1] at f1
  obtain ⟨a0, e0, y0, w0⟩ := DataW.trod_string Try.underlying9 f0
  simp only [List.cons.injEq, and_true] at e0
  obtain ⟨a1, e1, _, w1⟩ := DataW.trod_int Try.underlying3 f1
  simp only [List.cons.injEq, and_true] at e1
  subst e0
  subst e1
  exact ⟨⟨a0, a1⟩, rfl, w0⟩
set_option maxRecDepth 100000 in
set_option maxHeartbeats 6400000 in
theorem trod_clause {H : Type} (enc : TypeId × Value → H) (w : World) (sp : Nat → Bool) (held : Bool) (fuel : Nat) (cs : List Value) (x : DataW H × List MemPlace) (h : DataW.trod enc Try.prog w 0 sp held fuel 109 cs = some x) : ∃ p : Cu, cs = p.cells := by
  obtain ⟨xs, n, hn, hx, hl, hlen, hf⟩ := DataW.trod_struct Try.underlying109 h
  rw [cellsU] at hl
  match cs, hl with
  | [c0, c1, c2, c3], _ =>
  have f0 : DataW.trod enc Try.prog w 0 sp held n 3 (([c0, c1, c2, c3].drop 0).take (Try.prog.cellsOf 3)) = xs[0]? := hf 0 _ rfl
  have f1 : DataW.trod enc Try.prog w 0 sp held n 3 (([c0, c1, c2, c3].drop 1).take (Try.prog.cellsOf 3)) = xs[1]? := hf 1 _ rfl
  have f2 : DataW.trod enc Try.prog w 0 sp held n 3 (([c0, c1, c2, c3].drop 2).take (Try.prog.cellsOf 3)) = xs[2]? := hf 2 _ rfl
  have f3 : DataW.trod enc Try.prog w 0 sp held n 3 (([c0, c1, c2, c3].drop 3).take (Try.prog.cellsOf 3)) = xs[3]? := hf 3 _ rfl
  simp only [cellsI, List.drop_zero, List.drop_succ_cons, List.take_succ_cons, List.take_zero] at f0 f1 f2 f3
  obtain ⟨x0, hx0⟩ : ∃ y, xs[0]? = some y := ⟨_, List.getElem?_eq_getElem (by rw [hlen]; simp)⟩
  obtain ⟨x1, hx1⟩ : ∃ y, xs[1]? = some y := ⟨_, List.getElem?_eq_getElem (by rw [hlen]; simp)⟩
  obtain ⟨x2, hx2⟩ : ∃ y, xs[2]? = some y := ⟨_, List.getElem?_eq_getElem (by rw [hlen]; simp)⟩
  obtain ⟨x3, hx3⟩ : ∃ y, xs[3]? = some y := ⟨_, List.getElem?_eq_getElem (by rw [hlen]; simp)⟩
  rw [hx0] at f0
  rw [hx1] at f1
  rw [hx2] at f2
  rw [hx3] at f3
  obtain ⟨a0, e0, _, w0⟩ := DataW.trod_int Try.underlying3 f0
  simp only [List.cons.injEq, and_true] at e0
  obtain ⟨a1, e1, _, w1⟩ := DataW.trod_int Try.underlying3 f1
  simp only [List.cons.injEq, and_true] at e1
  obtain ⟨a2, e2, _, w2⟩ := DataW.trod_int Try.underlying3 f2
  simp only [List.cons.injEq, and_true] at e2
  obtain ⟨a3, e3, _, w3⟩ := DataW.trod_int Try.underlying3 f3
  simp only [List.cons.injEq, and_true] at e3
  subst e0
  subst e1
  subst e2
  subst e3
  exact ⟨⟨a0, a1, a2, a3⟩, rfl⟩
theorem trod_strs {H : Type} (enc : TypeId × Value → H) (w : World) (sp : Nat → Bool) (held : Bool) (fuel : Nat) (v : Value) (x : DataW H × List MemPlace) (h : DataW.trod enc Try.prog w 0 sp held fuel 36 [v] = some x) : ∃ ao l cap, v = .slice ao (List.length l) cap ∧ SL w 1 ao cap (srows l) := by
  obtain ⟨ao, l, cap, rows, e, hs, hl, hr, -⟩ := trod_rows enc w sp held 1 (by omega) Try.underlying36 cellsS (fun (a : ByteArray) r => r = [.string a]) (fun _ => 0) fuel (fun f r y hf hy => by obtain ⟨s, e, -, -⟩ := DataW.trod_string Try.underlying9 hy; exact ⟨s, e, Nat.zero_le _⟩) v x h
  have : rows = srows l := rows_eq hl fun i a r ha hr' => hr i a r ha hr'
  exact ⟨ao, l, cap, e, by rw [this] at hs; exact hs⟩
theorem trod_ints {H : Type} (enc : TypeId × Value → H) (w : World) (sp : Nat → Bool) (held : Bool) (fuel : Nat) (v : Value) (x : DataW H × List MemPlace) (h : DataW.trod enc Try.prog w 0 sp held fuel 45 [v] = some x) : ∃ ao l cap, v = .slice ao (List.length l) cap ∧ SL w 1 ao cap (irows l) := by
  obtain ⟨ao, l, cap, rows, e, hs, hl, hr, -⟩ := trod_rows enc w sp held 1 (by omega) Try.underlying45 cellsI (fun (a : Int) r => r = [.int .i64 a]) (fun _ => 0) fuel (fun f r y hf hy => by obtain ⟨s, e, -, -⟩ := DataW.trod_int Try.underlying3 hy; exact ⟨s, e, Nat.zero_le _⟩) v x h
  have : rows = irows l := rows_eq hl fun i a r ha hr' => hr i a r ha hr'
  exact ⟨ao, l, cap, e, by rw [this] at hs; exact hs⟩
set_option maxRecDepth 100000 in
set_option maxHeartbeats 6400000 in
theorem trod_req {H : Type} (enc : TypeId × Value → H) (w : World) (sp : Nat → Bool) (held : Bool) (fuel : Nat) (cs : List Value) (x : DataW H × List MemPlace) (h : DataW.trod enc Try.prog w 0 sp held fuel 64 cs = some x) : ∃ q : Rq, (∃ na nc fa fc, cs = q.cells na nc fa fc ∧ SL w 1 na nc (srows q.nms) ∧ SL w 1 fa fc (irows q.fr)) ∧ q.nm.size ≤ maxLen := by
  obtain ⟨xs, n, hn, hx, hl, hlen, hf⟩ := DataW.trod_struct Try.underlying64 h
  rw [cellsQ] at hl
  match cs, hl with
  | [c0, c1, c2, c3, c4, c5], _ =>
  have f0 : DataW.trod enc Try.prog w 0 sp held n 9 (([c0, c1, c2, c3, c4, c5].drop 0).take (Try.prog.cellsOf 9)) = xs[0]? := hf 0 _ rfl
  have f1 : DataW.trod enc Try.prog w 0 sp held n 3 (([c0, c1, c2, c3, c4, c5].drop 1).take (Try.prog.cellsOf 3)) = xs[1]? := hf 1 _ rfl
  have f2 : DataW.trod enc Try.prog w 0 sp held n 3 (([c0, c1, c2, c3, c4, c5].drop 2).take (Try.prog.cellsOf 3)) = xs[2]? := hf 2 _ rfl
  have f3 : DataW.trod enc Try.prog w 0 sp held n 4 (([c0, c1, c2, c3, c4, c5].drop 3).take (Try.prog.cellsOf 4)) = xs[3]? := hf 3 _ rfl
  have f4 : DataW.trod enc Try.prog w 0 sp held n 36 (([c0, c1, c2, c3, c4, c5].drop 4).take (Try.prog.cellsOf 36)) = xs[4]? := hf 4 _ rfl
  have f5 : DataW.trod enc Try.prog w 0 sp held n 45 (([c0, c1, c2, c3, c4, c5].drop 5).take (Try.prog.cellsOf 45)) = xs[5]? := hf 5 _ rfl
  simp only [cellsB, cellsI, cellsIs, cellsS, cellsSs, List.drop_zero, List.drop_succ_cons, List.take_succ_cons, List.take_zero] at f0 f1 f2 f3 f4 f5
  obtain ⟨x0, hx0⟩ : ∃ y, xs[0]? = some y := ⟨_, List.getElem?_eq_getElem (by rw [hlen]; simp)⟩
  obtain ⟨x1, hx1⟩ : ∃ y, xs[1]? = some y := ⟨_, List.getElem?_eq_getElem (by rw [hlen]; simp)⟩
  obtain ⟨x2, hx2⟩ : ∃ y, xs[2]? = some y := ⟨_, List.getElem?_eq_getElem (by rw [hlen]; simp)⟩
  obtain ⟨x3, hx3⟩ : ∃ y, xs[3]? = some y := ⟨_, List.getElem?_eq_getElem (by rw [hlen]; simp)⟩
  obtain ⟨x4, hx4⟩ : ∃ y, xs[4]? = some y := ⟨_, List.getElem?_eq_getElem (by rw [hlen]; simp)⟩
  obtain ⟨x5, hx5⟩ : ∃ y, xs[5]? = some y := ⟨_, List.getElem?_eq_getElem (by rw [hlen]; simp)⟩
  rw [hx0] at f0
  rw [hx1] at f1
  rw [hx2] at f2
  rw [hx3] at f3
  rw [hx4] at f4
  rw [hx5] at f5
  obtain ⟨a0, e0, y0, w0⟩ := DataW.trod_string Try.underlying9 f0
  simp only [List.cons.injEq, and_true] at e0
  obtain ⟨a1, e1, _, w1⟩ := DataW.trod_int Try.underlying3 f1
  simp only [List.cons.injEq, and_true] at e1
  obtain ⟨a2, e2, _, w2⟩ := DataW.trod_int Try.underlying3 f2
  simp only [List.cons.injEq, and_true] at e2
  obtain ⟨a3, e3, _⟩ := DataW.trod_bool Try.underlying4 f3
  simp only [List.cons.injEq, and_true] at e3
  obtain ⟨ao4, l4, k4, e4, h4⟩ := trod_strs enc w sp held n _ _ f4
  obtain ⟨ao5, l5, k5, e5, h5⟩ := trod_ints enc w sp held n _ _ f5
  subst e0
  subst e1
  subst e2
  subst e3
  subst e4
  subst e5
  exact ⟨⟨a0, a1, a2, a3, l4, l5⟩, ⟨ao4, k4, ao5, k5, rfl, h4, h5⟩, w0⟩
set_option maxRecDepth 100000 in
set_option maxHeartbeats 6400000 in
theorem trod_prog {H : Type} (enc : TypeId × Value → H) (w : World) (sp : Nat → Bool) (held : Bool) (fuel : Nat) (cs : List Value) (x : DataW H × List MemPlace) (h : DataW.trod enc Try.prog w 0 sp held fuel 62 cs = some x) : ∃ p : Pg, (∃ a n, cs = p.cells a n ∧ RepQ w a n p.rq) ∧ p.nm.size ≤ maxLen ∧ inI64 p.nu ∧ ∀ q ∈ p.rq, q.nm.size ≤ maxLen := by
  obtain ⟨xs, n, hn, hx, hl, hlen, hf⟩ := DataW.trod_struct Try.underlying62 h
  rw [cellsG] at hl
  match cs, hl with
  | [c0, c1, c2, c3, c4, c5, c6], _ =>
  have f0 : DataW.trod enc Try.prog w 0 sp held n 9 (([c0, c1, c2, c3, c4, c5, c6].drop 0).take (Try.prog.cellsOf 9)) = xs[0]? := hf 0 _ rfl
  have f1 : DataW.trod enc Try.prog w 0 sp held n 3 (([c0, c1, c2, c3, c4, c5, c6].drop 1).take (Try.prog.cellsOf 3)) = xs[1]? := hf 1 _ rfl
  have f2 : DataW.trod enc Try.prog w 0 sp held n 3 (([c0, c1, c2, c3, c4, c5, c6].drop 2).take (Try.prog.cellsOf 3)) = xs[2]? := hf 2 _ rfl
  have f3 : DataW.trod enc Try.prog w 0 sp held n 3 (([c0, c1, c2, c3, c4, c5, c6].drop 3).take (Try.prog.cellsOf 3)) = xs[3]? := hf 3 _ rfl
  have f4 : DataW.trod enc Try.prog w 0 sp held n 59 (([c0, c1, c2, c3, c4, c5, c6].drop 4).take (Try.prog.cellsOf 59)) = xs[4]? := hf 4 _ rfl
  have f5 : DataW.trod enc Try.prog w 0 sp held n 60 (([c0, c1, c2, c3, c4, c5, c6].drop 6).take (Try.prog.cellsOf 60)) = xs[5]? := hf 5 _ rfl
  simp only [cellsI, cellsM, cellsQs, cellsS, List.drop_zero, List.drop_succ_cons, List.take_succ_cons, List.take_zero] at f0 f1 f2 f3 f4 f5
  obtain ⟨x0, hx0⟩ : ∃ y, xs[0]? = some y := ⟨_, List.getElem?_eq_getElem (by rw [hlen]; simp)⟩
  obtain ⟨x1, hx1⟩ : ∃ y, xs[1]? = some y := ⟨_, List.getElem?_eq_getElem (by rw [hlen]; simp)⟩
  obtain ⟨x2, hx2⟩ : ∃ y, xs[2]? = some y := ⟨_, List.getElem?_eq_getElem (by rw [hlen]; simp)⟩
  obtain ⟨x3, hx3⟩ : ∃ y, xs[3]? = some y := ⟨_, List.getElem?_eq_getElem (by rw [hlen]; simp)⟩
  obtain ⟨x4, hx4⟩ : ∃ y, xs[4]? = some y := ⟨_, List.getElem?_eq_getElem (by rw [hlen]; simp)⟩
  obtain ⟨x5, hx5⟩ : ∃ y, xs[5]? = some y := ⟨_, List.getElem?_eq_getElem (by rw [hlen]; simp)⟩
  rw [hx0] at f0
  rw [hx1] at f1
  rw [hx2] at f2
  rw [hx3] at f3
  rw [hx4] at f4
  rw [hx5] at f5
  obtain ⟨a0, e0, y0, w0⟩ := DataW.trod_string Try.underlying9 f0
  simp only [List.cons.injEq, and_true] at e0
  obtain ⟨a1, e1, _, w1⟩ := DataW.trod_int Try.underlying3 f1
  simp only [List.cons.injEq, and_true] at e1
  obtain ⟨a2, e2, _, w2⟩ := DataW.trod_int Try.underlying3 f2
  simp only [List.cons.injEq, and_true] at e2
  obtain ⟨a3, e3, _, w3⟩ := DataW.trod_int Try.underlying3 f3
  simp only [List.cons.injEq, and_true] at e3
  obtain ⟨a4, b4, e4, w4, v4⟩ := trod_mean enc w sp held n _ _ f4
  simp only [List.cons.injEq, and_true] at e4
  obtain ⟨ao5, l5, k5, rw5, e5, hs5, hl5, hr5, hz5⟩ := trod_rows enc w sp held 6 (by omega) Try.underlying60 cellsQ (fun (q : Rq) r => (∃ na nc fa fc, r = q.cells na nc fa fc ∧ SL w 1 na nc (srows q.nms) ∧ SL w 1 fa fc (irows q.fr)) ∧ q.nm.size ≤ maxLen) (fun _ => 0) n (fun f r y hf hy => by obtain ⟨q, hq⟩ := trod_req enc w sp held f r y hy; exact ⟨q, hq, Nat.zero_le _⟩) _ _ f5
  obtain ⟨g4, g5⟩ := e4
  subst e0
  subst e1
  subst e2
  subst e3
  subst g4
  subst g5
  subst e5
  refine ⟨⟨a0, a1, a2, a3, a4, b4, l5⟩, ⟨ao5, k5, rfl, rw5, hs5, hl5, fun i q r h1 h2 => (hr5 i q r h1 h2).1⟩, w0, wf_i64 w1, fun q hq => ?_⟩
  obtain ⟨i, hi⟩ := List.getElem?_of_mem hq
  have hil : i < l5.length := (List.getElem?_eq_some_iff.1 hi).1
  exact (hr5 i q _ hi (List.getElem?_eq_getElem (by omega))).2
set_option maxRecDepth 100000 in
set_option maxHeartbeats 6400000 in
theorem trod_cat {H : Type} (enc : TypeId × Value → H) (w : World) (sp : Nat → Bool) (held : Bool) (fuel : Nat) (cs : List Value) (x : DataW H × List MemPlace) (h : DataW.trod enc Try.prog w 0 sp held fuel 29 cs = some x) : ∃ (c : Cat) (d : Adr), cs = c.cells d ∧ RepX w d c ∧ (∀ z ∈ c.cs, z.need.parts.length ≤ Rows.uptoBulk x.1 ∧ z.bar.parts.length ≤ Rows.uptoBulk x.1) ∧ (∀ x ∈ c.cs, x.nm.size ≤ maxLen) ∧ (∀ p ∈ c.pg, p.nm.size ≤ maxLen ∧ inI64 p.nu ∧ ∀ q ∈ p.rq, q.nm.size ≤ maxLen) ∧ (∀ x ∈ c.kl, x.nm.size ≤ maxLen) ∧ (∀ x ∈ c.fe, x.nm.size ≤ maxLen) ∧ (∀ x ∈ c.ho, x.nm.size ≤ maxLen) := by
  obtain ⟨xs, n, hn, hx, hl, hlen, hf⟩ := DataW.trod_struct Try.underlying29 h
  rw [cellsX] at hl
  match cs, hl with
  | [c0, c1, c2, c3, c4, c5, c6], _ =>
  have f0 : DataW.trod enc Try.prog w 0 sp held n 22 (([c0, c1, c2, c3, c4, c5, c6].drop 0).take (Try.prog.cellsOf 22)) = xs[0]? := hf 0 _ rfl
  have f1 : DataW.trod enc Try.prog w 0 sp held n 23 (([c0, c1, c2, c3, c4, c5, c6].drop 1).take (Try.prog.cellsOf 23)) = xs[1]? := hf 1 _ rfl
  have f2 : DataW.trod enc Try.prog w 0 sp held n 24 (([c0, c1, c2, c3, c4, c5, c6].drop 2).take (Try.prog.cellsOf 24)) = xs[2]? := hf 2 _ rfl
  have f3 : DataW.trod enc Try.prog w 0 sp held n 25 (([c0, c1, c2, c3, c4, c5, c6].drop 3).take (Try.prog.cellsOf 25)) = xs[3]? := hf 3 _ rfl
  have f4 : DataW.trod enc Try.prog w 0 sp held n 26 (([c0, c1, c2, c3, c4, c5, c6].drop 4).take (Try.prog.cellsOf 26)) = xs[4]? := hf 4 _ rfl
  have f5 : DataW.trod enc Try.prog w 0 sp held n 25 (([c0, c1, c2, c3, c4, c5, c6].drop 5).take (Try.prog.cellsOf 25)) = xs[5]? := hf 5 _ rfl
  have f6 : DataW.trod enc Try.prog w 0 sp held n 27 (([c0, c1, c2, c3, c4, c5, c6].drop 6).take (Try.prog.cellsOf 27)) = xs[6]? := hf 6 _ rfl
  simp only [cellsCs, cellsFs, cellsGs, cellsKs, cellsPs, cellsUs, List.drop_zero, List.drop_succ_cons, List.take_succ_cons, List.take_zero] at f0 f1 f2 f3 f4 f5 f6
  obtain ⟨x0, hx0⟩ : ∃ y, xs[0]? = some y := ⟨_, List.getElem?_eq_getElem (by rw [hlen]; simp)⟩
  obtain ⟨x1, hx1⟩ : ∃ y, xs[1]? = some y := ⟨_, List.getElem?_eq_getElem (by rw [hlen]; simp)⟩
  obtain ⟨x2, hx2⟩ : ∃ y, xs[2]? = some y := ⟨_, List.getElem?_eq_getElem (by rw [hlen]; simp)⟩
  obtain ⟨x3, hx3⟩ : ∃ y, xs[3]? = some y := ⟨_, List.getElem?_eq_getElem (by rw [hlen]; simp)⟩
  obtain ⟨x4, hx4⟩ : ∃ y, xs[4]? = some y := ⟨_, List.getElem?_eq_getElem (by rw [hlen]; simp)⟩
  obtain ⟨x5, hx5⟩ : ∃ y, xs[5]? = some y := ⟨_, List.getElem?_eq_getElem (by rw [hlen]; simp)⟩
  obtain ⟨x6, hx6⟩ : ∃ y, xs[6]? = some y := ⟨_, List.getElem?_eq_getElem (by rw [hlen]; simp)⟩
  rw [hx0] at f0
  rw [hx1] at f1
  rw [hx2] at f2
  rw [hx3] at f3
  rw [hx4] at f4
  rw [hx5] at f5
  rw [hx6] at f6
  obtain ⟨ao0, l0, k0, rw0, e0, hs0, hl0, hr0, hz0⟩ := trod_rows enc w sp held 16 (by omega) Try.underlying22 cellsC (fun (c : Cr) r => (∃ u v, r = c.head ++ u ++ v ∧ RepU w c.need u ∧ RepU w c.bar v ∧ c.ok) ∧ c.nm.size ≤ maxLen) (fun c => max c.need.parts.length c.bar.parts.length) n (fun f r y hf hy => by obtain ⟨c, h1, h2, h3, h4⟩ := trod_course enc w sp held f r y hy; exact ⟨c, ⟨h1, h2⟩, Nat.max_le.2 ⟨h3, h4⟩⟩) _ _ f0
  obtain ⟨ao1, l1, k1, rw1, e1, hs1, hl1, hr1, hz1⟩ := trod_rows enc w sp held 4 (by omega) Try.underlying23 cellsP (fun (p : Pr) r => r = p.cells) (fun _ => 0) n (fun f r y hf hy => by obtain ⟨p, e⟩ := trod_pair enc w sp held f r y hy; exact ⟨p, e, Nat.zero_le _⟩) _ _ f1
  obtain ⟨ao2, l2, k2, rw2, e2, hs2, hl2, hr2, hz2⟩ := trod_rows enc w sp held 7 (by omega) Try.underlying24 cellsG (fun (p : Pg) r => (∃ a n, r = p.cells a n ∧ RepQ w a n p.rq) ∧ p.nm.size ≤ maxLen ∧ inI64 p.nu ∧ ∀ q ∈ p.rq, q.nm.size ≤ maxLen) (fun _ => 0) n (fun f r y hf hy => by obtain ⟨p, e⟩ := trod_prog enc w sp held f r y hy; exact ⟨p, e, Nat.zero_le _⟩) _ _ f2
  obtain ⟨ao3, l3, k3, rw3, e3, hs3, hl3, hr3, hz3⟩ := trod_rows enc w sp held 4 (by omega) Try.underlying25 cellsK (fun (p : Kl) r => r = p.cells ∧ p.nm.size ≤ maxLen) (fun _ => 0) n (fun f r y hf hy => by obtain ⟨p, e⟩ := trod_class enc w sp held f r y hy; exact ⟨p, e, Nat.zero_le _⟩) _ _ f3
  obtain ⟨ao4, l4, k4, rw4, e4, hs4, hl4, hr4, hz4⟩ := trod_rows enc w sp held 2 (by omega) Try.underlying26 cellsF (fun (p : Fe) r => r = p.cells ∧ p.nm.size ≤ maxLen) (fun _ => 0) n (fun f r y hf hy => by obtain ⟨p, e⟩ := trod_fee enc w sp held f r y hy; exact ⟨p, e, Nat.zero_le _⟩) _ _ f4
  obtain ⟨ao5, l5, k5, rw5, e5, hs5, hl5, hr5, hz5⟩ := trod_rows enc w sp held 4 (by omega) Try.underlying25 cellsK (fun (p : Kl) r => r = p.cells ∧ p.nm.size ≤ maxLen) (fun _ => 0) n (fun f r y hf hy => by obtain ⟨p, e⟩ := trod_class enc w sp held f r y hy; exact ⟨p, e, Nat.zero_le _⟩) _ _ f5
  obtain ⟨ao6, l6, k6, rw6, e6, hs6, hl6, hr6, hz6⟩ := trod_rows enc w sp held 4 (by omega) Try.underlying27 cellsU (fun (p : Cu) r => r = p.cells) (fun _ => 0) n (fun f r y hf hy => by obtain ⟨p, e⟩ := trod_clause enc w sp held f r y hy; exact ⟨p, e, Nat.zero_le _⟩) _ _ f6
  subst e0
  subst e1
  subst e2
  subst e3
  subst e4
  subst e5
  subst e6
  have m1 := rows_eq hl1 hr1
  have m3 := rows_eq hl3 fun i a r h1 h2 => (hr3 i a r h1 h2).1
  have m4 := rows_eq hl4 fun i a r h1 h2 => (hr4 i a r h1 h2).1
  have m5 := rows_eq hl5 fun i a r h1 h2 => (hr5 i a r h1 h2).1
  have m6 := rows_eq hl6 hr6
  have fr : ∀ {α : Type} {l : List α} {rows : List (List Value)} {P : α → Prop} {R : α → List Value → Prop}, rows.length = l.length → (∀ (i : Nat) a r, l[i]? = some a → rows[i]? = some r → R a r) → (∀ a r, R a r → P a) → ∀ a ∈ l, P a := fun {α l rows P R} hl hr hp a ha => by
    obtain ⟨i, hi⟩ := List.getElem?_of_mem ha
    have hil := (List.getElem?_eq_some_iff.1 hi).1
    exact hp a _ (hr i a _ hi (List.getElem?_eq_getElem (by omega)))
  refine ⟨⟨l0, l1, l2, l3, l4, l5, l6⟩, ⟨ao0, k0, ao1, k1, ao2, k2, ao3, k3, ao4, k4, ao5, k5, ao6, k6⟩, rfl, ⟨⟨rw0, hs0, hl0, fun i c r h1 h2 => (hr0 i c r h1 h2).1⟩, by rw [m1] at hs1; exact hs1, ⟨rw2, hs2, hl2, fun i c r h1 h2 => (hr2 i c r h1 h2).1⟩, by rw [m3] at hs3; exact hs3, by rw [m4] at hs4; exact hs4, by rw [m5] at hs5; exact hs5, by rw [m6] at hs6; exact hs6⟩, ?_, fr hl0 hr0 fun a r h => h.2, fr hl2 hr2 fun a r h => h.2, fr hl3 hr3 fun a r h => h.2, fr hl4 hr4 fun a r h => h.2, fr hl5 hr5 fun a r h => h.2⟩
  intro z hz
  have h1 := bulk_part (ps := xs.flatMap (·.2)) hx0
  have h2 : max z.need.parts.length z.bar.parts.length ≤ (l0.map fun c : Cr => max c.need.parts.length c.bar.parts.length).sum := le_sum_mem (List.mem_map_of_mem (f := fun c : Cr => max c.need.parts.length c.bar.parts.length) hz)
  have h3 := Nat.max_le.1 h2
  rw [hx]
  exact ⟨by omega, by omega⟩
end Go.Proofs.Ytimigpfoflilcaa
