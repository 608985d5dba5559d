/- What the reading of an argument says of memory: a wait, a bundle, a list of waits. -/
import Derived.Test.YtbhpeecebcihkaaWSa
import Derived.OpenShut
namespace Go.Proofs.Ytbhpeecebcihkaa
open Go.RowKit Go.Sz Go.ChangeShapes Go.WideShapes

theorem own : ownKnob Try.prog.godebug = none := by kernel_rfl
theorem laidOut : laidOutB Try.prog = true := by kernel_rfl
theorem cellsI : Try.prog.cellsOf 3 = 1 := by kernel_rfl
theorem cellsBu : Try.prog.cellsOf 24 = 2 := by kernel_rfl
theorem cellsOf : Try.prog.cellsOf 26 = 5 := by kernel_rfl

theorem okWide_agg {w : World} {base : Nat} {t : TypeId} {fs : Array Field} (ht : Try.prog.underlying t = some (.struct fs)) {v : Value} (h : Value.okWide Try.prog w .any base t v) : ∃ cs, v = .agg cs := by
  unfold Value.okWide at h
  rw [ht] at h
  obtain ⟨cs, rfl, _⟩ := h
  exact ⟨cs, rfl⟩

theorem trod_bun {H : Type} (enc : TypeId × Value → H) (w : World) (sp : Nat → Bool) (held : Bool) (fuel : Nat) (cs : List Value) (x : DataW H × List MemPlace) (h : DataW.trod enc Try.prog w 0 sp held fuel 24 cs = some x) : ∃ a b : Int, cs = [.int .i64 a, .int .i64 b] := by
  obtain ⟨xs, n, hn, hx, hl, hlen, hf⟩ := DataW.trod_struct Try.underlying24 h
  rw [cellsBu] at hl
  match cs, hl with
  | [c0, c1], _ =>
  have f0 : DataW.trod enc Try.prog w 0 sp held n 3 (([c0, c1].drop 0).take (Try.prog.cellsOf 3)) = xs[0]? := hf 0 _ rfl
  have f1 : DataW.trod enc Try.prog w 0 sp held n 3 (([c0, c1].drop 1).take (Try.prog.cellsOf 3)) = xs[1]? := hf 1 _ rfl
  simp only [cellsI, List.drop_zero, List.drop_succ_cons, List.take_succ_cons, List.take_zero] at f0 f1
  rw [List.getElem?_eq_getElem (by rw [hlen]; simp)] at f0 f1
  obtain ⟨a, e0, _, w0⟩ := DataW.trod_int Try.underlying3 f0
  obtain ⟨b, e1, _, w1⟩ := DataW.trod_int Try.underlying3 f1
  simp only [List.cons.injEq, and_true] at e0 e1
  subst e0 e1
  exact ⟨a, b, rfl⟩

theorem trod_wt {H : Type} (enc : TypeId × Value → H) (w : World) (sp : Nat → Bool) (held : Bool) (fuel : Nat) (cs : List Value) (x : DataW H × List MemPlace) (h : DataW.trod enc Try.prog w 0 sp held fuel 26 cs = some x) : ∃ o : Wt, cs = o.enc := by
  obtain ⟨xs, n, hn, hx, hl, hlen, hf⟩ := DataW.trod_struct Try.underlying26 h
  rw [cellsOf] at hl
  match cs, hl with
  | [c0, c1, c2, c3, c4], _ =>
  have f0 : DataW.trod enc Try.prog w 0 sp held n 3 (([c0, c1, c2, c3, c4].drop 0).take (Try.prog.cellsOf 3)) = xs[0]? := hf 0 _ rfl
  have f1 : DataW.trod enc Try.prog w 0 sp held n 24 (([c0, c1, c2, c3, c4].drop 1).take (Try.prog.cellsOf 24)) = xs[1]? := hf 1 _ rfl
  have f2 : DataW.trod enc Try.prog w 0 sp held n 3 (([c0, c1, c2, c3, c4].drop 3).take (Try.prog.cellsOf 3)) = xs[2]? := hf 2 _ rfl
  have f3 : DataW.trod enc Try.prog w 0 sp held n 3 (([c0, c1, c2, c3, c4].drop 4).take (Try.prog.cellsOf 3)) = xs[3]? := hf 3 _ rfl
  simp only [cellsI, cellsBu, List.drop_zero, List.drop_succ_cons, List.take_succ_cons, List.take_zero] at f0 f1 f2 f3
  rw [List.getElem?_eq_getElem (by rw [hlen]; simp)] at f0 f1 f2 f3
  obtain ⟨s, e0, _, w0⟩ := DataW.trod_int Try.underlying3 f0
  obtain ⟨a, b, e1⟩ := trod_bun enc w sp held n _ _ f1
  obtain ⟨k, e2, _, w2⟩ := DataW.trod_int Try.underlying3 f2
  obtain ⟨t, e3, _, w3⟩ := DataW.trod_int Try.underlying3 f3
  simp only [List.cons.injEq, and_true] at e0 e1 e2 e3
  obtain ⟨e1, e4⟩ := e1
  subst e0 e1 e2 e3 e4
  exact ⟨⟨s, a, b, k, t⟩, rfl⟩

theorem trod_wts {H : Type} (enc : TypeId × Value → H) (w : World) (sp : Nat → Bool) (held : Bool) (fuel : Nat) (v : Value) (x : DataW H × List MemPlace) (h : DataW.trod enc Try.prog w 0 sp held fuel 22 [v] = some x) :
    ∃ ao l cap, v = .slice ao (List.length l) cap ∧ RepW w ao cap l := by
  rcases DataW.trod_slice Try.underlying22 h with ⟨e3, _⟩ | ⟨ad, len, cap, elems, rest, n2, hn2, e3, _, _, hlc, hcm, hel, hrow, _⟩
  · simp only [List.cons.injEq, and_true] at e3
    subst e3
    exact ⟨none, [], 0, rfl, RepW.empty _⟩
  · simp only [List.cons.injEq, and_true] at e3
    subst e3
    rw [cellsOf] at hrow
    obtain ⟨rows, l, h1, h2, h3⟩ := list_of (R := fun i (r : List Value) (p : Wt) => w.cells? 0 (ad.add (i * 5)) 5 = some r ∧ r = p.enc) len fun i hi => by
      have h4 := hrow i hi
      rw [List.getElem?_eq_getElem (by omega)] at h4
      obtain ⟨r, h5, h6⟩ := Option.bind_eq_some_iff.1 h4
      obtain ⟨o, ho⟩ := trod_wt enc w sp held n2 r _ h6
      exact ⟨r, o, h5, ho⟩
    have hrows : rows = wrows l := by
      apply List.ext_getElem?
      intro i
      rcases Nat.lt_or_ge i len with hi | hi
      · have := (h3 i (rows[i]'(by omega)) (l[i]'(by omega)) (List.getElem?_eq_getElem _) (List.getElem?_eq_getElem _)).2
        rw [List.getElem?_eq_getElem (by omega), this]
        simp only [wrows, List.getElem?_map]
        rw [List.getElem?_eq_getElem (by omega)]
        rfl
      · rw [List.getElem?_eq_none (by omega), List.getElem?_eq_none (by rw [wrows_length]; omega)]
    refine ⟨some ad, l, cap, by rw [h2], ?_⟩
    show SL _ _ _ _ _
    rw [← hrows]
    exact sl_of_cells (by omega) hlc hcm h1 fun i r hr => (h3 i r (l[i]'(by have := (List.getElem?_eq_some_iff.1 hr).1; omega)) hr (List.getElem?_eq_getElem _)).1
end Go.Proofs.Ytbhpeecebcihkaa
