/- What the reading of a list of moves says of memory. -/
import Derived.Test.YtdlahgmbilkdcaaNT
import Derived.Test.YtdlahgmbilkdcaaNLe
namespace Go.Proofs.Ytdlahgmbilkdcaa
open Go.RowKit Go.Sz Go.ChangeShapes Go.WideShapes
theorem cellsMv : Try.prog.cellsOf 52 = 5 := by kernel_rfl
theorem byte_of {m : Int} (h : (Lit.int .u8 m).wf = true) : ∃ b : UInt8, m = (b.toNat : Int) := by
  have hr : 0 ≤ m ∧ m < 256 := by
    have hmin : IntKind.u8.min = 0 := by decide
    have hmax : IntKind.u8.max = 255 := by decide
    simp [Lit.wf, hmin, hmax] at h
    omega
  refine ⟨UInt8.ofNat m.toNat, ?_⟩
  rw [UInt8.toNat_ofNat']
  simp
  omega
theorem trod_move {H : Type} (enc : TypeId × Value → H) (w : World) (sp : Nat → Bool) (held : Bool) (fuel : Nat) (cs : List Value) (x : DataW H × List MemPlace) (h : DataW.trod enc Try.prog w 0 sp held fuel 52 cs = some x) : ∃ m : Mv, cs = mvRow m := by
  obtain ⟨xs, n, hn, hx, hl, hlen, hf⟩ := DataW.trod_struct Try.underlying52 h
  rw [cellsMv] at hl
  match cs, hl with
  | [c0, c1, c2, c3, c4], _ =>
  have f0 : DataW.trod enc Try.prog w 0 sp held n 5 (([c0, c1, c2, c3, c4].drop 0).take (Try.prog.cellsOf 5)) = xs[0]? := hf 0 _ rfl
  have f1 : DataW.trod enc Try.prog w 0 sp held n 5 (([c0, c1, c2, c3, c4].drop 1).take (Try.prog.cellsOf 5)) = xs[1]? := hf 1 _ rfl
  have f2 : DataW.trod enc Try.prog w 0 sp held n 5 (([c0, c1, c2, c3, c4].drop 2).take (Try.prog.cellsOf 5)) = xs[2]? := hf 2 _ rfl
  have f3 : DataW.trod enc Try.prog w 0 sp held n 5 (([c0, c1, c2, c3, c4].drop 3).take (Try.prog.cellsOf 5)) = xs[3]? := hf 3 _ rfl
  have f4 : DataW.trod enc Try.prog w 0 sp held n 5 (([c0, c1, c2, c3, c4].drop 4).take (Try.prog.cellsOf 5)) = xs[4]? := hf 4 _ rfl
  simp only [cellsB, List.drop_zero, List.drop_succ_cons, List.take_succ_cons, List.take_zero] at f0 f1 f2 f3 f4
  rw [List.getElem?_eq_getElem (by rw [hlen]; simp)] at f0 f1 f2 f3 f4
  obtain ⟨z0, e0, _, w0⟩ := DataW.trod_int Try.underlying5 f0
  obtain ⟨z1, e1, _, w1⟩ := DataW.trod_int Try.underlying5 f1
  obtain ⟨z2, e2, _, w2⟩ := DataW.trod_int Try.underlying5 f2
  obtain ⟨z3, e3, _, w3⟩ := DataW.trod_int Try.underlying5 f3
  obtain ⟨z4, e4, _, w4⟩ := DataW.trod_int Try.underlying5 f4
  simp only [List.cons.injEq, and_true] at e0 e1 e2 e3 e4
  subst e0 e1 e2 e3 e4
  obtain ⟨y0, rfl⟩ := byte_of w0
  obtain ⟨y1, rfl⟩ := byte_of w1
  obtain ⟨y2, rfl⟩ := byte_of w2
  obtain ⟨y3, rfl⟩ := byte_of w3
  obtain ⟨y4, rfl⟩ := byte_of w4
  exact ⟨⟨y0, y1, y2, y3, y4⟩, rfl⟩
theorem trod_moves {H : Type} (enc : TypeId × Value → H) (w : World) (sp : Nat → Bool) (held : Bool) (fuel : Nat) (v : Value) (x : DataW H × List MemPlace) (h : DataW.trod enc Try.prog w 0 sp held fuel 48 [v] = some x) :
    ∃ ao l cap, v = .slice ao (List.length l) cap ∧ SL w 5 ao cap (mvr l) := by
  rcases DataW.trod_slice Try.underlying48 h with ⟨e3, _⟩ | ⟨ad, len, cap, elems, rest, n2, hn2, e3, _, _, hlc, hcm, hel, hrow, _⟩
  · simp only [List.cons.injEq, and_true] at e3
    subst e3
    exact ⟨none, [], 0, rfl, SL.empty _ _⟩
  · simp only [List.cons.injEq, and_true] at e3
    subst e3
    rw [cellsMv] at hrow
    obtain ⟨rows, a, h1, h2, h3⟩ := list_of (R := fun i (r : List Value) (p : Mv) => w.cells? 0 (ad.add (i * 5)) 5 = some r ∧ r = mvRow p) len fun i hi => by
      have h4 := hrow i hi
      rw [List.getElem?_eq_getElem (by omega)] at h4
      obtain ⟨r, h5, h6⟩ := Option.bind_eq_some_iff.1 h4
      obtain ⟨m, hm⟩ := trod_move enc w sp held n2 r _ h6
      exact ⟨r, m, h5, hm⟩
    have hrows : rows = mvr a := by
      apply List.ext_getElem?
      intro i
      rcases Nat.lt_or_ge i len with hi | hi
      · have := (h3 i (rows[i]'(by omega)) (a[i]'(by omega)) (List.getElem?_eq_getElem _) (List.getElem?_eq_getElem _)).2
        rw [List.getElem?_eq_getElem (by omega), this]
        simp only [mvr, List.getElem?_map]
        rw [List.getElem?_eq_getElem (by omega)]
        rfl
      · rw [List.getElem?_eq_none (by omega), List.getElem?_eq_none (by rw [mvr_length]; omega)]
    refine ⟨some ad, a, cap, by rw [h2], ?_⟩
    rw [← hrows]
    exact sl_of_cells (by omega) hlc hcm h1 fun i r hr => (h3 i r (a[i]'(by have := (List.getElem?_eq_some_iff.1 hr).1; omega)) hr (List.getElem?_eq_getElem _)).1
end Go.Proofs.Ytdlahgmbilkdcaa
