/- What the reading of an argument says of memory: a net, a packet, moves. -/
import Derived.Test.YtdlahgmbilkdcaaNLa
import Derived.OpenShut
namespace Go.Proofs.Ytdlahgmbilkdcaa
open Go.RowKit Go.Sz Go.ChangeShapes Go.WideShapes

theorem own : ownKnob Try.prog.godebug = none := by kernel_rfl
theorem laidOut : laidOutB Try.prog = true := by kernel_rfl
theorem cellsB : Try.prog.cellsOf 5 = 1 := by kernel_rfl
theorem cellsI : Try.prog.cellsOf 3 = 1 := by kernel_rfl
theorem cellsPk : Try.prog.cellsOf 28 = 3 := by kernel_rfl
theorem cellsNt : Try.prog.cellsOf 25 = 2 := by kernel_rfl
theorem cellsPr : Try.prog.cellsOf 55 = 2 := by kernel_rfl
theorem cellsLB : Try.prog.cellsOf 26 = 1 := by kernel_rfl
theorem cellsLP : Try.prog.cellsOf 22 = 1 := by kernel_rfl
theorem cellsLA : Try.prog.cellsOf 23 = 1 := by kernel_rfl

theorem okWide_agg {w : World} {base : Nat} {t : TypeId} {fs : Array Field} (ht : Try.prog.underlying t = some (.struct fs)) {v : Value} (h : Value.okWide Try.prog w .any base t v) : ∃ cs, v = .agg cs := by
  unfold Value.okWide at h
  rw [ht] at h
  obtain ⟨cs, rfl, _⟩ := h
  exact ⟨cs, rfl⟩

theorem trod_bytes {H : Type} (enc : TypeId × Value → H) (w : World) (sp : Nat → Bool) (held : Bool) (fuel : Nat) (v : Value) (x : DataW H × List MemPlace) (h : DataW.trod enc Try.prog w 0 sp held fuel 26 [v] = some x) :
    ∃ ao bs cap, v = .slice ao (List.length bs) cap ∧ SL w 1 ao cap (br bs) := by
  rcases DataW.trod_slice Try.underlying26 h with ⟨e3, _⟩ | ⟨a, len, cap, elems, rest, n2, hn2, e3, _, _, hlc, hcm, hel, hrow, _⟩
  · simp only [List.cons.injEq, and_true] at e3
    subst e3
    exact ⟨none, [], 0, rfl, SL.empty _ _⟩
  · simp only [List.cons.injEq, and_true] at e3
    subst e3
    rw [cellsB] at hrow
    obtain ⟨rows, bs, h1, h2, h3⟩ := list_of (R := fun i (r : List Value) (b : UInt8) => w.cells? 0 (a.add (i * 1)) 1 = some r ∧ r = [.int .u8 b.toNat]) len fun i hi => by
      have h4 := hrow i hi
      rw [List.getElem?_eq_getElem (by omega)] at h4
      obtain ⟨r, h5, h6⟩ := Option.bind_eq_some_iff.1 h4
      obtain ⟨m, e0, _, w0⟩ := DataW.trod_int Try.underlying5 h6
      have hr : 0 ≤ m ∧ m < 256 := by
        have hmin : IntKind.u8.min = 0 := by decide
        have hmax : IntKind.u8.max = 255 := by decide
        simp [Lit.wf, hmin, hmax] at w0
        omega
      refine ⟨r, UInt8.ofNat m.toNat, h5, ?_⟩
      rw [e0, UInt8.toNat_ofNat']
      simp
      omega
    have hrows : rows = br bs := by
      apply List.ext_getElem?
      intro i
      rcases Nat.lt_or_ge i len with hi | hi
      · have := (h3 i (rows[i]'(by omega)) (bs[i]'(by omega)) (List.getElem?_eq_getElem _) (List.getElem?_eq_getElem _)).2
        rw [List.getElem?_eq_getElem (by omega), this]
        simp only [br, List.getElem?_map]
        rw [List.getElem?_eq_getElem (by omega)]
        rfl
      · rw [List.getElem?_eq_none (by omega), List.getElem?_eq_none (by rw [br_length]; omega)]
    refine ⟨some a, bs, cap, by rw [h2], ?_⟩
    rw [← hrows]
    exact sl_of_cells (by omega) hlc hcm h1 fun i r hr => (h3 i r (bs[i]'(by have := (List.getElem?_eq_some_iff.1 hr).1; omega)) hr (List.getElem?_eq_getElem _)).1

theorem trod_pk {H : Type} (enc : TypeId × Value → H) (w : World) (sp : Nat → Bool) (held : Bool) (fuel : Nat) (cs : List Value) (x : DataW H × List MemPlace) (h : DataW.trod enc Try.prog w 0 sp held fuel 28 cs = some x) : ∃ p, RepP w cs p := by
  obtain ⟨xs, n, hn, hx, hl, hlen, hf⟩ := DataW.trod_struct Try.underlying28 h
  rw [cellsPk] at hl
  match cs, hl with
  | [c0, c1, c2], _ =>
  have f0 : DataW.trod enc Try.prog w 0 sp held n 3 (([c0, c1, c2].drop 0).take (Try.prog.cellsOf 3)) = xs[0]? := hf 0 _ rfl
  have f1 : DataW.trod enc Try.prog w 0 sp held n 3 (([c0, c1, c2].drop 1).take (Try.prog.cellsOf 3)) = xs[1]? := hf 1 _ rfl
  have f2 : DataW.trod enc Try.prog w 0 sp held n 26 (([c0, c1, c2].drop 2).take (Try.prog.cellsOf 26)) = xs[2]? := hf 2 _ rfl
  simp only [cellsI, cellsLB, List.drop_zero, List.drop_succ_cons, List.take_succ_cons, List.take_zero] at f0 f1 f2
  rw [List.getElem?_eq_getElem (by rw [hlen]; simp)] at f0 f1 f2
  obtain ⟨f, e0, _, w0⟩ := DataW.trod_int Try.underlying3 f0
  obtain ⟨t, e1, _, w1⟩ := DataW.trod_int Try.underlying3 f1
  obtain ⟨ao, bs, cap, e2, hs⟩ := trod_bytes enc w sp held n c2 _ f2
  simp only [List.cons.injEq, and_true] at e0 e1
  subst e0 e1 e2
  exact ⟨⟨f, t, bs⟩, ao, cap, rfl, wf_i64 w0, wf_i64 w1, hs⟩

theorem trod_pair {H : Type} (enc : TypeId × Value → H) (w : World) (sp : Nat → Bool) (held : Bool) (fuel : Nat) (cs : List Value) (x : DataW H × List MemPlace) (h : DataW.trod enc Try.prog w 0 sp held fuel 55 cs = some x) : ∃ u v : Int, cs = [.int .i64 u, .int .i64 v] ∧ inI64 u ∧ inI64 v := by
  obtain ⟨xs, n, hn, hx, hl, hlen, hf⟩ := DataW.trod_array Try.underlying55 h
  rw [cellsPr] at hl
  match cs, hl with
  | [c0, c1], _ =>
  have f0 := hf 0 (by omega)
  have f1 := hf 1 (by omega)
  simp only [cellsI, Nat.zero_mul, Nat.one_mul, List.drop_zero, List.drop_succ_cons, List.take_succ_cons, List.take_zero] at f0 f1
  rw [List.getElem?_eq_getElem (by omega)] at f0 f1
  obtain ⟨u, e0, _, w0⟩ := DataW.trod_int Try.underlying3 f0
  obtain ⟨v, e1, _, w1⟩ := DataW.trod_int Try.underlying3 f1
  simp only [List.cons.injEq, and_true] at e0 e1
  subst e0 e1
  exact ⟨u, v, rfl, wf_i64 w0, wf_i64 w1⟩

/-- a slice of packets -/
theorem trod_pks {H : Type} (enc : TypeId × Value → H) (w : World) (sp : Nat → Bool) (held : Bool) (fuel : Nat) (v : Value) (x : DataW H × List MemPlace) (h : DataW.trod enc Try.prog w 0 sp held fuel 22 [v] = some x) :
    ∃ ao q cap rows, v = .slice ao (List.length q) cap ∧ RepQ w ao cap rows q := by
  rcases DataW.trod_slice Try.underlying22 h with ⟨e3, _⟩ | ⟨a, len, cap, elems, rest, n2, hn2, e3, _, _, hlc, hcm, hel, hrow, _⟩
  · simp only [List.cons.injEq, and_true] at e3
    subst e3
    exact ⟨none, [], 0, [], rfl, ⟨SL.empty _ _, rfl, by simp⟩⟩
  · simp only [List.cons.injEq, and_true] at e3
    subst e3
    rw [cellsPk] at hrow
    obtain ⟨rows, q, h1, h2, h3⟩ := list_of (R := fun i (r : List Value) (p : Pk) => w.cells? 0 (a.add (i * 3)) 3 = some r ∧ RepP w r p) len fun i hi => by
      have h4 := hrow i hi
      rw [List.getElem?_eq_getElem (by omega)] at h4
      obtain ⟨r, h5, h6⟩ := Option.bind_eq_some_iff.1 h4
      obtain ⟨p, hp⟩ := trod_pk enc w sp held n2 r _ h6
      exact ⟨r, p, h5, hp⟩
    exact ⟨some a, q, cap, rows, by rw [h2], ⟨sl_of_cells (by omega) hlc hcm h1 fun i r hr => (h3 i r (q[i]'(by have := (List.getElem?_eq_some_iff.1 hr).1; omega)) hr (List.getElem?_eq_getElem _)).1, by omega, fun i r p hr hp => (h3 i r p hr hp).2⟩⟩

theorem trod_prs {H : Type} (enc : TypeId × Value → H) (w : World) (sp : Nat → Bool) (held : Bool) (fuel : Nat) (v : Value) (x : DataW H × List MemPlace) (h : DataW.trod enc Try.prog w 0 sp held fuel 23 [v] = some x) :
    ∃ ao a cap, v = .slice ao (List.length a) cap ∧ RepA w ao cap a := by
  rcases DataW.trod_slice Try.underlying23 h with ⟨e3, _⟩ | ⟨ad, len, cap, elems, rest, n2, hn2, e3, _, _, hlc, hcm, hel, hrow, _⟩
  · simp only [List.cons.injEq, and_true] at e3
    subst e3
    exact ⟨none, [], 0, rfl, ⟨SL.empty _ _, by simp⟩⟩
  · simp only [List.cons.injEq, and_true] at e3
    subst e3
    rw [cellsPr] at hrow
    obtain ⟨rows, a, h1, h2, h3⟩ := list_of (R := fun i (r : List Value) (p : Int × Int) => w.cells? 0 (ad.add (i * 2)) 2 = some r ∧ r = [.int .i64 p.1, .int .i64 p.2] ∧ inI64 p.1 ∧ inI64 p.2) len fun i hi => by
      have h4 := hrow i hi
      rw [List.getElem?_eq_getElem (by omega)] at h4
      obtain ⟨r, h5, h6⟩ := Option.bind_eq_some_iff.1 h4
      obtain ⟨u, v, hp, hu, hv⟩ := trod_pair enc w sp held n2 r _ h6
      exact ⟨r, (u, v), h5, hp, hu, hv⟩
    have hrows : rows = pr a := by
      apply List.ext_getElem?
      intro i
      rcases Nat.lt_or_ge i len with hi | hi
      · have := (h3 i (rows[i]'(by omega)) (a[i]'(by omega)) (List.getElem?_eq_getElem _) (List.getElem?_eq_getElem _)).2.1
        rw [List.getElem?_eq_getElem (by omega), this]
        simp only [pr, List.getElem?_map]
        rw [List.getElem?_eq_getElem (by omega)]
        rfl
      · rw [List.getElem?_eq_none (by omega), List.getElem?_eq_none (by rw [pr_length]; omega)]
    refine ⟨some ad, a, cap, by rw [h2], ⟨?_, fun x hx => ?_⟩⟩
    · rw [← hrows]
      exact sl_of_cells (by omega) hlc hcm h1 fun i r hr => (h3 i r (a[i]'(by have := (List.getElem?_eq_some_iff.1 hr).1; omega)) hr (List.getElem?_eq_getElem _)).1
    · obtain ⟨i, hi, rfl⟩ := List.mem_iff_getElem.1 hx
      exact (h3 i (rows[i]'(by omega)) a[i] (List.getElem?_eq_getElem _) (List.getElem?_eq_getElem _)).2.2

theorem trod_net {H : Type} (enc : TypeId × Value → H) (w : World) (sp : Nat → Bool) (held : Bool) (fuel : Nat) (cs : List Value) (x : DataW H × List MemPlace) (h : DataW.trod enc Try.prog w 0 sp held fuel 25 cs = some x) : ∃ n, RepN w cs n := by
  obtain ⟨xs, n, hn, hx, hl, hlen, hf⟩ := DataW.trod_struct Try.underlying25 h
  rw [cellsNt] at hl
  match cs, hl with
  | [c0, c1], _ =>
  have f0 : DataW.trod enc Try.prog w 0 sp held n 22 (([c0, c1].drop 0).take (Try.prog.cellsOf 22)) = xs[0]? := hf 0 _ rfl
  have f1 : DataW.trod enc Try.prog w 0 sp held n 23 (([c0, c1].drop 1).take (Try.prog.cellsOf 23)) = xs[1]? := hf 1 _ rfl
  simp only [cellsLP, cellsLA, List.drop_zero, List.drop_succ_cons, List.take_succ_cons, List.take_zero] at f0 f1
  rw [List.getElem?_eq_getElem (by rw [hlen]; simp)] at f0 f1
  obtain ⟨ao, q, cap, rows, e0, hq⟩ := trod_pks enc w sp held n c0 _ f0
  obtain ⟨bo, a, cap', e1, ha⟩ := trod_prs enc w sp held n c1 _ f1
  subst e0 e1
  exact ⟨⟨q, a⟩, ao, cap, bo, cap', rows, rfl, hq, ha⟩
end Go.Proofs.Ytdlahgmbilkdcaa
