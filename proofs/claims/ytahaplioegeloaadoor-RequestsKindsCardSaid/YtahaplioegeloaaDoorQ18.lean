/- Requests: the reference's Request. -/
import Derived.Test.YtahaplioegeloaaDoorQF
namespace Go.Sz
open Go.RowKit Go.Proofs.YtahaplioegeloaaDoor
/-- the request of a value, and whether it is valid -/
def reqR (v : V) : Rq × Bool := if v.k = 3 ∧ v.l.length = 9 ∧ (v.l.getD 5 v0).k = 3 then match rawV v.l with
    | some r => (r, validQ r)
    | none => (rq0, false)
  else (rq0, false)
theorem reqR_shape {v : V} (h : ¬ (v.k = 3 ∧ v.l.length = 9 ∧ (v.l.getD 5 v0).k = 3)) : reqR v = (rq0, false) := by unfold reqR; rw [if_neg h]
theorem reqR_raw {v : V} (h : v.k = 3 ∧ v.l.length = 9 ∧ (v.l.getD 5 v0).k = 3) (hr : rawV v.l = none) : reqR v = (rq0, false) := by unfold reqR; rw [if_pos h, hr]
theorem reqR_some {v : V} {r : Rq} (h : v.k = 3 ∧ v.l.length = 9 ∧ (v.l.getD 5 v0).k = 3) (hr : rawV v.l = some r) : reqR v = (r, validQ r) := by unfold reqR; rw [if_pos h, hr]
theorem fromV_R (v : V) : fromV v = if (reqR v).2 = true then ((reqR v).1, 0) else (rq0, 290) := by
  unfold fromV reqV reqR
  by_cases h : v.k = 3 ∧ v.l.length = 9 ∧ (v.l.getD 5 v0).k = 3
  · rw [if_pos h, if_pos h]
    cases hr : rawV v.l with
    | none => rfl
    | some r =>
      have hrr : ∀ b : Bool, (match (if b = true then some r else none : Option Rq) with
        | some r => (r, (0 : Int))
        | none => (rq0, 290)) = if b = true then (r, 0) else (rq0, 290) := fun b => by cases b <;> rfl
      exact hrr (validQ r)
  · rw [if_neg h, if_neg h]; rfl
def rqPost (w : World) (r : Rq × Bool) (e : Ending) (w' : World) : Prop := ∃ a d, e = .returned (.tuple #[.agg (r.1.cells a d).toArray, .bool r.2]) ∧ RepB w' a d r.1.ch ∧ Ext w w' ∧ ∀ x, a = some x → w.heap.size ≤ x.block
end Go.Sz
namespace Go.Proofs.YtahaplioegeloaaDoor
open Go.RowKit Go.Sz
theorem infoBd : (Tryd.prog.info? 24).map (fun i => (i.zero, i.size, i.bytes)) = some (some (.agg #[.int .i64 0, .int .i64 0]), 2, 16) := by kernel_rfl
set_option maxRecDepth 100000 in
set_option maxHeartbeats 6400000 in
theorem refReq_shape (vk vn : Int) (vs : ByteArray) (vl : List V) (ao : Option Addr) (cap : Nat) (w : World) (h : SLV w ao cap vl) (hv : ¬ (vk = 3 ∧ vl.length = 9 ∧ (vl.getD 5 v0).k = 3)) : Calls Tryd.prog 42 #[.agg #[.int .i64 vk, .int .i64 vn, .string vs, .slice ao vl.length cap]] w (rqPost w (rq0, false)) := by
  have hX : Ext w ((w.alloc (.cells #[.int .i64 vk, .int .i64 vn, .string vs, .slice ao vl.length cap] 59)).alloc (.cells #[.int .i64 0, .int .i64 0, .int .i64 0, .int .i64 0, .int .i64 0, .slice none 0 0, .int .i64 0, .int .i64 0, .int .i64 0] 26)) := ((Ext.refl w).alloc _).alloc _
  have hbox := (Box.new w (.int .i64 vk) (.int .i64 vn) (.string vs) (.slice ao vl.length cap) 59).ext ((Ext.refl _).alloc (.cells #[.int .i64 0, .int .i64 0, .int .i64 0, .int .i64 0, .int .i64 0, .slice none 0 0, .int .i64 0, .int .i64 0, .int .i64 0] 26))
  have hz := cb_new (w.alloc (.cells #[.int .i64 vk, .int .i64 vn, .string vs, .slice ao vl.length cap] 59)) zeroQ 26
  rw [show (w.alloc (.cells #[.int .i64 vk, .int .i64 vn, .string vs, .slice ao vl.length cap] 59)).heap.size = w.heap.size + 1 by simp] at hz
  have HZ : Hid (CB ((w.alloc (.cells #[.int .i64 vk, .int .i64 vn, .string vs, .slice ao vl.length cap] 59)).alloc (.cells #[.int .i64 0, .int .i64 0, .int .i64 0, .int .i64 0, .int .i64 0, .slice none 0 0, .int .i64 0, .int .i64 0, .int .i64 0] 26)) (w.heap.size + 1) zeroQ) := Lib.hid hz
  have HSZ : Hid (((w.alloc (.cells #[.int .i64 vk, .int .i64 vn, .string vs, .slice ao vl.length cap] 59)).alloc (.cells #[.int .i64 0, .int .i64 0, .int .i64 0, .int .i64 0, .int .i64 0, .slice none 0 0, .int .i64 0, .int .i64 0, .int .i64 0] 26)).heap.size = w.heap.size + 1 + 1) := Lib.hid (by simp)
  have HBOX := Lib.hid hbox
  have HX := Lib.hid hX
  have HL := Lib.hid h
  obtain ⟨hs1, hs2⟩ := h.max
  clear hX hz hbox h
  obtain ⟨k0, k1, k2, k3, -⟩ := HBOX.out
  have hz9 := HZ.out
  have z0 := hz9.at_ 0 _ rfl
  have z1 := hz9.at_ 1 _ rfl
  have z2 := hz9.at_ 2 _ rfl
  have z3 := hz9.at_ 3 _ rfl
  have z4 := hz9.at_ 4 _ rfl
  have z5 := hz9.at_ 5 _ rfl
  have z6 := hz9.at_ 6 _ rfl
  have z7 := hz9.at_ 7 _ rfl
  have z8 := hz9.at_ 8 _ rfl
  clear hz9
  by_cases h1 : vk = 3
  · subst h1
    by_cases h2 : vl.length = 9
    · have h3 : (vl.getD 5 v0).k ≠ 3 := fun h => hv ⟨rfl, h2, h⟩
      have h5 : 5 < vl.length := by omega
      obtain ⟨bb, oo, s0, a0, d0, rfl, -, c5, -, -, -⟩ := HL.out.cells HX.out h5
      have hx3 : vl[5].k ≠ 3 := fun h => h3 (by rw [List.getD, List.getElem?_eq_getElem h5]; exact h)
      generalize vl[5].k = xk at *
      have q : (xk != 3) = true := by simpa using hx3
      have hq9 : (((vl.length : Nat) : Int) != 9) = false := by simp; omega
      have hq5 : (5 : Int) < (vl.length : Int) := by omega
      clear h2 h3 hv
      go_enter Tryd.func42, Tryd.ntmps42
      go_wp2_with fail
      refine bodyPost_ret (v := .tuple #[.agg #[.int .i64 0, .int .i64 0, .int .i64 0, .int .i64 0, .int .i64 0, .slice none 0 0, .int .i64 0, .int .i64 0, .int .i64 0], .bool false]) ?_ rfl ⟨none, 0, rfl, SL.empty _ _, ?_, fun _ h => by cases h⟩
      · simp [results, Tryd.results42, go_sem, z0, z1, z2, z3, z4, z5, z6, z7, z8]
      · exact HX.out
    · have hq9 : (((vl.length : Nat) : Int) != 9) = true := by simp; omega
      clear hv
      go_enter Tryd.func42, Tryd.ntmps42
      go_wp2_with fail
      refine bodyPost_ret (v := .tuple #[.agg #[.int .i64 0, .int .i64 0, .int .i64 0, .int .i64 0, .int .i64 0, .slice none 0 0, .int .i64 0, .int .i64 0, .int .i64 0], .bool false]) ?_ rfl ⟨none, 0, rfl, SL.empty _ _, ?_, fun _ h => by cases h⟩
      · simp [results, Tryd.results42, go_sem, z0, z1, z2, z3, z4, z5, z6, z7, z8]
      · exact HX.out
  · have q : (vk != 3) = true := by simpa using h1
    clear hv
    go_enter Tryd.func42, Tryd.ntmps42
    go_wp2_with fail
    refine bodyPost_ret (v := .tuple #[.agg #[.int .i64 0, .int .i64 0, .int .i64 0, .int .i64 0, .int .i64 0, .slice none 0 0, .int .i64 0, .int .i64 0, .int .i64 0], .bool false]) ?_ rfl ⟨none, 0, rfl, SL.empty _ _, ?_, fun _ h => by cases h⟩
    · simp [results, Tryd.results42, go_sem, z0, z1, z2, z3, z4, z5, z6, z7, z8]
    · exact HX.out
set_option maxRecDepth 100000 in
set_option maxHeartbeats 25600000 in
theorem refReq_main (vn : Int) (vs : ByteArray) (vl : List V) (ao : Option Addr) (cap : Nat) (w : World) (h : SLV w ao cap vl) (hv : vl.length = 9 ∧ (vl.getD 5 v0).k = 3) (hxl : (vl.getD 5 v0).l.length ≤ 1000000) (hall : ∀ x ∈ (vl.getD 5 v0).l, x.l.length ≤ 1000000) (rr : Rq × Bool) (hrr : reqR (.mk 3 vn vs vl) = rr) : Calls Tryd.prog 42 #[.agg #[.int .i64 3, .int .i64 vn, .string vs, .slice ao vl.length cap]] w (rqPost w rr) := by
  have hX : Ext w ((w.alloc (.cells #[.int .i64 3, .int .i64 vn, .string vs, .slice ao vl.length cap] 59)).alloc (.cells #[.int .i64 0, .int .i64 0, .int .i64 0, .int .i64 0, .int .i64 0, .slice none 0 0, .int .i64 0, .int .i64 0, .int .i64 0] 26)) := ((Ext.refl w).alloc _).alloc _
  have hbox := (Box.new w (.int .i64 3) (.int .i64 vn) (.string vs) (.slice ao vl.length cap) 59).ext ((Ext.refl _).alloc (.cells #[.int .i64 0, .int .i64 0, .int .i64 0, .int .i64 0, .int .i64 0, .slice none 0 0, .int .i64 0, .int .i64 0, .int .i64 0] 26))
  have hz := cb_new (w.alloc (.cells #[.int .i64 3, .int .i64 vn, .string vs, .slice ao vl.length cap] 59)) zeroQ 26
  rw [show (w.alloc (.cells #[.int .i64 3, .int .i64 vn, .string vs, .slice ao vl.length cap] 59)).heap.size = w.heap.size + 1 by simp] at hz
  have HZ : Hid (CB ((w.alloc (.cells #[.int .i64 3, .int .i64 vn, .string vs, .slice ao vl.length cap] 59)).alloc (.cells #[.int .i64 0, .int .i64 0, .int .i64 0, .int .i64 0, .int .i64 0, .slice none 0 0, .int .i64 0, .int .i64 0, .int .i64 0] 26)) (w.heap.size + 1) zeroQ) := Lib.hid hz
  have HSZ : Hid (((w.alloc (.cells #[.int .i64 3, .int .i64 vn, .string vs, .slice ao vl.length cap] 59)).alloc (.cells #[.int .i64 0, .int .i64 0, .int .i64 0, .int .i64 0, .int .i64 0, .slice none 0 0, .int .i64 0, .int .i64 0, .int .i64 0] 26)).heap.size = w.heap.size + 1 + 1) := Lib.hid (by simp)
  have HBOX := Lib.hid hbox
  have HX := Lib.hid hX
  have HL := Lib.hid h
  obtain ⟨hs1, hs2⟩ := h.max
  clear hX hz hbox h
  obtain ⟨k0, k1, k2, k3, -⟩ := HBOX.out
  obtain ⟨hv2, hv3⟩ := hv
  have h5 : 5 < vl.length := by omega
  obtain ⟨bb, oo, s0, a5, d5, rfl, hsl5, c5w, -, -, c53w⟩ := HL.out.cells (Ext.refl w) h5
  have HC5W := Lib.hid c53w
  have c50 := HX.out.cell c5w
  have c53 := HX.out.cell c53w
  clear c5w c53w
  have hx5 : vl.getD 5 v0 = vl[5] := by rw [List.getD, List.getElem?_eq_getElem h5]; rfl
  have HSH : Hid ((V.mk 3 vn vs vl).k = 3 ∧ (V.mk 3 vn vs vl).l.length = 9 ∧ ((V.mk 3 vn vs vl).l.getD 5 v0).k = 3) := Lib.hid ⟨rfl, hv2, hv3⟩
  have HRAW : Hid (∀ f g ch, intsV (vl.take 5) 5 = some f → intsV (vl.drop 6) 3 = some g → bdsOf vl[5].l = some ch → rawV vl = some ⟨f.getD 0 0, f.getD 1 0, f.getD 2 0, f.getD 3 0, f.getD 4 0, ch, g.getD 0 0, g.getD 1 0, g.getD 2 0⟩) := Lib.hid fun f g ch h1 h2 h3 => rawV_all h1 h2 (by rw [hx5]; exact h3)
  have HMID : Hid (bdsOf vl[5].l = none → rr = (rq0, false)) := Lib.hid fun h => by rw [← hrr]; exact reqR_raw HSH.out (rawV_mid (by change bdsOf (vl.getD 5 v0).l = none; rw [hx5]; exact h))
  have HFST : Hid (intsV (vl.take 5) 5 = none → rr = (rq0, false)) := Lib.hid fun h => by rw [← hrr]; exact reqR_raw HSH.out (rawV_first h)
  have HLST : Hid (intsV (vl.drop 6) 3 = none → rr = (rq0, false)) := Lib.hid fun h => by rw [← hrr]; exact reqR_raw HSH.out (rawV_last h)
  have HRR : Hid (∀ r, rawV vl = some r → rr = (r, validQ r)) := Lib.hid fun r h => by rw [← hrr]; exact reqR_some HSH.out h
  rw [hx5] at hv3 hxl hall
  have HX5 := Lib.hid hsl5
  have HXL := Lib.hid hxl
  have HALL := Lib.hid hall
  rw [hv3] at c50
  have HL5 : Hid (intsV (vl.take 5) 5 = intsAll (vl.take 5)) := Lib.hid (by rw [intsV_all, if_pos (by rw [List.length_take]; omega)])
  have HL6 : Hid (intsV (vl.drop 6) 3 = intsAll (vl.drop 6)) := Lib.hid (by rw [intsV_all, if_pos (by rw [List.length_drop]; omega)])
  clear hrr hsl5 hxl hall hv3 hx5
  generalize vl[5].l = xl at *
  have H9 := Lib.hid hv2
  have hlt5 : (vl.take 5).length = 5 := by rw [List.length_take]; omega
  have hlt6 : (vl.drop 6).length = vl.length - 6 := List.length_drop
  have HI5 : Hid (∀ W, Ext w W → Calls Tryd.prog 58 #[.slice (some ⟨bb, oo, none⟩) 5 cap] W (riPost W (intsAll (vl.take 5)))) := Lib.hid fun W hE => by
    have := refInts_any (vl.take 5) (some ⟨bb, oo, none⟩) cap W ((HL.out.ext hE).less 5) (by omega)
    rwa [hlt5] at this
  have HI6 : Hid (∀ W, Ext w W → Calls Tryd.prog 58 #[.slice (some ⟨bb, oo + 6 * 4, none⟩) (vl.length - 6) (cap - 6)] W (riPost W (intsAll (vl.drop 6)))) := Lib.hid fun W hE => by
    have := refInts_any (vl.drop 6) (some ⟨bb, oo + 6 * 4, none⟩) (cap - 6) W ((HL.out.ext hE).drop (p := 6) (by omega)) (by omega)
    rwa [hlt6] at this
  have hq9 : (((vl.length : Nat) : Int) != 9) = false := by simp; omega
  have hq5 : (5 : Int) < (vl.length : Int) := by omega
  have hq5c : (5 : Int) ≤ (cap : Int) := by omega
  have hq6 : (6 : Int) ≤ (vl.length : Int) := by omega
  have hq6c : (vl.length : Int) ≤ (cap : Int) := by omega
  have hq6d : (6 : Int) ≤ (cap : Int) := by omega
  have hq6e : ¬ cap = 6 := by omega
  clear hv2 hlt5 hlt6
  go_enter Tryd.func42, Tryd.ntmps42
  go_wp2_with fail
  generalize ((w.alloc (.cells #[.int .i64 3, .int .i64 vn, .string vs, .slice (some ⟨bb, oo, none⟩) vl.length cap] 59)).alloc (.cells #[.int .i64 0, .int .i64 0, .int .i64 0, .int .i64 0, .int .i64 0, .slice none 0 0, .int .i64 0, .int .i64 0, .int .i64 0] 26)) = w1 at *
  refine (HI5.out w1 HX.out).mono ?_
  rintro e w2 ⟨hE2, hr2⟩
  obtain ⟨k0, k1, k2, k3, -⟩ := HBOX.out.ext hE2
  have HX2 := Lib.hid (HX.out.trans hE2)
  have hz2 := HZ.out.ext (by have := HSZ.out; omega) hE2
  have HZ2 := Lib.hid hz2
  have HBX2 := Lib.hid (HBOX.out.ext hE2)
  have c530 := hE2.cell c53
  have hsz2 : w.heap.size + 1 + 1 ≤ w2.heap.size := by have h1 := hE2.size; have h2 := HSZ.out; omega
  clear hE2 hz2 c50 c53 HX HZ HBOX HSZ
  generalize hia : intsAll (vl.take 5) = ia at *
  generalize hib : intsAll (vl.drop 6) = ib at *
  cases ia with
  | none =>
    obtain rfl := HFST.out HL5.out
    simp only at hr2
    subst hr2
    go_wp2_with fail
    refine (HI6.out w2 HX2.out).mono ?_
    rintro e w3 ⟨hE3, hr3⟩
    have hz9 := HZ2.out.ext (by omega) hE3
    have z0 := hz9.at_ 0 _ rfl
    have x0 := hz9.fz 0
    have z1 := hz9.at_ 1 _ rfl
    have x1 := hz9.fz 1
    have z2 := hz9.at_ 2 _ rfl
    have x2 := hz9.fz 2
    have z3 := hz9.at_ 3 _ rfl
    have x3 := hz9.fz 3
    have z4 := hz9.at_ 4 _ rfl
    have x4 := hz9.fz 4
    have z5 := hz9.at_ 5 _ rfl
    have x5 := hz9.fz 5
    have z6 := hz9.at_ 6 _ rfl
    have x6 := hz9.fz 6
    have z7 := hz9.at_ 7 _ rfl
    have x7 := hz9.fz 7
    have z8 := hz9.at_ 8 _ rfl
    have x8 := hz9.fz 8
    cases ib with
    | none =>
      simp only at hr3
      subst hr3
      clear hz9
      go_wp2_with fail
      refine bodyPost_ret (v := .tuple #[.agg #[.int .i64 0, .int .i64 0, .int .i64 0, .int .i64 0, .int .i64 0, .slice none 0 0, .int .i64 0, .int .i64 0, .int .i64 0], .bool false]) ?_ rfl ⟨none, 0, rfl, SL.empty _ _, ?_, fun _ h => by cases h⟩
      · simp [results, Tryd.results42, go_sem, z0, z1, z2, z3, z4, z5, z6, z7, z8]
      · exact ext_set9 (w := w) (HX2.out.trans hE3) (B := w.heap.size + 1) (by omega) _ _ _ _ _ _ _ _ _
    | some g =>
      obtain ⟨a3, d3, rfl, _⟩ := hr3
      clear hz9
      go_wp2_with fail
      refine bodyPost_ret (v := .tuple #[.agg #[.int .i64 0, .int .i64 0, .int .i64 0, .int .i64 0, .int .i64 0, .slice none 0 0, .int .i64 0, .int .i64 0, .int .i64 0], .bool false]) ?_ rfl ⟨none, 0, rfl, SL.empty _ _, ?_, fun _ h => by cases h⟩
      · simp [results, Tryd.results42, go_sem, z0, z1, z2, z3, z4, z5, z6, z7, z8]
      · exact ext_set9 (w := w) (HX2.out.trans hE3) (B := w.heap.size + 1) (by omega) _ _ _ _ _ _ _ _ _
  | some f =>
    obtain ⟨a2, d2, rfl, hf2⟩ := hr2
    go_wp2_with fail
    refine (HI6.out w2 HX2.out).mono ?_
    rintro e w3 ⟨hE3, hr3⟩
    cases ib with
    | none =>
      obtain rfl := HLST.out HL6.out
      have hz9 := HZ2.out.ext (by omega) hE3
      have z0 := hz9.at_ 0 _ rfl
      have x0 := hz9.fz 0
      have z1 := hz9.at_ 1 _ rfl
      have x1 := hz9.fz 1
      have z2 := hz9.at_ 2 _ rfl
      have x2 := hz9.fz 2
      have z3 := hz9.at_ 3 _ rfl
      have x3 := hz9.fz 3
      have z4 := hz9.at_ 4 _ rfl
      have x4 := hz9.fz 4
      have z5 := hz9.at_ 5 _ rfl
      have x5 := hz9.fz 5
      have z6 := hz9.at_ 6 _ rfl
      have x6 := hz9.fz 6
      have z7 := hz9.at_ 7 _ rfl
      have x7 := hz9.fz 7
      have z8 := hz9.at_ 8 _ rfl
      have x8 := hz9.fz 8
      simp only at hr3
      subst hr3
      clear hz9
      go_wp2_with fail
      refine bodyPost_ret (v := .tuple #[.agg #[.int .i64 0, .int .i64 0, .int .i64 0, .int .i64 0, .int .i64 0, .slice none 0 0, .int .i64 0, .int .i64 0, .int .i64 0], .bool false]) ?_ rfl ⟨none, 0, rfl, SL.empty _ _, ?_, fun _ h => by cases h⟩
      · simp [results, Tryd.results42, go_sem, z0, z1, z2, z3, z4, z5, z6, z7, z8]
      · exact ext_set9 (w := w) (HX2.out.trans hE3) (B := w.heap.size + 1) (by omega) _ _ _ _ _ _ _ _ _
    | some g =>
      obtain ⟨a3, d3, rfl, hg3⟩ := hr3
      have hfl := intsV_two HL5.out
      have hgl := intsV_two HL6.out
      obtain ⟨fa, fb, fc, fd, fe, rfl⟩ : ∃ a b c d e, f = [a, b, c, d, e] := by
        match f, hfl with
        | [a, b, c, d, e], _ => exact ⟨a, b, c, d, e, rfl⟩
      obtain ⟨ga, gb, gc, rfl⟩ : ∃ a b c, g = [a, b, c] := by
        match g, hgl with
        | [a, b, c], _ => exact ⟨a, b, c, rfl⟩
      have HX3 := Lib.hid (HX2.out.trans hE3)
      have HZ3 := Lib.hid (HZ2.out.ext (by omega) hE3)
      have HBX3 := Lib.hid (HBX2.out.ext hE3)
      have c531 := hE3.cell c530
      have hsz3 : w.heap.size + 1 + 1 ≤ w3.heap.size := Nat.le_trans hsz2 hE3.size
      obtain ⟨fb5, fo5, rfl, f0⟩ := irows_cell hf2 hE3 (i := 0) (by simp)
      obtain ⟨_, _, e1, f1⟩ := irows_cell hf2 hE3 (i := 1) (by simp)
      cases e1
      obtain ⟨_, _, e1, f2⟩ := irows_cell hf2 hE3 (i := 2) (by simp)
      cases e1
      obtain ⟨_, _, e1, f3⟩ := irows_cell hf2 hE3 (i := 3) (by simp)
      cases e1
      obtain ⟨_, _, e1, f4⟩ := irows_cell hf2 hE3 (i := 4) (by simp)
      cases e1
      obtain ⟨gb5, go5, rfl, g0⟩ := irows_cell hg3 (Ext.refl w3) (i := 0) (by simp)
      obtain ⟨_, _, e1, g1⟩ := irows_cell hg3 (Ext.refl w3) (i := 1) (by simp)
      cases e1
      obtain ⟨_, _, e1, g2⟩ := irows_cell hg3 (Ext.refl w3) (i := 2) (by simp)
      cases e1
      simp only [List.getElem_cons_zero, List.getElem_cons_succ, Nat.add_zero] at f0 f1 f2 f3 f4 g0 g1 g2
      clear hf2 hg3 hE3 hfl hgl k0 k1 k2 k3 c530 HX2 HZ2 HBX2 hsz2
      have gf0 := grow_cell f0
      have gf1 := grow_cell f1
      have gf2 := grow_cell f2
      have gf3 := grow_cell f3
      have gf4 := grow_cell f4
      have gg0 := grow_cell g0
      have gg1 := grow_cell g1
      have gg2 := grow_cell g2
      go_wp2_with fail
      refine wp_region_rel (fun i => if i = 26 then some (spCB (w.heap.size + 1 + 1) zeroQ) else none) 27 1 (by kernel_rfl) (by kernel_rfl) ?_
      simp only [List.take_succ_cons, List.take_zero]
      repeat (first
        | (refine wpRel_quick ?_ ?_ ?_ ?_
           · rfl
           · rfl
           · first | exact noEnter rfl | (intro f args W W'; go_simp)
           intro K hK
           go_big_quiet_op
           go_big_quiet_on)
        | (refine wpRel_skip ?_ ?_
           · rfl
           simp only [Act.put, List.setIfInBounds_toArray, List.set_cons_zero, List.set_cons_succ]))
      refine wpRel_rich _ rfl rfl (fun W hW => ?_) (fun v W26 hW26 hv => ?_)
      · have hEW : Ext w3 W := (Ext.refl w3).drew.trans hW.1
        go_simp
        exact ⟨⟨_, rfl, Nat.le_trans hsz3 hEW.size, by simp, cb_new W zeroQ 26⟩, (Ext.refl _).alloc _⟩
      obtain ⟨g26, rfl, _⟩ := hv
      clear hW26
      simp only [Act.put, List.setIfInBounds_toArray, List.set_cons_zero, List.set_cons_succ]
      refine wpRel_nil ?_
      intro W hW
      obtain ⟨g26', he, hg26, hl26, hb26⟩ := hW.2 26 trivial _ _ rfl rfl
      cases he
      have hEW : Ext w3 W := (Ext.refl w3).drew.trans hW.1
      have HXW := Lib.hid (HX3.out.trans hEW)
      have HZW := Lib.hid (HZ3.out.ext (by omega) hEW)
      have HBXW := Lib.hid (HBX3.out.ext hEW)
      have HC5 := Lib.hid (hEW.cell c531)
      have hszW : w.heap.size + 1 + 1 ≤ W.heap.size := Nat.le_trans hsz3 hEW.size
      have y0 := hb26.at_ 0 _ rfl
      have x0 := hb26.fz 0
      have y1 := hb26.at_ 1 _ rfl
      have x1 := hb26.fz 1
      have y2 := hb26.at_ 2 _ rfl
      have x2 := hb26.fz 2
      have y3 := hb26.at_ 3 _ rfl
      have x3 := hb26.fz 3
      have y4 := hb26.at_ 4 _ rfl
      have x4 := hb26.fz 4
      have y5 := hb26.at_ 5 _ rfl
      have x5 := hb26.fz 5
      have y6 := hb26.at_ 6 _ rfl
      have x6 := hb26.fz 6
      have y7 := hb26.at_ 7 _ rfl
      have x7 := hb26.fz 7
      have y8 := hb26.at_ 8 _ rfl
      have x8 := hb26.fz 8
      refine wpAny_ready (rs := [27]) (by kernel_rfl) (by simp) ?_
      refine AllReady.cons rfl (fun K hK => ?_) AllReady.nil
      go_simp
      refine hK _ _ ?_
      clear hK K
      refine wpAny_done (by kernel_rfl) ?_ _
      have HXS := Lib.hid (ext_set9 HXW.out (B := g26) (by omega) (.int .i64 fa) (.int .i64 fb) (.int .i64 fc) (.int .i64 fd) (.int .i64 fe) (.slice none 0 0) (.int .i64 ga) (.int .i64 gb) (.int .i64 gc))
      have HCS := Lib.hid (CB.set9 hb26 rfl (.int .i64 fa) (.int .i64 fb) (.int .i64 fc) (.int .i64 fd) (.int .i64 fe) (.slice none 0 0) (.int .i64 ga) (.int .i64 gb) (.int .i64 gc))
      have HES : Hid (∀ b, b ≠ g26 → (((((((((W.setCell ⟨g26, 0, none⟩ (.int .i64 fa)).setCell ⟨g26, 1, none⟩ (.int .i64 fb)).setCell ⟨g26, 2, none⟩ (.int .i64 fc)).setCell ⟨g26, 3, none⟩ (.int .i64 fd)).setCell ⟨g26, 4, none⟩ (.int .i64 fe)).setCell ⟨g26, 5, none⟩ (.slice none 0 0)).setCell ⟨g26, 6, none⟩ (.int .i64 ga)).setCell ⟨g26, 7, none⟩ (.int .i64 gb)).setCell ⟨g26, 8, none⟩ (.int .i64 gc)).heap[b]? = W.heap[b]?) := Lib.hid fun b hb => by
        rw [heap_far hb, heap_far hb, heap_far hb, heap_far hb, heap_far hb, heap_far hb, heap_far hb, heap_far hb, heap_far hb]
      have HSS : Hid ((((((((((W.setCell ⟨g26, 0, none⟩ (.int .i64 fa)).setCell ⟨g26, 1, none⟩ (.int .i64 fb)).setCell ⟨g26, 2, none⟩ (.int .i64 fc)).setCell ⟨g26, 3, none⟩ (.int .i64 fd)).setCell ⟨g26, 4, none⟩ (.int .i64 fe)).setCell ⟨g26, 5, none⟩ (.slice none 0 0)).setCell ⟨g26, 6, none⟩ (.int .i64 ga)).setCell ⟨g26, 7, none⟩ (.int .i64 gb)).setCell ⟨g26, 8, none⟩ (.int .i64 gc)).heap.size = W.heap.size) := Lib.hid (by simp [World.setCell])
      clear hW y0 x0 y1 x1 y2 x2 y3 x3 y4 x4 y5 x5 y6 x6 y7 x7 y8 x8 hb26 hEW c531 HX3 HZ3 HBX3 f0 f1 f2 f3 f4 g0 g1 g2 gf0 gf1 gf2 gf3 gf4 gg0 gg1 gg2
      generalize (((((((((W.setCell ⟨g26, 0, none⟩ (.int .i64 fa)).setCell ⟨g26, 1, none⟩ (.int .i64 fb)).setCell ⟨g26, 2, none⟩ (.int .i64 fc)).setCell ⟨g26, 3, none⟩ (.int .i64 fd)).setCell ⟨g26, 4, none⟩ (.int .i64 fe)).setCell ⟨g26, 5, none⟩ (.slice none 0 0)).setCell ⟨g26, 6, none⟩ (.int .i64 ga)).setCell ⟨g26, 7, none⟩ (.int .i64 gb)).setCell ⟨g26, 8, none⟩ (.int .i64 gc)) = w4 at *
      have HZ4 : Hid (CB w4 (w.heap.size + 1) zeroQ) := Lib.hid (HZW.out.keep (HES.out _ (by omega)))
      have HBX4 := Lib.hid (HBXW.out.keep (HES.out w.heap.size (by omega)))
      have hg4 : g26 < w4.heap.size := by have := HSS.out; omega
      clear HES HSS HXW HZW HBXW HC5 HI5 HI6 HFST HLST
      have HSH0 := HSH.out
      clear HSH0
      go_wp2_with fail
      go_loopw [9] (fun iv wr => ∃ (j : Nat) (chs : List Bd) (v : Value), iv = .int .i64 j ∧ j ≤ xl.length ∧ bdsOf (xl.take j) = some chs ∧ chs.length = j ∧ Ext w wr ∧ w4.heap.size ≤ wr.heap.size ∧ CB wr (w.heap.size + 1) zeroQ ∧ Box wr w.heap.size (.int .i64 3) (.int .i64 vn) (.string vs) (.slice (some ⟨bb, oo, none⟩) vl.length cap) ∧ CB wr g26 [.int .i64 fa, .int .i64 fb, .int .i64 fc, .int .i64 fd, .int .i64 fe, v, .int .i64 ga, .int .i64 gb, .int .i64 gc] ∧ wr.ownsRow w4.heap.size 24 2 v j (brows chs).flatten) (fun iv _ => xl.length - (intOf iv).toNat)
      case atStart => exact ⟨0, [], .slice none 0 0, rfl, by omega, rfl, rfl, HXS.out, Nat.le_refl _, HZ4.out, HBX4.out, HCS.out, World.ownsRow_nil _ _ _ _⟩
      case round =>
        obtain ⟨j, chs, v, rfl, hj, hch, hcl, hE, hsz, hZ, hBx, hB, hO⟩ := hrel
        have HCH := Lib.hid hch
        have HCL := Lib.hid hcl
        have HEr := Lib.hid hE
        have HZr := Lib.hid hZ
        have HBXr := Lib.hid hBx
        have HBr := Lib.hid hB
        have HOr := Lib.hid hO
        have hgr : g26 < wr.heap.size := Nat.lt_of_lt_of_le hg4 hsz
        clear hch hcl hE hZ hBx hB hO HXS HCS HZ4 HBX4
        have hcx := HEr.out.cell HC5W.out
        obtain ⟨k0, k1, k2, k3, -⟩ := HBXr.out
        by_cases hlt : j < xl.length
        · have hji : (j : Int) < (xl.length : Int) := by omega
          obtain ⟨xb, xo, ys, ya, yd, rfl, hsy, c0, c1, c2, c3⟩ := HX5.out.cells HEr.out hlt
          have HB3 : Hid (xl[j].k ≠ 3 → bdsOf xl = none) := Lib.hid fun h => bdsOf_bad (List.getElem_mem hlt) (by unfold bdOf; exact if_neg h)
          have HBN : Hid (xl[j].k = 3 → intsV xl[j].l 2 = none → bdsOf xl = none) := Lib.hid fun h1 h2 => bdsOf_bad (List.getElem_mem hlt) (by unfold bdOf; rw [if_pos h1, h2])
          have HBS : Hid (xl[j].k = 3 → ∀ a b, intsV xl[j].l 2 = some [a, b] → bdsOf (xl.take (j + 1)) = some (chs ++ [(a, b)])) := Lib.hid fun h1 a b h2 => by
            have h3 : bdOf xl[j] = some (a, b) := by
              unfold bdOf
              rw [if_pos h1, h2]
              rfl
            rw [List.take_succ_eq_append_getElem hlt, bdsOf_append, HCH.out, h3]
          have HLL := Lib.hid (HALL.out _ (List.getElem_mem hlt))
          have HSY := Lib.hid hsy
          clear hsy
          generalize xl[j].k = yk at *
          generalize xl[j].n = yn at *
          generalize xl[j].l = yl at *
          have hA : Ext wr (wr.alloc (.cells #[.int .i64 yk, .int .i64 yn, .string ys, .slice ya yl.length yd] 59)) := (Ext.refl wr).alloc _
          have HI := Lib.hid (refInts_any yl ya yd (wr.alloc (.cells #[.int .i64 yk, .int .i64 yn, .string ys, .slice ya yl.length yd] 59)) (HSY.out.ext (HEr.out.trans hA)) HLL.out)
          have hBX := Box.new wr (.int .i64 yk) (.int .i64 yn) (.string ys) (.slice ya yl.length yd) 59
          have d0 : (wr.alloc (.cells #[.int .i64 yk, .int .i64 yn, .string ys, .slice ya yl.length yd] 59)).cell? ⟨wr.heap.size, 0, none⟩ = some (.int .i64 yk) := hBX.c0
          have d3 : (wr.alloc (.cells #[.int .i64 yk, .int .i64 yn, .string ys, .slice ya yl.length yd] 59)).cell? ⟨wr.heap.size, 3, none⟩ = some (.slice ya yl.length yd) := hBX.c3
          have HA := Lib.hid hA
          clear hBX hA
          go_wp2_with fail
          generalize (wr.alloc (.cells #[.int .i64 yk, .int .i64 yn, .string ys, .slice ya yl.length yd] 59)) = wa at *
          refine HI.out.mono ?_
          rintro e w10 ⟨hE10, hr10⟩
          have HE10 := Lib.hid hE10
          have f0 := hE10.cell d0
          have HER := Lib.hid (HA.out.trans hE10)
          have hz9 := HZr.out.ext (by omega) HER.out
          have z0 := hz9.at_ 0 _ rfl
          have x0 := hz9.fz 0
          have z1 := hz9.at_ 1 _ rfl
          have x1 := hz9.fz 1
          have z2 := hz9.at_ 2 _ rfl
          have x2 := hz9.fz 2
          have z3 := hz9.at_ 3 _ rfl
          have x3 := hz9.fz 3
          have z4 := hz9.at_ 4 _ rfl
          have x4 := hz9.fz 4
          have z5 := hz9.at_ 5 _ rfl
          have x5 := hz9.fz 5
          have z6 := hz9.at_ 6 _ rfl
          have x6 := hz9.fz 6
          have z7 := hz9.at_ 7 _ rfl
          have x7 := hz9.fz 7
          have z8 := hz9.at_ 8 _ rfl
          have x8 := hz9.fz 8
          have HXW := Lib.hid (HEr.out.trans HER.out)
          clear hE10 d0 d3 c0 c1 c2 c3 hz9
          generalize hyi : intsAll yl = yi at *
          have HYI := Lib.hid hyi
          clear hyi
          cases yi with
          | none =>
            have hno : bdsOf xl = none := by
              by_cases hk3 : yk = 3
              · exact HBN.out hk3 (by rw [intsV_all, HYI.out]; split <;> rfl)
              · exact HB3.out hk3
            obtain rfl := HMID.out hno
            simp only at hr10
            subst hr10
            clear hno
            by_cases hk3 : yk = 3
            · subst hk3
              have q1 : ((3 : Int) != 3) = false := rfl
              go_wp2_with fail
              refine bodyPost_ret (v := .tuple #[.agg #[.int .i64 0, .int .i64 0, .int .i64 0, .int .i64 0, .int .i64 0, .slice none 0 0, .int .i64 0, .int .i64 0, .int .i64 0], .bool false]) ?_ rfl ⟨none, 0, rfl, SL.empty _ _, ?_, fun _ h => by cases h⟩
              · simp [results, Tryd.results42, go_sem, z0, z1, z2, z3, z4, z5, z6, z7, z8]
              · exact ext_set9 (w := w) HXW.out (B := w.heap.size + 1) (by omega) _ _ _ _ _ _ _ _ _
            · have q1 : (yk != 3) = true := by simpa using hk3
              go_wp2_with fail
              refine bodyPost_ret (v := .tuple #[.agg #[.int .i64 0, .int .i64 0, .int .i64 0, .int .i64 0, .int .i64 0, .slice none 0 0, .int .i64 0, .int .i64 0, .int .i64 0], .bool false]) ?_ rfl ⟨none, 0, rfl, SL.empty _ _, ?_, fun _ h => by cases h⟩
              · simp [results, Tryd.results42, go_sem, z0, z1, z2, z3, z4, z5, z6, z7, z8]
              · exact ext_set9 (w := w) HXW.out (B := w.heap.size + 1) (by omega) _ _ _ _ _ _ _ _ _
          | some ns =>
            obtain ⟨na0, nd0, rfl, hns⟩ := hr10
            have HNL := Lib.hid (intsAll_some HYI.out)
            by_cases hk3 : yk = 3
            · subst hk3
              have q1 : ((3 : Int) != 3) = false := rfl
              by_cases h2 : ns.length = 2
              · obtain ⟨na, nb, rfl⟩ : ∃ a b, ns = [a, b] := by
                  match ns, h2 with
                  | [a, b], _ => exact ⟨a, b, rfl⟩
                clear h2
                have HI2 := Lib.hid (HBS.out rfl na nb (by rw [intsV_all, if_pos (by have := HNL.out; simp at this; omega), HYI.out]))
                obtain ⟨nb5, no5, rfl, n0⟩ := irows_cell hns (Ext.refl w10) (i := 0) (by simp)
                obtain ⟨_, _, e1, n1⟩ := irows_cell hns (Ext.refl w10) (i := 1) (by simp)
                cases e1
                simp only [List.getElem_cons_zero, List.getElem_cons_succ, Nat.add_zero] at n0 n1
                have hb10 := HBr.out.ext hgr HER.out
                have q5 := hb10.at_ 5 _ rfl
                have gq5 := grow_cell q5
                have gn0 := grow_cell n0
                have gn1 := grow_cell n1
                have HB10 := Lib.hid hb10
                have HO10 := Lib.hid (ownsRow_ext HOr.out HER.out)
                have HBK := Lib.hid (ownsRow_blocks HOr.out)
                have HJ := Lib.hid hlt
                have hs10 : w4.heap.size ≤ w10.heap.size := Nat.le_trans hsz HER.out.size
                obtain ⟨i0, hi, hz0, hz1, hz2⟩ := info_parts infoBd
                have hxb : (xl.length : Int) ≤ 1000000 := by have := HXL.out; omega
                clear hb10 hns z0 z1 z2 z3 z4 z5 z6 z7 z8 x0 x1 x2 x3 x4 x5 x6 x7 x8
                go_wp2_with fail
                refine wp_region_rel (fun i => if i = 9 then some (spSL 2 1 1 [[.int .i64 na, .int .i64 nb]]) else none) 10 3 (by kernel_rfl) (by kernel_rfl) ?_
                simp only [List.take_succ_cons, List.take_zero]
                repeat (first
                  | (refine wpRel_quick ?_ ?_ ?_ ?_
                     · rfl
                     · rfl
                     · first | exact noEnter rfl | (intro f args W W'; go_simp)
                     intro K hK
                     go_big_quiet_op
                     go_big_quiet_on)
                  | (refine wpRel_skip ?_ ?_
                     · rfl
                     simp only [Act.put, List.setIfInBounds_toArray, List.set_cons_zero, List.set_cons_succ]))
                refine wpRel_rich _ rfl rfl (fun W hW => ?_) (fun v9 W9 hW9 hv => ?_)
                · go_simp
                  exact ⟨⟨_, rfl, sl_new W [.int .i64 na, .int .i64 nb] 2 _ rfl⟩, (Ext.refl _).alloc _⟩
                obtain ⟨g9, rfl, _⟩ := hv
                clear hW9
                simp only [Act.put, List.setIfInBounds_toArray, List.set_cons_zero, List.set_cons_succ]
                refine wpRel_nil ?_
                intro W hW
                obtain ⟨g9', he, hs9⟩ := hW.2 9 trivial _ _ rfl rfl
                cases he
                have hEW : Ext w10 W := (Ext.refl w10).drew.trans hW.1
                have hoW := ownsRow_ext HO10.out hEW
                have hbW := HB10.out.ext (Nat.lt_of_lt_of_le hgr HER.out.size) hEW
                have hzW := HZr.out.ext (by omega) (HER.out.trans hEW)
                have hbxW := (HBXr.out.ext HER.out).ext hEW
                have hxW := HXW.out.trans hEW
                have hszW := hEW.size
                have hszR := HER.out.size
                refine wpAny_ready (rs := [10]) (by kernel_rfl) (by simp) ?_
                refine AllReady.cons rfl (fun K hK => ?_) AllReady.nil
                refine step_append_S rfl _ _ 22 22 rfl w4.heap.size 24 i0 _ 2 16 Tryd.underlying22 hi hz0 hz1 hz2 rfl v j (brows chs).flatten rfl hoW (.slice g9 1 1) 1 [.int .i64 na, .int .i64 nb] rfl ?_ (by have := HXL.out; have := HJ.out; unfold maxLen; omega) (by have := HXL.out; have := HJ.out; omega) (by omega) ?_
                · have := hs9.src (P := Tryd.prog) (by omega) Tryd.underlying22 (by simp [Value.oneCell'])
                  simpa using this
                intro v6 w6 ho6 hg6
                obtain ⟨ac6, cc6, rfl⟩ := ownsRow_slice ho6
                have hX6 : Ext w w6 := hxW.trans' hg6 (fun k hk => by have := HBK.out k hk; omega)
                have hb6 := hbW.keep (hg6.by_.block _ (by omega) (fun h => by have := HBK.out _ h.symm; omega))
                have hz6 := hzW.keep (hg6.by_.block _ (by omega) (fun h => by have := HBK.out _ h.symm; omega))
                have hbx6 := hbxW.keep (hg6.by_.block _ (by omega) (fun h => by have := HBK.out _ h.symm; omega))
                have hs6 : w4.heap.size ≤ w6.heap.size := by have := hg6.by_.size; omega
                have m5 := hb6.at_ 5 _ rfl
                have x5 := hb6.fz 5
                have HX6 := Lib.hid hX6
                have HB6 := Lib.hid hb6
                have HZ6 := Lib.hid hz6
                have HBX6 := Lib.hid hbx6
                have HO6 := Lib.hid ho6
                clear hX6 hb6 hz6 hbx6 hoW hbW hzW hbxW hxW hg6 hs9 hEW hW ho6 gq5 gn0 gn1 n0 n1 q5 f0
                refine hK _ _ ?_
                clear hK K
                simp only [Act.put, List.setIfInBounds_toArray]
                refine wpAny_ready (rs := [11]) (by kernel_rfl) (by simp) ?_
                refine AllReady.cons rfl (fun K hK => ?_) AllReady.nil
                go_simp
                refine hK _ _ ?_
                clear hK K
                refine wpAny_ready (rs := [12]) (by kernel_rfl) (by simp) ?_
                refine AllReady.cons rfl (fun K hK => ?_) AllReady.nil
                go_simp
                refine hK _ _ ?_
                clear hK K
                refine wpAny_done (by kernel_rfl) ?_ _
                go_wp2_with fail
                go_roundw
                case rel => exact ⟨j + 1, chs ++ [(na, nb)], .slice ac6 (j + 1) cc6, by go_num, by have := HJ.out; omega, HI2.out, by rw [List.length_append, HCL.out]; rfl, HX6.out.setCell (by show w.heap.size ≤ g26; omega) _, by simpa [World.setCell] using hs6, HZ6.out.keep (heap_far (by show w.heap.size + 1 ≠ g26; omega)), HBX6.out.keep (heap_far (by show w.heap.size ≠ g26; omega)), HB6.out.set (i := 5) (by simp) _, by
                  rw [show (brows (chs ++ [(na, nb)])).flatten = (brows chs).flatten ++ [.int .i64 na, .int .i64 nb] by simp [brows]]
                  exact HO6.out.kept (Turn.setCell w6 ⟨g26, 5, none⟩ _) (Or.inr fun e => by have h1 := ownsRow_blocks HO6.out _ e; simp at h1; omega)⟩
                case measure => simp [intOf] <;> (have := HJ.out; omega)
              · have hno := HBN.out rfl (by rw [intsV_all, if_neg (by rw [← HNL.out]; exact h2)])
                obtain rfl := HMID.out hno
                have q2 : (((ns.length : Nat) : Int) != 2) = true := by simp; omega
                clear hno h2 hns
                go_wp2_with fail
                refine bodyPost_ret (v := .tuple #[.agg #[.int .i64 0, .int .i64 0, .int .i64 0, .int .i64 0, .int .i64 0, .slice none 0 0, .int .i64 0, .int .i64 0, .int .i64 0], .bool false]) ?_ rfl ⟨none, 0, rfl, SL.empty _ _, ?_, fun _ h => by cases h⟩
                · simp [results, Tryd.results42, go_sem, z0, z1, z2, z3, z4, z5, z6, z7, z8]
                · exact ext_set9 (w := w) HXW.out (B := w.heap.size + 1) (by omega) _ _ _ _ _ _ _ _ _
            · have q1 : (yk != 3) = true := by simpa using hk3
              obtain rfl := HMID.out (HB3.out hk3)
              clear hns
              go_wp2_with fail
              refine bodyPost_ret (v := .tuple #[.agg #[.int .i64 0, .int .i64 0, .int .i64 0, .int .i64 0, .int .i64 0, .slice none 0 0, .int .i64 0, .int .i64 0, .int .i64 0], .bool false]) ?_ rfl ⟨none, 0, rfl, SL.empty _ _, ?_, fun _ h => by cases h⟩
              · simp [results, Tryd.results42, go_sem, z0, z1, z2, z3, z4, z5, z6, z7, z8]
              · exact ext_set9 (w := w) HXW.out (B := w.heap.size + 1) (by omega) _ _ _ _ _ _ _ _ _
        · have hji : ¬ (j : Int) < (xl.length : Int) := by omega
          obtain rfl : j = xl.length := by omega
          have hch := HCH.out
          rw [List.take_length] at hch
          have hO := HOr.out
          rw [← HCL.out] at hO
          obtain ⟨ca, cc, rfl, hsc, hfar⟩ := SL.of_own hO (fun r hr => by simp only [brows, List.mem_map] at hr; obtain ⟨x, _, rfl⟩ := hr; rfl) (brows_length chs)
          have HFAR := Lib.hid hfar
          have hraw := HRAW.out _ _ _ HL5.out HL6.out hch
          obtain rfl := HRR.out _ hraw
          have HSC : Hid (RepB wr ca cc chs) := Lib.hid hsc
          have HBR : Hid (∀ W, Ext wr W → CB W g26 [.int .i64 fa, .int .i64 fb, .int .i64 fc, .int .i64 fd, .int .i64 fe, .slice ca chs.length cc, .int .i64 ga, .int .i64 gb, .int .i64 gc]) := Lib.hid fun W hE => HBr.out.ext hgr hE
          have hb9 := HBr.out
          have hzr := HZr.out
          clear hch hO hsc hraw hfar
          have b0 := hb9.at_ 0 _ rfl
          have gb0 := grow_cell b0
          have b1 := hb9.at_ 1 _ rfl
          have gb1 := grow_cell b1
          have b2 := hb9.at_ 2 _ rfl
          have gb2 := grow_cell b2
          have b3 := hb9.at_ 3 _ rfl
          have gb3 := grow_cell b3
          have b4 := hb9.at_ 4 _ rfl
          have gb4 := grow_cell b4
          have b5 := hb9.at_ 5 _ rfl
          have gb5 := grow_cell b5
          have b6 := hb9.at_ 6 _ rfl
          have gb6 := grow_cell b6
          have b7 := hb9.at_ 7 _ rfl
          have gb7 := grow_cell b7
          have b8 := hb9.at_ 8 _ rfl
          have gb8 := grow_cell b8
          clear hb9 hzr
          go_wp2_with fail
          refine wp_region_rel (fun i => if i = 2 then some (spV (.bool (validQ ⟨fa, fb, fc, fd, fe, chs, ga, gb, gc⟩))) else none) 3 2 (by kernel_rfl) (by kernel_rfl) ?_
          simp only [List.take_succ_cons, List.take_zero]
          repeat (first
            | (refine wpRel_quick ?_ ?_ ?_ ?_
               · rfl
               · rfl
               · first | exact noEnter rfl | (intro f args W W'; go_simp)
               intro K hK
               go_big_quiet_op
               go_big_quiet_on)
            | (refine wpRel_skip ?_ ?_
               · rfl
               simp only [Act.put, List.setIfInBounds_toArray, List.set_cons_zero, List.set_cons_succ]))
          refine wpRel_rich _ rfl rfl (fun W hW => ?_) (fun v W3 hW3 hv => ?_)
          · have hc := refValid_any ⟨fa, fb, fc, fd, fe, chs, ga, gb, gc⟩ ca cc W (RepB.ext HSC.out ((Ext.refl wr).drew.trans hW.1))
            go_simp
            refine Calls.mono hc ?_
            rintro e w' ⟨rfl, h⟩
            exact ⟨_, rfl, rfl, by first | exact h | (subst h; exact Ext.refl _)⟩
          obtain rfl := hv
          clear hW3
          simp only [Act.put, List.setIfInBounds_toArray, List.set_cons_zero, List.set_cons_succ]
          repeat (first
            | (refine wpRel_quick ?_ ?_ ?_ ?_
               · rfl
               · rfl
               · first | exact noEnter rfl | (intro f args W W'; go_simp)
               intro K hK
               go_big_quiet_op
               go_big_quiet_on)
            | (refine wpRel_skip ?_ ?_
               · rfl
               simp only [Act.put, List.setIfInBounds_toArray, List.set_cons_zero, List.set_cons_succ]))
          refine wpRel_nil ?_
          intro W hW
          have hEW : Ext wr W := (Ext.refl wr).drew.trans hW.1
          have hzW := HZr.out.ext (by omega) hEW
          have z0 := hzW.at_ 0 _ rfl
          have y0 := hzW.fz 0
          have z1 := hzW.at_ 1 _ rfl
          have y1 := hzW.fz 1
          have z2 := hzW.at_ 2 _ rfl
          have y2 := hzW.fz 2
          have z3 := hzW.at_ 3 _ rfl
          have y3 := hzW.fz 3
          have z4 := hzW.at_ 4 _ rfl
          have y4 := hzW.fz 4
          have z5 := hzW.at_ 5 _ rfl
          have y5 := hzW.fz 5
          have z6 := hzW.at_ 6 _ rfl
          have y6 := hzW.fz 6
          have z7 := hzW.at_ 7 _ rfl
          have y7 := hzW.fz 7
          have z8 := hzW.at_ 8 _ rfl
          have y8 := hzW.fz 8
          have HXW := Lib.hid (HEr.out.trans hEW)
          have HSW := Lib.hid (RepB.ext HSC.out hEW)
          have HEW := Lib.hid hEW
          clear hEW hzW hW
          refine wpAny_ready (rs := [3]) (by kernel_rfl) (by simp) ?_
          refine AllReady.cons rfl (fun K hK => ?_) AllReady.nil
          go_simp
          refine hK _ _ ?_
          clear hK K
          refine wpAny_ready (rs := [4]) (by kernel_rfl) (by simp) ?_
          refine AllReady.cons rfl (fun K hK => ?_) AllReady.nil
          go_simp
          refine hK _ _ ?_
          clear hK K
          refine wpAny_done (by kernel_rfl) ?_ _
          go_wp2_with fail
          have hF := ext_set9 (w := w) HXW.out (B := w.heap.size + 1) (by omega) (.int .i64 fa) (.int .i64 fb) (.int .i64 fc) (.int .i64 fd) (.int .i64 fe) (.slice ca chs.length cc) (.int .i64 ga) (.int .i64 gb) (.int .i64 gc)
          refine bodyPost_ret (v := .tuple #[.agg #[.int .i64 fa, .int .i64 fb, .int .i64 fc, .int .i64 fd, .int .i64 fe, .slice ca chs.length cc, .int .i64 ga, .int .i64 gb, .int .i64 gc], .bool (validQ ⟨fa, fb, fc, fd, fe, chs, ga, gb, gc⟩)]) ?_ rfl ⟨ca, cc, rfl, ?_, hF, fun x hx => by have := HFAR.out x hx; omega⟩
          · simp [results, Tryd.results42, go_sem, z0, z1, z2, z3, z4, z5, z6, z7, z8]
          · exact SL.keep HSW.out fun a ha _ => by
              have hb : a.block ≠ w.heap.size + 1 := by have := HFAR.out a ha; omega
              rw [heap_far hb, heap_far hb, heap_far hb, heap_far hb, heap_far hb, heap_far hb, heap_far hb, heap_far hb, heap_far hb]
end Go.Proofs.YtahaplioegeloaaDoor
