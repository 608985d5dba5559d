import Derived.Test.YtahaplioegeloaaDoorR2
import Derived.Test.YtahaplioegeloaaDoorLp
import Derived.Test.YtahaplioegeloaaDoorS4
namespace Go.Sz
open Go.RowKit
/-- a result of four cells is laid -/
theorem fin4 {w W : World} {B A pos : Nat} {all : List UInt8} {bad : Bool} {x0 x1 x2 x3 c0 c1 c2 c3 : Value} {F : Nat → Prop} {x : V} (hb : Box W A x0 x1 x2 x3) (hr : RRd W B all pos bad) (hBA : B < A) (hR : RepV W F [c0, c1, c2, c3] x) (hF : ∀ b, F b → A < b) (hT : Turn B w W) (hA : w.heap.size ≤ A) :
    Box ((((W.setCell ⟨A, 0, none⟩ c0).setCell ⟨A, 1, none⟩ c1).setCell ⟨A, 2, none⟩ c2).setCell ⟨A, 3, none⟩ c3) A c0 c1 c2 c3 ∧ RRd ((((W.setCell ⟨A, 0, none⟩ c0).setCell ⟨A, 1, none⟩ c1).setCell ⟨A, 2, none⟩ c2).setCell ⟨A, 3, none⟩ c3) B all pos bad ∧ RepV ((((W.setCell ⟨A, 0, none⟩ c0).setCell ⟨A, 1, none⟩ c1).setCell ⟨A, 2, none⟩ c2).setCell ⟨A, 3, none⟩ c3) F [c0, c1, c2, c3] x ∧ Turn B w ((((W.setCell ⟨A, 0, none⟩ c0).setCell ⟨A, 1, none⟩ c1).setCell ⟨A, 2, none⟩ c2).setCell ⟨A, 3, none⟩ c3) :=
  ⟨(((hb.set0 c0).set1 c1).set2 c2).set3 c3, (((hr.far ⟨A, 0, none⟩ c0 hBA).far ⟨A, 1, none⟩ c1 hBA).far ⟨A, 2, none⟩ c2 hBA).far ⟨A, 3, none⟩ c3 hBA,
    hR.keep fun b hb' => by
      have := hF b hb'
      rw [heap_setCell_far _ _ _ _ (by show b ≠ A; omega), heap_setCell_far _ _ _ _ (by show b ≠ A; omega), heap_setCell_far _ _ _ _ (by show b ≠ A; omega), heap_setCell_far _ _ _ _ (by show b ≠ A; omega)],
    (((hT.store ⟨A, 0, none⟩ c0 hA).store ⟨A, 1, none⟩ c1 hA).store ⟨A, 2, none⟩ c2 hA).store ⟨A, 3, none⟩ c3 hA⟩
end Go.Sz
namespace Go.Proofs.YtahaplioegeloaaDoor
open Go.RowKit Go.Sz

def rvPost (w : World) (B : Nat) (all : List UInt8) (o : Option (V × List UInt8)) (e : Ending) (w' : World) : Prop :=
  ∃ cs F x pos' bad, e = .returned (.agg cs) ∧ RepV w' F cs.toList x ∧ (∀ b, F b → w.heap.size ≤ b) ∧ RRd w' B all pos' bad ∧ o = (if bad = true then none else some (x, all.drop pos'))

theorem rep_zero (w : World) (F : Nat → Prop) : RepV w F [.int .i64 0, .int .i64 0, .string ⟨#[]⟩, .slice none 0 0] (.mk 0 0 ⟨#[]⟩ []) := rep_leaf w F 0 0 ⟨#[]⟩ ⟨by omega, by omega⟩ ⟨by omega, by omega⟩ (by decide)

set_option maxRecDepth 100000 in
set_option maxHeartbeats 1600000 in
/-- no byte is left -/
theorem rvalue_nil {B : Nat} {all : List UInt8} {w : World} (h : RRd w B all all.length false) (k : Int) (inner : Nat → List UInt8 → Option (List V × List UInt8)) :
    Calls Tryd.prog 57 #[.pointer (some ⟨B, 0, none⟩), .int .i64 k] w fun e w' => rvPost w B all (headP inner (all.drop all.length)) e w' ∧ Turn B w w' := by
  have hplt := h.lt
  have HH := Lib.hid h
  go_enter Tryd.func57, Tryd.ntmps57
  go_wp2_with fail
  have hE0 := (Ext.refl w).alloc (.cells #[.int .i64 0, .int .i64 0, .string ⟨#[]⟩, .slice none 0 0] 59)
  have hB0 := Box.new w (.int .i64 0) (.int .i64 0) (.string ⟨#[]⟩) (.slice none 0 0) 59
  generalize (w.alloc (.cells #[.int .i64 0, .int .i64 0, .string ⟨#[]⟩, .slice none 0 0] 59)) = w0 at *
  refine (next_end (h.ext hE0)).mono ?_
  rintro e w1 ⟨rfl, hR1, hT1⟩
  have hB1 := hB0.turn hT1 (by omega)
  have hz2 := hR1.z 2
  have hc2 := hR1.c2
  have HR1 := Lib.hid hR1
  have HB1 := Lib.hid hB1
  obtain ⟨b0, b1, b2, b3, bz⟩ := hB1
  have z0 := bz 0
  have z1 := bz 1
  have z2 := bz 2
  have z3 := bz 3
  have hne1 : ¬ B = w.heap.size := by omega
  have hne2 : ¬ w.heap.size = B := by omega
  clear hR1 h hB0
  go_wp2_with fail
  have hb2 := HB1.out.keep (heap_setCell_far w1 ⟨B, 2, none⟩ (.bool true) _ hne2)
  obtain ⟨f1, f2, f3, f4⟩ := fin4 (w := w) hb2 (HR1.out.setBad true) (by omega) (rep_zero _ (fun _ => False)) (by simp) (((Turn.of_ext hE0).trans hT1).trans (Turn.setCell w1 ⟨B, 2, none⟩ _)) (Nat.le_refl _)
  generalize (((((w1.setCell ⟨B, 2, none⟩ (.bool true)).setCell ⟨w.heap.size, 0, none⟩ (.int .i64 0)).setCell ⟨w.heap.size, 1, none⟩ (.int .i64 0)).setCell ⟨w.heap.size, 2, none⟩ (.string ⟨#[]⟩)).setCell ⟨w.heap.size, 3, none⟩ (.slice none 0 0)) = w5 at *
  obtain ⟨e0, e1, e2, e3, ez⟩ := f1
  refine ⟨rfl, .agg #[.int .i64 0, .int .i64 0, .string ⟨#[]⟩, .slice none 0 0], ?_, ?_⟩
  · simp [results, Tryd.results57, go_sem, e0, e1, e2, e3]
  · refine ⟨⟨_, _, _, _, true, rfl, f3, by simp, f2, ?_⟩, f4⟩
    rw [List.drop_length]; rfl

theorem drop_cons {all : List UInt8} {pos : Nat} (h : pos < all.length) : all.drop pos = all[pos] :: all.drop (pos + 1) := List.drop_eq_getElem_cons h

set_option maxRecDepth 100000 in
set_option maxHeartbeats 1600000 in
/-- another kind -/
theorem rvalue_out {B : Nat} {all : List UInt8} {pos : Nat} {w : World} (h : RRd w B all pos false) (hlt : pos < all.length) (h1 : all[pos].toNat ≠ 1) (h2 : all[pos].toNat ≠ 2) (h3 : all[pos].toNat ≠ 3) (k : Int) (inner : Nat → List UInt8 → Option (List V × List UInt8)) :
    Calls Tryd.prog 57 #[.pointer (some ⟨B, 0, none⟩), .int .i64 k] w fun e w' => rvPost w B all (headP inner (all.drop pos)) e w' ∧ Turn B w w' := by
  have HP : Hid (headP inner (all.drop pos) = none) := Lib.hid (by rw [drop_cons hlt]; simp [headP, h1, h2, h3])
  have hplt := h.lt
  have HN := Lib.hid fun (W : World) (hE : Ext w W) => next_ok (h.ext hE) hlt
  obtain ⟨x, hx⟩ : ∃ x, x = all[pos].toNat := ⟨_, rfl⟩
  rw [← hx] at h1 h2 h3 HN
  have q1 : ((x : Int) == 1) = false := by simpa using (show ¬ (x : Int) = 1 by omega)
  have q2 : ((x : Int) == 2) = false := by simpa using (show ¬ (x : Int) = 2 by omega)
  have q3 : ((x : Int) == 3) = false := by simpa using (show ¬ (x : Int) = 3 by omega)
  clear h1 h2 h3 hx h
  go_enter Tryd.func57, Tryd.ntmps57
  go_wp2_with fail
  have hE0 := (Ext.refl w).alloc (.cells #[.int .i64 0, .int .i64 0, .string ⟨#[]⟩, .slice none 0 0] 59)
  have hB0 := Box.new w (.int .i64 0) (.int .i64 0) (.string ⟨#[]⟩) (.slice none 0 0) 59
  generalize (w.alloc (.cells #[.int .i64 0, .int .i64 0, .string ⟨#[]⟩, .slice none 0 0] 59)) = w0 at *
  refine (HN.out _ hE0).mono ?_
  rintro e w1 ⟨rfl, hR1, hT1⟩
  have hB1 := hB0.turn hT1 (by omega)
  have hz2 := hR1.z 2
  have hc2 := hR1.c2
  have HR1 := Lib.hid hR1
  have HB1 := Lib.hid hB1
  obtain ⟨b0, b1, b2, b3, bz⟩ := hB1
  have z0 := bz 0
  have z1 := bz 1
  have z2 := bz 2
  have z3 := bz 3
  have hne1 : ¬ B = w.heap.size := by omega
  have hne2 : ¬ w.heap.size = B := by omega
  clear hR1 hB0
  go_wp2_with fail
  have hb2 := HB1.out.keep (heap_setCell_far w1 ⟨B, 2, none⟩ (.bool true) _ hne2)
  obtain ⟨f1, f2, f3, f4⟩ := fin4 (w := w) hb2 (HR1.out.setBad true) (by omega) (rep_zero _ (fun _ => False)) (by simp) (((Turn.of_ext hE0).trans hT1).trans (Turn.setCell w1 ⟨B, 2, none⟩ _)) (Nat.le_refl _)
  generalize (((((w1.setCell ⟨B, 2, none⟩ (.bool true)).setCell ⟨w.heap.size, 0, none⟩ (.int .i64 0)).setCell ⟨w.heap.size, 1, none⟩ (.int .i64 0)).setCell ⟨w.heap.size, 2, none⟩ (.string ⟨#[]⟩)).setCell ⟨w.heap.size, 3, none⟩ (.slice none 0 0)) = w5 at *
  obtain ⟨e0, e1, e2, e3, ez⟩ := f1
  refine ⟨rfl, .agg #[.int .i64 0, .int .i64 0, .string ⟨#[]⟩, .slice none 0 0], ?_, ?_⟩
  · simp [results, Tryd.results57, go_sem, e0, e1, e2, e3]
  · exact ⟨⟨_, _, _, _, true, rfl, f3, by simp, f2, by rw [HP.out]; rfl⟩, f4⟩

theorem zag_odd {u : Nat} (h : u % 2 = 1) : zag (u : Int) = -((u : Int) / 2) - 1 := by unfold zag; rw [if_neg (by omega)]
theorem zag_even {u : Nat} (h : ¬ u % 2 = 1) : zag (u : Int) = (u : Int) / 2 := by unfold zag; rw [if_pos (by omega)]

set_option maxRecDepth 100000 in
set_option maxHeartbeats 1600000 in
/-- an integer -/
theorem rvalue_1 {B : Nat} {all : List UInt8} {pos : Nat} {w : World} (h : RRd w B all pos false) (hlt : pos < all.length) (h1 : all[pos].toNat = 1) (k : Int) (inner : Nat → List UInt8 → Option (List V × List UInt8)) :
    Calls Tryd.prog 57 #[.pointer (some ⟨B, 0, none⟩), .int .i64 k] w fun e w' => rvPost w B all (headP inner (all.drop pos)) e w' ∧ Turn B w w' := by
  have HP : Hid (headP inner (all.drop pos) = match numP 0 0 (all.drop (pos + 1)) with
      | some (n, r) => some (.mk 1 (zag n) ⟨#[]⟩ [], r)
      | none => none) := Lib.hid (by rw [drop_cons hlt]; simp [headP, h1]; rfl)
  have hplt := h.lt
  have HN := Lib.hid fun (W : World) (hE : Ext w W) => next_ok (h.ext hE) hlt
  rw [h1] at HN
  clear h h1
  go_enter Tryd.func57, Tryd.ntmps57
  go_wp2_with fail
  have hE0 := (Ext.refl w).alloc (.cells #[.int .i64 0, .int .i64 0, .string ⟨#[]⟩, .slice none 0 0] 59)
  have hB0 := Box.new w (.int .i64 0) (.int .i64 0) (.string ⟨#[]⟩) (.slice none 0 0) 59
  generalize (w.alloc (.cells #[.int .i64 0, .int .i64 0, .string ⟨#[]⟩, .slice none 0 0] 59)) = w0 at *
  refine (HN.out _ hE0).mono ?_
  rintro e w1 ⟨rfl, hR1, hT1⟩
  have hB1 := hB0.turn hT1 (by omega)
  have hT1' := (Turn.of_ext hE0).trans hT1
  go_wp2_with fail
  refine (refNumber_any hR1).mono ?_
  rintro e w2 ⟨hpost, hT2⟩
  have hB2 := hB1.turn hT2 (by omega)
  have hT2' := hT1'.trans hT2
  have HB2 := Lib.hid hB2
  obtain ⟨u, hu, pos', bad, he, hR2, hHP⟩ : ∃ u : Nat, u < 18446744073709551616 ∧ ∃ (pos' : Nat) (bad : Bool), e = .returned (.int .u64 u) ∧ RRd w2 B all pos' bad ∧ headP inner (all.drop pos) = (if bad = true then none else some (.mk 1 (zag u) ⟨#[]⟩ [], all.drop pos')) := by
    have h2 := HP.out
    cases hn : numP 0 0 (all.drop (pos + 1)) with
    | none =>
      rw [hn] at hpost h2
      obtain ⟨he, pos', hr⟩ := hpost
      exact ⟨0, by omega, pos', true, he, hr, h2⟩
    | some nr =>
      obtain ⟨u, r⟩ := nr
      rw [hn] at hpost h2
      obtain ⟨he, pos', rfl, hr⟩ := hpost
      exact ⟨u, (numP_lt _ 0 0 _ _ hn (by simp) (by omega)).1, pos', false, he, hr, h2⟩
  subst he
  have HHP := Lib.hid hHP
  have HR2 := Lib.hid hR2
  clear hpost hHP hR2 hR1 hB0 hB1 HN HP
  obtain ⟨b0, b1, b2, b3, bz⟩ := hB2
  have z0 := bz 0
  have z1 := bz 1
  have z2 := bz 2
  have z3 := bz 3
  have hin := zag_in hu
  by_cases hodd : u % 2 = 1
  · have q1 : (((u : Int) % 2) == 1) = true := by simp; omega
    have HZ := Lib.hid (zag_odd hodd)
    go_wp2_with fail
    rw [← HZ.out]
    obtain ⟨f1, f2, f3, f4⟩ := fin4 (w := w) HB2.out HR2.out (by omega) (rep_leaf _ (fun _ => False) 1 (zag u) ⟨#[]⟩ ⟨by omega, by omega⟩ hin (by decide)) (by simp) hT2' (Nat.le_refl _)
    generalize (((((w2).setCell ⟨w.heap.size, 0, none⟩ (.int .i64 1)).setCell ⟨w.heap.size, 1, none⟩ (.int .i64 (zag u))).setCell ⟨w.heap.size, 2, none⟩ (.string ⟨#[]⟩)).setCell ⟨w.heap.size, 3, none⟩ (.slice none 0 0)) = w5 at *
    obtain ⟨e0, e1, e2, e3, ez⟩ := f1
    refine ⟨rfl, .agg #[.int .i64 1, .int .i64 (zag u), .string ⟨#[]⟩, .slice none 0 0], ?_, ?_⟩
    · simp [results, Tryd.results57, go_sem, e0, e1, e2, e3]
    · exact ⟨⟨_, _, _, _, bad, rfl, f3, by simp, f2, HHP.out⟩, f4⟩
  · have q1 : (((u : Int) % 2) == 1) = false := by simp; omega
    have HZ := Lib.hid (zag_even hodd)
    go_wp2_with fail
    rw [← HZ.out]
    obtain ⟨f1, f2, f3, f4⟩ := fin4 (w := w) HB2.out HR2.out (by omega) (rep_leaf _ (fun _ => False) 1 (zag u) ⟨#[]⟩ ⟨by omega, by omega⟩ hin (by decide)) (by simp) hT2' (Nat.le_refl _)
    generalize (((((w2).setCell ⟨w.heap.size, 0, none⟩ (.int .i64 1)).setCell ⟨w.heap.size, 1, none⟩ (.int .i64 (zag u))).setCell ⟨w.heap.size, 2, none⟩ (.string ⟨#[]⟩)).setCell ⟨w.heap.size, 3, none⟩ (.slice none 0 0)) = w5 at *
    obtain ⟨e0, e1, e2, e3, ez⟩ := f1
    refine ⟨rfl, .agg #[.int .i64 1, .int .i64 (zag u), .string ⟨#[]⟩, .slice none 0 0], ?_, ?_⟩
    · simp [results, Tryd.results57, go_sem, e0, e1, e2, e3]
    · exact ⟨⟨_, _, _, _, bad, rfl, f3, by simp, f2, HHP.out⟩, f4⟩
end Go.Proofs.YtahaplioegeloaaDoor
