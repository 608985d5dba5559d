import Derived.Test.YtahaplioegeloaaDoorR3
import Derived.Deep.RegionLaw
namespace Go.Sz
open Go.RowKit
theorem SL.part {w : World} {b o cap : Nat} {all : List UInt8} (h : SL w 1 (some ⟨b, o, none⟩) cap (br all)) {p u : Nat} (hu : p + u ≤ all.length) : SL w 1 (some ⟨b, o + p, none⟩) (cap - p) (br ((all.drop p).take u)) := by
  have hle := h.le
  rw [br_length] at hle
  refine ⟨by rw [br_length]; simp; omega, by have := h.max; omega, by simp, fun r hr => ?_, fun i j r v hr hv => ?_⟩
  · rw [br_take, br_drop] at hr
    exact h.wid r (List.mem_of_mem_drop (List.mem_of_mem_take hr))
  · rw [br_take, br_drop, List.getElem?_take] at hr
    split at hr
    · rw [List.getElem?_drop] at hr
      obtain ⟨b', o', e, hc⟩ := h.cells (p + i) j r v hr hv
      cases e
      exact ⟨b, o + p, rfl, by rw [show o + p + i * 1 + j = o + (p + i) * 1 + j by omega]; exact hc⟩
    · cases hr
end Go.Sz
namespace Go.Proofs.YtahaplioegeloaaDoor
open Go.RowKit Go.Sz

set_option maxRecDepth 100000 in
set_option maxHeartbeats 3200000 in
/-- a text -/
theorem rvalue_2 {B : Nat} {all : List UInt8} {pos : Nat} {w : World} (h : RRd w B all pos false) (hlt : pos < all.length) (h1 : all[pos].toNat = 2) (k : Int) (inner : Nat → List UInt8 → Option (List V × List UInt8)) :
    Calls Tryd.prog 57 #[.pointer (some ⟨B, 0, none⟩), .int .i64 k] w fun e w' => rvPost w B all (headP inner (all.drop pos)) e w' ∧ Turn B w w' := by
  have HP : Hid (headP inner (all.drop pos) = match lenP (all.drop (pos + 1)) with
      | some (n, r) => some (.mk 2 0 ⟨(r.take n).toArray⟩ [], r.drop n)
      | none => none) := Lib.hid (by rw [drop_cons hlt]; simp [headP, h1]; rfl)
  have hplt := h.lt
  have HN := Lib.hid fun (W : World) (hE : Ext w W) => next_ok (h.ext hE) hlt
  rw [h1] at HN
  clear h h1
  go_enter Tryd.func57, Tryd.ntmps57
  go_wp2_with fail
  have hE0 := (Ext.refl w).alloc (.cells #[.int .i64 0, .int .i64 0, .string ⟨#[]⟩, .slice none 0 0] 59)
  have hB0 := Box.new w (.int .i64 0) (.int .i64 0) (.string ⟨#[]⟩) (.slice none 0 0) 59
  generalize (w.alloc (.cells #[.int .i64 0, .int .i64 0, .string ⟨#[]⟩, .slice none 0 0] 59)) = w0 at *
  refine (HN.out _ hE0).mono ?_
  rintro e w1 ⟨rfl, hR1, hT1⟩
  have hB1 := hB0.turn hT1 (by omega)
  have hT1' := (Turn.of_ext hE0).trans hT1
  go_wp2_with fail
  refine (refNumber_any hR1).mono ?_
  rintro e w2 ⟨hpost, hT2⟩
  have hB2 := hB1.turn hT2 (by omega)
  have hT2' := hT1'.trans hT2
  have HB2 := Lib.hid hB2
  obtain ⟨u, hu, pos', bad, he, hR2, hHP⟩ : ∃ u : Nat, u < 18446744073709551616 ∧ ∃ (pos' : Nat) (bad : Bool), e = .returned (.int .u64 u) ∧ RRd w2 B all pos' bad ∧ lenP (all.drop (pos + 1)) = (if bad = true then none else if u ≤ all.length - pos' then some (u, all.drop pos') else none) := by
    unfold lenP
    cases hn : numP 0 0 (all.drop (pos + 1)) with
    | none =>
      rw [hn] at hpost
      obtain ⟨he, pos', hr⟩ := hpost
      exact ⟨0, by omega, pos', true, he, hr, rfl⟩
    | some nr =>
      obtain ⟨u, r⟩ := nr
      rw [hn] at hpost
      obtain ⟨he, pos', rfl, hr⟩ := hpost
      exact ⟨u, (numP_lt _ 0 0 _ _ hn (by simp) (by omega)).1, pos', false, he, hr, by simp⟩
  subst he
  have HHP := Lib.hid hHP
  have HR2 := Lib.hid hR2
  clear hpost hHP hR2 hR1 hB0 hB1 HN
  obtain ⟨b0, b1, b2, b3, bz⟩ := hB2
  have z0 := bz 0
  have z1 := bz 1
  have z2 := bz 2
  have z3 := bz 3
  obtain ⟨ao, cap, hc0, hs, hblk⟩ := HR2.out.ex
  have hc1 := HR2.out.c1
  have hc2 := HR2.out.c2
  have hy1 := HR2.out.z 1
  have hy2 := HR2.out.z 2
  have hle := HR2.out.le
  have hmax : all.length ≤ 9223372036854775807 := by have h1 := hs.le; have h2 := hs.max; rw [br_length] at h1; omega
  have hne1 : ¬ B = w.heap.size := by omega
  have hne2 : ¬ w.heap.size = B := by omega
  have HS := Lib.hid hs
  have HBK := Lib.hid hblk
  clear hs hblk
  have HK := Lib.hid fun (W : World) (h : Ext w2 W) => (⟨h.cell hc0, h.cell hc1, h.cell hc2⟩ : W.cell? ⟨B, 0, none⟩ = _ ∧ W.cell? ⟨B, 1, none⟩ = _ ∧ W.cell? ⟨B, 2, none⟩ = _)
  by_cases hgood : bad = false ∧ u ≤ all.length - pos'
  · obtain ⟨rfl, hul⟩ := hgood
    have hw1 : IntKind.i64.wrap ((all.length : Int) - (pos' : Int)) = (all.length : Int) - (pos' : Int) := by simp [IntKind.wrap, IntKind.bits, IntKind.signed]; omega
    have hw2 : IntKind.u64.wrap ((all.length : Int) - (pos' : Int)) = (all.length : Int) - (pos' : Int) := u64_small _ (by omega) (by omega)
    have q1 : ¬ ((all.length : Int) - (pos' : Int) < (u : Int)) := by omega
    have hw3 : IntKind.i64.wrap (u : Int) = (u : Int) := by simp [IntKind.wrap, IntKind.bits, IntKind.signed]; omega
    have hw4 : IntKind.i64.wrap ((pos' : Int) + (u : Int)) = (pos' : Int) + (u : Int) := by simp [IntKind.wrap, IntKind.bits, IntKind.signed]; omega
    have hw5 : IntKind.i64.wrap ((pos' : Int) + (u : Int) - (u : Int)) = (pos' : Int) := by simp [IntKind.wrap, IntKind.bits, IntKind.signed]; omega
    go_wp2_with fail
    go_quiet (fail)
    have hEq := (Ext.refl w2).drewN nq
    generalize w2.drewN nq = wq at *
    have HRq := Lib.hid (HR2.out.ext hEq)
    have HBq := Lib.hid (HB2.out.ext hEq)
    have HTq := Lib.hid (hT2'.trans (Turn.of_ext hEq))
    clear hc0 hc1 hc2 hy1 hy2 b0 b1 b2 b3 bz z0 z1 z2 z3
    obtain ⟨b0, b1, b2, b3, bz⟩ := HBq.out
    have z0 := bz 0
    have z1 := bz 1
    have z2 := bz 2
    have z3 := bz 3
    have hc1 := HRq.out.c1
    have hc2 := HRq.out.c2
    have hy1 := HRq.out.z 1
    have hy2 := HRq.out.z 2
    obtain ⟨b, o, e1, _⟩ := HS.out.at (by omega) 0 (by rw [br_length]; omega)
    subst e1
    have hcl := HS.out.le
    rw [br_length] at hcl
    go_wp2_with fail
    have HR3 : Hid (RRd (wq.setCell ⟨B, 1, none⟩ (.int .i64 ((pos' : Int) + (u : Int)))) B all (pos' + u) false) := Lib.hid (HRq.out.setPos (pos' + u) (by omega))
    have HB3 : Hid (Box (wq.setCell ⟨B, 1, none⟩ (.int .i64 ((pos' : Int) + (u : Int)))) w.heap.size (.int .i64 0) (.int .i64 0) (.string ⟨#[]⟩) (.slice none 0 0)) := Lib.hid (HBq.out.keep (heap_setCell_far wq ⟨B, 1, none⟩ _ _ hne2))
    have HT3 : Hid (Turn B w (wq.setCell ⟨B, 1, none⟩ (.int .i64 ((pos' : Int) + (u : Int))))) := Lib.hid (HTq.out.trans (Turn.setCell wq ⟨B, 1, none⟩ _))
    have hbB : b < B := HBK.out _ rfl (by intro e; rw [e] at hlt; simp at hlt)
    have HS3 : Hid (SL (wq.setCell ⟨B, 1, none⟩ (.int .i64 ((pos' : Int) + (u : Int)))) 1 (some ⟨b, o, none⟩) cap (br all)) := Lib.hid ((HS.out.ext hEq).keep fun a ha _ => by cases ha; exact heap_setCell_far _ _ _ _ (by show b ≠ B; omega))
    have k0 : (wq.setCell ⟨B, 1, none⟩ (.int .i64 ((pos' : Int) + (u : Int)))).cell? ⟨B, 0, none⟩ = some (.slice (some ⟨b, o, none⟩) all.length cap) := (World.cell?_setCell_other _ _ _ _ (by simp)).trans ((HK.out _ hEq).1)
    clear hc1 hc2 hy1 hy2 b0 b1 b2 b3 bz z0 z1 z2 z3 hT2' hT2 hT1' hT1 hE0
    generalize (wq.setCell ⟨B, 1, none⟩ (.int .i64 ((pos' : Int) + (u : Int)))) = w3 at *
    obtain ⟨b0, b1, b2, b3, bz⟩ := HB3.out
    have z0 := bz 0
    have z1 := bz 1
    have z2 := bz 2
    have z3 := bz 3
    have hA : (0 : Int) ≤ (pos' : Int) := by omega
    have hBb : (pos' : Int) ≤ (pos' : Int) + (u : Int) := by omega
    have hCc : (pos' : Int) + (u : Int) ≤ (cap : Int) := by omega
    have hw6 : IntKind.i64.wrap (pos' : Int) = (pos' : Int) := by simp [IntKind.wrap, IntKind.bits, IntKind.signed]; omega
    have k1 : w3.cell? ⟨B, 1, none⟩ = some (.int .i64 ((pos' : Int) + (u : Int))) := HR3.out.c1
    obtain ⟨S, hS⟩ : ∃ S : ByteArray, S = ⟨((all.drop pos').take u).toArray⟩ := ⟨_, rfl⟩
    have hlen : ((all.drop pos').take u).length = u := by simp; omega
    have hcv : (convert 29 9 (.slice (if cap = pos' then some ⟨b, o, none⟩ else some ⟨b, o + pos', none⟩) (((pos' : Int) + (u : Int)).toNat - pos') (cap - pos'))).run Tryd.prog w3.drew = .ok (.string S) w3.drew := by
      rw [show ((pos' : Int) + (u : Int)).toNat - pos' = u by omega, hS]
      split
      · have hu0 : u = 0 := by omega
        subst hu0
        exact run_convert_bytes_back w3.drew _ _ _ _ _ [] Tryd.underlying29 Tryd.underlying5 Tryd.underlying9 (fun j hj => by simp at hj)
      · have := ((HS3.out.ext (Ext.refl _).drew).part (p := pos') (u := u) (by omega)).toStr (P := Tryd.prog) 29 9 5 Tryd.underlying29 Tryd.underlying5 Tryd.underlying9
        rw [hlen] at this
        exact this
    have HSS := Lib.hid hS
    clear hS
    have hssz : S.size ≤ 9223372036854775807 := by rw [HSS.out]; show ((all.drop pos').take u).toArray.size ≤ _; rw [List.size_toArray, hlen]; omega
    have HF4 := Lib.hid (fin4 (w := w) HB3.out HR3.out (by omega) (rep_leaf w3 (fun _ => False) 2 0 S ⟨by omega, by omega⟩ ⟨by omega, by omega⟩ hssz) (by simp) HT3.out (Nat.le_refl _))
    have HFIN : Hid (headP inner (all.drop pos) = some (.mk 2 0 S [], all.drop (pos' + u))) := Lib.hid (by
      rw [HP.out, HHP.out, if_neg (by decide), if_pos hul]
      simp only
      rw [HSS.out, List.drop_drop])
    go_region_law (fail)
    all_goals go_wp2_with fail
    all_goals
      have hf := HF4.out
      generalize (((((w3).setCell ⟨w.heap.size, 0, none⟩ (.int .i64 2)).setCell ⟨w.heap.size, 1, none⟩ (.int .i64 0)).setCell ⟨w.heap.size, 2, none⟩ (.string S)).setCell ⟨w.heap.size, 3, none⟩ (.slice none 0 0)) = w5 at *
      obtain ⟨f1, f2, f3, f4⟩ := hf
      have f1' := f1.ext (Ext.refl w5).drew
      obtain ⟨e0, e1, e2, e3, ez⟩ := f1'
      refine ⟨rfl, .agg #[.int .i64 2, .int .i64 0, .string S, .slice none 0 0], ?_, ?_⟩
      · simp [results, Tryd.results57, go_sem, e0, e1, e2, e3]
      · exact ⟨⟨_, _, _, _, false, rfl, f3.ext (Ext.refl w5).drew, by simp, f2.ext (Ext.refl w5).drew, by rw [HFIN.out]; rfl⟩, f4.trans (Turn.of_ext (Ext.refl w5).drew)⟩
  · have HNO : Hid (lenP (all.drop (pos + 1)) = none) := Lib.hid (by
      rw [HHP.out]
      cases bad with
      | true => rfl
      | false => rw [if_neg (by decide), if_neg (fun h => hgood ⟨rfl, h⟩)])
    have hcase : bad = true ∨ (bad = false ∧ (all.length : Int) - (pos' : Int) < (u : Int)) := by
      cases bad with
      | true => exact .inl rfl
      | false =>
        refine .inr ⟨rfl, ?_⟩
        have : ¬ u ≤ all.length - pos' := fun h => hgood ⟨rfl, h⟩
        omega
    clear hgood
    have hw1 : IntKind.i64.wrap ((all.length : Int) - (pos' : Int)) = (all.length : Int) - (pos' : Int) := by simp [IntKind.wrap, IntKind.bits, IntKind.signed]; omega
    have hw2 : IntKind.u64.wrap ((all.length : Int) - (pos' : Int)) = (all.length : Int) - (pos' : Int) := u64_small _ (by omega) (by omega)
    rcases hcase with rfl | ⟨rfl, q1⟩
    · skip
      go_wp2_with fail
      go_quiet (fail)
      have hEq := (Ext.refl w2).drewN nq
      generalize w2.drewN nq = wq at *
      have HRq := Lib.hid (HR2.out.ext hEq)
      have HBq := Lib.hid (HB2.out.ext hEq)
      have HTq := Lib.hid (hT2'.trans (Turn.of_ext hEq))
      clear hc0 hc1 hc2 hy1 hy2 b0 b1 b2 b3 bz z0 z1 z2 z3
      obtain ⟨b0, b1, b2, b3, bz⟩ := HBq.out
      have z0 := bz 0
      have z1 := bz 1
      have z2 := bz 2
      have z3 := bz 3
      have hc1 := HRq.out.c1
      have hc2 := HRq.out.c2
      have hy1 := HRq.out.z 1
      have hy2 := HRq.out.z 2
      go_wp2_with fail
      obtain ⟨f1, f2, f3, f4⟩ := fin4 (w := w) (HBq.out.keep (heap_setCell_far wq ⟨B, 2, none⟩ (.bool true) _ hne2)) (HRq.out.setBad true) (by omega) (rep_zero _ (fun _ => False)) (by simp) (HTq.out.trans (Turn.setCell wq ⟨B, 2, none⟩ _)) (Nat.le_refl _)
      generalize (((((wq.setCell ⟨B, 2, none⟩ (.bool true)).setCell ⟨w.heap.size, 0, none⟩ (.int .i64 0)).setCell ⟨w.heap.size, 1, none⟩ (.int .i64 0)).setCell ⟨w.heap.size, 2, none⟩ (.string ⟨#[]⟩)).setCell ⟨w.heap.size, 3, none⟩ (.slice none 0 0)) = w5 at *
      obtain ⟨e0, e1, e2, e3, ez⟩ := f1
      refine ⟨rfl, .agg #[.int .i64 0, .int .i64 0, .string ⟨#[]⟩, .slice none 0 0], ?_, ?_⟩
      · simp [results, Tryd.results57, go_sem, e0, e1, e2, e3]
      · exact ⟨⟨_, _, _, _, true, rfl, f3, by simp, f2, by rw [HP.out, HNO.out]; rfl⟩, f4⟩
    · skip
      go_wp2_with fail
      go_quiet (fail)
      have hEq := (Ext.refl w2).drewN nq
      generalize w2.drewN nq = wq at *
      have HRq := Lib.hid (HR2.out.ext hEq)
      have HBq := Lib.hid (HB2.out.ext hEq)
      have HTq := Lib.hid (hT2'.trans (Turn.of_ext hEq))
      clear hc0 hc1 hc2 hy1 hy2 b0 b1 b2 b3 bz z0 z1 z2 z3
      obtain ⟨b0, b1, b2, b3, bz⟩ := HBq.out
      have z0 := bz 0
      have z1 := bz 1
      have z2 := bz 2
      have z3 := bz 3
      have hc1 := HRq.out.c1
      have hc2 := HRq.out.c2
      have hy1 := HRq.out.z 1
      have hy2 := HRq.out.z 2
      go_wp2_with fail
      obtain ⟨f1, f2, f3, f4⟩ := fin4 (w := w) (HBq.out.keep (heap_setCell_far wq ⟨B, 2, none⟩ (.bool true) _ hne2)) (HRq.out.setBad true) (by omega) (rep_zero _ (fun _ => False)) (by simp) (HTq.out.trans (Turn.setCell wq ⟨B, 2, none⟩ _)) (Nat.le_refl _)
      generalize (((((wq.setCell ⟨B, 2, none⟩ (.bool true)).setCell ⟨w.heap.size, 0, none⟩ (.int .i64 0)).setCell ⟨w.heap.size, 1, none⟩ (.int .i64 0)).setCell ⟨w.heap.size, 2, none⟩ (.string ⟨#[]⟩)).setCell ⟨w.heap.size, 3, none⟩ (.slice none 0 0)) = w5 at *
      obtain ⟨e0, e1, e2, e3, ez⟩ := f1
      refine ⟨rfl, .agg #[.int .i64 0, .int .i64 0, .string ⟨#[]⟩, .slice none 0 0], ?_, ?_⟩
      · simp [results, Tryd.results57, go_sem, e0, e1, e2, e3]
      · exact ⟨⟨_, _, _, _, true, rfl, f3, by simp, f2, by rw [HP.out, HNO.out]; rfl⟩, f4⟩
end Go.Proofs.YtahaplioegeloaaDoor
