import Derived.Test.YtahaplioegeloaaDoorR5
namespace Go.Proofs.YtahaplioegeloaaDoor
open Go.RowKit Go.Sz

set_option maxRecDepth 100000 in
set_option maxHeartbeats 3200000 in
/-- a list at the greatest depth -/
theorem rvalue_3deep {B : Nat} {all : List UInt8} {pos : Nat} {w : World} (h : RRd w B all pos false) (hlt : pos < all.length) (h1 : all[pos].toNat = 3) :
    Calls Tryd.prog 57 #[.pointer (some ⟨B, 0, none⟩), .int .i64 16] w fun e w' => rvPost w B all (headP (fun _ _ => none) (all.drop pos)) e w' ∧ Turn B w w' := by
  have HP : Hid (headP (fun _ _ => none) (all.drop pos) = none) := Lib.hid (by
    rw [drop_cons hlt]
    simp only [headP, h1]
    simp
    split <;> rfl)
  have hplt := h.lt
  have HN := Lib.hid fun (W : World) (hE : Ext w W) => next_ok (h.ext hE) hlt
  rw [h1] at HN
  clear h h1
  go_enter Tryd.func57, Tryd.ntmps57
  go_wp2_with fail
  have hE0 := (Ext.refl w).alloc (.cells #[.int .i64 0, .int .i64 0, .string ⟨#[]⟩, .slice none 0 0] 59)
  have hB0 := Box.new w (.int .i64 0) (.int .i64 0) (.string ⟨#[]⟩) (.slice none 0 0) 59
  generalize (w.alloc (.cells #[.int .i64 0, .int .i64 0, .string ⟨#[]⟩, .slice none 0 0] 59)) = w0 at *
  refine (HN.out _ hE0).mono ?_
  rintro e w1 ⟨rfl, hR1, hT1⟩
  have hB1 := hB0.turn hT1 (by omega)
  have hT1' := (Turn.of_ext hE0).trans hT1
  go_wp2_with fail
  refine (refNumber_any hR1).mono ?_
  rintro e w2 ⟨hpost, hT2⟩
  have hB2 := hB1.turn hT2 (by omega)
  have hT2' := hT1'.trans hT2
  have HB2 := Lib.hid hB2
  obtain ⟨u, hu, pos', bad, he, hR2, hHP⟩ : ∃ u : Nat, u < 18446744073709551616 ∧ ∃ (pos' : Nat) (bad : Bool), e = .returned (.int .u64 u) ∧ RRd w2 B all pos' bad ∧ lenP (all.drop (pos + 1)) = (if bad = true then none else if u ≤ all.length - pos' then some (u, all.drop pos') else none) := by
    unfold lenP
    cases hn : numP 0 0 (all.drop (pos + 1)) with
    | none =>
      rw [hn] at hpost
      obtain ⟨he, pos', hr⟩ := hpost
      exact ⟨0, by omega, pos', true, he, hr, rfl⟩
    | some nr =>
      obtain ⟨u, r⟩ := nr
      rw [hn] at hpost
      obtain ⟨he, pos', rfl, hr⟩ := hpost
      exact ⟨u, (numP_lt _ 0 0 _ _ hn (by simp) (by omega)).1, pos', false, he, hr, by simp⟩
  subst he
  have HHP := Lib.hid hHP
  have HR2 := Lib.hid hR2
  clear hpost hHP hR2 hR1 hB0 hB1 HN
  obtain ⟨b0, b1, b2, b3, bz⟩ := hB2
  have z0 := bz 0
  have z1 := bz 1
  have z2 := bz 2
  have z3 := bz 3
  obtain ⟨ao, cap, hc0, hs, hblk⟩ := HR2.out.ex
  have hc1 := HR2.out.c1
  have hc2 := HR2.out.c2
  have hy1 := HR2.out.z 1
  have hy2 := HR2.out.z 2
  have hle := HR2.out.le
  have hmax : all.length ≤ 9223372036854775807 := by have h1 := hs.le; have h2 := hs.max; rw [br_length] at h1; omega
  have hne1 : ¬ B = w.heap.size := by omega
  have hne2 : ¬ w.heap.size = B := by omega
  have HS := Lib.hid hs
  have HBK := Lib.hid hblk
  clear hs hblk
  have HK := Lib.hid fun (W : World) (h : Ext w2 W) => (⟨h.cell hc0, h.cell hc1, h.cell hc2⟩ : W.cell? ⟨B, 0, none⟩ = _ ∧ W.cell? ⟨B, 1, none⟩ = _ ∧ W.cell? ⟨B, 2, none⟩ = _)
  have hcase : bad = true ∨ (bad = false ∧ (all.length : Int) - (pos' : Int) < (u : Int)) ∨ (bad = false ∧ ¬ ((all.length : Int) - (pos' : Int) < (u : Int))) := by
    cases bad with
    | true => exact .inl rfl
    | false =>
      by_cases h : (all.length : Int) - (pos' : Int) < (u : Int)
      · exact .inr (.inl ⟨rfl, h⟩)
      · exact .inr (.inr ⟨rfl, h⟩)
  have hw1 : IntKind.i64.wrap ((all.length : Int) - (pos' : Int)) = (all.length : Int) - (pos' : Int) := by simp [IntKind.wrap, IntKind.bits, IntKind.signed]; omega
  have hw2 : IntKind.u64.wrap ((all.length : Int) - (pos' : Int)) = (all.length : Int) - (pos' : Int) := u64_small _ (by omega) (by omega)
  rcases hcase with rfl | ⟨rfl, q1⟩ | ⟨rfl, q1⟩
  · skip
    go_wp2_with fail
    go_quiet (fail)
    have hEq := (Ext.refl w2).drewN nq
    generalize w2.drewN nq = wq at *
    have HRq := Lib.hid (HR2.out.ext hEq)
    have HBq := Lib.hid (HB2.out.ext hEq)
    have HTq := Lib.hid (hT2'.trans (Turn.of_ext hEq))
    clear hc0 hc1 hc2 hy1 hy2 b0 b1 b2 b3 bz z0 z1 z2 z3
    obtain ⟨b0, b1, b2, b3, bz⟩ := HBq.out
    have z0 := bz 0
    have z1 := bz 1
    have z2 := bz 2
    have z3 := bz 3
    have hc1 := HRq.out.c1
    have hc2 := HRq.out.c2
    have hy1 := HRq.out.z 1
    have hy2 := HRq.out.z 2
    go_wp2_with fail
    obtain ⟨f1, f2, f3, f4⟩ := fin4 (w := w) (HBq.out.keep (heap_setCell_far wq ⟨B, 2, none⟩ (.bool true) _ hne2)) (HRq.out.setBad true) (by omega) (rep_zero _ (fun _ => False)) (by simp) (HTq.out.trans (Turn.setCell wq ⟨B, 2, none⟩ _)) (Nat.le_refl _)
    generalize (((((wq.setCell ⟨B, 2, none⟩ (.bool true)).setCell ⟨w.heap.size, 0, none⟩ (.int .i64 0)).setCell ⟨w.heap.size, 1, none⟩ (.int .i64 0)).setCell ⟨w.heap.size, 2, none⟩ (.string ⟨#[]⟩)).setCell ⟨w.heap.size, 3, none⟩ (.slice none 0 0)) = w5 at *
    obtain ⟨e0, e1, e2, e3, ez⟩ := f1
    refine ⟨rfl, .agg #[.int .i64 0, .int .i64 0, .string ⟨#[]⟩, .slice none 0 0], ?_, ?_⟩
    · simp [results, Tryd.results57, go_sem, e0, e1, e2, e3]
    · exact ⟨⟨_, _, _, _, true, rfl, f3, by simp, f2, by rw [HP.out]; rfl⟩, f4⟩
  · skip
    go_wp2_with fail
    go_quiet (fail)
    have hEq := (Ext.refl w2).drewN nq
    generalize w2.drewN nq = wq at *
    have HRq := Lib.hid (HR2.out.ext hEq)
    have HBq := Lib.hid (HB2.out.ext hEq)
    have HTq := Lib.hid (hT2'.trans (Turn.of_ext hEq))
    clear hc0 hc1 hc2 hy1 hy2 b0 b1 b2 b3 bz z0 z1 z2 z3
    obtain ⟨b0, b1, b2, b3, bz⟩ := HBq.out
    have z0 := bz 0
    have z1 := bz 1
    have z2 := bz 2
    have z3 := bz 3
    have hc1 := HRq.out.c1
    have hc2 := HRq.out.c2
    have hy1 := HRq.out.z 1
    have hy2 := HRq.out.z 2
    go_wp2_with fail
    obtain ⟨f1, f2, f3, f4⟩ := fin4 (w := w) (HBq.out.keep (heap_setCell_far wq ⟨B, 2, none⟩ (.bool true) _ hne2)) (HRq.out.setBad true) (by omega) (rep_zero _ (fun _ => False)) (by simp) (HTq.out.trans (Turn.setCell wq ⟨B, 2, none⟩ _)) (Nat.le_refl _)
    generalize (((((wq.setCell ⟨B, 2, none⟩ (.bool true)).setCell ⟨w.heap.size, 0, none⟩ (.int .i64 0)).setCell ⟨w.heap.size, 1, none⟩ (.int .i64 0)).setCell ⟨w.heap.size, 2, none⟩ (.string ⟨#[]⟩)).setCell ⟨w.heap.size, 3, none⟩ (.slice none 0 0)) = w5 at *
    obtain ⟨e0, e1, e2, e3, ez⟩ := f1
    refine ⟨rfl, .agg #[.int .i64 0, .int .i64 0, .string ⟨#[]⟩, .slice none 0 0], ?_, ?_⟩
    · simp [results, Tryd.results57, go_sem, e0, e1, e2, e3]
    · exact ⟨⟨_, _, _, _, true, rfl, f3, by simp, f2, by rw [HP.out]; rfl⟩, f4⟩
  · skip
    go_wp2_with fail
    go_quiet (fail)
    have hEq := (Ext.refl w2).drewN nq
    generalize w2.drewN nq = wq at *
    have HRq := Lib.hid (HR2.out.ext hEq)
    have HBq := Lib.hid (HB2.out.ext hEq)
    have HTq := Lib.hid (hT2'.trans (Turn.of_ext hEq))
    clear hc0 hc1 hc2 hy1 hy2 b0 b1 b2 b3 bz z0 z1 z2 z3
    obtain ⟨b0, b1, b2, b3, bz⟩ := HBq.out
    have z0 := bz 0
    have z1 := bz 1
    have z2 := bz 2
    have z3 := bz 3
    have hc1 := HRq.out.c1
    have hc2 := HRq.out.c2
    have hy1 := HRq.out.z 1
    have hy2 := HRq.out.z 2
    go_wp2_with fail
    obtain ⟨f1, f2, f3, f4⟩ := fin4 (w := w) (HBq.out.keep (heap_setCell_far wq ⟨B, 2, none⟩ (.bool true) _ hne2)) (HRq.out.setBad true) (by omega) (rep_zero _ (fun _ => False)) (by simp) (HTq.out.trans (Turn.setCell wq ⟨B, 2, none⟩ _)) (Nat.le_refl _)
    generalize (((((wq.setCell ⟨B, 2, none⟩ (.bool true)).setCell ⟨w.heap.size, 0, none⟩ (.int .i64 0)).setCell ⟨w.heap.size, 1, none⟩ (.int .i64 0)).setCell ⟨w.heap.size, 2, none⟩ (.string ⟨#[]⟩)).setCell ⟨w.heap.size, 3, none⟩ (.slice none 0 0)) = w5 at *
    obtain ⟨e0, e1, e2, e3, ez⟩ := f1
    refine ⟨rfl, .agg #[.int .i64 0, .int .i64 0, .string ⟨#[]⟩, .slice none 0 0], ?_, ?_⟩
    · simp [results, Tryd.results57, go_sem, e0, e1, e2, e3]
    · exact ⟨⟨_, _, _, _, true, rfl, f3, by simp, f2, by rw [HP.out]; rfl⟩, f4⟩

/-- a value read -/
theorem rvalue_any {B : Nat} {all : List UInt8} (hal : all.length ≤ 1000000) : ∀ (d : Nat) (_ : d ≤ 16) (pos : Nat) (w : World), RRd w B all pos false →
    Calls Tryd.prog 57 #[.pointer (some ⟨B, 0, none⟩), .int .i64 (16 - (d : Int))] w fun e w' => rvPost w B all (valP d (all.drop pos)) e w' ∧ Turn B w w' := by
  intro d
  induction d with
  | zero =>
    intro _ pos w h
    by_cases hend : pos = all.length
    · subst hend
      exact rvalue_nil h _ _
    · have hlt : pos < all.length := by have := h.le; omega
      by_cases h1 : all[pos].toNat = 1
      · exact rvalue_1 h hlt h1 _ _
      · by_cases h2 : all[pos].toNat = 2
        · exact rvalue_2 h hlt h2 _ _
        · by_cases h3 : all[pos].toNat = 3
          · exact rvalue_3deep h hlt h3
          · exact rvalue_out h hlt h1 h2 h3 _ _
  | succ d ih =>
    intro hd pos w h
    by_cases hend : pos = all.length
    · subst hend
      exact rvalue_nil h _ _
    · have hlt : pos < all.length := by have := h.le; omega
      by_cases h1 : all[pos].toNat = 1
      · exact rvalue_1 h hlt h1 _ _
      · by_cases h2 : all[pos].toNat = 2
        · exact rvalue_2 h hlt h2 _ _
        · by_cases h3 : all[pos].toNat = 3
          · refine rvalue_3 h hlt h3 _ (by omega) (by omega) hal (valP d) fun pos w hr => ?_
            rw [show (16 - ((d + 1 : Nat) : Int)) + 1 = 16 - (d : Int) by omega]
            exact ih (by omega) pos w hr
          · exact rvalue_out h hlt h1 h2 h3 _ _
end Go.Proofs.YtahaplioegeloaaDoor
