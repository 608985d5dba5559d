/- Waiting: the laws Order and Back. -/
import Derived.Test.YtbhpeecebcihkaaWY
namespace Go.Proofs.Ytbhpeecebcihkaa
open Go.RowKit Go.Sz
set_option maxRecDepth 100000 in
set_option maxHeartbeats 12800000 in
theorem law_order (l : List Wt) (x y : Wt) (ao : Option Addr) (cap : Nat) (w : World) (h : RepW w ao cap l) : Calls Try.prog 6 #[.slice ao l.length cap, .agg x.enc.toArray, .agg y.enc.toArray] w fun e w' => e = .returned (.bool true) ∧ Ext w w' := by
  unfold Wt.enc
  have hX0 : Ext w ((w.alloc (.cells #[.int .i64 x.s, .int .i64 x.a, .int .i64 x.b, .int .i64 x.k, .int .i64 x.t] 26)).alloc (.cells #[.int .i64 y.s, .int .i64 y.a, .int .i64 y.b, .int .i64 y.k, .int .i64 y.t] 26)) := ((Ext.refl w).alloc _).alloc _
  have d0 : ((w.alloc (.cells #[.int .i64 x.s, .int .i64 x.a, .int .i64 x.b, .int .i64 x.k, .int .i64 x.t] 26)).alloc (.cells #[.int .i64 y.s, .int .i64 y.a, .int .i64 y.b, .int .i64 y.k, .int .i64 y.t] 26)).cell? ⟨w.heap.size, 0, none⟩ = some (.int .i64 x.s) := by simp
  have d1 : ((w.alloc (.cells #[.int .i64 x.s, .int .i64 x.a, .int .i64 x.b, .int .i64 x.k, .int .i64 x.t] 26)).alloc (.cells #[.int .i64 y.s, .int .i64 y.a, .int .i64 y.b, .int .i64 y.k, .int .i64 y.t] 26)).cell? ⟨w.heap.size, 1, none⟩ = some (.int .i64 x.a) := by simp
  have d2 : ((w.alloc (.cells #[.int .i64 x.s, .int .i64 x.a, .int .i64 x.b, .int .i64 x.k, .int .i64 x.t] 26)).alloc (.cells #[.int .i64 y.s, .int .i64 y.a, .int .i64 y.b, .int .i64 y.k, .int .i64 y.t] 26)).cell? ⟨w.heap.size, 2, none⟩ = some (.int .i64 x.b) := by simp
  have d3 : ((w.alloc (.cells #[.int .i64 x.s, .int .i64 x.a, .int .i64 x.b, .int .i64 x.k, .int .i64 x.t] 26)).alloc (.cells #[.int .i64 y.s, .int .i64 y.a, .int .i64 y.b, .int .i64 y.k, .int .i64 y.t] 26)).cell? ⟨w.heap.size, 3, none⟩ = some (.int .i64 x.k) := by simp
  have d4 : ((w.alloc (.cells #[.int .i64 x.s, .int .i64 x.a, .int .i64 x.b, .int .i64 x.k, .int .i64 x.t] 26)).alloc (.cells #[.int .i64 y.s, .int .i64 y.a, .int .i64 y.b, .int .i64 y.k, .int .i64 y.t] 26)).cell? ⟨w.heap.size, 4, none⟩ = some (.int .i64 x.t) := by simp
  have d5 : ((w.alloc (.cells #[.int .i64 x.s, .int .i64 x.a, .int .i64 x.b, .int .i64 x.k, .int .i64 x.t] 26)).alloc (.cells #[.int .i64 y.s, .int .i64 y.a, .int .i64 y.b, .int .i64 y.k, .int .i64 y.t] 26)).cell? ⟨w.heap.size + 1, 0, none⟩ = some (.int .i64 y.s) := by simp
  have d6 : ((w.alloc (.cells #[.int .i64 x.s, .int .i64 x.a, .int .i64 x.b, .int .i64 x.k, .int .i64 x.t] 26)).alloc (.cells #[.int .i64 y.s, .int .i64 y.a, .int .i64 y.b, .int .i64 y.k, .int .i64 y.t] 26)).cell? ⟨w.heap.size + 1, 1, none⟩ = some (.int .i64 y.a) := by simp
  have d7 : ((w.alloc (.cells #[.int .i64 x.s, .int .i64 x.a, .int .i64 x.b, .int .i64 x.k, .int .i64 x.t] 26)).alloc (.cells #[.int .i64 y.s, .int .i64 y.a, .int .i64 y.b, .int .i64 y.k, .int .i64 y.t] 26)).cell? ⟨w.heap.size + 1, 2, none⟩ = some (.int .i64 y.b) := by simp
  have d8 : ((w.alloc (.cells #[.int .i64 x.s, .int .i64 x.a, .int .i64 x.b, .int .i64 x.k, .int .i64 x.t] 26)).alloc (.cells #[.int .i64 y.s, .int .i64 y.a, .int .i64 y.b, .int .i64 y.k, .int .i64 y.t] 26)).cell? ⟨w.heap.size + 1, 3, none⟩ = some (.int .i64 y.k) := by simp
  have d9 : ((w.alloc (.cells #[.int .i64 x.s, .int .i64 x.a, .int .i64 x.b, .int .i64 x.k, .int .i64 x.t] 26)).alloc (.cells #[.int .i64 y.s, .int .i64 y.a, .int .i64 y.b, .int .i64 y.k, .int .i64 y.t] 26)).cell? ⟨w.heap.size + 1, 4, none⟩ = some (.int .i64 y.t) := by simp
  have HD : Hid (∀ W, Ext ((w.alloc (.cells #[.int .i64 x.s, .int .i64 x.a, .int .i64 x.b, .int .i64 x.k, .int .i64 x.t] 26)).alloc (.cells #[.int .i64 y.s, .int .i64 y.a, .int .i64 y.b, .int .i64 y.k, .int .i64 y.t] 26)) W → W.cell? ⟨w.heap.size, 0, none⟩ = some (.int .i64 x.s) ∧ W.cell? ⟨w.heap.size, 1, none⟩ = some (.int .i64 x.a) ∧ W.cell? ⟨w.heap.size, 2, none⟩ = some (.int .i64 x.b) ∧ W.cell? ⟨w.heap.size, 3, none⟩ = some (.int .i64 x.k) ∧ W.cell? ⟨w.heap.size, 4, none⟩ = some (.int .i64 x.t) ∧ W.cell? ⟨w.heap.size + 1, 0, none⟩ = some (.int .i64 y.s) ∧ W.cell? ⟨w.heap.size + 1, 1, none⟩ = some (.int .i64 y.a) ∧ W.cell? ⟨w.heap.size + 1, 2, none⟩ = some (.int .i64 y.b) ∧ W.cell? ⟨w.heap.size + 1, 3, none⟩ = some (.int .i64 y.k) ∧ W.cell? ⟨w.heap.size + 1, 4, none⟩ = some (.int .i64 y.t)) := Lib.hid fun W hE => ⟨hE.cell d0, hE.cell d1, hE.cell d2, hE.cell d3, hE.cell d4, hE.cell d5, hE.cell d6, hE.cell d7, hE.cell d8, hE.cell d9⟩
  have HX0 := Lib.hid hX0
  have HR := Lib.hid (h.ext hX0)
  have HX := Lib.hid (Ext.refl ((w.alloc (.cells #[.int .i64 x.s, .int .i64 x.a, .int .i64 x.b, .int .i64 x.k, .int .i64 x.t] 26)).alloc (.cells #[.int .i64 y.s, .int .i64 y.a, .int .i64 y.b, .int .i64 y.k, .int .i64 y.t] 26)))
  clear hX0 d0 d1 d2 d3 d4 d5 d6 d7 d8 d9 h
  go_enter Try.func6, Try.ntmps6
  go_wp2_with fail
  generalize ((w.alloc (.cells #[.int .i64 x.s, .int .i64 x.a, .int .i64 x.b, .int .i64 x.k, .int .i64 x.t] 26)).alloc (.cells #[.int .i64 y.s, .int .i64 y.a, .int .i64 y.b, .int .i64 y.k, .int .i64 y.t] 26)) = w0 at *
  refine (sane_any _).mono ?_
  rintro e v1 ⟨rfl, hE⟩
  have HR := Lib.hid (HR.out.ext hE)
  have HX := Lib.hid (HX.out.trans hE)
  clear hE
  go_wp2_with fail
  by_cases hl : l.length ≤ 40
  · have hb : l.length ≤ 100000 := by omega
    have hl2 : (l.length : Int) ≤ 40 := by omega
    have HL := Lib.hid hl
    have HEQ := Lib.hid (order_iff (l := l) (x := x) (y := y))
    have HIS := Lib.hid (order_is (l := l) (x := x) (y := y))
    have HO1 := Lib.hid (joinW_or l x)
    have HO2 := Lib.hid (joinW_or l y)
    have HO3 := Lib.hid (joinW_or (joinW l x).1 y)
    have HO4 := Lib.hid (joinW_or (joinW l y).1 x)
    have HL1 := Lib.hid (joinW_len l x)
    have HL2 := Lib.hid (joinW_len l y)
    obtain ⟨⟨z1, e1⟩, h1⟩ : ∃ r, joinW l x = r := ⟨_, rfl⟩
    obtain ⟨⟨z2, e2⟩, h2⟩ : ∃ r, joinW l y = r := ⟨_, rfl⟩
    rw [h1] at HEQ HIS HO1 HO3 HL1
    rw [h2] at HEQ HIS HO2 HO4 HL2
    obtain ⟨⟨z3, e3⟩, h3⟩ : ∃ r, joinW z1 y = r := ⟨_, rfl⟩
    obtain ⟨⟨z4, e4⟩, h4⟩ : ∃ r, joinW z2 x = r := ⟨_, rfl⟩
    try dsimp only at HEQ HIS HO1 HO2 HO3 HO4 HL1 HL2
    rw [h3] at HEQ HIS HO3
    rw [h4] at HEQ HIS HO4
    have HJ1 := Lib.hid h1
    have HJ2 := Lib.hid h2
    have HJ3 := Lib.hid h3
    have HJ4 := Lib.hid h4
    have hb1 : z1.length ≤ 100000 := by have := HL1.out; (try dsimp only at this); omega
    have hb2 : z2.length ≤ 100000 := by have := HL2.out; (try dsimp only at this); omega
    have HB := Lib.hid hb
    have HB1 := Lib.hid hb1
    have HB2 := Lib.hid hb2
    have hf := decide_eq_true hl
    clear h1 h2 h3 h4 hl hb hb1 hb2
    refine (fw_as hf HR.out).mono ?_
    rintro e v2 ⟨rfl, hE⟩
    have HR := Lib.hid (HR.out.ext hE)
    have HX := Lib.hid (HX.out.trans hE)
    clear hE
    obtain ⟨d0, d1, d2, d3, d4, d5, d6, d7, d8, d9⟩ := HD.out v2 HX.out
    go_wp2_with fail
    clear d0 d1 d2 d3 d4 d5 d6 d7 d8 d9
    refine (jn_as HJ1.out HR.out HB.out).mono ?_
    rintro e v3 ⟨a1, c1, rfl, hR, hE⟩
    have HR := Lib.hid (HR.out.ext hE)
    have RZ1 := Lib.hid (show RepW v3 a1 c1 z1 from hR)
    have HX := Lib.hid (HX.out.trans hE)
    clear hE
    obtain ⟨d0, d1, d2, d3, d4, d5, d6, d7, d8, d9⟩ := HD.out v3 HX.out
    go_wp2_with fail
    clear d0 d1 d2 d3 d4 d5 d6 d7 d8 d9
    refine (jn_as HJ2.out HR.out HB.out).mono ?_
    rintro e v4 ⟨a2, c2, rfl, hR, hE⟩
    have HR := Lib.hid (HR.out.ext hE)
    have RZ1 := Lib.hid (RZ1.out.ext hE)
    have RZ2 := Lib.hid (show RepW v4 a2 c2 z2 from hR)
    have HX := Lib.hid (HX.out.trans hE)
    clear hE
    obtain ⟨d0, d1, d2, d3, d4, d5, d6, d7, d8, d9⟩ := HD.out v4 HX.out
    go_wp2_with fail
    clear d0 d1 d2 d3 d4 d5 d6 d7 d8 d9
    refine (jn_as HJ3.out RZ1.out HB1.out).mono ?_
    rintro e v5 ⟨a3, c3, rfl, hR, hE⟩
    have HR := Lib.hid (HR.out.ext hE)
    have RZ1 := Lib.hid (RZ1.out.ext hE)
    have RZ2 := Lib.hid (RZ2.out.ext hE)
    have RZ3 := Lib.hid (show RepW v5 a3 c3 z3 from hR)
    have HX := Lib.hid (HX.out.trans hE)
    clear hE
    obtain ⟨d0, d1, d2, d3, d4, d5, d6, d7, d8, d9⟩ := HD.out v5 HX.out
    go_wp2_with fail
    clear d0 d1 d2 d3 d4 d5 d6 d7 d8 d9
    refine (jn_as HJ4.out RZ2.out HB2.out).mono ?_
    rintro e v6 ⟨a4, c4, rfl, hR, hE⟩
    have HR := Lib.hid (HR.out.ext hE)
    have RZ1 := Lib.hid (RZ1.out.ext hE)
    have RZ2 := Lib.hid (RZ2.out.ext hE)
    have RZ3 := Lib.hid (RZ3.out.ext hE)
    have RZ4 := Lib.hid (show RepW v6 a4 c4 z4 from hR)
    have HX := Lib.hid (HX.out.trans hE)
    clear hE
    obtain rfl | rfl : e1 = 0 ∨ e1 = 260 := HO1.out
    · obtain rfl | rfl : e2 = 0 ∨ e2 = 260 := HO2.out
      · obtain rfl | rfl : e3 = 0 ∨ e3 = 260 := HO3.out
        · obtain rfl | rfl : e4 = 0 ∨ e4 = 260 := HO4.out
          · obtain ⟨i1, i2, i3⟩ := HIS.out ⟨rfl, rfl⟩
            try dsimp only at i1 i2 i3
            subst i1
            have HI2 := Lib.hid i2
            have i4 : ((z3.length : Nat) : Int) = (l.length : Int) + 2 := by omega
            have hb3 : z3.length ≤ 100000 := by have := HL.out; omega
            have HB3 := Lib.hid hb3
            have HI4 := Lib.hid i4
            clear i2 i3 i4 hb3
            go_wp2_with fail
            refine (sm_as (same_self _) RZ3.out RZ4.out).mono ?_
            rintro e v7 ⟨rfl, hE⟩
            have HR := Lib.hid (HR.out.ext hE)
            have RZ1 := Lib.hid (RZ1.out.ext hE)
            have RZ2 := Lib.hid (RZ2.out.ext hE)
            have RZ3 := Lib.hid (RZ3.out.ext hE)
            have RZ4 := Lib.hid (RZ4.out.ext hE)
            have HX := Lib.hid (HX.out.trans hE)
            clear hE
            go_wp2_with fail
            refine (ck_as HI2.out RZ3.out HB3.out).mono ?_
            rintro e v8 ⟨rfl, hE⟩
            have HR := Lib.hid (HR.out.ext hE)
            have RZ1 := Lib.hid (RZ1.out.ext hE)
            have RZ2 := Lib.hid (RZ2.out.ext hE)
            have RZ3 := Lib.hid (RZ3.out.ext hE)
            have RZ4 := Lib.hid (RZ4.out.ext hE)
            have HX := Lib.hid (HX.out.trans hE)
            clear hE
            have i4 := HI4.out
            go_wp2_with fail
            go_ret
            exact ⟨ret_bool (by first | rfl | (simp; omega)), HX0.out.trans HX.out⟩
          · exact absurd (HEQ.out.1 ⟨rfl, rfl⟩) (by simp)
        · obtain rfl | rfl : e4 = 0 ∨ e4 = 260 := HO4.out
          · exact absurd (HEQ.out.2 ⟨rfl, rfl⟩) (by simp)
          · go_wp2_with fail
            go_ret
            exact ⟨rfl, HX0.out.trans HX.out⟩
      · obtain rfl | rfl : e3 = 0 ∨ e3 = 260 := HO3.out
        · obtain rfl | rfl : e4 = 0 ∨ e4 = 260 := HO4.out
          · exact absurd (HEQ.out.1 ⟨rfl, rfl⟩) (by simp)
          · exact absurd (HEQ.out.1 ⟨rfl, rfl⟩) (by simp)
        · obtain rfl | rfl : e4 = 0 ∨ e4 = 260 := HO4.out
          · go_wp2_with fail
            go_ret
            exact ⟨rfl, HX0.out.trans HX.out⟩
          · go_wp2_with fail
            go_ret
            exact ⟨rfl, HX0.out.trans HX.out⟩
    · obtain rfl | rfl : e2 = 0 ∨ e2 = 260 := HO2.out
      · obtain rfl | rfl : e3 = 0 ∨ e3 = 260 := HO3.out
        · obtain rfl | rfl : e4 = 0 ∨ e4 = 260 := HO4.out
          · exact absurd (HEQ.out.2 ⟨rfl, rfl⟩) (by simp)
          · go_wp2_with fail
            go_ret
            exact ⟨rfl, HX0.out.trans HX.out⟩
        · obtain rfl | rfl : e4 = 0 ∨ e4 = 260 := HO4.out
          · exact absurd (HEQ.out.2 ⟨rfl, rfl⟩) (by simp)
          · go_wp2_with fail
            go_ret
            exact ⟨rfl, HX0.out.trans HX.out⟩
      · obtain rfl | rfl : e3 = 0 ∨ e3 = 260 := HO3.out
        · obtain rfl | rfl : e4 = 0 ∨ e4 = 260 := HO4.out
          · go_wp2_with fail
            go_ret
            exact ⟨rfl, HX0.out.trans HX.out⟩
          · go_wp2_with fail
            go_ret
            exact ⟨rfl, HX0.out.trans HX.out⟩
        · obtain rfl | rfl : e4 = 0 ∨ e4 = 260 := HO4.out
          · go_wp2_with fail
            go_ret
            exact ⟨rfl, HX0.out.trans HX.out⟩
          · go_wp2_with fail
            go_ret
            exact ⟨rfl, HX0.out.trans HX.out⟩
  · have hf := decide_eq_false hl
    clear hl
    refine (fw_as hf HR.out).mono ?_
    rintro e v2 ⟨rfl, hE⟩
    have HR := Lib.hid (HR.out.ext hE)
    have HX := Lib.hid (HX.out.trans hE)
    clear hE
    go_wp2_with fail
    go_ret
    exact ⟨rfl, HX0.out.trans HX.out⟩
set_option maxRecDepth 100000 in
set_option maxHeartbeats 12800000 in
theorem law_back (l : List Wt) (x : Wt) (ao : Option Addr) (cap : Nat) (w : World) (h : RepW w ao cap l) : Calls Try.prog 7 #[.slice ao l.length cap, .agg x.enc.toArray] w fun e w' => e = .returned (.bool true) ∧ Ext w w' := by
  have hs1 := h.max
  unfold Wt.enc
  have hX0 : Ext w (w.alloc (.cells #[.int .i64 x.s, .int .i64 x.a, .int .i64 x.b, .int .i64 x.k, .int .i64 x.t] 26)) := (Ext.refl w).alloc _
  have d0 : (w.alloc (.cells #[.int .i64 x.s, .int .i64 x.a, .int .i64 x.b, .int .i64 x.k, .int .i64 x.t] 26)).cell? ⟨w.heap.size, 0, none⟩ = some (.int .i64 x.s) := by simp
  have d1 : (w.alloc (.cells #[.int .i64 x.s, .int .i64 x.a, .int .i64 x.b, .int .i64 x.k, .int .i64 x.t] 26)).cell? ⟨w.heap.size, 1, none⟩ = some (.int .i64 x.a) := by simp
  have d2 : (w.alloc (.cells #[.int .i64 x.s, .int .i64 x.a, .int .i64 x.b, .int .i64 x.k, .int .i64 x.t] 26)).cell? ⟨w.heap.size, 2, none⟩ = some (.int .i64 x.b) := by simp
  have d3 : (w.alloc (.cells #[.int .i64 x.s, .int .i64 x.a, .int .i64 x.b, .int .i64 x.k, .int .i64 x.t] 26)).cell? ⟨w.heap.size, 3, none⟩ = some (.int .i64 x.k) := by simp
  have d4 : (w.alloc (.cells #[.int .i64 x.s, .int .i64 x.a, .int .i64 x.b, .int .i64 x.k, .int .i64 x.t] 26)).cell? ⟨w.heap.size, 4, none⟩ = some (.int .i64 x.t) := by simp
  have HD : Hid (∀ W, Ext (w.alloc (.cells #[.int .i64 x.s, .int .i64 x.a, .int .i64 x.b, .int .i64 x.k, .int .i64 x.t] 26)) W → W.cell? ⟨w.heap.size, 0, none⟩ = some (.int .i64 x.s) ∧ W.cell? ⟨w.heap.size, 1, none⟩ = some (.int .i64 x.a) ∧ W.cell? ⟨w.heap.size, 2, none⟩ = some (.int .i64 x.b) ∧ W.cell? ⟨w.heap.size, 3, none⟩ = some (.int .i64 x.k) ∧ W.cell? ⟨w.heap.size, 4, none⟩ = some (.int .i64 x.t)) := Lib.hid fun W hE => ⟨hE.cell d0, hE.cell d1, hE.cell d2, hE.cell d3, hE.cell d4⟩
  have HX0 := Lib.hid hX0
  have HR := Lib.hid (h.ext hX0)
  have HX := Lib.hid (Ext.refl (w.alloc (.cells #[.int .i64 x.s, .int .i64 x.a, .int .i64 x.b, .int .i64 x.k, .int .i64 x.t] 26)))
  clear hX0 d0 d1 d2 d3 d4 h
  go_enter Try.func7, Try.ntmps7
  go_wp2_with fail
  generalize (w.alloc (.cells #[.int .i64 x.s, .int .i64 x.a, .int .i64 x.b, .int .i64 x.k, .int .i64 x.t] 26)) = w0 at *
  refine (sane_any _).mono ?_
  rintro e v1 ⟨rfl, hE⟩
  have HR := Lib.hid (HR.out.ext hE)
  have HX := Lib.hid (HX.out.trans hE)
  clear hE
  go_wp2_with fail
  by_cases hl : l.length ≤ 40
  · have hb : l.length ≤ 100000 := by omega
    have HLL := Lib.hid hl
    have hl2 : (l.length : Int) ≤ 40 := by omega
    have HO1 := Lib.hid (joinW_or l x)
    have HL1 := Lib.hid (joinW_len l x)
    have HBJ := Lib.hid (back_join (l := l) (x := x))
    have HBD := Lib.hid (joinW_bad2 (l := l) (x := x))
    obtain ⟨⟨z1, e1⟩, h1⟩ : ∃ r, joinW l x = r := ⟨_, rfl⟩
    rw [h1] at HO1 HL1 HBJ HBD
    have HJ1 := Lib.hid h1
    have HB := Lib.hid hb
    have hb1 : z1.length ≤ 100000 := by have := HL1.out; (try dsimp only at this); omega
    have HB1 := Lib.hid hb1
    have hf := decide_eq_true hl
    clear h1 hl hb hb1
    have HCV : Hid (checkW l = if okLW l = true then 0 else 260) := Lib.hid rfl
    refine (fw_as hf HR.out).mono ?_
    rintro e v2 ⟨rfl, hE⟩
    have HR := Lib.hid (HR.out.ext hE)
    have HX := Lib.hid (HX.out.trans hE)
    clear hE
    obtain ⟨d0, d1, d2, d3, d4⟩ := HD.out v2 HX.out
    go_wp2_with fail
    clear d0 d1 d2 d3 d4
    refine (jn_as HJ1.out HR.out HB.out).mono ?_
    rintro e v3 ⟨a1, c1, rfl, hR, hE⟩
    have HR := Lib.hid (HR.out.ext hE)
    have RZ1 := Lib.hid (show RepW v3 a1 c1 z1 from hR)
    have HX := Lib.hid (HX.out.trans hE)
    clear hE
    obtain rfl | rfl : e1 = 0 ∨ e1 = 260 := HO1.out
    · obtain ⟨d0, d1, d2, d3, d4⟩ := HD.out v3 HX.out
      go_wp2_with fail
      clear d0 d1 d2 d3 d4
      refine (lv_as (HBJ.out (by first | rfl | trivial)) RZ1.out HB1.out).mono ?_
      rintro e v4 ⟨a2, c2, rfl, hR, hE⟩
      have HR := Lib.hid (HR.out.ext hE)
      have RZ1 := Lib.hid (RZ1.out.ext hE)
      have RY := Lib.hid (show RepW v4 a2 c2 l from hR)
      have HX := Lib.hid (HX.out.trans hE)
      clear hE
      go_wp2_with fail
      refine (sm_as (same_self _) RY.out HR.out).mono ?_
      rintro e v5 ⟨rfl, hE⟩
      have HR := Lib.hid (HR.out.ext hE)
      have RZ1 := Lib.hid (RZ1.out.ext hE)
      have RY := Lib.hid (RY.out.ext hE)
      have HX := Lib.hid (HX.out.trans hE)
      clear hE
      go_wp2_with fail
      cases hok : okLW l with
      | false =>
        exact absurd (congrArg Prod.snd (HBD.out hok)) (by simp)
      | true =>
        have HOK := Lib.hid hok
        have HC : Hid (checkW l = 0) := Lib.hid (by rw [HCV.out, hok]; rfl)
        clear hok
        refine (ck_as HC.out HR.out HB.out).mono ?_
        rintro e v6 ⟨rfl, hE⟩
        have HR := Lib.hid (HR.out.ext hE)
        have RZ1 := Lib.hid (RZ1.out.ext hE)
        have RY := Lib.hid (RY.out.ext hE)
        have HX := Lib.hid (HX.out.trans hE)
        clear hE
        go_wp2_with fail
        go_loopw [52] (fun iv wr => ∃ k : Nat, iv = .int .i64 k ∧ k ≤ l.length ∧ Ext w0 wr ∧ RepW wr ao cap l) (fun iv _ => l.length - (intOf iv).toNat)
        case atStart => exact ⟨0, rfl, by omega, HX.out, HR.out⟩
        case round =>
          obtain ⟨k, rfl, hk, hE, hR⟩ := hrel
          obtain ⟨wb, hwb⟩ : ∃ wb, wb = wr := ⟨_, rfl⟩
          subst hwb
          clear HX HR
          have HX := Lib.hid hE
          have HR := Lib.hid hR
          clear hE hR
          by_cases hlt : k < l.length
          · have hki : (k : Int) < (l.length : Int) := by omega
            obtain ⟨bb, o, rfl, c0, c1, c2, c3, c4⟩ := w_cells HR.out (Ext.refl _) hlt
            have HBL := Lib.hid (back_leave HOK.out hlt)
            generalize l[k] = v at *
            obtain ⟨q, hq⟩ : ∃ q, l.eraseIdx k = q := ⟨_, rfl⟩
            rw [hq] at HBL
            clear hq
            have hql : ((q.length : Nat) : Int) = (l.length : Int) - 1 := by have := HBL.out.2.2; omega
            have HBQ : Hid (q.length ≤ 100000) := Lib.hid (by have := HBL.out.2.2; have := HB.out; omega)
            have HQL := Lib.hid hql
            clear hql
            have hA : Ext wb (wb.alloc (.cells #[.int .i64 v.s, .int .i64 v.a, .int .i64 v.b, .int .i64 v.k, .int .i64 v.t] 26)) := (Ext.refl _).alloc _
            have t0 : (wb.alloc (.cells #[.int .i64 v.s, .int .i64 v.a, .int .i64 v.b, .int .i64 v.k, .int .i64 v.t] 26)).cell? ⟨wb.heap.size, 0, none⟩ = some (.int .i64 v.s) := by simp
            have t1 : (wb.alloc (.cells #[.int .i64 v.s, .int .i64 v.a, .int .i64 v.b, .int .i64 v.k, .int .i64 v.t] 26)).cell? ⟨wb.heap.size, 1, none⟩ = some (.int .i64 v.a) := by simp
            have t2 : (wb.alloc (.cells #[.int .i64 v.s, .int .i64 v.a, .int .i64 v.b, .int .i64 v.k, .int .i64 v.t] 26)).cell? ⟨wb.heap.size, 2, none⟩ = some (.int .i64 v.b) := by simp
            have t3 : (wb.alloc (.cells #[.int .i64 v.s, .int .i64 v.a, .int .i64 v.b, .int .i64 v.k, .int .i64 v.t] 26)).cell? ⟨wb.heap.size, 3, none⟩ = some (.int .i64 v.k) := by simp
            have t4 : (wb.alloc (.cells #[.int .i64 v.s, .int .i64 v.a, .int .i64 v.b, .int .i64 v.k, .int .i64 v.t] 26)).cell? ⟨wb.heap.size, 4, none⟩ = some (.int .i64 v.t) := by simp
            obtain ⟨BX, hBX⟩ : ∃ B, wb.heap.size = B := ⟨_, rfl⟩
            go_wp2_with fail
            generalize (wb.alloc (.cells #[.int .i64 v.s, .int .i64 v.a, .int .i64 v.b, .int .i64 v.k, .int .i64 v.t] 26)) = ya at *
            rw [hBX] at t0 t1 t2 t3 t4
            try rw [hBX]
            clear hBX
            have HV : Hid (∀ W, Ext ya W → W.cell? ⟨BX, 0, none⟩ = some (.int .i64 v.s) ∧ W.cell? ⟨BX, 1, none⟩ = some (.int .i64 v.a) ∧ W.cell? ⟨BX, 2, none⟩ = some (.int .i64 v.b) ∧ W.cell? ⟨BX, 3, none⟩ = some (.int .i64 v.k) ∧ W.cell? ⟨BX, 4, none⟩ = some (.int .i64 v.t)) := Lib.hid fun W hE => ⟨hE.cell t0, hE.cell t1, hE.cell t2, hE.cell t3, hE.cell t4⟩
            have HR := Lib.hid (HR.out.ext hA)
            have HX := Lib.hid (HX.out.trans hA)
            clear hA
            have HXA := HX
            clear HX
            have HX := Lib.hid (Ext.refl ya)
            clear t0 t1 t2 t3 t4 c0 c1 c2 c3 c4
            refine (lv_as HBL.out.1 HR.out HB.out).mono ?_
            rintro e v41 ⟨a2, c2, rfl, hR, hE⟩
            have HR := Lib.hid (HR.out.ext hE)
            have RQ := Lib.hid (show RepW v41 a2 c2 q from hR)
            have HX := Lib.hid (HX.out.trans hE)
            clear hE
            obtain ⟨t0, t1, t2, t3, t4⟩ := HV.out v41 HX.out
            go_wp2_with fail
            clear t0 t1 t2 t3 t4
            refine (jn_as HBL.out.2.1 RQ.out HBQ.out).mono ?_
            rintro e v42 ⟨a3, c3, rfl, hR, hE⟩
            have HR := Lib.hid (HR.out.ext hE)
            have RQ := Lib.hid (RQ.out.ext hE)
            have RZ := Lib.hid (show RepW v42 a3 c3 l from hR)
            have HX := Lib.hid (HX.out.trans hE)
            clear hE
            have hql := HQL.out
            have hqn : ((q.length : Int) != (l.length : Int) - 1) = false := by rw [hql]; simp
            go_wp2_with fail
            clear hql hqn
            refine (sm_as (same_self _) RZ.out HR.out).mono ?_
            rintro e v43 ⟨rfl, hE⟩
            have HR := Lib.hid (HR.out.ext hE)
            have RQ := Lib.hid (RQ.out.ext hE)
            have RZ := Lib.hid (RZ.out.ext hE)
            have HX := Lib.hid (HX.out.trans hE)
            clear hE
            go_wp2_with fail
            go_roundw
            case rel => exact ⟨k + 1, by go_num, by omega, HXA.out.trans HX.out, HR.out⟩
            case measure => simp [intOf] <;> omega
          · have hki : ¬ (k : Int) < (l.length : Int) := by omega
            go_wp2_with fail
            go_ret
            exact ⟨rfl, HX0.out.trans HX.out⟩
    · go_wp2_with fail
      cases hok : okLW l with
      | false =>
        have HC : Hid (checkW l = 260) := Lib.hid (by rw [HCV.out, hok]; rfl)
        clear hok
        refine (ck_as HC.out HR.out HB.out).mono ?_
        rintro e v4 ⟨rfl, hE⟩
        have HR := Lib.hid (HR.out.ext hE)
        have RZ1 := Lib.hid (RZ1.out.ext hE)
        have HX := Lib.hid (HX.out.trans hE)
        clear hE
        go_wp2_with fail
        go_ret
        exact ⟨rfl, HX0.out.trans HX.out⟩
      | true =>
        have HOK := Lib.hid hok
        have HC : Hid (checkW l = 0) := Lib.hid (by rw [HCV.out, hok]; rfl)
        clear hok
        refine (ck_as HC.out HR.out HB.out).mono ?_
        rintro e v4 ⟨rfl, hE⟩
        have HR := Lib.hid (HR.out.ext hE)
        have RZ1 := Lib.hid (RZ1.out.ext hE)
        have HX := Lib.hid (HX.out.trans hE)
        clear hE
        go_wp2_with fail
        go_loopw [52] (fun iv wr => ∃ k : Nat, iv = .int .i64 k ∧ k ≤ l.length ∧ Ext w0 wr ∧ RepW wr ao cap l) (fun iv _ => l.length - (intOf iv).toNat)
        case atStart => exact ⟨0, rfl, by omega, HX.out, HR.out⟩
        case round =>
          obtain ⟨k, rfl, hk, hE, hR⟩ := hrel
          obtain ⟨wb, hwb⟩ : ∃ wb, wb = wr := ⟨_, rfl⟩
          subst hwb
          clear HX HR
          have HX := Lib.hid hE
          have HR := Lib.hid hR
          clear hE hR
          by_cases hlt : k < l.length
          · have hki : (k : Int) < (l.length : Int) := by omega
            obtain ⟨bb, o, rfl, c0, c1, c2, c3, c4⟩ := w_cells HR.out (Ext.refl _) hlt
            have HBL := Lib.hid (back_leave HOK.out hlt)
            generalize l[k] = v at *
            obtain ⟨q, hq⟩ : ∃ q, l.eraseIdx k = q := ⟨_, rfl⟩
            rw [hq] at HBL
            clear hq
            have hql : ((q.length : Nat) : Int) = (l.length : Int) - 1 := by have := HBL.out.2.2; omega
            have HBQ : Hid (q.length ≤ 100000) := Lib.hid (by have := HBL.out.2.2; have := HB.out; omega)
            have HQL := Lib.hid hql
            clear hql
            have hA : Ext wb (wb.alloc (.cells #[.int .i64 v.s, .int .i64 v.a, .int .i64 v.b, .int .i64 v.k, .int .i64 v.t] 26)) := (Ext.refl _).alloc _
            have t0 : (wb.alloc (.cells #[.int .i64 v.s, .int .i64 v.a, .int .i64 v.b, .int .i64 v.k, .int .i64 v.t] 26)).cell? ⟨wb.heap.size, 0, none⟩ = some (.int .i64 v.s) := by simp
            have t1 : (wb.alloc (.cells #[.int .i64 v.s, .int .i64 v.a, .int .i64 v.b, .int .i64 v.k, .int .i64 v.t] 26)).cell? ⟨wb.heap.size, 1, none⟩ = some (.int .i64 v.a) := by simp
            have t2 : (wb.alloc (.cells #[.int .i64 v.s, .int .i64 v.a, .int .i64 v.b, .int .i64 v.k, .int .i64 v.t] 26)).cell? ⟨wb.heap.size, 2, none⟩ = some (.int .i64 v.b) := by simp
            have t3 : (wb.alloc (.cells #[.int .i64 v.s, .int .i64 v.a, .int .i64 v.b, .int .i64 v.k, .int .i64 v.t] 26)).cell? ⟨wb.heap.size, 3, none⟩ = some (.int .i64 v.k) := by simp
            have t4 : (wb.alloc (.cells #[.int .i64 v.s, .int .i64 v.a, .int .i64 v.b, .int .i64 v.k, .int .i64 v.t] 26)).cell? ⟨wb.heap.size, 4, none⟩ = some (.int .i64 v.t) := by simp
            obtain ⟨BX, hBX⟩ : ∃ B, wb.heap.size = B := ⟨_, rfl⟩
            go_wp2_with fail
            generalize (wb.alloc (.cells #[.int .i64 v.s, .int .i64 v.a, .int .i64 v.b, .int .i64 v.k, .int .i64 v.t] 26)) = ya at *
            rw [hBX] at t0 t1 t2 t3 t4
            try rw [hBX]
            clear hBX
            have HV : Hid (∀ W, Ext ya W → W.cell? ⟨BX, 0, none⟩ = some (.int .i64 v.s) ∧ W.cell? ⟨BX, 1, none⟩ = some (.int .i64 v.a) ∧ W.cell? ⟨BX, 2, none⟩ = some (.int .i64 v.b) ∧ W.cell? ⟨BX, 3, none⟩ = some (.int .i64 v.k) ∧ W.cell? ⟨BX, 4, none⟩ = some (.int .i64 v.t)) := Lib.hid fun W hE => ⟨hE.cell t0, hE.cell t1, hE.cell t2, hE.cell t3, hE.cell t4⟩
            have HR := Lib.hid (HR.out.ext hA)
            have HX := Lib.hid (HX.out.trans hA)
            clear hA
            have HXA := HX
            clear HX
            have HX := Lib.hid (Ext.refl ya)
            clear t0 t1 t2 t3 t4 c0 c1 c2 c3 c4
            refine (lv_as HBL.out.1 HR.out HB.out).mono ?_
            rintro e v41 ⟨a2, c2, rfl, hR, hE⟩
            have HR := Lib.hid (HR.out.ext hE)
            have RQ := Lib.hid (show RepW v41 a2 c2 q from hR)
            have HX := Lib.hid (HX.out.trans hE)
            clear hE
            obtain ⟨t0, t1, t2, t3, t4⟩ := HV.out v41 HX.out
            go_wp2_with fail
            clear t0 t1 t2 t3 t4
            refine (jn_as HBL.out.2.1 RQ.out HBQ.out).mono ?_
            rintro e v42 ⟨a3, c3, rfl, hR, hE⟩
            have HR := Lib.hid (HR.out.ext hE)
            have RQ := Lib.hid (RQ.out.ext hE)
            have RZ := Lib.hid (show RepW v42 a3 c3 l from hR)
            have HX := Lib.hid (HX.out.trans hE)
            clear hE
            have hql := HQL.out
            have hqn : ((q.length : Int) != (l.length : Int) - 1) = false := by rw [hql]; simp
            go_wp2_with fail
            clear hql hqn
            refine (sm_as (same_self _) RZ.out HR.out).mono ?_
            rintro e v43 ⟨rfl, hE⟩
            have HR := Lib.hid (HR.out.ext hE)
            have RQ := Lib.hid (RQ.out.ext hE)
            have RZ := Lib.hid (RZ.out.ext hE)
            have HX := Lib.hid (HX.out.trans hE)
            clear hE
            go_wp2_with fail
            go_roundw
            case rel => exact ⟨k + 1, by go_num, by omega, HXA.out.trans HX.out, HR.out⟩
            case measure => simp [intOf] <;> omega
          · have hki : ¬ (k : Int) < (l.length : Int) := by omega
            go_wp2_with fail
            go_ret
            exact ⟨rfl, HX0.out.trans HX.out⟩
  · have hf := decide_eq_false hl
    clear hl
    refine (fw_as hf HR.out).mono ?_
    rintro e v2 ⟨rfl, hE⟩
    have HR := Lib.hid (HR.out.ext hE)
    have HX := Lib.hid (HX.out.trans hE)
    clear hE
    go_wp2_with fail
    go_ret
    exact ⟨rfl, HX0.out.trans HX.out⟩
end Go.Proofs.Ytbhpeecebcihkaa
