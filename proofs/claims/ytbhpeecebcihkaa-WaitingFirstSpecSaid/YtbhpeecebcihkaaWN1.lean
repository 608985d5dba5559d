/- Waiting: the laws JoinSpec and FirstSpec. -/
import Derived.Test.YtbhpeecebcihkaaWSa
namespace Go.Proofs.Ytbhpeecebcihkaa
open Go.RowKit Go.Sz
set_option maxRecDepth 100000 in
set_option maxHeartbeats 12800000 in
theorem law_join (l : List Wt) (x : Wt) (s a b : Int) (ao : Option Addr) (cap : Nat) (w : World) (h : RepW w ao cap l) : Calls Try.prog 3 #[.slice ao l.length cap, .agg x.enc.toArray, .int .i64 s, .agg #[.int .i64 a, .int .i64 b]] w fun e w' => e = .returned (.bool true) ∧ Ext w w' := by
  unfold Wt.enc
  have hX0 : Ext w ((w.alloc (.cells #[.int .i64 x.s, .int .i64 x.a, .int .i64 x.b, .int .i64 x.k, .int .i64 x.t] 26)).alloc (.cells #[.int .i64 a, .int .i64 b] 24)) := ((Ext.refl w).alloc _).alloc _
  have d0 : ((w.alloc (.cells #[.int .i64 x.s, .int .i64 x.a, .int .i64 x.b, .int .i64 x.k, .int .i64 x.t] 26)).alloc (.cells #[.int .i64 a, .int .i64 b] 24)).cell? ⟨w.heap.size, 0, none⟩ = some (.int .i64 x.s) := by simp
  have d1 : ((w.alloc (.cells #[.int .i64 x.s, .int .i64 x.a, .int .i64 x.b, .int .i64 x.k, .int .i64 x.t] 26)).alloc (.cells #[.int .i64 a, .int .i64 b] 24)).cell? ⟨w.heap.size, 1, none⟩ = some (.int .i64 x.a) := by simp
  have d2 : ((w.alloc (.cells #[.int .i64 x.s, .int .i64 x.a, .int .i64 x.b, .int .i64 x.k, .int .i64 x.t] 26)).alloc (.cells #[.int .i64 a, .int .i64 b] 24)).cell? ⟨w.heap.size, 2, none⟩ = some (.int .i64 x.b) := by simp
  have d3 : ((w.alloc (.cells #[.int .i64 x.s, .int .i64 x.a, .int .i64 x.b, .int .i64 x.k, .int .i64 x.t] 26)).alloc (.cells #[.int .i64 a, .int .i64 b] 24)).cell? ⟨w.heap.size, 3, none⟩ = some (.int .i64 x.k) := by simp
  have d4 : ((w.alloc (.cells #[.int .i64 x.s, .int .i64 x.a, .int .i64 x.b, .int .i64 x.k, .int .i64 x.t] 26)).alloc (.cells #[.int .i64 a, .int .i64 b] 24)).cell? ⟨w.heap.size, 4, none⟩ = some (.int .i64 x.t) := by simp
  have d5 : ((w.alloc (.cells #[.int .i64 x.s, .int .i64 x.a, .int .i64 x.b, .int .i64 x.k, .int .i64 x.t] 26)).alloc (.cells #[.int .i64 a, .int .i64 b] 24)).cell? ⟨w.heap.size + 1, 0, none⟩ = some (.int .i64 a) := by simp
  have d6 : ((w.alloc (.cells #[.int .i64 x.s, .int .i64 x.a, .int .i64 x.b, .int .i64 x.k, .int .i64 x.t] 26)).alloc (.cells #[.int .i64 a, .int .i64 b] 24)).cell? ⟨w.heap.size + 1, 1, none⟩ = some (.int .i64 b) := by simp
  have HD : Hid (∀ W, Ext ((w.alloc (.cells #[.int .i64 x.s, .int .i64 x.a, .int .i64 x.b, .int .i64 x.k, .int .i64 x.t] 26)).alloc (.cells #[.int .i64 a, .int .i64 b] 24)) W → W.cell? ⟨w.heap.size, 0, none⟩ = some (.int .i64 x.s) ∧ W.cell? ⟨w.heap.size, 1, none⟩ = some (.int .i64 x.a) ∧ W.cell? ⟨w.heap.size, 2, none⟩ = some (.int .i64 x.b) ∧ W.cell? ⟨w.heap.size, 3, none⟩ = some (.int .i64 x.k) ∧ W.cell? ⟨w.heap.size, 4, none⟩ = some (.int .i64 x.t) ∧ W.cell? ⟨w.heap.size + 1, 0, none⟩ = some (.int .i64 a) ∧ W.cell? ⟨w.heap.size + 1, 1, none⟩ = some (.int .i64 b)) := Lib.hid fun W hE => ⟨hE.cell d0, hE.cell d1, hE.cell d2, hE.cell d3, hE.cell d4, hE.cell d5, hE.cell d6⟩
  have HX0 := Lib.hid hX0
  have HR := Lib.hid (h.ext hX0)
  have HX := Lib.hid (Ext.refl ((w.alloc (.cells #[.int .i64 x.s, .int .i64 x.a, .int .i64 x.b, .int .i64 x.k, .int .i64 x.t] 26)).alloc (.cells #[.int .i64 a, .int .i64 b] 24)))
  clear hX0 d0 d1 d2 d3 d4 d5 d6 h
  go_enter Try.func3, Try.ntmps3
  go_wp2_with fail
  generalize ((w.alloc (.cells #[.int .i64 x.s, .int .i64 x.a, .int .i64 x.b, .int .i64 x.k, .int .i64 x.t] 26)).alloc (.cells #[.int .i64 a, .int .i64 b] 24)) = w0 at *
  refine (sane_any _).mono ?_
  rintro e v1 ⟨rfl, hE⟩
  have HR := Lib.hid (HR.out.ext hE)
  have HX := Lib.hid (HX.out.trans hE)
  clear hE
  go_wp2_with fail
  by_cases hl : l.length ≤ 40
  · have hb : l.length ≤ 100000 := by omega
    obtain ⟨r, hr⟩ : ∃ r, joinW l x = r := ⟨_, rfl⟩
    have HM := Lib.hid hr
    obtain ⟨q, hq⟩ : ∃ q, leaveW l s a b = q := ⟨_, rfl⟩
    have HN := Lib.hid hq
    obtain ⟨c, hc⟩ : ∃ c, checkW l = c := ⟨_, rfl⟩
    have HQ := Lib.hid hc
    have hf := decide_eq_true hl
    have HB := Lib.hid hb
    clear hr hq hc hl hb
    refine (fw_as hf HR.out).mono ?_
    rintro e v2 ⟨rfl, hE⟩
    have HR := Lib.hid (HR.out.ext hE)
    have HX := Lib.hid (HX.out.trans hE)
    clear hE
    obtain ⟨d0, d1, d2, d3, d4, d5, d6⟩ := HD.out v2 HX.out
    go_wp2_with fail
    clear d0 d1 d2 d3 d4 d5 d6
    refine (jn_as HM.out HR.out HB.out).mono ?_
    rintro e v3 ⟨a1, c1, rfl, hR, hE⟩
    have HR := Lib.hid (HR.out.ext hE)
    have H1 := Lib.hid hR
    have HX := Lib.hid (HX.out.trans hE)
    clear hE
    obtain ⟨d0, d1, d2, d3, d4, d5, d6⟩ := HD.out v3 HX.out
    go_wp2_with fail
    clear d0 d1 d2 d3 d4 d5 d6
    refine (rjn_as HM.out HR.out HB.out).mono ?_
    rintro e v4 ⟨a2, c2, rfl, hR, hE⟩
    have HR := Lib.hid (HR.out.ext hE)
    have H1 := Lib.hid (H1.out.ext hE)
    have H2 := Lib.hid hR
    have HX := Lib.hid (HX.out.trans hE)
    clear hE
    obtain ⟨d0, d1, d2, d3, d4, d5, d6⟩ := HD.out v4 HX.out
    go_wp2_with fail
    clear d0 d1 d2 d3 d4 d5 d6
    refine (lv_as HN.out HR.out HB.out).mono ?_
    rintro e v5 ⟨a3, c3, rfl, hR, hE⟩
    have HR := Lib.hid (HR.out.ext hE)
    have H1 := Lib.hid (H1.out.ext hE)
    have H2 := Lib.hid (H2.out.ext hE)
    have K1 := Lib.hid hR
    have HX := Lib.hid (HX.out.trans hE)
    clear hE
    obtain ⟨d0, d1, d2, d3, d4, d5, d6⟩ := HD.out v5 HX.out
    go_wp2_with fail
    clear d0 d1 d2 d3 d4 d5 d6
    refine (rlv_as HN.out HR.out HB.out).mono ?_
    rintro e v6 ⟨a4, c4, rfl, hR, hE⟩
    have HR := Lib.hid (HR.out.ext hE)
    have H1 := Lib.hid (H1.out.ext hE)
    have H2 := Lib.hid (H2.out.ext hE)
    have K1 := Lib.hid (K1.out.ext hE)
    have K2 := Lib.hid hR
    have HX := Lib.hid (HX.out.trans hE)
    clear hE
    go_wp2_with fail
    refine (sm_as (same_self _) H1.out H2.out).mono ?_
    rintro e v7 ⟨rfl, hE⟩
    have HR := Lib.hid (HR.out.ext hE)
    have H1 := Lib.hid (H1.out.ext hE)
    have H2 := Lib.hid (H2.out.ext hE)
    have K1 := Lib.hid (K1.out.ext hE)
    have K2 := Lib.hid (K2.out.ext hE)
    have HX := Lib.hid (HX.out.trans hE)
    clear hE
    go_wp2_with fail
    refine (sm_as (same_self _) K1.out K2.out).mono ?_
    rintro e v8 ⟨rfl, hE⟩
    have HR := Lib.hid (HR.out.ext hE)
    have H1 := Lib.hid (H1.out.ext hE)
    have H2 := Lib.hid (H2.out.ext hE)
    have K1 := Lib.hid (K1.out.ext hE)
    have K2 := Lib.hid (K2.out.ext hE)
    have HX := Lib.hid (HX.out.trans hE)
    clear hE
    go_wp2_with fail
    refine (ck_as HQ.out HR.out HB.out).mono ?_
    rintro e v9 ⟨rfl, hE⟩
    have HR := Lib.hid (HR.out.ext hE)
    have H1 := Lib.hid (H1.out.ext hE)
    have H2 := Lib.hid (H2.out.ext hE)
    have K1 := Lib.hid (K1.out.ext hE)
    have K2 := Lib.hid (K2.out.ext hE)
    have HX := Lib.hid (HX.out.trans hE)
    clear hE
    go_wp2_with fail
    refine (rck_as HQ.out HR.out).mono ?_
    rintro e v10 ⟨rfl, hE⟩
    have HR := Lib.hid (HR.out.ext hE)
    have H1 := Lib.hid (H1.out.ext hE)
    have H2 := Lib.hid (H2.out.ext hE)
    have K1 := Lib.hid (K1.out.ext hE)
    have K2 := Lib.hid (K2.out.ext hE)
    have HX := Lib.hid (HX.out.trans hE)
    clear hE
    go_wp2_with fail
    go_ret
    exact ⟨rfl, HX0.out.trans HX.out⟩
  · have hf := decide_eq_false hl
    clear hl
    refine (fw_as hf HR.out).mono ?_
    rintro e v2 ⟨rfl, hE⟩
    have HR := Lib.hid (HR.out.ext hE)
    have HX := Lib.hid (HX.out.trans hE)
    clear hE
    go_wp2_with fail
    go_ret
    exact ⟨rfl, HX0.out.trans HX.out⟩
set_option maxRecDepth 100000 in
set_option maxHeartbeats 12800000 in
theorem law_first (l : List Wt) (s a b : Int) (ao : Option Addr) (cap : Nat) (w : World) (h : RepW w ao cap l) : Calls Try.prog 4 #[.slice ao l.length cap, .int .i64 s, .agg #[.int .i64 a, .int .i64 b]] w fun e w' => e = .returned (.bool true) ∧ Ext w w' := by
  have hX0 : Ext w (w.alloc (.cells #[.int .i64 a, .int .i64 b] 24)) := (Ext.refl w).alloc _
  have d0 : (w.alloc (.cells #[.int .i64 a, .int .i64 b] 24)).cell? ⟨w.heap.size, 0, none⟩ = some (.int .i64 a) := by simp
  have d1 : (w.alloc (.cells #[.int .i64 a, .int .i64 b] 24)).cell? ⟨w.heap.size, 1, none⟩ = some (.int .i64 b) := by simp
  have HD : Hid (∀ W, Ext (w.alloc (.cells #[.int .i64 a, .int .i64 b] 24)) W → W.cell? ⟨w.heap.size, 0, none⟩ = some (.int .i64 a) ∧ W.cell? ⟨w.heap.size, 1, none⟩ = some (.int .i64 b)) := Lib.hid fun W hE => ⟨hE.cell d0, hE.cell d1⟩
  have HX0 := Lib.hid hX0
  have HR := Lib.hid (h.ext hX0)
  have HX := Lib.hid (Ext.refl (w.alloc (.cells #[.int .i64 a, .int .i64 b] 24)))
  clear hX0 d0 d1 h
  go_enter Try.func4, Try.ntmps4
  go_wp2_with fail
  generalize (w.alloc (.cells #[.int .i64 a, .int .i64 b] 24)) = w0 at *
  refine (sane_any _).mono ?_
  rintro e v1 ⟨rfl, hE⟩
  have HR := Lib.hid (HR.out.ext hE)
  have HX := Lib.hid (HX.out.trans hE)
  clear hE
  go_wp2_with fail
  by_cases hl : l.length ≤ 40
  · have hb : l.length ≤ 100000 := by omega
    obtain ⟨r, hr⟩ : ∃ r, firstW l a b = r := ⟨_, rfl⟩
    obtain ⟨q, hq⟩ : ∃ q, placeW l s a b = q := ⟨_, rfl⟩
    obtain ⟨c, hc⟩ : ∃ c, ofW l s = c := ⟨_, rfl⟩
    obtain ⟨⟨y0, y1, y2, y3, y4⟩, ok⟩ := r
    have HM := Lib.hid hr
    have HN := Lib.hid hq
    have HQ := Lib.hid hc
    have hf := decide_eq_true hl
    have HB := Lib.hid hb
    clear hr hq hc hl hb
    refine (fw_as hf HR.out).mono ?_
    rintro e v2 ⟨rfl, hE⟩
    have HR := Lib.hid (HR.out.ext hE)
    have HX := Lib.hid (HX.out.trans hE)
    clear hE
    obtain ⟨d0, d1⟩ := HD.out v2 HX.out
    go_wp2_with fail
    clear d0 d1
    refine (show Calls Try.prog 19 _ v2 (fun e w' => e = .returned (.tuple #[.agg #[.int .i64 y0, .int .i64 y1, .int .i64 y2, .int .i64 y3, .int .i64 y4], .bool ok]) ∧ Ext v2 w') from fs_as HM.out HR.out).mono ?_
    rintro e v3 ⟨rfl, hE⟩
    have HR := Lib.hid (HR.out.ext hE)
    have HX := Lib.hid (HX.out.trans hE)
    clear hE
    have hA : Ext v3 (v3.alloc (.cells #[.int .i64 y0, .int .i64 y1, .int .i64 y2, .int .i64 y3, .int .i64 y4] 26)) := (Ext.refl _).alloc _
    have hB : BoxW (v3.alloc (.cells #[.int .i64 y0, .int .i64 y1, .int .i64 y2, .int .i64 y3, .int .i64 y4] 26)) v3.heap.size ⟨y0, y1, y2, y3, y4⟩ := BoxW.new _ ⟨y0, y1, y2, y3, y4⟩ _ _ rfl
    obtain ⟨d0, d1⟩ := HD.out (v3.alloc (.cells #[.int .i64 y0, .int .i64 y1, .int .i64 y2, .int .i64 y3, .int .i64 y4] 26)) (HX.out.trans hA)
    go_wp2_with fail
    clear d0 d1
    generalize (v3.alloc (.cells #[.int .i64 y0, .int .i64 y1, .int .i64 y2, .int .i64 y3, .int .i64 y4] 26)) = u3 at *
    have HR := Lib.hid (HR.out.ext hA)
    have HW1 := Lib.hid hB
    have HX := Lib.hid (HX.out.trans hA)
    clear hA
    refine (show Calls Try.prog 20 _ u3 (fun e w' => e = .returned (.tuple #[.agg #[.int .i64 y0, .int .i64 y1, .int .i64 y2, .int .i64 y3, .int .i64 y4], .bool ok]) ∧ Ext u3 w') from rfs_as HM.out HR.out).mono ?_
    rintro e v4 ⟨rfl, hE⟩
    have HR := Lib.hid (HR.out.ext hE)
    have HW1 := Lib.hid (HW1.out.ext hE)
    have HX := Lib.hid (HX.out.trans hE)
    clear hE
    have hA : Ext v4 (v4.alloc (.cells #[.int .i64 y0, .int .i64 y1, .int .i64 y2, .int .i64 y3, .int .i64 y4] 26)) := (Ext.refl _).alloc _
    have hB : BoxW (v4.alloc (.cells #[.int .i64 y0, .int .i64 y1, .int .i64 y2, .int .i64 y3, .int .i64 y4] 26)) v4.heap.size ⟨y0, y1, y2, y3, y4⟩ := BoxW.new _ ⟨y0, y1, y2, y3, y4⟩ _ _ rfl
    obtain ⟨d0, d1⟩ := HD.out (v4.alloc (.cells #[.int .i64 y0, .int .i64 y1, .int .i64 y2, .int .i64 y3, .int .i64 y4] 26)) (HX.out.trans hA)
    go_wp2_with fail
    clear d0 d1
    generalize (v4.alloc (.cells #[.int .i64 y0, .int .i64 y1, .int .i64 y2, .int .i64 y3, .int .i64 y4] 26)) = u4 at *
    have HR := Lib.hid (HR.out.ext hA)
    have HW1 := Lib.hid (HW1.out.ext hA)
    have HW2 := Lib.hid hB
    have HX := Lib.hid (HX.out.trans hA)
    clear hA
    refine (pl_as HN.out HR.out HB.out).mono ?_
    rintro e v5 ⟨rfl, hE⟩
    have HR := Lib.hid (HR.out.ext hE)
    have HW1 := Lib.hid (HW1.out.ext hE)
    have HW2 := Lib.hid (HW2.out.ext hE)
    have HX := Lib.hid (HX.out.trans hE)
    clear hE
    obtain ⟨d0, d1⟩ := HD.out v5 HX.out
    go_wp2_with fail
    clear d0 d1
    refine (rpl_as HN.out HR.out HB.out).mono ?_
    rintro e v6 ⟨rfl, hE⟩
    have HR := Lib.hid (HR.out.ext hE)
    have HW1 := Lib.hid (HW1.out.ext hE)
    have HW2 := Lib.hid (HW2.out.ext hE)
    have HX := Lib.hid (HX.out.trans hE)
    clear hE
    obtain ⟨z0, z1, z2, z3, z4, -⟩ := HW1.out
    obtain ⟨x0, x1, x2, x3, x4, -⟩ := HW2.out
    try dsimp only at z0 z1 z2 z3 z4 x0 x1 x2 x3 x4
    have he := eqW ⟨y0, y1, y2, y3, y4⟩ ⟨y0, y1, y2, y3, y4⟩
    rw [show eqWt ⟨y0, y1, y2, y3, y4⟩ ⟨y0, y1, y2, y3, y4⟩ = true from decide_eq_true rfl] at he
    try dsimp only at he
    go_wp2_with fail
    clear z0 z1 z2 z3 z4 x0 x1 x2 x3 x4 he
    refine (of_as HQ.out HR.out HB.out).mono ?_
    rintro e v7 ⟨a1, c1, rfl, hR, hE⟩
    have HR := Lib.hid (HR.out.ext hE)
    have HW1 := Lib.hid (HW1.out.ext hE)
    have HW2 := Lib.hid (HW2.out.ext hE)
    have H1 := Lib.hid hR
    have HX := Lib.hid (HX.out.trans hE)
    clear hE
    go_wp2_with fail
    refine (rof_as HQ.out HR.out HB.out).mono ?_
    rintro e v8 ⟨a2, c2, rfl, hR, hE⟩
    have HR := Lib.hid (HR.out.ext hE)
    have HW1 := Lib.hid (HW1.out.ext hE)
    have HW2 := Lib.hid (HW2.out.ext hE)
    have H1 := Lib.hid (H1.out.ext hE)
    have H2 := Lib.hid hR
    have HX := Lib.hid (HX.out.trans hE)
    clear hE
    go_wp2_with fail
    refine (sb_as (same_self _) H1.out H2.out).mono ?_
    rintro e v9 ⟨rfl, hE⟩
    have HR := Lib.hid (HR.out.ext hE)
    have HW1 := Lib.hid (HW1.out.ext hE)
    have HW2 := Lib.hid (HW2.out.ext hE)
    have H1 := Lib.hid (H1.out.ext hE)
    have H2 := Lib.hid (H2.out.ext hE)
    have HX := Lib.hid (HX.out.trans hE)
    clear hE
    go_wp2_with fail
    go_ret
    exact ⟨rfl, HX0.out.trans HX.out⟩
  · have hf := decide_eq_false hl
    clear hl
    refine (fw_as hf HR.out).mono ?_
    rintro e v2 ⟨rfl, hE⟩
    have HR := Lib.hid (HR.out.ext hE)
    have HX := Lib.hid (HX.out.trans hE)
    clear hE
    go_wp2_with fail
    go_ret
    exact ⟨rfl, HX0.out.trans HX.out⟩
end Go.Proofs.Ytbhpeecebcihkaa
