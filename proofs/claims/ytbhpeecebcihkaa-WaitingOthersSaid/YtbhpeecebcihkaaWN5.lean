/- Waiting: the law Others. -/
import Derived.Test.YtbhpeecebcihkaaWY
namespace Go.Sz
theorem manyW_le (l : List Wt) (x : Wt) : manyW l x ≤ (l.length : Int) := by
  unfold manyW
  have := List.countP_le_length (p := inB x.a x.b) (l := l)
  omega
theorem joinW_none {l : List Wt} {x : Wt} (h : (joinW l x).2 = 260) : (joinW l x).1 = [] := by rw [joinW_err (by rw [h]; simp)]
end Go.Sz
namespace Go.Proofs.Ytbhpeecebcihkaa
open Go.RowKit Go.Sz
set_option maxRecDepth 100000 in
set_option maxHeartbeats 12800000 in
theorem law_others (l : List Wt) (x : Wt) (ao : Option Addr) (cap : Nat) (w : World) (h : RepW w ao cap l) : Calls Try.prog 8 #[.slice ao l.length cap, .agg x.enc.toArray] w fun e w' => e = .returned (.bool true) ∧ Ext w w' := by
  have hs1 := h.max
  unfold Wt.enc
  have hX0 : Ext w (w.alloc (.cells #[.int .i64 x.s, .int .i64 x.a, .int .i64 x.b, .int .i64 x.k, .int .i64 x.t] 26)) := (Ext.refl w).alloc _
  have d0 : (w.alloc (.cells #[.int .i64 x.s, .int .i64 x.a, .int .i64 x.b, .int .i64 x.k, .int .i64 x.t] 26)).cell? ⟨w.heap.size, 0, none⟩ = some (.int .i64 x.s) := by simp
  have d1 : (w.alloc (.cells #[.int .i64 x.s, .int .i64 x.a, .int .i64 x.b, .int .i64 x.k, .int .i64 x.t] 26)).cell? ⟨w.heap.size, 1, none⟩ = some (.int .i64 x.a) := by simp
  have d2 : (w.alloc (.cells #[.int .i64 x.s, .int .i64 x.a, .int .i64 x.b, .int .i64 x.k, .int .i64 x.t] 26)).cell? ⟨w.heap.size, 2, none⟩ = some (.int .i64 x.b) := by simp
  have d3 : (w.alloc (.cells #[.int .i64 x.s, .int .i64 x.a, .int .i64 x.b, .int .i64 x.k, .int .i64 x.t] 26)).cell? ⟨w.heap.size, 3, none⟩ = some (.int .i64 x.k) := by simp
  have d4 : (w.alloc (.cells #[.int .i64 x.s, .int .i64 x.a, .int .i64 x.b, .int .i64 x.k, .int .i64 x.t] 26)).cell? ⟨w.heap.size, 4, none⟩ = some (.int .i64 x.t) := by simp
  have HD : Hid (∀ W, Ext (w.alloc (.cells #[.int .i64 x.s, .int .i64 x.a, .int .i64 x.b, .int .i64 x.k, .int .i64 x.t] 26)) W → W.cell? ⟨w.heap.size, 0, none⟩ = some (.int .i64 x.s) ∧ W.cell? ⟨w.heap.size, 1, none⟩ = some (.int .i64 x.a) ∧ W.cell? ⟨w.heap.size, 2, none⟩ = some (.int .i64 x.b) ∧ W.cell? ⟨w.heap.size, 3, none⟩ = some (.int .i64 x.k) ∧ W.cell? ⟨w.heap.size, 4, none⟩ = some (.int .i64 x.t)) := Lib.hid fun W hE => ⟨hE.cell d0, hE.cell d1, hE.cell d2, hE.cell d3, hE.cell d4⟩
  have HX0 := Lib.hid hX0
  have HR := Lib.hid (h.ext hX0)
  have HX := Lib.hid (Ext.refl (w.alloc (.cells #[.int .i64 x.s, .int .i64 x.a, .int .i64 x.b, .int .i64 x.k, .int .i64 x.t] 26)))
  clear hX0 d0 d1 d2 d3 d4 h
  go_enter Try.func8, Try.ntmps8
  go_wp2_with fail
  generalize (w.alloc (.cells #[.int .i64 x.s, .int .i64 x.a, .int .i64 x.b, .int .i64 x.k, .int .i64 x.t] 26)) = w0 at *
  refine (sane_any _).mono ?_
  rintro e v1 ⟨rfl, hE⟩
  have HR := Lib.hid (HR.out.ext hE)
  have HX := Lib.hid (HX.out.trans hE)
  clear hE
  go_wp2_with fail
  by_cases hl : l.length ≤ 40
  · have hb : l.length ≤ 100000 := by omega
    have HLL := Lib.hid hl
    have hl2 : (l.length : Int) ≤ 40 := by omega
    have HO1 := Lib.hid (joinW_or l x)
    have HL1 := Lib.hid (joinW_len l x)
    have HAT := Lib.hid (fun v => others_at (l := l) (x := x) (v := v))
    have HOF := Lib.hid (others_of (l := l) (x := x))
    have HNO := Lib.hid (joinW_none (l := l) (x := x))
    obtain ⟨⟨z1, e1⟩, h1⟩ : ∃ r, joinW l x = r := ⟨_, rfl⟩
    rw [h1] at HO1 HL1 HAT HOF HNO
    have HJ1 := Lib.hid h1
    have HB := Lib.hid hb
    have hb1 : z1.length ≤ 100000 := by have := HL1.out; (try dsimp only at this); omega
    have HB1 := Lib.hid hb1
    have hf := decide_eq_true hl
    clear h1 hl hb hb1
    refine (fw_as hf HR.out).mono ?_
    rintro e v2 ⟨rfl, hE⟩
    have HR := Lib.hid (HR.out.ext hE)
    have HX := Lib.hid (HX.out.trans hE)
    clear hE
    obtain ⟨d0, d1, d2, d3, d4⟩ := HD.out v2 HX.out
    go_wp2_with fail
    clear d0 d1 d2 d3 d4
    refine (jn_as HJ1.out HR.out HB.out).mono ?_
    rintro e v3 ⟨a1, c1, rfl, hR, hE⟩
    have HR := Lib.hid (HR.out.ext hE)
    have RZ1 := Lib.hid (show RepW v3 a1 c1 z1 from hR)
    have HX := Lib.hid (HX.out.trans hE)
    clear hE
    obtain rfl | rfl : e1 = 260 ∨ e1 = 0 := HO1.out.symm
    · obtain rfl : z1 = [] := HNO.out (by first | rfl | trivial)
      go_wp2_with fail
      go_ret
      exact ⟨rfl, HX0.out.trans HX.out⟩
    · have HAT2 : Hid (∀ v, v ∈ l → placeW l v.s v.a v.b = (rankW l v, true) ∧ placeW z1 v.s v.a v.b = (rankW l v + (if (inB v.a v.b x && lessW x v) = true then 1 else 0), true)) := Lib.hid fun v hv => HAT.out v (by first | rfl | trivial) hv
      have HOF2 : Hid ((∀ s, x.s ≠ s → ofW z1 s = ofW l s) ∧ (ofW z1 x.s).length = (ofW l x.s).length + 1) := Lib.hid (HOF.out (by first | rfl | trivial))
      go_wp2_with fail
      go_loopw [34] (fun iv wr => ∃ k : Nat, iv = .int .i64 k ∧ k ≤ l.length ∧ Ext w0 wr ∧ RepW wr ao cap l ∧ RepW wr a1 c1 z1) (fun iv _ => l.length - (intOf iv).toNat)
      case atStart => exact ⟨0, rfl, by omega, HX.out, HR.out, RZ1.out⟩
      case round =>
        obtain ⟨k, rfl, hk, hE, hR, hZ⟩ := hrel
        obtain ⟨wb, hwb⟩ : ∃ wb, wb = wr := ⟨_, rfl⟩
        subst hwb
        clear HX HR RZ1
        have HX := Lib.hid hE
        have HR := Lib.hid hR
        have RZ1 := Lib.hid hZ
        clear hE hR hZ
        by_cases hlt : k < l.length
        · have hki : (k : Int) < (l.length : Int) := by omega
          obtain ⟨bb, o, rfl, c0, c1', c2, c3, c4⟩ := w_cells HR.out (Ext.refl _) hlt
          have HPV := Lib.hid (HAT2.out l[k] (List.getElem_mem hlt))
          have HP1 := Lib.hid (rankW_pos l l[k])
          have HP2 := Lib.hid (Int.le_trans (rankW_le (List.getElem_mem hlt)) (manyW_le l l[k]))
          generalize l[k] = v at *
          obtain ⟨p, hp⟩ : ∃ p, rankW l v = p := ⟨_, rfl⟩
          rw [hp] at HPV HP1 HP2
          have hp1 := HP1.out
          have hp2 := HP2.out
          clear hp
          have HIN : Hid (inB v.a v.b x = (v.a == x.a && v.b == x.b)) := Lib.hid (by unfold inB; rw [Bool.eq_iff_iff]; simp; omega)
          have hA : Ext wb (wb.alloc (.cells #[.int .i64 v.s, .int .i64 v.a, .int .i64 v.b, .int .i64 v.k, .int .i64 v.t] 26)) := (Ext.refl _).alloc _
          have t0 : (wb.alloc (.cells #[.int .i64 v.s, .int .i64 v.a, .int .i64 v.b, .int .i64 v.k, .int .i64 v.t] 26)).cell? ⟨wb.heap.size, 0, none⟩ = some (.int .i64 v.s) := by simp
          have t1 : (wb.alloc (.cells #[.int .i64 v.s, .int .i64 v.a, .int .i64 v.b, .int .i64 v.k, .int .i64 v.t] 26)).cell? ⟨wb.heap.size, 1, none⟩ = some (.int .i64 v.a) := by simp
          have t2 : (wb.alloc (.cells #[.int .i64 v.s, .int .i64 v.a, .int .i64 v.b, .int .i64 v.k, .int .i64 v.t] 26)).cell? ⟨wb.heap.size, 2, none⟩ = some (.int .i64 v.b) := by simp
          have t3 : (wb.alloc (.cells #[.int .i64 v.s, .int .i64 v.a, .int .i64 v.b, .int .i64 v.k, .int .i64 v.t] 26)).cell? ⟨wb.heap.size, 3, none⟩ = some (.int .i64 v.k) := by simp
          have t4 : (wb.alloc (.cells #[.int .i64 v.s, .int .i64 v.a, .int .i64 v.b, .int .i64 v.k, .int .i64 v.t] 26)).cell? ⟨wb.heap.size, 4, none⟩ = some (.int .i64 v.t) := by simp
          obtain ⟨BX, hBX⟩ : ∃ B, wb.heap.size = B := ⟨_, rfl⟩
          go_wp2_with fail
          generalize (wb.alloc (.cells #[.int .i64 v.s, .int .i64 v.a, .int .i64 v.b, .int .i64 v.k, .int .i64 v.t] 26)) = ya at *
          rw [hBX] at t0 t1 t2 t3 t4
          try rw [hBX]
          clear hBX
          have HV : Hid (∀ W, Ext ya W → W.cell? ⟨BX, 0, none⟩ = some (.int .i64 v.s) ∧ W.cell? ⟨BX, 1, none⟩ = some (.int .i64 v.a) ∧ W.cell? ⟨BX, 2, none⟩ = some (.int .i64 v.b) ∧ W.cell? ⟨BX, 3, none⟩ = some (.int .i64 v.k) ∧ W.cell? ⟨BX, 4, none⟩ = some (.int .i64 v.t)) := Lib.hid fun W hE => ⟨hE.cell t0, hE.cell t1, hE.cell t2, hE.cell t3, hE.cell t4⟩
          have HR := Lib.hid (HR.out.ext hA)
          have RZ1 := Lib.hid (RZ1.out.ext hA)
          have HX := Lib.hid (HX.out.trans hA)
          clear hA
          have HXA := HX
          clear HX
          have HX := Lib.hid (Ext.refl ya)
          clear t0 t1 t2 t3 t4 c0 c1' c2 c3 c4
          refine (pl_as HPV.out.1 HR.out HB.out).mono ?_
          rintro e v41 ⟨rfl, hE⟩
          have HR := Lib.hid (HR.out.ext hE)
          have RZ1 := Lib.hid (RZ1.out.ext hE)
          have HX := Lib.hid (HX.out.trans hE)
          clear hE
          obtain ⟨t0, t1, t2, t3, t4⟩ := HV.out v41 HX.out
          go_wp2_with fail
          clear t0 t1 t2 t3 t4
          have HPW := Lib.hid HPV.out.2
          obtain ⟨m, hm⟩ : ∃ m : Int, (if (inB v.a v.b x && lessW x v) = true then 1 else 0) = m := ⟨_, rfl⟩
          rw [hm] at HPW
          have HM := Lib.hid hm
          clear hm
          refine (pl_as HPW.out RZ1.out HB1.out).mono ?_
          rintro e v42 ⟨rfl, hE⟩
          have HR := Lib.hid (HR.out.ext hE)
          have RZ1 := Lib.hid (RZ1.out.ext hE)
          have HX := Lib.hid (HX.out.trans hE)
          clear hE
          obtain ⟨t0, t1, t2, t3, t4⟩ := HV.out v42 HX.out
          obtain ⟨d0, d1, d2, d3, d4⟩ := HD.out v42 (HXA.out.trans HX.out)
          have he := eqB v.a v.b x.a x.b
          have HSO := Lib.hid (HOF2.out.1 v.s)
          obtain ⟨q1, hq1⟩ : ∃ q, ofW l v.s = q := ⟨_, rfl⟩
          obtain ⟨q2, hq2⟩ : ∃ q, ofW z1 v.s = q := ⟨_, rfl⟩
          rw [hq1, hq2] at HSO
          have HQ1 := Lib.hid hq1
          have HQ2 := Lib.hid hq2
          clear hq1 hq2
          cases hc : (v.a == x.a && v.b == x.b) with
          | false =>
            rw [hc] at he
            have HN : Hid (inB v.a v.b x = false) := Lib.hid (by rw [HIN.out, hc])
            clear hc
            have hm0 : m = 0 := by rw [← HM.out, HN.out]; rfl
            subst hm0
            go_wp2_with fail
            have gt0 := grow_cell t0
            have gt1 := grow_cell t1
            have gt2 := grow_cell t2
            have gt3 := grow_cell t3
            have gt4 := grow_cell t4
            refine wp_region_rel_all (fun i => if i = 3 then some (spSL' 2 q1.length (brows q1)) else if i = 7 then some (spSL' 2 q2.length (brows q2)) else none) (by kernel_rfl) (by kernel_rfl) ?_
            repeat (first
              | (refine wpRel_quick ?_ ?_ ?_ ?_
                 · rfl
                 · rfl
                 · first | exact noEnter rfl | (intro f args W W'; go_simp)
                 intro K hK
                 go_big_quiet_op
                 go_big_quiet_on)
              | (refine wpRel_skip ?_ ?_
                 · rfl
                 simp only [Act.put, List.setIfInBounds_toArray, List.set_cons_zero, List.set_cons_succ]))
            refine wpRel_rich _ rfl rfl (fun W hW => ?_) (fun v W3 hW3 hv => ?_)
            · have hx : Ext v42 W := (Ext.refl v42).drew.trans hW.1
              have hc := of_as HQ1.out (HR.out.ext hx) HB.out
              go_simp
              refine Calls.mono hc ?_
              rintro e w' ⟨aq, cq, rfl, hr, h⟩
              exact ⟨_, rfl, ⟨aq, cq, rfl, hr⟩, h⟩
            obtain ⟨b1, g1, rfl, -⟩ := hv
            clear hW3
            simp only [Act.put, List.setIfInBounds_toArray, List.set_cons_zero, List.set_cons_succ]
            repeat (first
              | (refine wpRel_quick ?_ ?_ ?_ ?_
                 · rfl
                 · rfl
                 · first | exact noEnter rfl | (intro f args W W'; go_simp)
                 intro K hK
                 go_big_quiet_op
                 go_big_quiet_on)
              | (refine wpRel_skip ?_ ?_
                 · rfl
                 simp only [Act.put, List.setIfInBounds_toArray, List.set_cons_zero, List.set_cons_succ]))
            refine wpRel_rich _ rfl rfl (fun W hW => ?_) (fun v W3 hW3 hv => ?_)
            · have hx : Ext v42 W := (Ext.refl v42).drew.trans hW.1
              have hc := of_as HQ2.out (RZ1.out.ext hx) HB1.out
              go_simp
              refine Calls.mono hc ?_
              rintro e w' ⟨aq, cq, rfl, hr, h⟩
              exact ⟨_, rfl, ⟨aq, cq, rfl, hr⟩, h⟩
            obtain ⟨b2, g2, rfl, -⟩ := hv
            clear hW3
            simp only [Act.put, List.setIfInBounds_toArray, List.set_cons_zero, List.set_cons_succ]
            repeat (first
              | (refine wpRel_quick ?_ ?_ ?_ ?_
                 · rfl
                 · rfl
                 · first | exact noEnter rfl | (intro f args W W'; go_simp)
                 intro K hK
                 go_big_quiet_op
                 go_big_quiet_on)
              | (refine wpRel_skip ?_ ?_
                 · rfl
                 simp only [Act.put, List.setIfInBounds_toArray, List.set_cons_zero, List.set_cons_succ]))
            refine wpRel_nil ?_
            intro W3 hW3
            obtain ⟨p3, r3, hp3, hs3⟩ := hW3.2 3 trivial _ _ rfl rfl
            cases hp3
            obtain ⟨p7, r7, hp7, hs7⟩ := hW3.2 7 trivial _ _ rfl rfl
            cases hp7
            have HS3 : Hid (RepB W3 b1 g1 q1) := Lib.hid hs3
            have HS7 : Hid (RepB W3 b2 g2 q2) := Lib.hid hs7
            have hE : Ext v42 W3 := (Ext.refl _).drew.trans hW3.1
            clear hW3 hs3 hs7 t0 t1 t2 t3 t4 gt0 gt1 gt2 gt3 gt4 d0 d1 d2 d3 d4
            have HR := Lib.hid (HR.out.ext hE)
            have RZ1 := Lib.hid (RZ1.out.ext hE)
            have HX := Lib.hid (HX.out.trans hE)
            clear hE
            obtain ⟨t0, t1, t2, t3, t4⟩ := HV.out W3 HX.out
            obtain ⟨d0, d1, d2, d3, d4⟩ := HD.out W3 (HXA.out.trans HX.out)
            by_cases hvs : v.s = x.s
            · have hvn : (v.s != x.s) = false := by simp [hvs]
              clear hvs
              go_wp2_with fail
              go_roundw
              case rel => exact ⟨k + 1, by go_num, by omega, HXA.out.trans HX.out, HR.out, RZ1.out⟩
              case measure => simp [intOf] <;> omega
            · have hvn : (v.s != x.s) = true := by simpa using hvs
              have HQE := Lib.hid (HSO.out (fun h => hvs h.symm))
              clear hvs
              go_wp2_with fail
              clear t0 t1 t2 t3 t4 d0 d1 d2 d3 d4
              refine (sb_as (decide_eq_true HQE.out.symm) HS3.out HS7.out).mono ?_
              rintro e v61 ⟨rfl, hE⟩
              have HR := Lib.hid (HR.out.ext hE)
              have RZ1 := Lib.hid (RZ1.out.ext hE)
              have HX := Lib.hid (HX.out.trans hE)
              clear hE
              go_wp2_with fail
              go_roundw
              case rel => exact ⟨k + 1, by go_num, by omega, HXA.out.trans HX.out, HR.out, RZ1.out⟩
              case measure => simp [intOf] <;> omega
          | true =>
            rw [hc] at he
            have HN : Hid (inB v.a v.b x = true) := Lib.hid (by rw [HIN.out, hc])
            clear hc
            obtain ⟨ls, hls⟩ : ∃ b, lessW x v = b := ⟨_, rfl⟩
            have HLS := Lib.hid hls
            have HLC : Hid (∀ w, Calls Try.prog 26 #[.agg x.enc.toArray, .agg v.enc.toArray] w fun e w' => e = .returned (.bool ls) ∧ Ext w w') := Lib.hid fun w => hls ▸ less_any x v w
            clear hls
            go_wp2_with fail
            clear t0 t1 t2 t3 t4 he d0 d1 d2 d3 d4
            refine (HLC.out _).mono ?_
            rintro e v43 ⟨rfl, hE⟩
            have HR := Lib.hid (HR.out.ext hE)
            have RZ1 := Lib.hid (RZ1.out.ext hE)
            have HX := Lib.hid (HX.out.trans hE)
            clear hE
            obtain ⟨t0, t1, t2, t3, t4⟩ := HV.out v43 HX.out
            obtain ⟨d0, d1, d2, d3, d4⟩ := HD.out v43 (HXA.out.trans HX.out)
            cases ls with
            | false =>
              have hm0 : m = 0 := by rw [← HM.out, HN.out, HLS.out]; rfl
              subst hm0
              go_wp2_with fail
              have gt0 := grow_cell t0
              have gt1 := grow_cell t1
              have gt2 := grow_cell t2
              have gt3 := grow_cell t3
              have gt4 := grow_cell t4
              refine wp_region_rel_all (fun i => if i = 3 then some (spSL' 2 q1.length (brows q1)) else if i = 7 then some (spSL' 2 q2.length (brows q2)) else none) (by kernel_rfl) (by kernel_rfl) ?_
              repeat (first
                | (refine wpRel_quick ?_ ?_ ?_ ?_
                   · rfl
                   · rfl
                   · first | exact noEnter rfl | (intro f args W W'; go_simp)
                   intro K hK
                   go_big_quiet_op
                   go_big_quiet_on)
                | (refine wpRel_skip ?_ ?_
                   · rfl
                   simp only [Act.put, List.setIfInBounds_toArray, List.set_cons_zero, List.set_cons_succ]))
              refine wpRel_rich _ rfl rfl (fun W hW => ?_) (fun v W3 hW3 hv => ?_)
              · have hx : Ext v43 W := (Ext.refl v43).drew.trans hW.1
                have hc := of_as HQ1.out (HR.out.ext hx) HB.out
                go_simp
                refine Calls.mono hc ?_
                rintro e w' ⟨aq, cq, rfl, hr, h⟩
                exact ⟨_, rfl, ⟨aq, cq, rfl, hr⟩, h⟩
              obtain ⟨b1, g1, rfl, -⟩ := hv
              clear hW3
              simp only [Act.put, List.setIfInBounds_toArray, List.set_cons_zero, List.set_cons_succ]
              repeat (first
                | (refine wpRel_quick ?_ ?_ ?_ ?_
                   · rfl
                   · rfl
                   · first | exact noEnter rfl | (intro f args W W'; go_simp)
                   intro K hK
                   go_big_quiet_op
                   go_big_quiet_on)
                | (refine wpRel_skip ?_ ?_
                   · rfl
                   simp only [Act.put, List.setIfInBounds_toArray, List.set_cons_zero, List.set_cons_succ]))
              refine wpRel_rich _ rfl rfl (fun W hW => ?_) (fun v W3 hW3 hv => ?_)
              · have hx : Ext v43 W := (Ext.refl v43).drew.trans hW.1
                have hc := of_as HQ2.out (RZ1.out.ext hx) HB1.out
                go_simp
                refine Calls.mono hc ?_
                rintro e w' ⟨aq, cq, rfl, hr, h⟩
                exact ⟨_, rfl, ⟨aq, cq, rfl, hr⟩, h⟩
              obtain ⟨b2, g2, rfl, -⟩ := hv
              clear hW3
              simp only [Act.put, List.setIfInBounds_toArray, List.set_cons_zero, List.set_cons_succ]
              repeat (first
                | (refine wpRel_quick ?_ ?_ ?_ ?_
                   · rfl
                   · rfl
                   · first | exact noEnter rfl | (intro f args W W'; go_simp)
                   intro K hK
                   go_big_quiet_op
                   go_big_quiet_on)
                | (refine wpRel_skip ?_ ?_
                   · rfl
                   simp only [Act.put, List.setIfInBounds_toArray, List.set_cons_zero, List.set_cons_succ]))
              refine wpRel_nil ?_
              intro W3 hW3
              obtain ⟨p3, r3, hp3, hs3⟩ := hW3.2 3 trivial _ _ rfl rfl
              cases hp3
              obtain ⟨p7, r7, hp7, hs7⟩ := hW3.2 7 trivial _ _ rfl rfl
              cases hp7
              have HS3 : Hid (RepB W3 b1 g1 q1) := Lib.hid hs3
              have HS7 : Hid (RepB W3 b2 g2 q2) := Lib.hid hs7
              have hE : Ext v43 W3 := (Ext.refl _).drew.trans hW3.1
              clear hW3 hs3 hs7 t0 t1 t2 t3 t4 gt0 gt1 gt2 gt3 gt4 d0 d1 d2 d3 d4
              have HR := Lib.hid (HR.out.ext hE)
              have RZ1 := Lib.hid (RZ1.out.ext hE)
              have HX := Lib.hid (HX.out.trans hE)
              clear hE
              obtain ⟨t0, t1, t2, t3, t4⟩ := HV.out W3 HX.out
              obtain ⟨d0, d1, d2, d3, d4⟩ := HD.out W3 (HXA.out.trans HX.out)
              by_cases hvs : v.s = x.s
              · have hvn : (v.s != x.s) = false := by simp [hvs]
                clear hvs
                go_wp2_with fail
                go_roundw
                case rel => exact ⟨k + 1, by go_num, by omega, HXA.out.trans HX.out, HR.out, RZ1.out⟩
                case measure => simp [intOf] <;> omega
              · have hvn : (v.s != x.s) = true := by simpa using hvs
                have HQE := Lib.hid (HSO.out (fun h => hvs h.symm))
                clear hvs
                go_wp2_with fail
                clear t0 t1 t2 t3 t4 d0 d1 d2 d3 d4
                refine (sb_as (decide_eq_true HQE.out.symm) HS3.out HS7.out).mono ?_
                rintro e v61 ⟨rfl, hE⟩
                have HR := Lib.hid (HR.out.ext hE)
                have RZ1 := Lib.hid (RZ1.out.ext hE)
                have HX := Lib.hid (HX.out.trans hE)
                clear hE
                go_wp2_with fail
                go_roundw
                case rel => exact ⟨k + 1, by go_num, by omega, HXA.out.trans HX.out, HR.out, RZ1.out⟩
                case measure => simp [intOf] <;> omega
            | true =>
              have hm0 : m = 1 := by rw [← HM.out, HN.out, HLS.out]; rfl
              subst hm0
              go_wp2_with fail
              have gt0 := grow_cell t0
              have gt1 := grow_cell t1
              have gt2 := grow_cell t2
              have gt3 := grow_cell t3
              have gt4 := grow_cell t4
              refine wp_region_rel_all (fun i => if i = 3 then some (spSL' 2 q1.length (brows q1)) else if i = 7 then some (spSL' 2 q2.length (brows q2)) else none) (by kernel_rfl) (by kernel_rfl) ?_
              repeat (first
                | (refine wpRel_quick ?_ ?_ ?_ ?_
                   · rfl
                   · rfl
                   · first | exact noEnter rfl | (intro f args W W'; go_simp)
                   intro K hK
                   go_big_quiet_op
                   go_big_quiet_on)
                | (refine wpRel_skip ?_ ?_
                   · rfl
                   simp only [Act.put, List.setIfInBounds_toArray, List.set_cons_zero, List.set_cons_succ]))
              refine wpRel_rich _ rfl rfl (fun W hW => ?_) (fun v W3 hW3 hv => ?_)
              · have hx : Ext v43 W := (Ext.refl v43).drew.trans hW.1
                have hc := of_as HQ1.out (HR.out.ext hx) HB.out
                go_simp
                refine Calls.mono hc ?_
                rintro e w' ⟨aq, cq, rfl, hr, h⟩
                exact ⟨_, rfl, ⟨aq, cq, rfl, hr⟩, h⟩
              obtain ⟨b1, g1, rfl, -⟩ := hv
              clear hW3
              simp only [Act.put, List.setIfInBounds_toArray, List.set_cons_zero, List.set_cons_succ]
              repeat (first
                | (refine wpRel_quick ?_ ?_ ?_ ?_
                   · rfl
                   · rfl
                   · first | exact noEnter rfl | (intro f args W W'; go_simp)
                   intro K hK
                   go_big_quiet_op
                   go_big_quiet_on)
                | (refine wpRel_skip ?_ ?_
                   · rfl
                   simp only [Act.put, List.setIfInBounds_toArray, List.set_cons_zero, List.set_cons_succ]))
              refine wpRel_rich _ rfl rfl (fun W hW => ?_) (fun v W3 hW3 hv => ?_)
              · have hx : Ext v43 W := (Ext.refl v43).drew.trans hW.1
                have hc := of_as HQ2.out (RZ1.out.ext hx) HB1.out
                go_simp
                refine Calls.mono hc ?_
                rintro e w' ⟨aq, cq, rfl, hr, h⟩
                exact ⟨_, rfl, ⟨aq, cq, rfl, hr⟩, h⟩
              obtain ⟨b2, g2, rfl, -⟩ := hv
              clear hW3
              simp only [Act.put, List.setIfInBounds_toArray, List.set_cons_zero, List.set_cons_succ]
              repeat (first
                | (refine wpRel_quick ?_ ?_ ?_ ?_
                   · rfl
                   · rfl
                   · first | exact noEnter rfl | (intro f args W W'; go_simp)
                   intro K hK
                   go_big_quiet_op
                   go_big_quiet_on)
                | (refine wpRel_skip ?_ ?_
                   · rfl
                   simp only [Act.put, List.setIfInBounds_toArray, List.set_cons_zero, List.set_cons_succ]))
              refine wpRel_nil ?_
              intro W3 hW3
              obtain ⟨p3, r3, hp3, hs3⟩ := hW3.2 3 trivial _ _ rfl rfl
              cases hp3
              obtain ⟨p7, r7, hp7, hs7⟩ := hW3.2 7 trivial _ _ rfl rfl
              cases hp7
              have HS3 : Hid (RepB W3 b1 g1 q1) := Lib.hid hs3
              have HS7 : Hid (RepB W3 b2 g2 q2) := Lib.hid hs7
              have hE : Ext v43 W3 := (Ext.refl _).drew.trans hW3.1
              clear hW3 hs3 hs7 t0 t1 t2 t3 t4 gt0 gt1 gt2 gt3 gt4 d0 d1 d2 d3 d4
              have HR := Lib.hid (HR.out.ext hE)
              have RZ1 := Lib.hid (RZ1.out.ext hE)
              have HX := Lib.hid (HX.out.trans hE)
              clear hE
              obtain ⟨t0, t1, t2, t3, t4⟩ := HV.out W3 HX.out
              obtain ⟨d0, d1, d2, d3, d4⟩ := HD.out W3 (HXA.out.trans HX.out)
              by_cases hvs : v.s = x.s
              · have hvn : (v.s != x.s) = false := by simp [hvs]
                clear hvs
                go_wp2_with fail
                go_roundw
                case rel => exact ⟨k + 1, by go_num, by omega, HXA.out.trans HX.out, HR.out, RZ1.out⟩
                case measure => simp [intOf] <;> omega
              · have hvn : (v.s != x.s) = true := by simpa using hvs
                have HQE := Lib.hid (HSO.out (fun h => hvs h.symm))
                clear hvs
                go_wp2_with fail
                clear t0 t1 t2 t3 t4 d0 d1 d2 d3 d4
                refine (sb_as (decide_eq_true HQE.out.symm) HS3.out HS7.out).mono ?_
                rintro e v61 ⟨rfl, hE⟩
                have HR := Lib.hid (HR.out.ext hE)
                have RZ1 := Lib.hid (RZ1.out.ext hE)
                have HX := Lib.hid (HX.out.trans hE)
                clear hE
                go_wp2_with fail
                go_roundw
                case rel => exact ⟨k + 1, by go_num, by omega, HXA.out.trans HX.out, HR.out, RZ1.out⟩
                case measure => simp [intOf] <;> omega
        · have hki : ¬ (k : Int) < (l.length : Int) := by omega
          obtain ⟨d0, d1, d2, d3, d4⟩ := HD.out wb HX.out
          have hlen := HOF2.out.2
          obtain ⟨q1, hq1⟩ : ∃ q, ofW l x.s = q := ⟨_, rfl⟩
          obtain ⟨q2, hq2⟩ : ∃ q, ofW z1 x.s = q := ⟨_, rfl⟩
          rw [hq1, hq2] at hlen
          have HQ1 := Lib.hid hq1
          have HQ2 := Lib.hid hq2
          have hq40 : q1.length ≤ 40 := by rw [← hq1]; exact Nat.le_trans (ofW_len l x.s) HLL.out
          clear hq1 hq2
          have hlen2 : ((q2.length : Nat) : Int) = (q1.length : Int) + 1 := by omega
          have hq41 : (q1.length : Int) ≤ 40 := by omega
          clear hlen hq40
          go_wp2_with fail
          have gd0 := grow_cell d0
          have gd1 := grow_cell d1
          have gd2 := grow_cell d2
          have gd3 := grow_cell d3
          have gd4 := grow_cell d4
          refine wp_region_rel_all (fun i => if i = 3 then some (spSL' 2 q2.length (brows q2)) else if i = 8 then some (spSL' 2 q1.length (brows q1)) else none) (by kernel_rfl) (by kernel_rfl) ?_
          repeat (first
            | (refine wpRel_quick ?_ ?_ ?_ ?_
               · rfl
               · rfl
               · first | exact noEnter rfl | (intro f args W W'; go_simp)
               intro K hK
               go_big_quiet_op
               go_big_quiet_on)
            | (refine wpRel_skip ?_ ?_
               · rfl
               simp only [Act.put, List.setIfInBounds_toArray, List.set_cons_zero, List.set_cons_succ]))
          refine wpRel_rich _ rfl rfl (fun W hW => ?_) (fun v W3 hW3 hv => ?_)
          · have hx : Ext wb W := (Ext.refl wb).drew.trans hW.1
            have hc := of_as HQ2.out (RZ1.out.ext hx) HB1.out
            go_simp
            refine Calls.mono hc ?_
            rintro e w' ⟨aq, cq, rfl, hr, h⟩
            exact ⟨_, rfl, ⟨aq, cq, rfl, hr⟩, h⟩
          obtain ⟨b1, g1, rfl, -⟩ := hv
          clear hW3
          simp only [Act.put, List.setIfInBounds_toArray, List.set_cons_zero, List.set_cons_succ]
          repeat (first
            | (refine wpRel_quick ?_ ?_ ?_ ?_
               · rfl
               · rfl
               · first | exact noEnter rfl | (intro f args W W'; go_simp)
               intro K hK
               go_big_quiet_op
               go_big_quiet_on)
            | (refine wpRel_skip ?_ ?_
               · rfl
               simp only [Act.put, List.setIfInBounds_toArray, List.set_cons_zero, List.set_cons_succ]))
          refine wpRel_rich _ rfl rfl (fun W hW => ?_) (fun v W3 hW3 hv => ?_)
          · have hx : Ext wb W := (Ext.refl wb).drew.trans hW.1
            have hc := of_as HQ1.out (HR.out.ext hx) HB.out
            go_simp
            refine Calls.mono hc ?_
            rintro e w' ⟨aq, cq, rfl, hr, h⟩
            exact ⟨_, rfl, ⟨aq, cq, rfl, hr⟩, h⟩
          obtain ⟨b1, g1, rfl, -⟩ := hv
          clear hW3
          simp only [Act.put, List.setIfInBounds_toArray, List.set_cons_zero, List.set_cons_succ]
          repeat (first
            | (refine wpRel_quick ?_ ?_ ?_ ?_
               · rfl
               · rfl
               · first | exact noEnter rfl | (intro f args W W'; go_simp)
               intro K hK
               go_big_quiet_op
               go_big_quiet_on)
            | (refine wpRel_skip ?_ ?_
               · rfl
               simp only [Act.put, List.setIfInBounds_toArray, List.set_cons_zero, List.set_cons_succ]))
          refine wpRel_nil ?_
          intro W3 hW3
          have HE3 := Lib.hid ((Ext.refl _).drew.trans hW3.1)
          clear hW3
          go_wp2_with fail
          go_ret
          exact ⟨ret_bool (by first | rfl | (simp; omega)), HX0.out.trans (HX.out.trans HE3.out)⟩
  · have hf := decide_eq_false hl
    clear hl
    refine (fw_as hf HR.out).mono ?_
    rintro e v2 ⟨rfl, hE⟩
    have HR := Lib.hid (HR.out.ext hE)
    have HX := Lib.hid (HX.out.trans hE)
    clear hE
    go_wp2_with fail
    go_ret
    exact ⟨rfl, HX0.out.trans HX.out⟩
end Go.Proofs.Ytbhpeecebcihkaa
