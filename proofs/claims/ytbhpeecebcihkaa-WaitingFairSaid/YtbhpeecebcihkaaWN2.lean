/- Waiting: the law Fair. -/
import Derived.Test.YtbhpeecebcihkaaWX
namespace Go.Proofs.Ytbhpeecebcihkaa
open Go.RowKit Go.Sz
set_option maxRecDepth 100000 in
set_option maxHeartbeats 12800000 in
theorem law_fair (l : List Wt) (ao : Option Addr) (cap : Nat) (w : World) (h : RepW w ao cap l) : Calls Try.prog 5 #[.slice ao l.length cap] w fun e w' => e = .returned (.bool true) ∧ Ext w w' := by
  have HX0 := Lib.hid (Ext.refl w)
  have HR := Lib.hid h
  have HX := Lib.hid (Ext.refl w)
  have hs1 := h.max
  clear h
  go_enter Try.func5, Try.ntmps5
  go_wp2_with fail
  refine (sane_any _).mono ?_
  rintro e v1 ⟨rfl, hE⟩
  have HR := Lib.hid (HR.out.ext hE)
  have HX := Lib.hid (HX.out.trans hE)
  clear hE
  go_wp2_with fail
  by_cases hl : l.length ≤ 40
  · have hb : l.length ≤ 100000 := by omega
    have hl4 : (l.length : Int) ≤ 40 := by omega
    have hf := decide_eq_true hl
    have HB := Lib.hid hb
    clear hl hb
    refine (fw_as hf HR.out).mono ?_
    rintro e v2 ⟨rfl, hE⟩
    have HR := Lib.hid (HR.out.ext hE)
    have HX := Lib.hid (HX.out.trans hE)
    clear hE
    go_wp2_with fail
    have HCV : Hid (checkW l = if okLW l = true then 0 else 260) := Lib.hid rfl
    cases hok : okLW l with
    | false =>
      have HC : Hid (checkW l = 260) := Lib.hid (by rw [HCV.out, hok]; rfl)
      clear hok
      refine (ck_as HC.out HR.out HB.out).mono ?_
      rintro e v3 ⟨rfl, hE⟩
      have HR := Lib.hid (HR.out.ext hE)
      have HX := Lib.hid (HX.out.trans hE)
      clear hE
      go_wp2_with fail
      go_ret
      exact ⟨rfl, HX.out⟩
    | true =>
      have HOK := Lib.hid hok
      have HC : Hid (checkW l = 0) := Lib.hid (by rw [HCV.out, hok]; rfl)
      clear hok
      refine (ck_as HC.out HR.out HB.out).mono ?_
      rintro e v3 ⟨rfl, hE⟩
      have HR := Lib.hid (HR.out.ext hE)
      have HX := Lib.hid (HX.out.trans hE)
      clear hE
      go_wp2_with fail
      have HL0 := HR
      go_loopw [26] (fun iv wr => ∃ k : Nat, iv = .int .i64 k ∧ k ≤ l.length ∧ Ext w wr ∧ RepW wr ao cap l) (fun iv _ => l.length - (intOf iv).toNat)
      case atStart => exact ⟨0, rfl, by omega, HX.out, HR.out⟩
      case round =>
        obtain ⟨k, rfl, hk, hE, hR⟩ := hrel
        obtain ⟨wb, hwb⟩ : ∃ wb, wb = wr := ⟨_, rfl⟩
        subst hwb
        clear HX HR HL0
        have HX := Lib.hid hE
        have HR := Lib.hid hR
        clear hE hR
        by_cases hlt : k < l.length
        · have hki : (k : Int) < (l.length : Int) := by omega
          obtain ⟨bb, o, rfl, c0, c1, c2, c3, c4⟩ := w_cells HR.out (Ext.refl _) hlt
          have hxm : l[k] ∈ l := List.getElem_mem hlt
          generalize l[k] = x at *
          have HXM := Lib.hid hxm
          have HPX := Lib.hid (placeW_at HOK.out hxm)
          have HLE : Hid (rankW l x ≤ manyW l x) := Lib.hid (rankW_le hxm)
          have HPO : Hid (1 ≤ rankW l x) := Lib.hid (rankW_pos l x)
          have HFR := Lib.hid (first_rank hxm)
          have HRL : Hid (∀ z ∈ l, inB x.a x.b z = true → decide (rankW l x < rankW l z) = lessW x z) := Lib.hid fun z hz hb => rankW_lt HXM.out hz hb
          obtain ⟨p, hp⟩ : ∃ p, rankW l x = p := ⟨_, rfl⟩
          rw [hp] at HPX HLE HPO HFR HRL
          clear hp hxm
          obtain ⟨⟨⟨y0, y1, y2, y3, y4⟩, ok⟩, hfm⟩ : ∃ r, firstW l x.a x.b = r := ⟨_, rfl⟩
          rw [hfm] at HFR
          have HFM := Lib.hid hfm
          obtain rfl : ok = true := HFR.out.1
          clear hfm
          have hA : Ext wb (wb.alloc (.cells #[.int .i64 x.s, .int .i64 x.a, .int .i64 x.b, .int .i64 x.k, .int .i64 x.t] 26)) := (Ext.refl _).alloc _
          have d0 : (wb.alloc (.cells #[.int .i64 x.s, .int .i64 x.a, .int .i64 x.b, .int .i64 x.k, .int .i64 x.t] 26)).cell? ⟨wb.heap.size, 0, none⟩ = some (.int .i64 x.s) := by simp
          have d1 : (wb.alloc (.cells #[.int .i64 x.s, .int .i64 x.a, .int .i64 x.b, .int .i64 x.k, .int .i64 x.t] 26)).cell? ⟨wb.heap.size, 1, none⟩ = some (.int .i64 x.a) := by simp
          have d2 : (wb.alloc (.cells #[.int .i64 x.s, .int .i64 x.a, .int .i64 x.b, .int .i64 x.k, .int .i64 x.t] 26)).cell? ⟨wb.heap.size, 2, none⟩ = some (.int .i64 x.b) := by simp
          have d3 : (wb.alloc (.cells #[.int .i64 x.s, .int .i64 x.a, .int .i64 x.b, .int .i64 x.k, .int .i64 x.t] 26)).cell? ⟨wb.heap.size, 3, none⟩ = some (.int .i64 x.k) := by simp
          have d4 : (wb.alloc (.cells #[.int .i64 x.s, .int .i64 x.a, .int .i64 x.b, .int .i64 x.k, .int .i64 x.t] 26)).cell? ⟨wb.heap.size, 4, none⟩ = some (.int .i64 x.t) := by simp
          obtain ⟨BX, hBX⟩ : ∃ B, wb.heap.size = B := ⟨_, rfl⟩
          go_wp2_with fail
          generalize (wb.alloc (.cells #[.int .i64 x.s, .int .i64 x.a, .int .i64 x.b, .int .i64 x.k, .int .i64 x.t] 26)) = ya at *
          rw [hBX] at d0 d1 d2 d3 d4
          try rw [hBX]
          clear hBX
          have HD : Hid (∀ W, Ext ya W → W.cell? ⟨BX, 0, none⟩ = some (.int .i64 x.s) ∧ W.cell? ⟨BX, 1, none⟩ = some (.int .i64 x.a) ∧ W.cell? ⟨BX, 2, none⟩ = some (.int .i64 x.b) ∧ W.cell? ⟨BX, 3, none⟩ = some (.int .i64 x.k) ∧ W.cell? ⟨BX, 4, none⟩ = some (.int .i64 x.t)) := Lib.hid fun W hE => ⟨hE.cell d0, hE.cell d1, hE.cell d2, hE.cell d3, hE.cell d4⟩
          have HR := Lib.hid (HR.out.ext hA)
          have HX1 := Lib.hid (HX.out.trans hA)
          clear HX
          have HX := Lib.hid (Ext.refl ya)
          clear hA d0 d1 d2 d3 d4 c0 c1 c2 c3 c4
          refine (pl_as HPX.out HR.out HB.out).mono ?_
          rintro e v11 ⟨rfl, hE⟩
          have HR := Lib.hid (HR.out.ext hE)
          have HX := Lib.hid (HX.out.trans hE)
          clear hE
          obtain ⟨d0, d1, d2, d3, d4⟩ := HD.out v11 HX.out
          go_wp2_with fail
          clear d0 d1 d2 d3 d4
          refine (show Calls Try.prog 19 _ v11 (fun e w' => e = .returned (.tuple #[.agg #[.int .i64 y0, .int .i64 y1, .int .i64 y2, .int .i64 y3, .int .i64 y4], .bool true]) ∧ Ext v11 w') from fs_as HFM.out HR.out).mono ?_
          rintro e v12 ⟨rfl, hE⟩
          have HR := Lib.hid (HR.out.ext hE)
          have HX := Lib.hid (HX.out.trans hE)
          clear hE
          have hA : Ext v12 (v12.alloc (.cells #[.int .i64 y0, .int .i64 y1, .int .i64 y2, .int .i64 y3, .int .i64 y4] 26)) := (Ext.refl _).alloc _
          obtain ⟨BF, hBF⟩ : ∃ B, v12.heap.size = B := ⟨_, rfl⟩
          have hB : BoxW (v12.alloc (.cells #[.int .i64 y0, .int .i64 y1, .int .i64 y2, .int .i64 y3, .int .i64 y4] 26)) BF ⟨y0, y1, y2, y3, y4⟩ := BoxW.new _ ⟨y0, y1, y2, y3, y4⟩ _ _ hBF
          go_wp2_with fail
          generalize (v12.alloc (.cells #[.int .i64 y0, .int .i64 y1, .int .i64 y2, .int .i64 y3, .int .i64 y4] 26)) = yf at *
          try rw [hBF]
          clear hBF
          have HR := Lib.hid (HR.out.ext hA)
          have HF := Lib.hid hB
          have HX := Lib.hid (HX.out.trans hA)
          clear hA
          go_loopw [9, 48] (fun mv jv wr => ∃ j : Nat, jv = .int .i64 j ∧ j ≤ l.length ∧ mv = .int .i64 (((l.take j).countP (inB x.a x.b) : Nat) : Int) ∧ Ext ya wr ∧ RepW wr (some ⟨bb, o, none⟩) cap l ∧ BoxW wr BF ⟨y0, y1, y2, y3, y4⟩) (fun _ jv _ => l.length - (intOf jv).toNat)
          case atStart => exact ⟨0, rfl, by omega, rfl, HX.out, HR.out, HF.out⟩
          case round =>
            obtain ⟨j, rfl, hj, rfl, hE, hR, hF⟩ := hrel
            clear HX HR HF
            have HX := Lib.hid hE
            have HR := Lib.hid hR
            have HF := Lib.hid hF
            clear hE hR hF
            have hcb := countPW_le l j (inB x.a x.b)
            have hci : (((l.take j).countP (inB x.a x.b) : Nat) : Int) ≤ (j : Int) := by omega
            by_cases hjt : j < l.length
            · have hji : (j : Int) < (l.length : Int) := by omega
              obtain ⟨bb', o', he', c0, c1, c2, c3, c4⟩ := w_cells HR.out (Ext.refl _) hjt
              cases he'
              have HTK := Lib.hid (countPW_take hjt (inB x.a x.b))
              have hzm : l[j] ∈ l := List.getElem_mem hjt
              generalize l[j] = z at *
              have HPZ := Lib.hid (placeW_at HOK.out hzm)
              have HRZ := Lib.hid (HRL.out z hzm)
              clear hzm
              obtain ⟨q, hq⟩ : ∃ q, rankW l z = q := ⟨_, rfl⟩
              rw [hq] at HPZ HRZ
              clear hq
              generalize (l.take j).countP (inB x.a x.b) = m at *
              have hA : Ext wr (wr.alloc (.cells #[.int .i64 z.s, .int .i64 z.a, .int .i64 z.b, .int .i64 z.k, .int .i64 z.t] 26)) := (Ext.refl _).alloc _
              have e0 : (wr.alloc (.cells #[.int .i64 z.s, .int .i64 z.a, .int .i64 z.b, .int .i64 z.k, .int .i64 z.t] 26)).cell? ⟨wr.heap.size, 0, none⟩ = some (.int .i64 z.s) := by simp
              have e1 : (wr.alloc (.cells #[.int .i64 z.s, .int .i64 z.a, .int .i64 z.b, .int .i64 z.k, .int .i64 z.t] 26)).cell? ⟨wr.heap.size, 1, none⟩ = some (.int .i64 z.a) := by simp
              have e2 : (wr.alloc (.cells #[.int .i64 z.s, .int .i64 z.a, .int .i64 z.b, .int .i64 z.k, .int .i64 z.t] 26)).cell? ⟨wr.heap.size, 2, none⟩ = some (.int .i64 z.b) := by simp
              have e3 : (wr.alloc (.cells #[.int .i64 z.s, .int .i64 z.a, .int .i64 z.b, .int .i64 z.k, .int .i64 z.t] 26)).cell? ⟨wr.heap.size, 3, none⟩ = some (.int .i64 z.k) := by simp
              have e4 : (wr.alloc (.cells #[.int .i64 z.s, .int .i64 z.a, .int .i64 z.b, .int .i64 z.k, .int .i64 z.t] 26)).cell? ⟨wr.heap.size, 4, none⟩ = some (.int .i64 z.t) := by simp
              obtain ⟨d0, d1, d2, d3, d4⟩ := HD.out (wr.alloc (.cells #[.int .i64 z.s, .int .i64 z.a, .int .i64 z.b, .int .i64 z.k, .int .i64 z.t] 26)) (HX.out.trans hA)
              have he := eqB x.a x.b z.a z.b
              have HIN : Hid (inB x.a x.b z = (x.a == z.a && x.b == z.b)) := Lib.hid (by unfold inB; rw [Bool.eq_iff_iff]; simp; omega)
              cases hc : (x.a == z.a && x.b == z.b) with
              | false =>
                rw [hc] at he
                have HN : Hid (inB x.a x.b z = false) := Lib.hid (by rw [HIN.out, hc])
                clear hc
                go_wp2_with fail
                go_roundw
                case rel => exact ⟨j + 1, by go_num, by omega, by rw [HTK.out, HN.out]; rfl, HX.out.trans hA, HR.out.ext hA, HF.out.ext hA⟩
                case measure => simp [intOf] <;> omega
              | true =>
                rw [hc] at he
                have HN : Hid (inB x.a x.b z = true) := Lib.hid (by rw [HIN.out, hc])
                clear hc
                have HRZ2 := Lib.hid (HRZ.out HN.out)
                obtain ⟨BZ, hBZ⟩ : ∃ B, wr.heap.size = B := ⟨_, rfl⟩
                go_wp2_with fail
                generalize (wr.alloc (.cells #[.int .i64 z.s, .int .i64 z.a, .int .i64 z.b, .int .i64 z.k, .int .i64 z.t] 26)) = yz at *
                rw [hBZ] at e0 e1 e2 e3 e4
                try rw [hBZ]
                clear hBZ
                have HZ : Hid (∀ W, Ext yz W → W.cell? ⟨BZ, 0, none⟩ = some (.int .i64 z.s) ∧ W.cell? ⟨BZ, 1, none⟩ = some (.int .i64 z.a) ∧ W.cell? ⟨BZ, 2, none⟩ = some (.int .i64 z.b) ∧ W.cell? ⟨BZ, 3, none⟩ = some (.int .i64 z.k) ∧ W.cell? ⟨BZ, 4, none⟩ = some (.int .i64 z.t)) := Lib.hid fun W hE => ⟨hE.cell e0, hE.cell e1, hE.cell e2, hE.cell e3, hE.cell e4⟩
                have HR := Lib.hid (HR.out.ext hA)
                have HF := Lib.hid (HF.out.ext hA)
                have HX := Lib.hid (HX.out.trans hA)
                clear hA
                clear d0 d1 d2 d3 d4 e0 e1 e2 e3 e4 c0 c1 c2 c3 c4 he
                refine (pl_as HPZ.out HR.out HB.out).mono ?_
                rintro e v31 ⟨rfl, hE⟩
                have HYZ := Lib.hid hE
                have HR := Lib.hid (HR.out.ext hE)
                have HF := Lib.hid (HF.out.ext hE)
                have HX := Lib.hid (HX.out.trans hE)
                clear hE
                obtain ⟨d0, d1, d2, d3, d4⟩ := HD.out v31 HX.out
                obtain ⟨e0, e1, e2, e3, e4⟩ := HZ.out v31 HYZ.out
                obtain ⟨ls, hls⟩ : ∃ b, lessW x z = b := ⟨_, rfl⟩
                rw [hls] at HRZ2
                have HLS : Hid (∀ w, Calls Try.prog 26 #[.agg x.enc.toArray, .agg z.enc.toArray] w fun e w' => e = .returned (.bool ls) ∧ Ext w w') := Lib.hid fun w => hls ▸ less_any x z w
                clear hls
                cases ls with
                | false =>
                  have hpq : ¬ p < q := of_decide_eq_false HRZ2.out
                  go_wp2_with fail
                  clear d0 d1 d2 d3 d4 e0 e1 e2 e3 e4
                  refine (HLS.out _).mono ?_
                  rintro e v32 ⟨rfl, hE⟩
                  have HR := Lib.hid (HR.out.ext hE)
                  have HF := Lib.hid (HF.out.ext hE)
                  have HX := Lib.hid (HX.out.trans hE)
                  clear hE
                  go_wp2_with fail
                  go_roundw
                  case rel => exact ⟨j + 1, by go_num, by omega, by rw [HTK.out, HN.out]; go_num, HX.out, HR.out, HF.out⟩
                  case measure => simp [intOf] <;> omega
                | true =>
                  have hpq : p < q := of_decide_eq_true HRZ2.out
                  go_wp2_with fail
                  clear d0 d1 d2 d3 d4 e0 e1 e2 e3 e4
                  refine (HLS.out _).mono ?_
                  rintro e v32 ⟨rfl, hE⟩
                  have HR := Lib.hid (HR.out.ext hE)
                  have HF := Lib.hid (HF.out.ext hE)
                  have HX := Lib.hid (HX.out.trans hE)
                  clear hE
                  go_wp2_with fail
                  go_roundw
                  case rel => exact ⟨j + 1, by go_num, by omega, by rw [HTK.out, HN.out]; go_num, HX.out, HR.out, HF.out⟩
                  case measure => simp [intOf] <;> omega
            · have hji : ¬ (j : Int) < (l.length : Int) := by omega
              have HT : Hid ((((l.take j).countP (inB x.a x.b) : Nat) : Int) = manyW l x) := Lib.hid (by rw [List.take_of_length_le (by omega)]; rfl)
              have hle := HLE.out
              have hpo := HPO.out
              rw [← HT.out] at hle
              generalize (l.take j).countP (inB x.a x.b) = m at *
              obtain ⟨z0, z1, z2, z3, z4, -⟩ := HF.out
              try dsimp only at z0 z1 z2 z3 z4
              obtain ⟨d0, d1, d2, d3, d4⟩ := HD.out wr HX.out
              have hp2 : ¬ p < 1 := by omega
              have hp3 : ¬ (m : Int) < p := by omega
              have he := eqW ⟨y0, y1, y2, y3, y4⟩ x
              have hf2 := HFR.out.2
              try dsimp only at hf2 he
              cases hc : eqWt ⟨y0, y1, y2, y3, y4⟩ x with
              | false =>
                rw [hc] at he
                have hp1 : ¬ p = 1 := of_decide_eq_false (by rw [hf2]; exact hc)
                clear hf2 hc
                have hp4 : (p == 1) = false := by rw [beq_eq_false_iff_ne]; exact hp1
                go_wp2_with fail
                go_roundw
                case rel => exact ⟨k + 1, by go_num, by omega, HX1.out.trans HX.out, HR.out⟩
                case measure => simp [intOf] <;> omega
              | true =>
                rw [hc] at he
                have hp1 : p = 1 := of_decide_eq_true (by rw [hf2]; exact hc)
                clear hf2 hc
                have hp4 : (p == 1) = true := by rw [beq_iff_eq]; exact hp1
                clear hp1
                go_wp2_with fail
                go_roundw
                case rel => exact ⟨k + 1, by go_num, by omega, HX1.out.trans HX.out, HR.out⟩
                case measure => simp [intOf] <;> omega
        · have hki : ¬ (k : Int) < (l.length : Int) := by omega
          go_wp2_with fail
          go_ret
          exact ⟨rfl, HX.out⟩
  · have hf := decide_eq_false hl
    clear hl
    refine (fw_as hf HR.out).mono ?_
    rintro e v2 ⟨rfl, hE⟩
    have HR := Lib.hid (HR.out.ext hE)
    have HX := Lib.hid (HX.out.trans hE)
    clear hE
    go_wp2_with fail
    go_ret
    exact ⟨rfl, HX.out⟩
end Go.Proofs.Ytbhpeecebcihkaa
