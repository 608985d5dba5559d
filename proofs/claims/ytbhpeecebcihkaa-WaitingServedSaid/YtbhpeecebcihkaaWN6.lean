/- Waiting: the law Served. -/
import Derived.Test.YtbhpeecebcihkaaWZ
namespace Go.Proofs.Ytbhpeecebcihkaa
open Go.RowKit Go.Sz
set_option maxRecDepth 100000 in
set_option maxHeartbeats 12800000 in
theorem law_served (l : List Wt) (a b : Int) (ao : Option Addr) (cap : Nat) (w : World) (h : RepW w ao cap l) : Calls Try.prog 9 #[.slice ao l.length cap, .agg #[.int .i64 a, .int .i64 b]] w fun e w' => e = .returned (.bool true) ∧ Ext w w' := by
  have hs1 := h.max
  have hX0 : Ext w (w.alloc (.cells #[.int .i64 a, .int .i64 b] 24)) := (Ext.refl w).alloc _
  have d0 : (w.alloc (.cells #[.int .i64 a, .int .i64 b] 24)).cell? ⟨w.heap.size, 0, none⟩ = some (.int .i64 a) := by simp
  have d1 : (w.alloc (.cells #[.int .i64 a, .int .i64 b] 24)).cell? ⟨w.heap.size, 1, none⟩ = some (.int .i64 b) := by simp
  have HD : Hid (∀ W, Ext (w.alloc (.cells #[.int .i64 a, .int .i64 b] 24)) W → W.cell? ⟨w.heap.size, 0, none⟩ = some (.int .i64 a) ∧ W.cell? ⟨w.heap.size, 1, none⟩ = some (.int .i64 b)) := Lib.hid fun W hE => ⟨hE.cell d0, hE.cell d1⟩
  have HX0 := Lib.hid hX0
  have HR := Lib.hid (h.ext hX0)
  have HX := Lib.hid (Ext.refl (w.alloc (.cells #[.int .i64 a, .int .i64 b] 24)))
  clear hX0 d0 d1 h
  go_enter Try.func9, Try.ntmps9
  go_wp2_with fail
  generalize (w.alloc (.cells #[.int .i64 a, .int .i64 b] 24)) = w0 at *
  refine (sane_any _).mono ?_
  rintro e v1 ⟨rfl, hE⟩
  have HR := Lib.hid (HR.out.ext hE)
  have HX := Lib.hid (HX.out.trans hE)
  clear hE
  go_wp2_with fail
  by_cases hl : l.length ≤ 40
  · have hb : l.length ≤ 100000 := by omega
    have HLL := Lib.hid hl
    have hl2 : (l.length : Int) ≤ 40 := by omega
    have HB := Lib.hid hb
    have hf := decide_eq_true hl
    clear hl hb
    refine (fw_as hf HR.out).mono ?_
    rintro e v2 ⟨rfl, hE⟩
    have HR := Lib.hid (HR.out.ext hE)
    have HX := Lib.hid (HX.out.trans hE)
    clear hE
    go_wp2_with fail
    have HCV : Hid (checkW l = if okLW l = true then 0 else 260) := Lib.hid rfl
    cases hok : okLW l with
    | false =>
      have HC : Hid (checkW l = 260) := Lib.hid (by rw [HCV.out, hok]; rfl)
      clear hok
      refine (ck_as HC.out HR.out HB.out).mono ?_
      rintro e v3 ⟨rfl, hE⟩
      have HR := Lib.hid (HR.out.ext hE)
      have HX := Lib.hid (HX.out.trans hE)
      clear hE
      go_wp2_with fail
      go_ret
      exact ⟨rfl, HX0.out.trans HX.out⟩
    | true =>
      have HOK := Lib.hid hok
      have HC : Hid (checkW l = 0) := Lib.hid (by rw [HCV.out, hok]; rfl)
      clear hok
      refine (ck_as HC.out HR.out HB.out).mono ?_
      rintro e v3 ⟨rfl, hE⟩
      have HR := Lib.hid (HR.out.ext hE)
      have HX := Lib.hid (HX.out.trans hE)
      clear hE
      go_wp2_with fail
      have HL0 := Lib.hid (RestW.start HOK.out a b)
      go_loopw [5, 6] (fun rv nv wr => ∃ (rest : List Wt) (m : Nat) (ar : Option Addr) (cr : Nat), rv = .slice ar (List.length rest) cr ∧ nv = .int .i64 ((m : Int) + 1) ∧ RestW l a b rest m ∧ rest.length ≤ 40 ∧ m ≤ l.length ∧ RepW wr ar cr rest ∧ RepW wr ao cap l ∧ Ext w0 wr) (fun _ nv _ => l.length + 1 - (intOf nv).toNat)
      case atStart => exact ⟨l, 0, ao, cap, rfl, rfl, HL0.out, HLL.out, by omega, HR.out, HR.out, HX.out⟩
      case round =>
        obtain ⟨rest, m, ar, cr, rfl, rfl, hrw, hrl, hml, hq, hR, hE⟩ := hrel
        obtain ⟨wb, hwb⟩ : ∃ wb, wb = wr := ⟨_, rfl⟩
        subst hwb
        clear HX HR HL0
        have HX := Lib.hid hE
        have HR := Lib.hid hR
        have RQ := Lib.hid hq
        have HRW := Lib.hid hrw
        have HRL := Lib.hid hrl
        have hrl2 : (rest.length : Int) ≤ 40 := by omega
        have HBQ : Hid (rest.length ≤ 100000) := Lib.hid (by omega)
        have hml2 : (m : Int) ≤ (l.length : Int) := by omega
        clear hE hR hq hrw hrl
        obtain ⟨d0, d1⟩ := HD.out wb HX.out
        obtain ⟨dr, hdr⟩ : ∃ d, (l.filter (inB a b)).drop m = d := ⟨_, rfl⟩
        have HDR := Lib.hid hdr
        clear hdr
        cases dr with
        | nil =>
          obtain ⟨hf1, hro⟩ := HRW.out.none HDR.out
          have HF1 := Lib.hid hf1
          subst hro
          clear hf1
          go_wp2_with fail
          clear d0 d1
          refine (show Calls Try.prog 19 _ wb (fun e w' => e = .returned (.tuple #[.agg #[.int .i64 0, .int .i64 0, .int .i64 0, .int .i64 0, .int .i64 0], .bool false]) ∧ Ext wb w') from fs_as HF1.out RQ.out).mono ?_
          rintro e v11 ⟨rfl, hE⟩
          have HR := Lib.hid (HR.out.ext hE)
          have RQ := Lib.hid (RQ.out.ext hE)
          have HX := Lib.hid (HX.out.trans hE)
          clear hE
          have hA : Ext v11 (v11.alloc (.cells #[.int .i64 0, .int .i64 0, .int .i64 0, .int .i64 0, .int .i64 0] 26)) := (Ext.refl _).alloc _
          go_wp2_with fail
          generalize (v11.alloc (.cells #[.int .i64 0, .int .i64 0, .int .i64 0, .int .i64 0, .int .i64 0] 26)) = yf at *
          have HR := Lib.hid (HR.out.ext hA)
          have RQ := Lib.hid (RQ.out.ext hA)
          have HX := Lib.hid (HX.out.trans hA)
          clear hA
          obtain ⟨ns, hns⟩ : ∃ n, l.filter (outB a b) = n := ⟨_, rfl⟩
          rw [hns] at RQ hrl2 ⊢
          have HNS := Lib.hid hns
          clear hns
          go_loopw [13, 81] (fun iv jv wr => ∃ k : Nat, jv = .int .i64 k ∧ k ≤ l.length ∧ iv = .int .i64 (((l.take k).countP (outB a b) : Nat) : Int) ∧ RepW wr ar cr ns ∧ RepW wr ao cap l ∧ Ext w0 wr) (fun _ jv _ => l.length - (intOf jv).toNat)
          case atStart => exact ⟨0, rfl, by omega, by simp, RQ.out, HR.out, HX.out⟩
          case round =>
            obtain ⟨k, rfl, hk, rfl, hq, hR, hE⟩ := hrel
            clear HX HR RQ
            have HX := Lib.hid hE
            have HR := Lib.hid hR
            have RQ := Lib.hid hq
            clear hE hR hq
            have hcb := countPW_le l k (outB a b)
            have hci : (((l.take k).countP (outB a b) : Nat) : Int) ≤ (k : Int) := by omega
            by_cases hlt : k < l.length
            · have hki : (k : Int) < (l.length : Int) := by omega
              obtain ⟨bb, o, hao, c0, c1', c2, c3, c4⟩ := w_cells HR.out (Ext.refl _) hlt
              subst hao
              have HTK := Lib.hid (countPW_take hlt (outB a b))
              have HGT := Lib.hid (out_get (a := a) (b := b) hlt)
              rw [HNS.out] at HGT
              generalize l[k] = x at *
              generalize (l.take k).countP (outB a b) = i at *
              have hA : Ext wr (wr.alloc (.cells #[.int .i64 x.s, .int .i64 x.a, .int .i64 x.b, .int .i64 x.k, .int .i64 x.t] 26)) := (Ext.refl _).alloc _
              have t0 : (wr.alloc (.cells #[.int .i64 x.s, .int .i64 x.a, .int .i64 x.b, .int .i64 x.k, .int .i64 x.t] 26)).cell? ⟨wr.heap.size, 0, none⟩ = some (.int .i64 x.s) := by simp
              have t1 : (wr.alloc (.cells #[.int .i64 x.s, .int .i64 x.a, .int .i64 x.b, .int .i64 x.k, .int .i64 x.t] 26)).cell? ⟨wr.heap.size, 1, none⟩ = some (.int .i64 x.a) := by simp
              have t2 : (wr.alloc (.cells #[.int .i64 x.s, .int .i64 x.a, .int .i64 x.b, .int .i64 x.k, .int .i64 x.t] 26)).cell? ⟨wr.heap.size, 2, none⟩ = some (.int .i64 x.b) := by simp
              have t3 : (wr.alloc (.cells #[.int .i64 x.s, .int .i64 x.a, .int .i64 x.b, .int .i64 x.k, .int .i64 x.t] 26)).cell? ⟨wr.heap.size, 3, none⟩ = some (.int .i64 x.k) := by simp
              have t4 : (wr.alloc (.cells #[.int .i64 x.s, .int .i64 x.a, .int .i64 x.b, .int .i64 x.k, .int .i64 x.t] 26)).cell? ⟨wr.heap.size, 4, none⟩ = some (.int .i64 x.t) := by simp
              obtain ⟨d0, d1⟩ := HD.out (wr.alloc (.cells #[.int .i64 x.s, .int .i64 x.a, .int .i64 x.b, .int .i64 x.k, .int .i64 x.t] 26)) (HX.out.trans hA)
              have he := eqB x.a x.b a b
              have HIN : Hid (outB a b x = !(x.a == a && x.b == b)) := Lib.hid rfl
              cases hc : (x.a == a && x.b == b) with
              | true =>
                rw [hc] at he
                have HN : Hid (outB a b x = false) := Lib.hid (by rw [HIN.out, hc]; rfl)
                clear hc
                go_wp2_with fail
                go_roundw
                case rel => exact ⟨k + 1, by go_num, by omega, by rw [HTK.out, HN.out]; rfl, RQ.out.ext hA, HR.out.ext hA, HX.out.trans hA⟩
                case measure => simp [intOf] <;> omega
              | false =>
                rw [hc] at he
                have HN : Hid (outB a b x = true) := Lib.hid (by rw [HIN.out, hc]; rfl)
                clear hc
                obtain ⟨hin, hix⟩ := HGT.out HN.out
                have hii : (i : Int) < (ns.length : Int) := by omega
                have hii2 : ¬ (ns.length : Int) ≤ (i : Int) := by omega
                have hii3 : ¬ ns.length ≤ i := by omega
                obtain ⟨bq, oq, haq, q0, q1, q2, q3, q4⟩ := w_cells RQ.out hA hin
                subst haq
                rw [hix] at q0 q1 q2 q3 q4
                clear hix
                obtain ⟨BX, hBX⟩ : ∃ B, wr.heap.size = B := ⟨_, rfl⟩
                go_wp2_with fail
                generalize (wr.alloc (.cells #[.int .i64 x.s, .int .i64 x.a, .int .i64 x.b, .int .i64 x.k, .int .i64 x.t] 26)) = ya at *
                rw [hBX] at t0 t1 t2 t3 t4
                try rw [hBX]
                clear hBX he
                have he := eqW x x
                rw [show eqWt x x = true from decide_eq_true rfl] at he
                have gt0 := grow_cell t0
                have gt1 := grow_cell t1
                have gt2 := grow_cell t2
                have gt3 := grow_cell t3
                have gt4 := grow_cell t4
                have gq0 := grow_cell q0
                have gq1 := grow_cell q1
                have gq2 := grow_cell q2
                have gq3 := grow_cell q3
                have gq4 := grow_cell q4
                refine wp_region_rel_all (fun _ => none) (by kernel_rfl) (by kernel_rfl) ?_
                repeat (first
                  | (refine wpRel_quick ?_ ?_ ?_ ?_
                     · rfl
                     · rfl
                     · first | exact noEnter rfl | (intro f args W W'; go_simp)
                     intro K hK
                     go_big_quiet_op
                     go_big_quiet_on)
                  | (refine wpRel_skip ?_ ?_
                     · rfl
                     simp only [Act.put, List.setIfInBounds_toArray, List.set_cons_zero, List.set_cons_succ]))
                refine wpRel_nil ?_
                intro W3 hW3
                have hE3 : Ext wr W3 := hA.trans ((Ext.refl _).drew.trans hW3.1)
                clear hW3 he t0 gt0 t1 gt1 t2 gt2 t3 gt3 t4 gt4 q0 gq0 q1 gq1 q2 gq2 q3 gq3 q4 gq4
                go_wp2_with fail
                go_roundw
                case rel => exact ⟨k + 1, by go_num, by omega, by rw [HTK.out, HN.out]; go_num, RQ.out.ext hE3, HR.out.ext hE3, HX.out.trans hE3⟩
                case measure => simp [intOf] <;> omega
            · have hki : ¬ (k : Int) < (l.length : Int) := by omega
              have HT : Hid ((l.take k).countP (outB a b) = ns.length) := Lib.hid (by rw [List.take_of_length_le (by omega), out_all, HNS.out])
              go_wp2_with fail
              go_ret
              exact ⟨ret_bool (by rw [HT.out]; simp), HX0.out.trans HX.out⟩
        | cons y tl =>
          obtain ⟨hf1, hya, hyb, hpl, hmn, hr0, q, hlv, hql, hrq⟩ := RestW.next HOK.out HRW.out HDR.out
          obtain ⟨y0, y1, y2, y3, y4⟩ := y
          dsimp only at hya hyb hpl hlv
          subst hya hyb
          have HF1 := Lib.hid hf1
          have HPL := Lib.hid hpl
          have HLV := Lib.hid hlv
          have HRQ := Lib.hid hrq
          have hqi : ((q.length : Nat) : Int) = (rest.length : Int) - 1 := by omega
          have HQL : Hid (q.length ≤ 40) := Lib.hid (by omega)
          have HMN : Hid (m + 1 ≤ l.length) := Lib.hid (by omega)
          have HQI := Lib.hid hqi
          clear hf1 hpl hlv hrq hql hqi hmn
          go_wp2_with fail
          clear d0 d1
          refine (show Calls Try.prog 19 _ wb (fun e w' => e = .returned (.tuple #[.agg #[.int .i64 y0, .int .i64 y1, .int .i64 y2, .int .i64 y3, .int .i64 y4], .bool true]) ∧ Ext wb w') from fs_as HF1.out RQ.out).mono ?_
          rintro e v11 ⟨rfl, hE⟩
          have HR := Lib.hid (HR.out.ext hE)
          have RQ := Lib.hid (RQ.out.ext hE)
          have HX := Lib.hid (HX.out.trans hE)
          clear hE
          have hA : Ext v11 (v11.alloc (.cells #[.int .i64 y0, .int .i64 y1, .int .i64 y2, .int .i64 y3, .int .i64 y4] 26)) := (Ext.refl _).alloc _
          obtain ⟨BF, hBF⟩ : ∃ B, v11.heap.size = B := ⟨_, rfl⟩
          have t0 : (v11.alloc (.cells #[.int .i64 y0, .int .i64 y1, .int .i64 y2, .int .i64 y3, .int .i64 y4] 26)).cell? ⟨v11.heap.size, 0, none⟩ = some (.int .i64 y0) := by simp
          have t1 : (v11.alloc (.cells #[.int .i64 y0, .int .i64 y1, .int .i64 y2, .int .i64 y3, .int .i64 y4] 26)).cell? ⟨v11.heap.size, 1, none⟩ = some (.int .i64 y1) := by simp
          have t2 : (v11.alloc (.cells #[.int .i64 y0, .int .i64 y1, .int .i64 y2, .int .i64 y3, .int .i64 y4] 26)).cell? ⟨v11.heap.size, 2, none⟩ = some (.int .i64 y2) := by simp
          have t3 : (v11.alloc (.cells #[.int .i64 y0, .int .i64 y1, .int .i64 y2, .int .i64 y3, .int .i64 y4] 26)).cell? ⟨v11.heap.size, 3, none⟩ = some (.int .i64 y3) := by simp
          have t4 : (v11.alloc (.cells #[.int .i64 y0, .int .i64 y1, .int .i64 y2, .int .i64 y3, .int .i64 y4] 26)).cell? ⟨v11.heap.size, 4, none⟩ = some (.int .i64 y4) := by simp
          obtain ⟨d0, d1⟩ := HD.out (v11.alloc (.cells #[.int .i64 y0, .int .i64 y1, .int .i64 y2, .int .i64 y3, .int .i64 y4] 26)) (HX.out.trans hA)
          go_wp2_with fail
          generalize (v11.alloc (.cells #[.int .i64 y0, .int .i64 y1, .int .i64 y2, .int .i64 y3, .int .i64 y4] 26)) = yf at *
          rw [hBF] at t0 t1 t2 t3 t4
          try rw [hBF]
          clear hBF
          have HY : Hid (∀ W, Ext yf W → W.cell? ⟨BF, 0, none⟩ = some (.int .i64 y0) ∧ W.cell? ⟨BF, 1, none⟩ = some (.int .i64 y1) ∧ W.cell? ⟨BF, 2, none⟩ = some (.int .i64 y2) ∧ W.cell? ⟨BF, 3, none⟩ = some (.int .i64 y3) ∧ W.cell? ⟨BF, 4, none⟩ = some (.int .i64 y4)) := Lib.hid fun W hE => ⟨hE.cell t0, hE.cell t1, hE.cell t2, hE.cell t3, hE.cell t4⟩
          have HR := Lib.hid (HR.out.ext hA)
          have RQ := Lib.hid (RQ.out.ext hA)
          have HX := Lib.hid (HX.out.trans hA)
          clear hA
          have HXA := HX
          clear HX
          have HX := Lib.hid (Ext.refl yf)
          clear t0 t1 t2 t3 t4 d0 d1
          refine (pl_as HPL.out HR.out HB.out).mono ?_
          rintro e v12 ⟨rfl, hE⟩
          have HR := Lib.hid (HR.out.ext hE)
          have RQ := Lib.hid (RQ.out.ext hE)
          have HX := Lib.hid (HX.out.trans hE)
          clear hE
          obtain ⟨t0, t1, t2, t3, t4⟩ := HY.out v12 HX.out
          obtain ⟨d0, d1⟩ := HD.out v12 (HXA.out.trans HX.out)
          go_wp2_with fail
          clear t0 t1 t2 t3 t4 d0 d1
          refine (lv_as HLV.out RQ.out HBQ.out).mono ?_
          rintro e v13 ⟨a2, c2, rfl, hR, hE⟩
          have HR := Lib.hid (HR.out.ext hE)
          have RQ := Lib.hid (RQ.out.ext hE)
          have RN := Lib.hid (show RepW v13 a2 c2 q from hR)
          have HX := Lib.hid (HX.out.trans hE)
          clear hE
          obtain ⟨t0, t1, t2, t3, t4⟩ := HY.out v13 HX.out
          obtain ⟨d0, d1⟩ := HD.out v13 (HXA.out.trans HX.out)
          have he := eqB y1 y2 y1 y2
          rw [show (y1 == y1 && y2 == y2) = true from by simp] at he
          have hqi := HQI.out
          have hqn : ((q.length : Int) != (rest.length : Int) - 1) = false := by rw [hqi]; simp
          go_wp2_with fail
          clear t0 t1 t2 t3 t4 he hqi hqn d0 d1
          go_roundw
          case rel => exact ⟨q, m + 1, a2, c2, rfl, by go_num, HRQ.out, HQL.out, HMN.out, RN.out, HR.out, HXA.out.trans HX.out⟩
          case measure => have := HMN.out; simp [intOf] <;> omega
  · have hf := decide_eq_false hl
    clear hl
    refine (fw_as hf HR.out).mono ?_
    rintro e v2 ⟨rfl, hE⟩
    have HR := Lib.hid (HR.out.ext hE)
    have HX := Lib.hid (HX.out.trans hE)
    clear hE
    go_wp2_with fail
    go_ret
    exact ⟨rfl, HX0.out.trans HX.out⟩
end Go.Proofs.Ytbhpeecebcihkaa
