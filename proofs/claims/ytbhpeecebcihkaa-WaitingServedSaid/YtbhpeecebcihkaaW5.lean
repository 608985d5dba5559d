/- Waiting: Check of the program. -/
import Derived.Test.YtbhpeecebcihkaaWM
namespace Go.Sz
open Go.RowKit
def w0 : Wt := ⟨0, 0, 0, 0, 0⟩
def metB (l : List Wt) (i : Nat) : Bool := ((l.take i).map plOf).contains (plOf (l.getD i w0))
def okAtW (l : List Wt) (i : Nat) : Bool := okW (l.getD i w0) && (i == 0 || decide (cmpW (l.getD (i - 1) w0) (l.getD i w0) < 0)) && !metB l i
def okLW (l : List Wt) : Bool := (List.range l.length).all (okAtW l)
def checkW (l : List Wt) : Int := if okLW l = true then 0 else 260
theorem okLW_false {l : List Wt} {k : Nat} (hk : k < l.length) (h : okAtW l k = false) : checkW l = 260 := by
  unfold checkW okLW
  rw [if_neg]
  intro h2
  rw [List.all_eq_true] at h2
  rw [h2 k (by simpa using hk)] at h
  cases h
theorem range_all_succ (f : Nat → Bool) (m : Nat) : (List.range (m + 1)).all f = ((List.range m).all f && f m) := by rw [List.range_succ, List.all_append]; simp
theorem getW {l : List Wt} {i : Nat} (h : i < l.length) : l.getD i w0 = l[i] := by simp [List.getD, h]
theorem metB_at {l : List Wt} {k : Nat} (h : k < l.length) : metB l k = ((l.take k).map plOf).contains (plOf l[k]) := by unfold metB; rw [getW h]
theorem okAtW_zero {l : List Wt} (h : 0 < l.length) : okAtW l 0 = (okW l[0] && !metB l 0) := by unfold okAtW; rw [getW h]; simp
theorem okAtW_succ {l : List Wt} {k : Nat} (h : k < l.length) (h0 : 0 < k) : okAtW l k = (okW l[k] && decide (cmpW l[k - 1] l[k] < 0) && !metB l k) := by
  unfold okAtW
  rw [getW h, getW (by omega)]
  have : (k == 0) = false := by rw [beq_eq_false_iff_ne]; omega
  rw [this]; simp
theorem okAtW_bad {l : List Wt} {k : Nat} (h : k < l.length) (hf : okW l[k] = false) : okAtW l k = false := by unfold okAtW; rw [getW h, hf]; rfl
theorem take_plOf {l : List Wt} {k : Nat} (h : k < l.length) : (l.take (k + 1)).map plOf = (l.take k).map plOf ++ [plOf l[k]] := by rw [List.take_succ_eq_append_getElem h, List.map_append]; rfl
theorem wpList_mapUpdate_run {P : Program} (w w' : World) {ops : Array Oper} {rest : List Oper} {o : Oper} {a : Act} {Q : Exit → Act → World → Prop} (hg : o.guard = none) (m x v : Operand) (t : TypeId) (hop : o.op = Op.mapUpdate t m x v) (mv key val : Value)
    (hm : a.eval m = mv) (hx : a.eval x = key) (hv : a.eval v = val) (hrun : (Instr.mapUpdate t mv key val).run P w = .ok () w') (hK : wpList P ops Q rest (a.put o.dst undef) w') : wpList P ops Q (o :: rest) a w := by
  refine wpList_plain hg fun K' hK' => ?_
  unfold Oper.wp
  simp [execOp, hop, hm, hx, hv, hrun, Result.andThen]
  exact hK' _ _ hK
end Go.Sz
namespace Go.Proofs.Ytbhpeecebcihkaa
open Go.RowKit Go.Sz
set_option maxRecDepth 100000 in
set_option maxHeartbeats 6400000 in
theorem checkW_any (l : List Wt) (ao : Option Addr) (cap : Nat) (w : World) (h : RepW w ao cap l) (hb : l.length ≤ 100000) : Calls Try.prog 17 #[.slice ao l.length cap] w fun e w' => e = .returned (.int .i64 (checkW l)) ∧ Ext w w' := by
  have HL := Lib.hid h
  have hs1 := h.max
  have HBN := Lib.hid hb
  have hmm := @run_makeMap Try.prog
  have hM0 := MetW.made w
  have hE0 : Ext w (w.alloc (.map #[] 0)) := (Ext.refl w).alloc _
  clear h hb
  go_enter Try.func17, Try.ntmps17
  go_wp2_with fail
  clear hmm
  generalize w.alloc (.map #[] 0) = wm at *
  obtain ⟨B, hB⟩ : ∃ B, w.heap.size = B := ⟨_, rfl⟩
  rw [hB] at hM0 ⊢
  have HBB := Lib.hid hB
  clear hB
  have HM0 := Lib.hid hM0
  have HE0 := Lib.hid hE0
  clear hM0 hE0
  go_loopw [10] (fun iv wr => ∃ k : Nat, iv = .int .i64 k ∧ k ≤ l.length ∧ (List.range k).all (okAtW l) = true ∧ Ext w wr ∧ MetW wr B k ((l.take k).map plOf)) (fun iv _ => l.length - (intOf iv).toNat)
  case atStart => exact ⟨0, rfl, by omega, rfl, HE0.out, HM0.out⟩
  case round =>
    obtain ⟨k, rfl, hk, ho, hB, hM⟩ := hrel
    have HO := Lib.hid ho
    have HB := Lib.hid hB
    have HM := Lib.hid hM
    clear ho hB hM
    by_cases hlt : k < l.length
    · have hki : (k : Int) < (l.length : Int) := by omega
      obtain ⟨b, o, rfl, c0, c1, c2, c3, c4⟩ := w_cells HL.out HB.out hlt
      have HZ : Hid (k = 0 → okAtW l k = (okW l[k] && !metB l k)) := Lib.hid fun h => by subst h; exact okAtW_zero hlt
      have HS := Lib.hid (okAtW_succ hlt)
      have HMT := Lib.hid (metB_at hlt)
      have HTP := Lib.hid (take_plOf hlt)
      have HBAD := Lib.hid (okAtW_bad hlt)
      have HKM : Hid (k < maxLen) := Lib.hid (by have := HBN.out; unfold maxLen; omega)
      have HP : Hid (0 < k → ∃ y, y = l[k - 1] ∧ ∀ W, Ext wr W → W.cell? ⟨b, o + (k - 1) * 5, none⟩ = some (.int .i64 y.s) ∧ W.cell? ⟨b, o + (k - 1) * 5 + 1, none⟩ = some (.int .i64 y.a) ∧ W.cell? ⟨b, o + (k - 1) * 5 + 2, none⟩ = some (.int .i64 y.b) ∧ W.cell? ⟨b, o + (k - 1) * 5 + 3, none⟩ = some (.int .i64 y.k) ∧ W.cell? ⟨b, o + (k - 1) * 5 + 4, none⟩ = some (.int .i64 y.t)) := Lib.hid fun h0 => ⟨l[k - 1], rfl, fun W hE => by
        obtain ⟨b', o', e, h1⟩ := w_cells HL.out (HB.out.trans hE) (i := k - 1) (by omega)
        cases e
        exact h1⟩
      generalize hx : l[k] = x at *
      clear hx
      go_wp2_with fail
      have hW1 : Ext wr ((wr.alloc (.cells #[.int .i64 x.s, .int .i64 x.a, .int .i64 x.b, .int .i64 x.k, .int .i64 x.t] 26)).alloc (.cells #[.int .i64 x.s, .int .i64 x.a, .int .i64 x.b] 58)) := ((Ext.refl wr).alloc _).alloc _
      have hsz : (wr.alloc (.cells #[.int .i64 x.s, .int .i64 x.a, .int .i64 x.b, .int .i64 x.k, .int .i64 x.t] 26)).heap.size = wr.heap.size + 1 := by simp
      have d0 : ((wr.alloc (.cells #[.int .i64 x.s, .int .i64 x.a, .int .i64 x.b, .int .i64 x.k, .int .i64 x.t] 26)).alloc (.cells #[.int .i64 x.s, .int .i64 x.a, .int .i64 x.b] 58)).cell? ⟨wr.heap.size, 0, none⟩ = some (.int .i64 x.s) := by simp
      have d1 : ((wr.alloc (.cells #[.int .i64 x.s, .int .i64 x.a, .int .i64 x.b, .int .i64 x.k, .int .i64 x.t] 26)).alloc (.cells #[.int .i64 x.s, .int .i64 x.a, .int .i64 x.b] 58)).cell? ⟨wr.heap.size, 1, none⟩ = some (.int .i64 x.a) := by simp
      have d2 : ((wr.alloc (.cells #[.int .i64 x.s, .int .i64 x.a, .int .i64 x.b, .int .i64 x.k, .int .i64 x.t] 26)).alloc (.cells #[.int .i64 x.s, .int .i64 x.a, .int .i64 x.b] 58)).cell? ⟨wr.heap.size, 2, none⟩ = some (.int .i64 x.b) := by simp
      have d3 : ((wr.alloc (.cells #[.int .i64 x.s, .int .i64 x.a, .int .i64 x.b, .int .i64 x.k, .int .i64 x.t] 26)).alloc (.cells #[.int .i64 x.s, .int .i64 x.a, .int .i64 x.b] 58)).cell? ⟨wr.heap.size, 3, none⟩ = some (.int .i64 x.k) := by simp
      have d4 : ((wr.alloc (.cells #[.int .i64 x.s, .int .i64 x.a, .int .i64 x.b, .int .i64 x.k, .int .i64 x.t] 26)).alloc (.cells #[.int .i64 x.s, .int .i64 x.a, .int .i64 x.b] 58)).cell? ⟨wr.heap.size, 4, none⟩ = some (.int .i64 x.t) := by simp
      have e0 : ((wr.alloc (.cells #[.int .i64 x.s, .int .i64 x.a, .int .i64 x.b, .int .i64 x.k, .int .i64 x.t] 26)).alloc (.cells #[.int .i64 x.s, .int .i64 x.a, .int .i64 x.b] 58)).cell? ⟨wr.heap.size + 1, 0, none⟩ = some (.int .i64 x.s) := by simp
      have e1 : ((wr.alloc (.cells #[.int .i64 x.s, .int .i64 x.a, .int .i64 x.b, .int .i64 x.k, .int .i64 x.t] 26)).alloc (.cells #[.int .i64 x.s, .int .i64 x.a, .int .i64 x.b] 58)).cell? ⟨wr.heap.size + 1, 1, none⟩ = some (.int .i64 x.a) := by simp
      have e2 : ((wr.alloc (.cells #[.int .i64 x.s, .int .i64 x.a, .int .i64 x.b, .int .i64 x.k, .int .i64 x.t] 26)).alloc (.cells #[.int .i64 x.s, .int .i64 x.a, .int .i64 x.b] 58)).cell? ⟨wr.heap.size + 1, 2, none⟩ = some (.int .i64 x.b) := by simp
      generalize ((wr.alloc (.cells #[.int .i64 x.s, .int .i64 x.a, .int .i64 x.b, .int .i64 x.k, .int .i64 x.t] 26)).alloc (.cells #[.int .i64 x.s, .int .i64 x.a, .int .i64 x.b] 58)) = W1 at *
      clear c0 c1 c2 c3 c4 hsz
      have HW1 := Lib.hid hW1
      clear hW1
      have HE012 := Lib.hid (And.intro e0 (And.intro e1 e2))
      have gd0 := grow_cell d0
      have gd1 := grow_cell d1
      have gd2 := grow_cell d2
      have gd3 := grow_cell d3
      have gd4 := grow_cell d4
      have ge0 := grow_cell e0
      have ge1 := grow_cell e1
      have ge2 := grow_cell e2
      cases hf : okW x with
      | false =>
        have HBD := Lib.hid (okLW_false hlt (HBAD.out hf))
        refine wp_region_rel_all (fun i => if i = 1 then some (spV (.bool false)) else none) (by kernel_rfl) (by kernel_rfl) ?_
        repeat (first
          | (refine wpRel_quick ?_ ?_ ?_ ?_
             · rfl
             · rfl
             · first | exact noEnter rfl | (intro f args W W'; go_simp)
             intro K hK
             go_big_quiet_op
             go_big_quiet_on)
          | (refine wpRel_skip ?_ ?_
             · rfl
             simp only [Act.put, List.setIfInBounds_toArray, List.set_cons_zero, List.set_cons_succ]))
        refine wpRel_rich _ rfl rfl (fun W hW => ?_) (fun v W3 hW3 hv => ?_)
        · have hc := (hf ▸ validW_any x W)
          go_simp
          refine Calls.mono hc ?_
          rintro e w' ⟨rfl, h⟩
          exact ⟨_, rfl, rfl, by first | exact h | (subst h; exact Ext.refl _)⟩
        obtain rfl := hv
        clear hW3
        simp only [Act.put, List.setIfInBounds_toArray, List.set_cons_zero, List.set_cons_succ]
        repeat (first
          | (refine wpRel_quick ?_ ?_ ?_ ?_
             · rfl
             · rfl
             · first | exact noEnter rfl | (intro f args W W'; go_simp)
             intro K hK
             go_big_quiet_op
             go_big_quiet_on)
          | (refine wpRel_skip ?_ ?_
             · rfl
             simp only [Act.put, List.setIfInBounds_toArray, List.set_cons_zero, List.set_cons_succ]))
        refine wpRel_nil ?_
        intro W3 hW3
        have HE3 := Lib.hid (HW1.out.trans ((Ext.refl _).drew.trans hW3.1))
        obtain ⟨e0', e1', e2'⟩ := HE012.out
        have f0 := (((Ext.refl _).drew.trans hW3.1)).cell e0'
        have f1 := (((Ext.refl _).drew.trans hW3.1)).cell e1'
        have f2 := (((Ext.refl _).drew.trans hW3.1)).cell e2'
        clear hW3 e0' e1' e2' d0 gd0 d1 gd1 d2 gd2 d3 gd3 d4 gd4 e0 ge0 e1 ge1 e2 ge2 
        go_wp2_with fail
        go_ret
        exact ⟨by rw [HBD.out]; rfl, HB.out.trans HE3.out⟩
      | true =>
        have HF := Lib.hid hf
        have HPL : Hid (okPl (plOf x)) := Lib.hid (okPl_of hf)
        have HTE : Hid (plV (plOf x) = .agg #[.int .i64 x.s, .int .i64 x.a, .int .i64 x.b]) := Lib.hid rfl
        clear hf
        obtain ⟨c, hc⟩ : ∃ c, c = ((l.take k).map plOf).contains (plOf x) := ⟨_, rfl⟩
        have HC := Lib.hid hc
        have HMC : Hid (metB l k = c) := Lib.hid (by rw [HMT.out, hc])
        clear hc
        rcases Nat.eq_zero_or_pos k with h0 | h0
        · have HK0 := Lib.hid h0
          subst h0
          cases c with
          | true => exact absurd HC.out (by simp)
          | false =>
            obtain ⟨c, hc⟩ : ∃ c, c = false := ⟨_, rfl⟩
            rw [← hc] at HC
            have HCF := Lib.hid hc
            clear hc
            refine wp_region_rel_all (fun i => if i = 1 then some (spV (.bool true)) else none) (by kernel_rfl) (by kernel_rfl) ?_
            repeat (first
              | (refine wpRel_quick ?_ ?_ ?_ ?_
                 · rfl
                 · rfl
                 · first | exact noEnter rfl | (intro f args W W'; go_simp)
                 intro K hK
                 go_big_quiet_op
                 go_big_quiet_on)
              | (refine wpRel_skip ?_ ?_
                 · rfl
                 simp only [Act.put, List.setIfInBounds_toArray, List.set_cons_zero, List.set_cons_succ]))
            refine wpRel_rich _ rfl rfl (fun W hW => ?_) (fun v W3 hW3 hv => ?_)
            · have hc := (HF.out ▸ validW_any x W)
              go_simp
              refine Calls.mono hc ?_
              rintro e w' ⟨rfl, h⟩
              exact ⟨_, rfl, rfl, by first | exact h | (subst h; exact Ext.refl _)⟩
            obtain rfl := hv
            clear hW3
            simp only [Act.put, List.setIfInBounds_toArray, List.set_cons_zero, List.set_cons_succ]
            repeat (first
              | (refine wpRel_quick ?_ ?_ ?_ ?_
                 · rfl
                 · rfl
                 · first | exact noEnter rfl | (intro f args W W'; go_simp)
                 intro K hK
                 go_big_quiet_op
                 go_big_quiet_on)
              | (refine wpRel_skip ?_ ?_
                 · rfl
                 simp only [Act.put, List.setIfInBounds_toArray, List.set_cons_zero, List.set_cons_succ]))
            refine wpRel_quiet (.bool c) rfl rfl (fun W hW => by have hl := ((HM.out.ext (HW1.out.trans ((Ext.refl _).drew.trans hW.1))).look HPL.out); rw [← HC.out, HTE.out] at hl; go_simp; exact ⟨rfl, rfl⟩) ?_
            simp only [Act.put, List.setIfInBounds_toArray, List.set_cons_zero, List.set_cons_succ]
            repeat (first
              | (refine wpRel_quick ?_ ?_ ?_ ?_
                 · rfl
                 · rfl
                 · first | exact noEnter rfl | (intro f args W W'; go_simp)
                 intro K hK
                 go_big_quiet_op
                 go_big_quiet_on)
              | (refine wpRel_skip ?_ ?_
                 · rfl
                 simp only [Act.put, List.setIfInBounds_toArray, List.set_cons_zero, List.set_cons_succ]))
            refine wpRel_nil ?_
            intro W3 hW3
            have HE3 := Lib.hid (HW1.out.trans ((Ext.refl _).drew.trans hW3.1))
            obtain ⟨e0', e1', e2'⟩ := HE012.out
            have f0 := (((Ext.refl _).drew.trans hW3.1)).cell e0'
            have f1 := (((Ext.refl _).drew.trans hW3.1)).cell e1'
            have f2 := (((Ext.refl _).drew.trans hW3.1)).cell e2'
            clear hW3 e0' e1' e2' d0 gd0 d1 gd1 d2 gd2 d3 gd3 d4 gd4 e0 ge0 e1 ge1 e2 ge2 
            obtain rfl := HCF.out
            obtain ⟨w4, hr4, hm4, hg4⟩ := (HM.out.ext HE3.out).store HPL.out HKM.out
            have hr4' : (Instr.mapUpdate 56 (.map (some B)) (.agg #[.int .i64 x.s, .int .i64 x.a, .int .i64 x.b]) (.bool true)).run Try.prog W3 = .ok () w4 := hr4
            have HM4 := Lib.hid hm4
            have HR4 := Lib.hid hr4'
            have HE4 : Hid (Ext w w4) := Lib.hid (ext_grown (HB.out.trans HE3.out) (by rw [HBB.out]; exact Nat.le_refl _) hg4)
            clear hr4 hr4' hm4 hg4
            go_wp2_with (at_mapUpdate; refine wpList_mapUpdate_run _ _ rfl _ _ _ _ rfl _ _ _ rfl rfl rfl HR4.out ?_)
            go_roundw
            case rel => exact ⟨1, by go_num, by omega, by rw [range_all_succ, HZ.out rfl, HF.out, HMC.out]; rfl, HE4.out, HTP.out ▸ HM4.out⟩
            case measure => simp [intOf] <;> omega
        · obtain ⟨y, hy, hyc⟩ := HP.out h0
          have HCC := Lib.hid (HS.out h0)
          have HY := Lib.hid hy
          obtain ⟨y0, y1, y2, y3, y4⟩ := hyc _ HW1.out
          have gy0 := grow_cell y0
          have gy1 := grow_cell y1
          have gy2 := grow_cell y2
          have gy3 := grow_cell y3
          have gy4 := grow_cell y4
          clear hyc hy
          have hk1 : (0 : Int) < (k : Int) := by omega
          by_cases hcm : cmpW y x < 0
          · have g1 : ¬ (0 : Int) ≤ cmpW y x := by omega
            have HG1 := Lib.hid hcm
            clear hcm
            refine wp_region_rel_all (fun i => if i = 1 then some (spV (.bool true)) else if i = 13 then some (spV (.int .i64 (cmpW y x))) else none) (by kernel_rfl) (by kernel_rfl) ?_
            repeat (first
              | (refine wpRel_quick ?_ ?_ ?_ ?_
                 · rfl
                 · rfl
                 · first | exact noEnter rfl | (intro f args W W'; go_simp)
                 intro K hK
                 go_big_quiet_op
                 go_big_quiet_on)
              | (refine wpRel_skip ?_ ?_
                 · rfl
                 simp only [Act.put, List.setIfInBounds_toArray, List.set_cons_zero, List.set_cons_succ]))
            refine wpRel_rich _ rfl rfl (fun W hW => ?_) (fun v W3 hW3 hv => ?_)
            · have hc := (HF.out ▸ validW_any x W)
              go_simp
              refine Calls.mono hc ?_
              rintro e w' ⟨rfl, h⟩
              exact ⟨_, rfl, rfl, by first | exact h | (subst h; exact Ext.refl _)⟩
            obtain rfl := hv
            clear hW3
            simp only [Act.put, List.setIfInBounds_toArray, List.set_cons_zero, List.set_cons_succ]
            repeat (first
              | (refine wpRel_quick ?_ ?_ ?_ ?_
                 · rfl
                 · rfl
                 · first | exact noEnter rfl | (intro f args W W'; go_simp)
                 intro K hK
                 go_big_quiet_op
                 go_big_quiet_on)
              | (refine wpRel_skip ?_ ?_
                 · rfl
                 simp only [Act.put, List.setIfInBounds_toArray, List.set_cons_zero, List.set_cons_succ]))
            refine wpRel_rich _ rfl rfl (fun W hW => ?_) (fun v W3 hW3 hv => ?_)
            · have hc := compareW_any y x W
              go_simp
              refine Calls.mono hc ?_
              rintro e w' ⟨rfl, h⟩
              exact ⟨_, rfl, rfl, by first | exact h | (subst h; exact Ext.refl _)⟩
            obtain rfl := hv
            clear hW3
            simp only [Act.put, List.setIfInBounds_toArray, List.set_cons_zero, List.set_cons_succ]
            repeat (first
              | (refine wpRel_quick ?_ ?_ ?_ ?_
                 · rfl
                 · rfl
                 · first | exact noEnter rfl | (intro f args W W'; go_simp)
                 intro K hK
                 go_big_quiet_op
                 go_big_quiet_on)
              | (refine wpRel_skip ?_ ?_
                 · rfl
                 simp only [Act.put, List.setIfInBounds_toArray, List.set_cons_zero, List.set_cons_succ]))
            refine wpRel_quiet (.bool c) rfl rfl (fun W hW => by have hl := ((HM.out.ext (HW1.out.trans ((Ext.refl _).drew.trans hW.1))).look HPL.out); rw [← HC.out, HTE.out] at hl; go_simp; exact ⟨rfl, rfl⟩) ?_
            simp only [Act.put, List.setIfInBounds_toArray, List.set_cons_zero, List.set_cons_succ]
            repeat (first
              | (refine wpRel_quick ?_ ?_ ?_ ?_
                 · rfl
                 · rfl
                 · first | exact noEnter rfl | (intro f args W W'; go_simp)
                 intro K hK
                 go_big_quiet_op
                 go_big_quiet_on)
              | (refine wpRel_skip ?_ ?_
                 · rfl
                 simp only [Act.put, List.setIfInBounds_toArray, List.set_cons_zero, List.set_cons_succ]))
            refine wpRel_nil ?_
            intro W3 hW3
            have HE3 := Lib.hid (HW1.out.trans ((Ext.refl _).drew.trans hW3.1))
            obtain ⟨e0', e1', e2'⟩ := HE012.out
            have f0 := (((Ext.refl _).drew.trans hW3.1)).cell e0'
            have f1 := (((Ext.refl _).drew.trans hW3.1)).cell e1'
            have f2 := (((Ext.refl _).drew.trans hW3.1)).cell e2'
            clear hW3 e0' e1' e2' d0 gd0 d1 gd1 d2 gd2 d3 gd3 d4 gd4 e0 ge0 e1 ge1 e2 ge2 y0 y1 y2 y3 y4 gy0 gy1 gy2 gy3 gy4
            cases c with
            | true =>
              have HBD : Hid (checkW l = 260) := Lib.hid (okLW_false hlt (by rw [HCC.out, HMC.out]; simp))
              go_wp2_with fail
              go_ret
              exact ⟨by rw [HBD.out]; rfl, HB.out.trans HE3.out⟩
            | false =>
              obtain ⟨w4, hr4, hm4, hg4⟩ := (HM.out.ext HE3.out).store HPL.out HKM.out
              have hr4' : (Instr.mapUpdate 56 (.map (some B)) (.agg #[.int .i64 x.s, .int .i64 x.a, .int .i64 x.b]) (.bool true)).run Try.prog W3 = .ok () w4 := hr4
              have HM4 := Lib.hid hm4
              have HR4 := Lib.hid hr4'
              have HE4 : Hid (Ext w w4) := Lib.hid (ext_grown (HB.out.trans HE3.out) (by rw [HBB.out]; exact Nat.le_refl _) hg4)
              clear hr4 hr4' hm4 hg4
              go_wp2_with (at_mapUpdate; refine wpList_mapUpdate_run _ _ rfl _ _ _ _ rfl _ _ _ rfl rfl rfl HR4.out ?_)
              go_roundw
              case rel => exact ⟨k + 1, by go_num, by omega, by rw [range_all_succ, HCC.out, HF.out, HMC.out, ← HY.out, HO.out]; simpa using HG1.out, HE4.out, HTP.out ▸ HM4.out⟩
              case measure => simp [intOf] <;> omega
          · have g1 : (0 : Int) ≤ cmpW y x := by omega
            have HBD : Hid (checkW l = 260) := Lib.hid (okLW_false hlt (by rw [HCC.out, HF.out, ← HY.out]; simp; intro h; exact absurd h hcm))
            clear hcm
            refine wp_region_rel_all (fun i => if i = 1 then some (spV (.bool true)) else if i = 13 then some (spV (.int .i64 (cmpW y x))) else none) (by kernel_rfl) (by kernel_rfl) ?_
            repeat (first
              | (refine wpRel_quick ?_ ?_ ?_ ?_
                 · rfl
                 · rfl
                 · first | exact noEnter rfl | (intro f args W W'; go_simp)
                 intro K hK
                 go_big_quiet_op
                 go_big_quiet_on)
              | (refine wpRel_skip ?_ ?_
                 · rfl
                 simp only [Act.put, List.setIfInBounds_toArray, List.set_cons_zero, List.set_cons_succ]))
            refine wpRel_rich _ rfl rfl (fun W hW => ?_) (fun v W3 hW3 hv => ?_)
            · have hc := (HF.out ▸ validW_any x W)
              go_simp
              refine Calls.mono hc ?_
              rintro e w' ⟨rfl, h⟩
              exact ⟨_, rfl, rfl, by first | exact h | (subst h; exact Ext.refl _)⟩
            obtain rfl := hv
            clear hW3
            simp only [Act.put, List.setIfInBounds_toArray, List.set_cons_zero, List.set_cons_succ]
            repeat (first
              | (refine wpRel_quick ?_ ?_ ?_ ?_
                 · rfl
                 · rfl
                 · first | exact noEnter rfl | (intro f args W W'; go_simp)
                 intro K hK
                 go_big_quiet_op
                 go_big_quiet_on)
              | (refine wpRel_skip ?_ ?_
                 · rfl
                 simp only [Act.put, List.setIfInBounds_toArray, List.set_cons_zero, List.set_cons_succ]))
            refine wpRel_rich _ rfl rfl (fun W hW => ?_) (fun v W3 hW3 hv => ?_)
            · have hc := compareW_any y x W
              go_simp
              refine Calls.mono hc ?_
              rintro e w' ⟨rfl, h⟩
              exact ⟨_, rfl, rfl, by first | exact h | (subst h; exact Ext.refl _)⟩
            obtain rfl := hv
            clear hW3
            simp only [Act.put, List.setIfInBounds_toArray, List.set_cons_zero, List.set_cons_succ]
            repeat (first
              | (refine wpRel_quick ?_ ?_ ?_ ?_
                 · rfl
                 · rfl
                 · first | exact noEnter rfl | (intro f args W W'; go_simp)
                 intro K hK
                 go_big_quiet_op
                 go_big_quiet_on)
              | (refine wpRel_skip ?_ ?_
                 · rfl
                 simp only [Act.put, List.setIfInBounds_toArray, List.set_cons_zero, List.set_cons_succ]))
            refine wpRel_nil ?_
            intro W3 hW3
            have HE3 := Lib.hid (HW1.out.trans ((Ext.refl _).drew.trans hW3.1))
            obtain ⟨e0', e1', e2'⟩ := HE012.out
            have f0 := (((Ext.refl _).drew.trans hW3.1)).cell e0'
            have f1 := (((Ext.refl _).drew.trans hW3.1)).cell e1'
            have f2 := (((Ext.refl _).drew.trans hW3.1)).cell e2'
            clear hW3 e0' e1' e2' d0 gd0 d1 gd1 d2 gd2 d3 gd3 d4 gd4 e0 ge0 e1 ge1 e2 ge2 y0 y1 y2 y3 y4 gy0 gy1 gy2 gy3 gy4
            go_wp2_with fail
            go_ret
            exact ⟨by rw [HBD.out]; rfl, HB.out.trans HE3.out⟩
    · have hki : ¬ (k : Int) < (l.length : Int) := by omega
      have HBD : Hid (checkW l = 0) := Lib.hid (by
        have : k = l.length := by omega
        unfold checkW okLW
        rw [← this, HO.out, if_pos rfl])
      go_wp2_with fail
      go_ret
      exact ⟨by rw [HBD.out]; rfl, HB.out⟩
end Go.Proofs.Ytbhpeecebcihkaa
