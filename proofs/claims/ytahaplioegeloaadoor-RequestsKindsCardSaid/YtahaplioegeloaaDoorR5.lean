import Derived.Test.YtahaplioegeloaaDoorR4
import Derived.Test.YtahaplioegeloaaDoorD6
namespace Go.Proofs.YtahaplioegeloaaDoor
open Go.RowKit Go.Sz

set_option maxRecDepth 100000 in
set_option maxHeartbeats 3200000 in
/-- a list -/
theorem rvalue_3 {B : Nat} {all : List UInt8} {pos : Nat} {w : World} (h : RRd w B all pos false) (hlt : pos < all.length) (h1 : all[pos].toNat = 3) (k : Int) (hk0 : 0 ≤ k) (hk : k < 16) (hal : all.length ≤ 1000000) (q : List UInt8 → Option (V × List UInt8))
    (hq : ∀ (pos : Nat) (w : World), RRd w B all pos false → Calls Tryd.prog 57 #[.pointer (some ⟨B, 0, none⟩), .int .i64 (k + 1)] w fun e w' => rvPost w B all (q (all.drop pos)) e w' ∧ Turn B w w') :
    Calls Tryd.prog 57 #[.pointer (some ⟨B, 0, none⟩), .int .i64 k] w fun e w' => rvPost w B all (headP (repP q) (all.drop pos)) e w' ∧ Turn B w w' := by
  have HP : Hid (headP (repP q) (all.drop pos) = match lenP (all.drop (pos + 1)) with
      | some (n, r) => match repP q n r with
        | some (l, r') => some (.mk 3 0 ⟨#[]⟩ l, r')
        | none => none
      | none => none) := Lib.hid (by rw [drop_cons hlt]; simp [headP, h1]; rfl)
  have HQ := Lib.hid hq
  have qk : (k == 16) = false := by simp; omega
  clear hq
  have hplt := h.lt
  have HN := Lib.hid fun (W : World) (hE : Ext w W) => next_ok (h.ext hE) hlt
  rw [h1] at HN
  clear h h1
  go_enter Tryd.func57, Tryd.ntmps57
  go_wp2_with fail
  have hE0 := (Ext.refl w).alloc (.cells #[.int .i64 0, .int .i64 0, .string ⟨#[]⟩, .slice none 0 0] 59)
  have hB0 := Box.new w (.int .i64 0) (.int .i64 0) (.string ⟨#[]⟩) (.slice none 0 0) 59
  generalize (w.alloc (.cells #[.int .i64 0, .int .i64 0, .string ⟨#[]⟩, .slice none 0 0] 59)) = w0 at *
  refine (HN.out _ hE0).mono ?_
  rintro e w1 ⟨rfl, hR1, hT1⟩
  have hB1 := hB0.turn hT1 (by omega)
  have hT1' := (Turn.of_ext hE0).trans hT1
  go_wp2_with fail
  refine (refNumber_any hR1).mono ?_
  rintro e w2 ⟨hpost, hT2⟩
  have hB2 := hB1.turn hT2 (by omega)
  have hT2' := hT1'.trans hT2
  have HB2 := Lib.hid hB2
  obtain ⟨u, hu, pos', bad, he, hR2, hHP⟩ : ∃ u : Nat, u < 18446744073709551616 ∧ ∃ (pos' : Nat) (bad : Bool), e = .returned (.int .u64 u) ∧ RRd w2 B all pos' bad ∧ lenP (all.drop (pos + 1)) = (if bad = true then none else if u ≤ all.length - pos' then some (u, all.drop pos') else none) := by
    unfold lenP
    cases hn : numP 0 0 (all.drop (pos + 1)) with
    | none =>
      rw [hn] at hpost
      obtain ⟨he, pos', hr⟩ := hpost
      exact ⟨0, by omega, pos', true, he, hr, rfl⟩
    | some nr =>
      obtain ⟨u, r⟩ := nr
      rw [hn] at hpost
      obtain ⟨he, pos', rfl, hr⟩ := hpost
      exact ⟨u, (numP_lt _ 0 0 _ _ hn (by simp) (by omega)).1, pos', false, he, hr, by simp⟩
  subst he
  have HHP := Lib.hid hHP
  have HR2 := Lib.hid hR2
  clear hpost hHP hR2 hR1 hB0 hB1 HN
  obtain ⟨b0, b1, b2, b3, bz⟩ := hB2
  have z0 := bz 0
  have z1 := bz 1
  have z2 := bz 2
  have z3 := bz 3
  obtain ⟨ao, cap, hc0, hs, hblk⟩ := HR2.out.ex
  have hc1 := HR2.out.c1
  have hc2 := HR2.out.c2
  have hy1 := HR2.out.z 1
  have hy2 := HR2.out.z 2
  have hle := HR2.out.le
  have hmax : all.length ≤ 9223372036854775807 := by have h1 := hs.le; have h2 := hs.max; rw [br_length] at h1; omega
  have hne1 : ¬ B = w.heap.size := by omega
  have hne2 : ¬ w.heap.size = B := by omega
  have HS := Lib.hid hs
  have HBK := Lib.hid hblk
  clear hs hblk
  have HK := Lib.hid fun (W : World) (h : Ext w2 W) => (⟨h.cell hc0, h.cell hc1, h.cell hc2⟩ : W.cell? ⟨B, 0, none⟩ = _ ∧ W.cell? ⟨B, 1, none⟩ = _ ∧ W.cell? ⟨B, 2, none⟩ = _)
  by_cases hgood : bad = false ∧ u ≤ all.length - pos'
  · obtain ⟨rfl, hul⟩ := hgood
    have hw1 : IntKind.i64.wrap ((all.length : Int) - (pos' : Int)) = (all.length : Int) - (pos' : Int) := by simp [IntKind.wrap, IntKind.bits, IntKind.signed]; omega
    have hw2 : IntKind.u64.wrap ((all.length : Int) - (pos' : Int)) = (all.length : Int) - (pos' : Int) := u64_small _ (by omega) (by omega)
    have q1 : ¬ ((all.length : Int) - (pos' : Int) < (u : Int)) := by omega
    have hw3 : IntKind.i64.wrap (u : Int) = (u : Int) := by simp [IntKind.wrap, IntKind.bits, IntKind.signed]; omega
    have hw4 : IntKind.i64.wrap ((pos' : Int) + (u : Int)) = (pos' : Int) + (u : Int) := by simp [IntKind.wrap, IntKind.bits, IntKind.signed]; omega
    have hw5 : IntKind.i64.wrap ((pos' : Int) + (u : Int) - (u : Int)) = (pos' : Int) := by simp [IntKind.wrap, IntKind.bits, IntKind.signed]; omega
    go_wp2_with fail
    go_quiet (fail)
    have hEq := (Ext.refl w2).drewN nq
    generalize w2.drewN nq = wq at *
    have HRq := Lib.hid (HR2.out.ext hEq)
    have HBq := Lib.hid (HB2.out.ext hEq)
    have HTq := Lib.hid (hT2'.trans (Turn.of_ext hEq))
    clear hc0 hc1 hc2 hy1 hy2 b0 b1 b2 b3 bz z0 z1 z2 z3
    obtain ⟨b0, b1, b2, b3, bz⟩ := HBq.out
    have z0 := bz 0
    have z1 := bz 1
    have z2 := bz 2
    have z3 := bz 3
    have hc1 := HRq.out.c1
    have hc2 := HRq.out.c2
    have hy1 := HRq.out.z 1
    have hy2 := HRq.out.z 2
    have hT3 := HTq.out
    have hwqs : w.heap.size < wq.heap.size := HBq.out.lt
    have hBq : B < wq.heap.size := HRq.out.lt
    go_wp2_with fail
    have HP2 : Hid (headP (repP q) (all.drop pos) = match repP q u (all.drop pos') with
        | some (l, r') => some (.mk 3 0 ⟨#[]⟩ l, r')
        | none => none) := Lib.hid (by rw [HP.out, HHP.out, if_neg (by decide), if_pos hul])
    have hAw := (Ext.refl wq).alloc (.cells #[.int .i64 3, .int .i64 0, .string ⟨#[]⟩, .slice none 0 0] 59)
    have HBX0 := Box.new wq (.int .i64 3) (.int .i64 0) (.string ⟨#[]⟩) (.slice none 0 0) 59
    have HRa := HRq.out.ext hAw
    have HBa := HBq.out.ext hAw
    clear hc1 hc2 hy1 hy2 b0 b1 b2 b3 bz z0 z1 z2 z3 HK hT1 hT1' hT2 hT2' hE0 HB2 HR2 HHP HP
    generalize (wq.alloc (.cells #[.int .i64 3, .int .i64 0, .string ⟨#[]⟩, .slice none 0 0] 59)) = wa at *
    go_loopw [9] (fun i wr => ∃ (m : Nat) (bad2 : Bool) (pos2 : Nat) (xs : List V) (v : Value) (rows : List (List Value)) (F : Nat → Prop), i = .int .u64 m ∧ m ≤ u ∧ xs.length = m ∧ RRd wr B all pos2 bad2 ∧
      Box wr wq.heap.size (.int .i64 3) (.int .i64 0) (.string ⟨#[]⟩) v ∧ Lst wq ⟨B, 0, none⟩ wq.heap.size 59 xs wr v rows F ∧ Box wr w.heap.size (.int .i64 0) (.int .i64 0) (.string ⟨#[]⟩) (.slice none 0 0) ∧
      (repP q u (all.drop pos') = if bad2 = true then none else match repP q (u - m) (all.drop pos2) with
        | some (l, r'') => some (xs ++ l, r'')
        | none => none)) (fun i _ => u - (intOf i).toNat)
    case atStart =>
      refine ⟨0, false, pos', [], .slice none 0 0, [], fun _ => False, rfl, by omega, rfl, HRa, HBX0, ⟨World.ownsRow_nil _ _ _ _, rfl, by simp, by simp, by simp, by simp, Turn.of_ext hAw⟩, HBa, ?_⟩
      simp
      split <;> simp_all
    case round =>
      obtain ⟨m, bad2, pos2, xs, v, rows, F, rfl, hm, hxl, hR, hB, hL, hBr, hrep⟩ := hrel
      have HREP := Lib.hid hrep
      have HL := Lib.hid hL
      have HBR := Lib.hid hBr
      have HR := Lib.hid hR
      clear hrep hL hBr
      have hc2 := hR.c2
      by_cases hlt : m < u
      · cases bad2 with
        | false =>
          have q5 : (m : Int) < (u : Int) := by omega
          have HQ2 : Hid (Calls Tryd.prog 57 #[.pointer (some ⟨B, 0, none⟩), .int .i64 (k + 1)] wr.drew fun e w' => ∃ ao cap Fx pos3 bad3 xk xn xs' xl, e = .returned (.agg #[.int .i64 xk, .int .i64 xn, .string xs', .slice ao (List.length xl) cap]) ∧
              RepV w' Fx [.int .i64 xk, .int .i64 xn, .string xs', .slice ao xl.length cap] (.mk xk xn xs' xl) ∧ (∀ b, Fx b → wr.heap.size ≤ b) ∧ RRd w' B all pos3 bad3 ∧ q (all.drop pos2) = (if bad3 = true then none else some (.mk xk xn xs' xl, all.drop pos3)) ∧ Turn B wr w') := Lib.hid (by
            refine (HQ.out pos2 wr.drew (HR.out.ext (Ext.refl _).drew)).mono ?_
            rintro e w' ⟨⟨cs, Fx, x, pos3, bad3, rfl, hRx, hFx, hRd1, hqe⟩, hTx⟩
            obtain ⟨xk, xn, xs', xl⟩ := x
            obtain ⟨ao, cap, rows2, hcs, _⟩ := hRx.open
            obtain ⟨cl⟩ := cs
            simp only at hcs
            subst hcs
            exact ⟨ao, cap, Fx, pos3, bad3, xk, xn, xs', xl, rfl, hRx, hFx, hRd1, hqe, (Turn.of_ext (Ext.refl _).drew).trans hTx⟩)
          have hwk : IntKind.i64.wrap (k + 1) = k + 1 := by simp [IntKind.wrap, IntKind.bits, IntKind.signed]; omega
          obtain ⟨b0, b1, b2, b3, bz⟩ := hB
          have HBX := Lib.hid (Box.mk b0 b1 b2 b3 bz)
          obtain ⟨i0, hi, hz0, hz1, hz2⟩ := info_parts infoV
          have hbp : wq.heap.size ≠ B := by omega
          have hbp2 : w.heap.size ≠ B := by omega
          go_wp2_with fail
          go_region_law
            (first
              | (go_simp; go_at_call 57; refine HQ2.out.mono ?_; rintro e w4 ⟨ao4, cap4, Fx, pos3, bad3, xk, xn, xs', xl, rfl, hRx, hFx, hRd1, hqe, hTx⟩; have HQE := Lib.hid hqe; clear hqe; have hB4 := HBX.out.turn hTx hbp; have d3 := hB4.c3; have d3' : ∀ o, (w4.alloc o).cell? ⟨wq.heap.size, 3, none⟩ = some v := fun o => ((Ext.refl w4).alloc o).cell d3; have hown4 := HL.out.own.kept hTx (Or.inr fun e => by have := ownsRow_blocks HL.out.own _ e; omega))
              | (refine step_append_S rfl _ _ 57 57 rfl (wq.heap.size + 1) 59 i0 _ 4 56 Tryd.underlying57 hi hz0 hz1 hz2 rfl v xs.length rows.flatten rfl (ownsRow_ext hown4 ((Ext.refl _).alloc _)) _ 1 [.int .i64 xk, .int .i64 xn, .string xs', .slice ao4 xl.length cap4] rfl (Src.ofSlice _ Tryd.underlying57 ⟨_, 0, none⟩ 1 1 _ rfl (four_cells (by simp) (by simp) (by simp) (by simp)) (by simp [Value.oneCell'])) (by unfold maxLen; omega) (by omega) (by have h1 := hTx.size; have h2 := HL.out.turn.size; have h3 := HBX.out.lt; simp; omega) ?_; intro v5 w5 ho5 hg5; obtain ⟨ao5, cap5, hv5⟩ := ownsRow_slice ho5; subst hv5; have hB5 : Box w5 wq.heap.size (.int .i64 3) (.int .i64 0) (.string ⟨#[]⟩) v := (hB4.ext ((Ext.refl _).alloc _)).keep (hg5.by_.block _ (by have := hB4.lt; simp; omega) (fun e => by have := ownsRow_blocks hown4 _ e.symm; omega)); have f3 := hB5.c3; have f3z := hB5.z 3))
          all_goals
            have hwm : IntKind.u64.wrap ((m : Int) + 1) = ((m + 1 : Nat) : Int) := u64_small _ (by omega) (by omega)
            have hwf := hB5.set3 (.slice ao5 (m + 1) cap5)
            have hL5 := HL.out.push (show (⟨B, 0, none⟩ : Addr).block < wq.heap.size from hBq) rfl hTx hRx hFx (by simp [Value.oneCell']) hg5 ho5 (by have := HBX.out.lt; omega) (.slice ao5 (m + 1) cap5)
            have hk5 : ∀ b, b ≤ wq.heap.size → b < w4.heap.size → (w5.setCell ⟨wq.heap.size, 3, none⟩ (.slice ao5 (m + 1) cap5)).heap[b]? = w4.heap[b]? ∨ b = wq.heap.size := fun b hb hb2 => by
              by_cases hbe : b = wq.heap.size
              · exact .inr hbe
              · left
                rw [heap_setCell_far _ _ _ _ (by show b ≠ wq.heap.size; exact hbe), hg5.by_.block b (by simp; omega) (fun e => by have := ownsRow_blocks hown4 _ e.symm; omega)]
                exact ((Ext.refl w4).alloc _).block b hb2
            have hRd5 : RRd (w5.setCell ⟨wq.heap.size, 3, none⟩ (.slice ao5 (m + 1) cap5)) B all pos3 bad3 := hRd1.keep fun b hb => (hk5 b (by omega) (by have := hRd1.lt; omega)).resolve_right (by omega)
            have hBr5 : Box (w5.setCell ⟨wq.heap.size, 3, none⟩ (.slice ao5 (m + 1) cap5)) w.heap.size (.int .i64 0) (.int .i64 0) (.string ⟨#[]⟩) (.slice none 0 0) :=
              (HBR.out.turn hTx hbp2).keep ((hk5 _ (by omega) ((HBR.out.turn hTx hbp2).lt)).resolve_right (by omega))
            rw [hxl] at hL5
            have HL5 := Lib.hid hL5
            clear hL5 hB5 f3 f3z hg5 ho5 hRd1 hTx hB4 d3 d3' hown4 hk5
            generalize (w5.setCell ⟨wq.heap.size, 3, none⟩ (.slice ao5 (m + 1) cap5)) = w6 at *
            go_wp2_with fail
            go_roundw
            case rel =>
              refine ⟨m + 1, bad3, pos3, xs ++ [.mk xk xn xs' xl], .slice ao5 (m + 1) cap5, _, _, by go_num, by omega, by simp [hxl], hRd5, hwf, HL5.out, hBr5, ?_⟩
              rw [HREP.out, if_neg (by decide), show u - m = (u - (m + 1)) + 1 by omega, repP, HQE.out]
              cases bad3 with
              | true => rfl
              | false =>
                simp only [Bool.false_eq_true, if_false]
                cases repP q (u - (m + 1)) (all.drop pos3) with
                | none => rfl
                | some lr => simp
            case measure => simp [intOf] <;> omega
        | true =>
          have q5 : (m : Int) < (u : Int) := by omega
          obtain ⟨b0, b1, b2, b3, bz⟩ := hB
          obtain ⟨g0, g1, g2, g3, gz⟩ := HBR.out
          have z0 := gz 0
          have z1 := gz 1
          have z2 := gz 2
          have z3 := gz 3
          obtain ⟨ao9, cap9, hv, hsl, hblk⟩ := SL.of_owns HL.out.own HL.out.wid HL.out.len
          subst hv
          have HSL := Lib.hid hsl
          have HBK2 := Lib.hid hblk
          clear hsl hblk
          have hlen := HL.out.len
          have hRX : RepV wr (fun b => wq.heap.size + 1 ≤ b) [.int .i64 3, .int .i64 0, .string ⟨#[]⟩, .slice ao9 rows.length cap9] (.mk 3 0 ⟨#[]⟩ xs) := by
            rw [hlen]
            exact RepV.mk (k := 3) (n := 0) (s := ⟨#[]⟩) (ao := ao9) (cap := cap9) (l := xs) rows ⟨by omega, by omega⟩ ⟨by omega, by omega⟩ (by decide) HSL.out (fun a ha _ => ownsRow_blocks HL.out.own _ (HBK2.out a ha)) hlen fun j r x h1 h2 => (HL.out.rep j r x h1 h2).weaken fun b hb => (HL.out.foot b hb).1
          have HRX := Lib.hid hRX
          clear hRX hlen
          go_wp2_with fail
          obtain ⟨f1, f2, f3, f4⟩ := fin4 (w := w) HBR.out HR.out hplt HRX.out (fun b hb => by omega) (hT3.trans HL.out.turn) (Nat.le_refl _)
          generalize (((((wr).setCell ⟨w.heap.size, 0, none⟩ (.int .i64 3)).setCell ⟨w.heap.size, 1, none⟩ (.int .i64 0)).setCell ⟨w.heap.size, 2, none⟩ (.string ⟨#[]⟩)).setCell ⟨w.heap.size, 3, none⟩ (.slice ao9 rows.length cap9)) = w5 at *
          obtain ⟨e0, e1, e2, e3, ez⟩ := f1
          refine ⟨rfl, .agg #[.int .i64 3, .int .i64 0, .string ⟨#[]⟩, .slice ao9 rows.length cap9], ?_, ?_⟩
          · simp [results, Tryd.results57, go_sem, e0, e1, e2, e3]
          · refine ⟨⟨_, _, _, _, true, rfl, f3, fun b hb => by omega, f2, ?_⟩, f4⟩
            rw [HP2.out, HREP.out]
            rfl
      · have hmu : m = u := by omega
        have q5 : ¬ ((m : Int) < (u : Int)) := by omega
        obtain ⟨b0, b1, b2, b3, bz⟩ := hB
        obtain ⟨g0, g1, g2, g3, gz⟩ := HBR.out
        have z0 := gz 0
        have z1 := gz 1
        have z2 := gz 2
        have z3 := gz 3
        obtain ⟨ao9, cap9, hv, hsl, hblk⟩ := SL.of_owns HL.out.own HL.out.wid HL.out.len
        subst hv
        have HSL := Lib.hid hsl
        have HBK2 := Lib.hid hblk
        clear hsl hblk
        have hlen := HL.out.len
        have hRX : RepV wr (fun b => wq.heap.size + 1 ≤ b) [.int .i64 3, .int .i64 0, .string ⟨#[]⟩, .slice ao9 rows.length cap9] (.mk 3 0 ⟨#[]⟩ xs) := by
          rw [hlen]
          exact RepV.mk (k := 3) (n := 0) (s := ⟨#[]⟩) (ao := ao9) (cap := cap9) (l := xs) rows ⟨by omega, by omega⟩ ⟨by omega, by omega⟩ (by decide) HSL.out (fun a ha _ => ownsRow_blocks HL.out.own _ (HBK2.out a ha)) hlen fun j r x h1 h2 => (HL.out.rep j r x h1 h2).weaken fun b hb => (HL.out.foot b hb).1
        have HRX := Lib.hid hRX
        clear hRX hlen
        go_wp2_with fail
        obtain ⟨f1, f2, f3, f4⟩ := fin4 (w := w) HBR.out HR.out hplt HRX.out (fun b hb => by omega) (hT3.trans HL.out.turn) (Nat.le_refl _)
        generalize (((((wr).setCell ⟨w.heap.size, 0, none⟩ (.int .i64 3)).setCell ⟨w.heap.size, 1, none⟩ (.int .i64 0)).setCell ⟨w.heap.size, 2, none⟩ (.string ⟨#[]⟩)).setCell ⟨w.heap.size, 3, none⟩ (.slice ao9 rows.length cap9)) = w5 at *
        obtain ⟨e0, e1, e2, e3, ez⟩ := f1
        refine ⟨rfl, .agg #[.int .i64 3, .int .i64 0, .string ⟨#[]⟩, .slice ao9 rows.length cap9], ?_, ?_⟩
        · simp [results, Tryd.results57, go_sem, e0, e1, e2, e3]
        · refine ⟨⟨_, _, _, _, bad2, rfl, f3, fun b hb => by omega, f2, ?_⟩, f4⟩
          rw [HP2.out, HREP.out]
          cases bad2 with
          | true => rfl
          | false =>
            rw [show u - m = 0 by omega]
            simp [repP]
  · have HNO : Hid (lenP (all.drop (pos + 1)) = none) := Lib.hid (by
      rw [HHP.out]
      cases bad with
      | true => rfl
      | false => rw [if_neg (by decide), if_neg (fun h => hgood ⟨rfl, h⟩)])
    have hcase : bad = true ∨ (bad = false ∧ (all.length : Int) - (pos' : Int) < (u : Int)) := by
      cases bad with
      | true => exact .inl rfl
      | false =>
        refine .inr ⟨rfl, ?_⟩
        have : ¬ u ≤ all.length - pos' := fun h => hgood ⟨rfl, h⟩
        omega
    clear hgood
    have hw1 : IntKind.i64.wrap ((all.length : Int) - (pos' : Int)) = (all.length : Int) - (pos' : Int) := by simp [IntKind.wrap, IntKind.bits, IntKind.signed]; omega
    have hw2 : IntKind.u64.wrap ((all.length : Int) - (pos' : Int)) = (all.length : Int) - (pos' : Int) := u64_small _ (by omega) (by omega)
    rcases hcase with rfl | ⟨rfl, q1⟩
    · skip
      go_wp2_with fail
      go_quiet (fail)
      have hEq := (Ext.refl w2).drewN nq
      generalize w2.drewN nq = wq at *
      have HRq := Lib.hid (HR2.out.ext hEq)
      have HBq := Lib.hid (HB2.out.ext hEq)
      have HTq := Lib.hid (hT2'.trans (Turn.of_ext hEq))
      clear hc0 hc1 hc2 hy1 hy2 b0 b1 b2 b3 bz z0 z1 z2 z3
      obtain ⟨b0, b1, b2, b3, bz⟩ := HBq.out
      have z0 := bz 0
      have z1 := bz 1
      have z2 := bz 2
      have z3 := bz 3
      have hc1 := HRq.out.c1
      have hc2 := HRq.out.c2
      have hy1 := HRq.out.z 1
      have hy2 := HRq.out.z 2
      go_wp2_with fail
      obtain ⟨f1, f2, f3, f4⟩ := fin4 (w := w) (HBq.out.keep (heap_setCell_far wq ⟨B, 2, none⟩ (.bool true) _ hne2)) (HRq.out.setBad true) (by omega) (rep_zero _ (fun _ => False)) (by simp) (HTq.out.trans (Turn.setCell wq ⟨B, 2, none⟩ _)) (Nat.le_refl _)
      generalize (((((wq.setCell ⟨B, 2, none⟩ (.bool true)).setCell ⟨w.heap.size, 0, none⟩ (.int .i64 0)).setCell ⟨w.heap.size, 1, none⟩ (.int .i64 0)).setCell ⟨w.heap.size, 2, none⟩ (.string ⟨#[]⟩)).setCell ⟨w.heap.size, 3, none⟩ (.slice none 0 0)) = w5 at *
      obtain ⟨e0, e1, e2, e3, ez⟩ := f1
      refine ⟨rfl, .agg #[.int .i64 0, .int .i64 0, .string ⟨#[]⟩, .slice none 0 0], ?_, ?_⟩
      · simp [results, Tryd.results57, go_sem, e0, e1, e2, e3]
      · exact ⟨⟨_, _, _, _, true, rfl, f3, by simp, f2, by rw [HP.out, HNO.out]; rfl⟩, f4⟩
    · skip
      go_wp2_with fail
      go_quiet (fail)
      have hEq := (Ext.refl w2).drewN nq
      generalize w2.drewN nq = wq at *
      have HRq := Lib.hid (HR2.out.ext hEq)
      have HBq := Lib.hid (HB2.out.ext hEq)
      have HTq := Lib.hid (hT2'.trans (Turn.of_ext hEq))
      clear hc0 hc1 hc2 hy1 hy2 b0 b1 b2 b3 bz z0 z1 z2 z3
      obtain ⟨b0, b1, b2, b3, bz⟩ := HBq.out
      have z0 := bz 0
      have z1 := bz 1
      have z2 := bz 2
      have z3 := bz 3
      have hc1 := HRq.out.c1
      have hc2 := HRq.out.c2
      have hy1 := HRq.out.z 1
      have hy2 := HRq.out.z 2
      go_wp2_with fail
      obtain ⟨f1, f2, f3, f4⟩ := fin4 (w := w) (HBq.out.keep (heap_setCell_far wq ⟨B, 2, none⟩ (.bool true) _ hne2)) (HRq.out.setBad true) (by omega) (rep_zero _ (fun _ => False)) (by simp) (HTq.out.trans (Turn.setCell wq ⟨B, 2, none⟩ _)) (Nat.le_refl _)
      generalize (((((wq.setCell ⟨B, 2, none⟩ (.bool true)).setCell ⟨w.heap.size, 0, none⟩ (.int .i64 0)).setCell ⟨w.heap.size, 1, none⟩ (.int .i64 0)).setCell ⟨w.heap.size, 2, none⟩ (.string ⟨#[]⟩)).setCell ⟨w.heap.size, 3, none⟩ (.slice none 0 0)) = w5 at *
      obtain ⟨e0, e1, e2, e3, ez⟩ := f1
      refine ⟨rfl, .agg #[.int .i64 0, .int .i64 0, .string ⟨#[]⟩, .slice none 0 0], ?_, ?_⟩
      · simp [results, Tryd.results57, go_sem, e0, e1, e2, e3]
      · exact ⟨⟨_, _, _, _, true, rfl, f3, by simp, f2, by rw [HP.out, HNO.out]; rfl⟩, f4⟩
end Go.Proofs.YtahaplioegeloaaDoor
