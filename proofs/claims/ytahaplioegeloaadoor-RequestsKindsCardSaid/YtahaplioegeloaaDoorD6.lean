import Derived.Test.YtahaplioegeloaaDoorLp
import Derived.Test.YtahaplioegeloaaDoorLw
import Derived.RegionDies
import Derived.Deep.RegionLaw
namespace Go.Proofs.YtahaplioegeloaaDoor
open Go.RowKit Go.Sz

set_option maxRecDepth 100000 in
set_option maxHeartbeats 1600000 in
/-- a list at the greatest depth -/
theorem value_3deep {p : Addr} {b : UInt8} {r : List UInt8} {w : World} (h : Rd w p (b :: r)) (hb : b.toNat = 3) (k : Int) (hk : 16 ≤ k) :
    Calls Tryd.prog 47 #[.pointer (some p), .int .i64 k] w fun e w' => valPost w p (headP (fun _ _ => none) (b :: r)) e w' ∧ Turn p.block w w' := by
  have HP : Hid (headP (fun _ _ => none) (b :: r) = none) := Lib.hid (by simp only [headP, hb]; simp; split <;> rfl)
  have hplt := h.lt
  have q1 : ¬ k < 16 := by omega
  clear hk
  go_enter Tryd.func47, Tryd.ntmps47
  go_wp2_with fail
  have hE0 : Ext w (w.alloc (.cells #[.int .i64 0, .int .i64 0, .string ⟨#[]⟩, .slice none 0 0] 59)) := (Ext.refl w).alloc _
  refine (take1_rd (h.ext hE0)).mono ?_
  rintro e w1 ⟨blk, off, rfl, hc, hR1, hT1⟩
  rw [hb] at hc
  have hne : w.heap.size ≠ p.block := by omega
  have hB1 := (Box.new w (.int .i64 0) (.int .i64 0) (.string ⟨#[]⟩) (.slice none 0 0) 59).turn hT1 hne
  obtain ⟨b0, b1, b2, b3, bz⟩ := hB1
  have z0 := bz 0
  go_wp2_with (go_at_call 48; refine (want_f _ _ _ (by first | rfl | assumption | (simp; omega))).mono ?_; rintro e w2 ⟨rfl, rfl⟩)
  exact ⟨rfl, by rw [HP.out]; rfl, ((Turn.of_ext hE0).trans hT1).store _ _ (Nat.le_refl _)⟩

theorem infoV : (Tryd.prog.info? 59).map (fun i => (i.zero, i.size, i.bytes)) = some (some (.agg #[.int .i64 0, .int .i64 0, .string ⟨#[]⟩, .slice none 0 0]), 4, 56) := by kernel_rfl

set_option maxRecDepth 100000 in
set_option maxHeartbeats 1600000 in
theorem value_3 {p : Addr} {b : UInt8} {r : List UInt8} {w : World} (h : Rd w p (b :: r)) (hb : b.toNat = 3) (k : Int) (hk0 : 0 ≤ k) (hk : k < 16) (hrl : r.length ≤ 1000000) (q : List UInt8 → Option (V × List UInt8)) (hql : ∀ bs x r, q bs = some (x, r) → r.length ≤ bs.length)
    (hq : ∀ (bs : List UInt8) (w : World), bs.length ≤ 1000000 → Rd w p bs → Calls Tryd.prog 47 #[.pointer (some p), .int .i64 (k + 1)] w fun e w' => valPost w p (q bs) e w' ∧ Turn p.block w w') :
    Calls Tryd.prog 47 #[.pointer (some p), .int .i64 k] w fun e w' => valPost w p (headP (repP q) (b :: r)) e w' ∧ Turn p.block w w' := by
  have HP : Hid (headP (repP q) (b :: r) = match lenP r with
      | some (n, r) => match repP q n r with
        | some (l, r') => some (.mk 3 0 ⟨#[]⟩ l, r')
        | none => none
      | none => none) := by simp [headP, hb]; rfl
  have HQ := Lib.hid hq
  have HQL := Lib.hid hql
  clear hq hql
  have hplt := h.lt
  go_enter Tryd.func47, Tryd.ntmps47
  go_wp2_with fail
  have hE0 : Ext w (w.alloc (.cells #[.int .i64 0, .int .i64 0, .string ⟨#[]⟩, .slice none 0 0] 59)) := (Ext.refl w).alloc _
  refine (take1_rd (h.ext hE0)).mono ?_
  rintro e w1 ⟨blk, off, rfl, hc, hR1, hT1⟩
  rw [hb] at hc
  have hne : w.heap.size ≠ p.block := by omega
  have hB1 := (Box.new w (.int .i64 0) (.int .i64 0) (.string ⟨#[]⟩) (.slice none 0 0) 59).turn hT1 hne
  obtain ⟨b0, b1, b2, b3, bz⟩ := hB1
  have z0 := bz 0
  go_wp2_with (go_at_call 48; refine (want_t _ _ _ (by first | rfl | assumption | (simp; omega))).mono ?_; rintro e w2 ⟨rfl, rfl⟩)
  have hT2 : Turn p.block w (w1.setCell ⟨w.heap.size, 0, none⟩ (.int .i64 3)) := ((Turn.of_ext hE0).trans hT1).store _ _ (Nat.le_refl _)
  have hR2 : Rd (w1.setCell ⟨w.heap.size, 0, none⟩ (.int .i64 3)) p r := hR1.setCell _ _ hplt
  have hB2 := (Box.mk b0 b1 b2 b3 bz).set0 (.int .i64 3)
  clear b0 b1 b2 b3 bz z0 hR1 hT1 hc
  generalize (w1.setCell ⟨w.heap.size, 0, none⟩ (.int .i64 3)) = w2 at *
  have hN := length_any hR2
  cases hn : lenP r with
  | none =>
    rw [hn] at HP hN
    refine hN.mono ?_
    rintro e w3 ⟨he, hT3⟩
    change e = .panicked pan at he
    subst he
    exact ⟨rfl, by rw [HP.out]; rfl, hT2.trans hT3⟩
  | some nr =>
    obtain ⟨n, r'⟩ := nr
    rw [hn] at HP hN
    have hnl : r'.length ≤ r.length := lenP_le hn
    refine hN.mono ?_
    rintro e w3 ⟨⟨rfl, hR3, hle⟩, hT3⟩
    have hB3 := hB2.turn hT3 hne
    go_wp2_with fail
    have HP2 : Hid (headP (repP q) (b :: r) = match repP q n r' with
        | some (l, r') => some (.mk 3 0 ⟨#[]⟩ l, r')
        | none => none) := HP.out
    have hn63 : (n : Int) ≤ 9223372036854775807 := by
      obtain ⟨ao3, cap3, _, hs3, _⟩ := hR3.ex
      have h1 := hs3.le
      have h2 := hs3.max
      rw [br_length] at h1
      omega
    have hT23 := hT2.trans hT3
    go_loopw [37] (fun i wr => ∃ (m : Nat) (xs : List V) (rs : List UInt8) (v : Value) (rows : List (List Value)) (F : Nat → Prop), i = .int .i64 m ∧ m ≤ n ∧ xs.length = m ∧ rs.length ≤ 1000000 ∧ Rd wr p rs ∧
      Box wr w.heap.size (.int .i64 3) (.int .i64 0) (.string ⟨#[]⟩) v ∧ Lst w p w.heap.size 59 xs wr v rows F ∧
      (repP q n r' = match repP q (n - m) rs with
        | some (l, r'') => some (xs ++ l, r'')
        | none => none)) (fun i _ => n - (intOf i).toNat)
    case atStart =>
      refine ⟨0, [], r', .slice none 0 0, [], fun _ => False, rfl, by omega, rfl, by omega, hR3, hB3, ⟨World.ownsRow_nil _ _ _ _, rfl, by simp, by simp, by simp, by simp, hT23⟩, ?_⟩
      simp
      split <;> simp_all
    case round =>
      obtain ⟨m, xs, rs, v, rows, F, rfl, hm, hxl, hrsl, hR, hB, hL, hrep⟩ := hrel
      have HREP := Lib.hid hrep
      have HL := Lib.hid hL
      clear hrep hL
      by_cases hlt : m < n
      · have hw0 := HL.out.turn
        have hRd : Rd wr.drew p rs := hR.ext (Ext.refl _).drew
        have hQ := HQ.out rs wr.drew hrsl hRd
        cases hqr : q rs with
        | none =>
          rw [hqr] at hQ
          have HQ2 := Lib.hid hQ
          clear hQ
          have hr0 : repP q n r' = none := by
            rw [HREP.out, show n - m = (n - m - 1) + 1 by omega, repP, hqr]
          obtain ⟨b0, b1, b2, b3, bz⟩ := hB
          go_wp2_with fail
          have hwk : IntKind.i64.wrap (k + 1) = k + 1 := by simp [IntKind.wrap, IntKind.bits, IntKind.signed]; omega
          go_region_dies
          all_goals
            refine HQ2.out.mono ?_
            rintro e w4 ⟨he, hT4⟩
            change e = .panicked pan at he
            subst he
            exact ⟨rfl, by rw [HP2.out, hr0]; rfl, HL.out.turn.trans ((Turn.of_ext (Ext.refl _).drew).trans hT4)⟩
        | some xr =>
          obtain ⟨⟨xk, xn, xs', xl⟩, r1⟩ := xr
          rw [hqr] at hQ
          have HQ2 : Hid (Calls Tryd.prog 47 #[.pointer (some p), .int .i64 (k + 1)] wr.drew fun e w' => ∃ ao cap Fx, e = .returned (.agg #[.int .i64 xk, .int .i64 xn, .string xs', .slice ao xl.length cap]) ∧
              RepV w' Fx [.int .i64 xk, .int .i64 xn, .string xs', .slice ao xl.length cap] (.mk xk xn xs' xl) ∧ (∀ b, Fx b → wr.heap.size ≤ b) ∧ Rd w' p r1 ∧ Turn p.block wr w') := by
            refine hQ.mono ?_
            rintro e w' ⟨⟨cs, Fx, rfl, hRx, hFx, hRd1⟩, hTx⟩
            obtain ⟨ao, cap, rows2, hcs, _⟩ := hRx.open
            obtain ⟨cl⟩ := cs
            simp only at hcs
            subst hcs
            exact ⟨ao, cap, Fx, rfl, hRx, hFx, hRd1, (Turn.of_ext (Ext.refl _).drew).trans hTx⟩
          clear hQ
          have HR1 : Hid (repP q (n - m) rs = match repP q (n - (m + 1)) r1 with
              | some (l, r'') => some (V.mk xk xn xs' xl :: l, r'')
              | none => none) := Lib.hid (by rw [show n - m = (n - (m + 1)) + 1 by omega, repP, hqr]; rfl)
          have hwk : IntKind.i64.wrap (k + 1) = k + 1 := by simp [IntKind.wrap, IntKind.bits, IntKind.signed]; omega
          obtain ⟨b0, b1, b2, b3, bz⟩ := hB
          have HBX := Lib.hid (Box.mk b0 b1 b2 b3 bz)
          obtain ⟨i0, hi, hz0, hz1, hz2⟩ := info_parts infoV
          have hbp : w.heap.size ≠ p.block := hne
          go_wp2_with fail
          go_region_law
            (first
              | (go_simp; go_at_call 47; refine HQ2.out.mono ?_; rintro e w4 ⟨ao4, cap4, Fx, rfl, hRx, hFx, hRd1, hTx⟩; have hB4 := HBX.out.turn hTx hbp; have d3 := hB4.c3; have d3' : ∀ o, (w4.alloc o).cell? ⟨w.heap.size, 3, none⟩ = some v := fun o => ((Ext.refl w4).alloc o).cell d3; have hown4 := HL.out.own.kept hTx (Or.inr fun e => by have := ownsRow_blocks HL.out.own _ e; omega))
              | (refine step_append_S rfl _ _ 57 57 rfl (w.heap.size + 1) 59 i0 _ 4 56 Tryd.underlying57 hi hz0 hz1 hz2 rfl v xs.length rows.flatten rfl (ownsRow_ext hown4 ((Ext.refl _).alloc _)) _ 1 [.int .i64 xk, .int .i64 xn, .string xs', .slice ao4 xl.length cap4] rfl (Src.ofSlice _ Tryd.underlying57 ⟨_, 0, none⟩ 1 1 _ rfl (four_cells (by simp) (by simp) (by simp) (by simp)) (by simp [Value.oneCell'])) (by unfold maxLen; omega) (by omega) (by have h1 := hTx.size; have h2 := HL.out.turn.size; simp; omega) ?_; intro v5 w5 ho5 hg5; obtain ⟨ao5, cap5, hv5⟩ := ownsRow_slice ho5; subst hv5; have hB5 : Box w5 w.heap.size (.int .i64 3) (.int .i64 0) (.string ⟨#[]⟩) v := (hB4.ext ((Ext.refl _).alloc _)).keep (hg5.by_.block _ (by have := hB4.lt; simp; omega) (fun e => by have := ownsRow_blocks hown4 _ e.symm; omega)); have f3 := hB5.c3; have f3z := hB5.z 3))
          all_goals
            have hwm : IntKind.i64.wrap ((m : Int) + 1) = ((m + 1 : Nat) : Int) := by simp [IntKind.wrap, IntKind.bits, IntKind.signed]; omega
            have hwf := hB5.set3 (.slice ao5 (m + 1) cap5)
            have hL5 := HL.out.push hplt rfl hTx hRx hFx (by simp [Value.oneCell']) hg5 ho5 (by have := HL.out.turn.size; have := HBX.out.lt; omega) (.slice ao5 (m + 1) cap5)
            have hRd5 : Rd (w5.setCell ⟨w.heap.size, 3, none⟩ (.slice ao5 (m + 1) cap5)) p r1 := (hRd1.keep fun b hb => by
              rw [hg5.by_.block b (by have := hRd1.lt; simp; omega) (fun e => by have := ownsRow_blocks hown4 _ e.symm; omega)]
              exact ((Ext.refl w4).alloc _).block b (by have := hRd1.lt; omega)).setCell _ _ hplt
            rw [hxl] at hL5
            have HL5 := Lib.hid hL5
            have hrl1 := HQL.out _ _ _ hqr
            clear hL5 hB5 f3 f3z hg5 ho5 hRd1 hTx hB4 d3 d3' hown4
            generalize (w5.setCell ⟨w.heap.size, 3, none⟩ (.slice ao5 (m + 1) cap5)) = w6 at *
            go_wp2_with fail
            go_roundw
            case rel =>
              refine ⟨m + 1, xs ++ [.mk xk xn xs' xl], r1, .slice ao5 (m + 1) cap5, _, _, by go_num, by omega, by simp [hxl], by omega, hRd5, hwf, HL5.out, ?_⟩
              rw [HREP.out, HR1.out]
              cases repP q (n - (m + 1)) r1 with
              | none => rfl
              | some lr => simp
            case measure => simp [intOf] <;> omega
      · have hmn : m = n := by omega
        obtain ⟨b0, b1, b2, b3, bz⟩ := hB
        obtain ⟨ao, cap, hv, hsl, hblk⟩ := SL.of_owns HL.out.own HL.out.wid HL.out.len
        subst hv
        have z0 := bz 0
        have z1 := bz 1
        have z2 := bz 2
        have z3 := bz 3
        have HSL := Lib.hid hsl
        have HBK := Lib.hid hblk
        clear hsl hblk
        go_wp2_with fail
        have hB5 := (((((Box.mk b0 b1 b2 b3 bz).set0 (.int .i64 3)).set1 (.int .i64 0)).set2 (.string ⟨#[]⟩)).set3 (.slice ao rows.length cap))
        have hT5 := ((((HL.out.turn.store ⟨w.heap.size, 0, none⟩ (.int .i64 3) (Nat.le_refl _)).store ⟨w.heap.size, 1, none⟩ (.int .i64 0) (Nat.le_refl _)).store ⟨w.heap.size, 2, none⟩ (.string ⟨#[]⟩) (Nat.le_refl _)).store ⟨w.heap.size, 3, none⟩ (.slice ao rows.length cap) (Nat.le_refl _))
        have hR5 := ((((hR.setCell ⟨w.heap.size, 0, none⟩ (.int .i64 3) hplt).setCell ⟨w.heap.size, 1, none⟩ (.int .i64 0) hplt).setCell ⟨w.heap.size, 2, none⟩ (.string ⟨#[]⟩) hplt).setCell ⟨w.heap.size, 3, none⟩ (.slice ao rows.length cap) hplt)
        have hkeep : ∀ b, w.heap.size + 1 ≤ b → ((((wr.setCell ⟨w.heap.size, 0, none⟩ (.int .i64 3)).setCell ⟨w.heap.size, 1, none⟩ (.int .i64 0)).setCell ⟨w.heap.size, 2, none⟩ (.string ⟨#[]⟩)).setCell ⟨w.heap.size, 3, none⟩ (.slice ao rows.length cap)).heap[b]? = wr.heap[b]? := fun b hb => by
          rw [heap_setCell_far _ _ _ _ (by show b ≠ w.heap.size; omega), heap_setCell_far _ _ _ _ (by show b ≠ w.heap.size; omega), heap_setCell_far _ _ _ _ (by show b ≠ w.heap.size; omega), heap_setCell_far _ _ _ _ (by show b ≠ w.heap.size; omega)]
        generalize ((((wr.setCell ⟨w.heap.size, 0, none⟩ (.int .i64 3)).setCell ⟨w.heap.size, 1, none⟩ (.int .i64 0)).setCell ⟨w.heap.size, 2, none⟩ (.string ⟨#[]⟩)).setCell ⟨w.heap.size, 3, none⟩ (.slice ao rows.length cap)) = w5 at *
        obtain ⟨e0, e1, e2, e3, ez⟩ := hB5
        refine ⟨rfl, .agg #[.int .i64 3, .int .i64 0, .string ⟨#[]⟩, .slice ao rows.length cap], ?_, ?_⟩
        · simp [results, Tryd.results47, go_sem, e0, e1, e2, e3]
        · refine ⟨?_, hT5⟩
          have hr0 : repP q n r' = some (xs, rs) := by rw [HREP.out, show n - m = 0 by omega]; simp [repP]
          rw [HP2.out, hr0]
          have hlen := HL.out.len
          have hblk : ∀ a, ao = some a → w.heap.size + 1 ≤ a.block := fun a ha => ownsRow_blocks HL.out.own _ (HBK.out a ha)
          refine ⟨_, fun b => w.heap.size + 1 ≤ b, rfl, ?_, fun b hb => by omega, hR5⟩
          show RepV w5 _ [.int .i64 3, .int .i64 0, .string ⟨#[]⟩, .slice ao rows.length cap] _
          rw [hlen]
          refine RepV.mk (k := 3) (n := 0) (s := ⟨#[]⟩) (ao := ao) (cap := cap) (l := xs) rows ⟨by omega, by omega⟩ ⟨by omega, by omega⟩ (by decide) (HSL.out.keep fun a ha _ => hkeep _ (hblk a ha)) (fun a ha _ => hblk a ha) hlen fun j r x h1 h2 => ?_
          exact ((HL.out.rep j r x h1 h2).keep fun b hb => hkeep b (HL.out.foot b hb).1).weaken fun b hb => (HL.out.foot b hb).1

end Go.Proofs.YtahaplioegeloaaDoor
