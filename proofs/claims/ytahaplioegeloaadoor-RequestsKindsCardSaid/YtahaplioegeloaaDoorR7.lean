import Derived.Test.YtahaplioegeloaaDoorR6
import Derived.Deep.RegionLaw
namespace Go.Sz
open Go.RowKit
theorem cell_new0 (W : World) (c0 c1 c2 : Value) (t : TypeId) : (W.alloc (.cells #[c0, c1, c2] t)).cell? ⟨W.heap.size, 0, none⟩ = some c0 ∧ (W.alloc (.cells #[c0, c1, c2] t)).cell? ⟨W.heap.size, 1, none⟩ = some c1 ∧ (W.alloc (.cells #[c0, c1, c2] t)).cell? ⟨W.heap.size, 2, none⟩ = some c2 ∧ ∀ i, (W.alloc (.cells #[c0, c1, c2] t)).frozen? ⟨W.heap.size, i, none⟩ = false :=
  ⟨by simp, by simp, by simp, fun i => by simp⟩
theorem V.htL_le {l : List V} {N : Nat} (h : ∀ x ∈ l, x.ht ≤ N) : V.htL l ≤ N := by
  induction l with
  | nil => simp [V.htL]
  | cons y ys ih =>
    simp only [V.htL]
    have := h y (by simp)
    have := ih (fun x hx => h x (by simp [hx]))
    omega
theorem V.dep_mem {l : List V} {x : V} (h : x ∈ l) : x.dep ≤ V.depL l := by
  induction l with
  | nil => cases h
  | cons y ys ih =>
    simp only [V.depL]
    rcases List.mem_cons.1 h with rfl | h
    · omega
    · have := ih h; omega
theorem V.ht_le_dep : ∀ (N : Nat) (v : V), v.ht ≤ N → v.wf = true → v.ht ≤ v.dep + 1 := by
  intro N
  induction N with
  | zero => intro v hv; cases v; simp [V.ht] at hv
  | succ N ih =>
    intro v hv hwf
    cases v with
    | mk k n s l =>
      simp only [V.ht] at hv
      simp only [V.wf] at hwf
      split at hwf
      · simp at hwf
        obtain ⟨_, rfl⟩ := hwf
        simp [V.ht, V.htL]
      · split at hwf
        · simp at hwf
          obtain ⟨_, rfl⟩ := hwf
          simp [V.ht, V.htL]
        · split at hwf
          · simp only [Bool.and_eq_true] at hwf
            have hw := hwf.2
            rw [V.wfL_all, List.all_eq_true] at hw
            simp only [V.ht, V.dep]
            rw [if_pos (by assumption)]
            have := V.htL_le (l := l) (N := V.depL l + 1) fun x hx => by
              have h1 := ih x (by have := V.htL_mem hx; omega) (hw x hx)
              have h2 := V.dep_mem hx
              omega
            omega
          · cases hwf
end Go.Sz
namespace Go.Proofs.YtahaplioegeloaaDoor
open Go.RowKit Go.Sz

theorem refEncodeB_sl (v : V) (hwf : v.wf = true) (w : World) (F : Nat → Prop) (cs : List Value) (hR : RepV w F cs v) (hb : v.enc.length ≤ 1000000) :
    Calls Tryd.prog 53 #[.agg cs.toArray] w fun e w' => ∃ ao cap, e = .returned (.slice ao v.enc.length cap) ∧ SL w' 1 ao cap (br v.enc) ∧ Ext w w' := by
  obtain ⟨k, n, s, l⟩ := v
  obtain ⟨ao, cap, rows, rfl, hk, hn, hs, hsl, hF, hlen, hel⟩ := hR.open
  have h : Calls Tryd.prog 53 #[.agg #[.int .i64 k, .int .i64 n, .string s, .slice ao l.length cap]] w fun e w2 => ∃ v', e = .returned v' ∧ OwnB w2 w.heap.size v' ((V.mk k n s l).enc) ∧ Ext w w2 := by
    rcases V.wf_kind hwf with rfl | rfl | ⟨rfl, hwl⟩
    · simpa [V.enc] using refEnc1_any n s _ w hn
    · simpa [V.enc] using refEnc2_any s _ _ w (by simp only [V.enc] at hb; simp at hb ⊢; omega)
    · simpa [V.enc] using refEnc3_any _ l _ _ rows F _ _ w (Nat.le_refl _) hwl hsl hlen hel (by simp only [V.enc] at hb; simp at hb ⊢; omega)
  refine h.mono fun e w2 ⟨v', he, ho, hE⟩ => ?_
  obtain ⟨ao, cap, rfl, hs⟩ := ownB_sl ho rfl
  exact ⟨ao, cap, he, hs, hE⟩

set_option maxRecDepth 100000 in
set_option maxHeartbeats 3200000 in
theorem refDecode_any (bs : List UInt8) (ao : Option Addr) (cap : Nat) (w : World) (hs : SL w 1 ao cap (br bs)) (hl : bs.length ≤ 1000000) :
    Calls Tryd.prog 41 #[.slice ao bs.length cap] w fun e w' => ∃ cs F, e = .returned (.tuple #[.agg cs, .int .i64 (decOut bs).2]) ∧ RepV w' F cs.toList (decOut bs).1 ∧ Ext w w' := by
  have hv := fun W => rvalue_any (B := w.heap.size + 1) hl 16 (by omega) 0 W
  have HV := Lib.hid hv
  clear hv
  have HSL := Lib.hid hs
  clear hs
  go_enter Tryd.func41, Tryd.ntmps41
  go_wp2_with fail
  have hE0 : Ext w ((w.alloc (.cells #[.int .i64 0, .int .i64 0, .string ⟨#[]⟩, .slice none 0 0] 59)).alloc (.cells #[.slice ao bs.length cap, .int .i64 0, .bool false] 92)) := ((Ext.refl w).alloc _).alloc _
  have hsz : (w.alloc (.cells #[.int .i64 0, .int .i64 0, .string ⟨#[]⟩, .slice none 0 0] 59)).heap.size = w.heap.size + 1 := by simp
  have hn := cell_new0 (w.alloc (.cells #[.int .i64 0, .int .i64 0, .string ⟨#[]⟩, .slice none 0 0] 59)) (.slice ao bs.length cap) (.int .i64 0) (.bool false) 92
  rw [hsz] at hn
  have hR0 : RRd ((w.alloc (.cells #[.int .i64 0, .int .i64 0, .string ⟨#[]⟩, .slice none 0 0] 59)).alloc (.cells #[.slice ao bs.length cap, .int .i64 0, .bool false] 92)) (w.heap.size + 1) bs 0 false := ⟨⟨ao, cap, hn.1, HSL.out.ext hE0, fun a ha hne => by have := HSL.out.blk (by omega) a ha (by cases bs with | nil => exact absurd rfl hne | cons => simp [br]); omega⟩, hn.2.1, hn.2.2.1, hn.2.2.2, by omega⟩
  have hB0 : Box ((w.alloc (.cells #[.int .i64 0, .int .i64 0, .string ⟨#[]⟩, .slice none 0 0] 59)).alloc (.cells #[.slice ao bs.length cap, .int .i64 0, .bool false] 92)) w.heap.size (.int .i64 0) (.int .i64 0) (.string ⟨#[]⟩) (.slice none 0 0) := (Box.new w _ _ _ _ _).ext ((Ext.refl _).alloc _)
  have hL0 : w.heap.size + 1 < ((w.alloc (.cells #[.int .i64 0, .int .i64 0, .string ⟨#[]⟩, .slice none 0 0] 59)).alloc (.cells #[.slice ao bs.length cap, .int .i64 0, .bool false] 92)).heap.size := hR0.lt
  clear hn hsz
  generalize ((w.alloc (.cells #[.int .i64 0, .int .i64 0, .string ⟨#[]⟩, .slice none 0 0] 59)).alloc (.cells #[.slice ao bs.length cap, .int .i64 0, .bool false] 92)) = w1 at *
  refine (HV.out w1 hR0).mono ?_
  rintro e w2 ⟨⟨cs, F, x, pos', bad, rfl, hRx, hFx, hR2, ho⟩, hT2⟩
  obtain ⟨xk, xn, xs, xl⟩ := x
  obtain ⟨ao2, cap2, rows2, hcs, _⟩ := hRx.open
  obtain ⟨cl⟩ := cs
  simp only at hcs
  subst hcs
  have hB2 := hB0.turn hT2 (by omega)
  have hE2 := Turn.ext hE0 hT2 (by omega)
  have HRX := Lib.hid hRx
  have HO := Lib.hid ho
  clear hRx ho hR0 hB0
  go_wp2_with fail
  have hA3 := (Ext.refl w2).alloc (.cells #[.int .i64 xk, .int .i64 xn, .string xs, .slice ao2 xl.length cap2] 59)
  have hB5 := Box.new w2 (.int .i64 xk) (.int .i64 xn) (.string xs) (.slice ao2 xl.length cap2) 59
  have HR3 := Lib.hid (hR2.ext hA3)
  have HB3 := Lib.hid (hB2.ext hA3)
  have HB5 := Lib.hid hB5
  have HRX3 := Lib.hid (HRX.out.ext hA3)
  have hE3 := hE2.trans hA3
  clear hR2 hB2 hB5
  generalize (w2.alloc (.cells #[.int .i64 xk, .int .i64 xn, .string xs, .slice ao2 xl.length cap2] 59)) = w3 at *
  have hc1 := HR3.out.c1
  have hc2 := HR3.out.c2
  obtain ⟨b0, b1, b2, b3, bz⟩ := HB3.out
  have z0 := bz 0
  have z1 := bz 1
  have z2 := bz 2
  have z3 := bz 3
  obtain ⟨d0, d1, d2, d3, dz⟩ := HB5.out
  by_cases hgood : bad = false ∧ pos' = bs.length
  · obtain ⟨rfl, rfl⟩ := hgood
    have hvp : valP 16 bs = some (.mk xk xn xs xl, []) := by
      have h := HO.out
      rw [List.drop_zero, if_neg (by decide), List.drop_length] at h
      exact h
    obtain ⟨henc, hwf, hdep⟩ := valP_inv _ _ _ _ hvp
    rw [List.append_nil] at henc
    have hck : checkV (.mk xk xn xs xl) = 0 := by rw [checkV, if_pos hwf, if_pos hdep]
    have HD : Hid (decOut bs = (.mk xk xn xs xl, 0)) := Lib.hid (by rw [decOut, hvp])
    have hht : (V.mk xk xn xs xl).ht ≤ 1000000 := Nat.le_trans (V.ht_le_dep _ _ (Nat.le_refl _) hwf) (by omega)
    have HCk := Lib.hid fun (W : World) (h : Ext w3 W) => refCheck_any (.mk xk xn xs xl) hht W _ _ (HRX3.out.ext h)
    have HEn := Lib.hid fun (W : World) (h : Ext w3 W) => refEncodeB_sl (.mk xk xn xs xl) hwf W _ _ (HRX3.out.ext h) (by rw [← henc]; exact hl)
    rw [hck] at HCk
    rw [← henc] at HEn
    have HCV := Lib.hid fun (W : World) (h : Ext w3 W) => (HSL.out.ext (hE3.trans h)).toStr (P := Tryd.prog) 29 9 5 Tryd.underlying29 Tryd.underlying5 Tryd.underlying9
    have q1 : ((bs.length : Int) != (bs.length : Int)) = false := by simp
    clear henc hwf hdep hck hvp hht
    clear b0 b1 b2 b3 bz z0 z1 z2 z3
    go_region_law
      (first
        | (go_simp; go_at_call 52; refine (HCk.out _ (Ext.refl _).drew).mono ?_; rintro e w4 ⟨rfl, hE4'⟩; have hE4 : Ext w3 w4 := (Ext.refl w3).drew.trans hE4'; have m0 := hE4.cell d0; have m1 := hE4.cell d1; have m2 := hE4.cell d2; have m3 := hE4.cell d3; have hcv0 := HCV.out w4 hE4)
        | (go_simp; go_at_call 53; refine (HEn.out _ hE4).mono ?_; rintro e w5 ⟨aoE, capE, rfl, hsE, hE5'⟩; have hE5 := hE4.trans hE5'; have hcv1 := HCV.out w5 hE5; have hcvE := hsE.toStr (P := Tryd.prog) 29 9 5 Tryd.underlying29 Tryd.underlying5 Tryd.underlying9; have k0 := hE5.cell d0; have k1 := hE5.cell d1; have k2 := hE5.cell d2; have k3 := hE5.cell d3; obtain ⟨b0, b1, b2, b3, bz⟩ := HB3.out.ext hE5; have z0 := bz 0; have z1 := bz 1; have z2 := bz 2; have z3 := bz 3))
    all_goals
      go_wp2_with fail
      have hEx := hE3.trans hE5
      have hBL := ((((Box.mk b0 b1 b2 b3 bz).set0 (.int .i64 xk)).set1 (.int .i64 xn)).set2 (.string xs)).set3 (.slice ao2 xl.length cap2)
      have hEL : Ext w (((((w5).setCell ⟨w.heap.size, 0, none⟩ (.int .i64 xk)).setCell ⟨w.heap.size, 1, none⟩ (.int .i64 xn)).setCell ⟨w.heap.size, 2, none⟩ (.string xs)).setCell ⟨w.heap.size, 3, none⟩ (.slice ao2 xl.length cap2)) := (((hEx.setCell (p := ⟨w.heap.size, 0, none⟩) (Nat.le_refl _) _).setCell (p := ⟨w.heap.size, 1, none⟩) (Nat.le_refl _) _).setCell (p := ⟨w.heap.size, 2, none⟩) (Nat.le_refl _) _).setCell (p := ⟨w.heap.size, 3, none⟩) (Nat.le_refl _) _
      have hRL : RepV (((((w5).setCell ⟨w.heap.size, 0, none⟩ (.int .i64 xk)).setCell ⟨w.heap.size, 1, none⟩ (.int .i64 xn)).setCell ⟨w.heap.size, 2, none⟩ (.string xs)).setCell ⟨w.heap.size, 3, none⟩ (.slice ao2 xl.length cap2)) F [.int .i64 xk, .int .i64 xn, .string xs, .slice ao2 xl.length cap2] (.mk xk xn xs xl) := (HRX3.out.ext hE5).keep fun b hb => by
        have := hFx b hb
        rw [heap_setCell_far _ _ _ _ (by show b ≠ w.heap.size; omega), heap_setCell_far _ _ _ _ (by show b ≠ w.heap.size; omega), heap_setCell_far _ _ _ _ (by show b ≠ w.heap.size; omega), heap_setCell_far _ _ _ _ (by show b ≠ w.heap.size; omega)]
      generalize (((((w5).setCell ⟨w.heap.size, 0, none⟩ (.int .i64 xk)).setCell ⟨w.heap.size, 1, none⟩ (.int .i64 xn)).setCell ⟨w.heap.size, 2, none⟩ (.string xs)).setCell ⟨w.heap.size, 3, none⟩ (.slice ao2 xl.length cap2)) = w6 at *
      obtain ⟨e0, e1, e2, e3, ez⟩ := hBL
      rw [HD.out]
      refine ⟨rfl, .tuple #[.agg #[.int .i64 xk, .int .i64 xn, .string xs, .slice ao2 xl.length cap2], .int .i64 0], ?_, ?_⟩
      · simp [results, Tryd.results41, go_sem, e0, e1, e2, e3]
      · first | exact ⟨_, rfl, ⟨_, hRL⟩, hEL⟩ | exact ⟨_, _, rfl, hRL, hEL⟩
  · have HD : Hid (decOut bs = (.mk 0 0 ⟨#[]⟩ [], 10)) := Lib.hid (by
      have h := HO.out
      rw [List.drop_zero] at h
      rw [decOut, h]
      cases bad with
      | true => rfl
      | false =>
        rw [if_neg (by decide)]
        have hle := HR3.out.le
        have hlt : pos' < bs.length := by
          have : ¬ pos' = bs.length := fun h => hgood ⟨rfl, h⟩
          omega
        rw [drop_cons hlt])
    have hcase : bad = true ∨ (bad = false ∧ ((pos' : Int) != (bs.length : Int)) = true) := by
      cases bad with
      | true => exact .inl rfl
      | false =>
        refine .inr ⟨rfl, ?_⟩
        have : ¬ pos' = bs.length := fun h => hgood ⟨rfl, h⟩
        simp
        omega
    clear hgood
    rcases hcase with rfl | ⟨rfl, q1⟩
    all_goals
      go_quiet (fail)
      have hEq := (Ext.refl w3).drewN nq
      generalize w3.drewN nq = wq at *
      clear b0 b1 b2 b3 bz z0 z1 z2 z3
      have HBq := Lib.hid (HB3.out.ext hEq)
      obtain ⟨b0, b1, b2, b3, bz⟩ := HBq.out
      have z0 := bz 0
      have z1 := bz 1
      have z2 := bz 2
      have z3 := bz 3
      have hEx := hE3.trans hEq
      go_wp2_with fail
      have hEL : Ext w (((((wq).setCell ⟨w.heap.size, 0, none⟩ (.int .i64 0)).setCell ⟨w.heap.size, 1, none⟩ (.int .i64 0)).setCell ⟨w.heap.size, 2, none⟩ (.string ⟨#[]⟩)).setCell ⟨w.heap.size, 3, none⟩ (.slice none 0 0)) := (((hEx.setCell (p := ⟨w.heap.size, 0, none⟩) (Nat.le_refl _) _).setCell (p := ⟨w.heap.size, 1, none⟩) (Nat.le_refl _) _).setCell (p := ⟨w.heap.size, 2, none⟩) (Nat.le_refl _) _).setCell (p := ⟨w.heap.size, 3, none⟩) (Nat.le_refl _) _
      have hBL := (((HBq.out.set0 (.int .i64 0)).set1 (.int .i64 0)).set2 (.string ⟨#[]⟩)).set3 (.slice none 0 0)
      generalize (((((wq).setCell ⟨w.heap.size, 0, none⟩ (.int .i64 0)).setCell ⟨w.heap.size, 1, none⟩ (.int .i64 0)).setCell ⟨w.heap.size, 2, none⟩ (.string ⟨#[]⟩)).setCell ⟨w.heap.size, 3, none⟩ (.slice none 0 0)) = w5 at *
      obtain ⟨e0, e1, e2, e3, ez⟩ := hBL
      rw [HD.out]
      refine ⟨rfl, .tuple #[.agg #[.int .i64 0, .int .i64 0, .string ⟨#[]⟩, .slice none 0 0], .int .i64 10], ?_, ?_⟩
      · simp [results, Tryd.results41, go_sem, e0, e1, e2, e3]
      · first | exact ⟨_, rfl, ⟨_, rep_zero _ (fun _ => False)⟩, hEL⟩ | exact ⟨_, _, rfl, rep_zero _ (fun _ => False), hEL⟩
end Go.Proofs.YtahaplioegeloaaDoor
