import Derived.Test.YtdlahgmbilkdcaaN3
import Derived.Test.YtdlahgmbilkdcaaRG
namespace Go.Sz
open Go.RowKit
theorem okL_campus (x y : Int) : okL x y = (campus x && campus y && decide (x < y)) := by
  unfold okL campus
  rw [Bool.eq_iff_iff]
  simp only [Bool.and_eq_true, decide_eq_true_eq]
  omega
end Go.Sz
namespace Go.Proofs.Ytdlahgmbilkdcaa
open Go.RowKit Go.Sz

set_option maxRecDepth 100000 in
set_option maxHeartbeats 12800000 in
theorem refCheck_any (n : Nw) (cs : List Value) (w : World) (h : RepN w cs n) : Calls Try.prog 14 #[.agg cs.toArray] w fun e w' => e = .returned (.int .i64 (checkN n)) ∧ Ext w w' := by
  obtain ⟨ao, cap, bo, cap', rows, rfl, hq, ha⟩ := h
  obtain ⟨q, a⟩ := n
  simp only at hq ha ⊢
  have hs1 : (q.length : Int) ≤ 9223372036854775807 := by have := hq.sl.max; have := hq.sl.le; have := hq.len; omega
  have hs2 : (a.length : Int) ≤ 9223372036854775807 := by have h1 := ha.sl.max; have h2 := ha.sl.le; rw [pr_length] at h2; omega
  have HX : Hid (checkN ⟨q, a⟩ = if (decide (q.length ≤ 4096) && q.all okP && okA a) = true then 0 else 480) := Lib.hid rfl
  have HQ := Lib.hid hq
  have HA := Lib.hid ha
  clear hq ha
  have hX0 := (Ext.refl w).alloc (.cells #[.slice ao q.length cap, .slice bo a.length cap'] 25)
  have hbx := Box2.new w (.slice ao q.length cap) (.slice bo a.length cap') 25
  by_cases hbig : 4096 < q.length
  · have q1 : (4096 : Int) < (q.length : Int) := by omega
    go_enter Try.func14, Try.ntmps14
    go_wp2_with fail
    go_ret
    exact ⟨by rw [HX.out, decide_eq_false (by omega)]; rfl, hX0⟩
  · have q1 : ¬ (4096 : Int) < (q.length : Int) := by omega
    have hle : q.length ≤ 4096 := by omega
    rw [decide_eq_true hle] at HX
    go_enter Try.func14, Try.ntmps14
    go_wp2_with fail
    generalize (w.alloc (.cells #[.slice ao q.length cap, .slice bo a.length cap'] 25)) = w1 at *
    go_loopw [3] (fun i wr => ∃ m : Nat, i = .int .i64 m ∧ m ≤ q.length ∧ (q.take m).all okP = true ∧ Ext w1 wr) (fun i _ => q.length - (intOf i).toNat)
    case atStart => exact ⟨0, rfl, by omega, by simp, Ext.refl _⟩
    case round =>
      obtain ⟨m, rfl, hm, hall, hB⟩ := hrel
      have HALL := Lib.hid hall
      clear hall
      obtain ⟨b0, b1, _⟩ := hbx.ext hB
      by_cases hlt : m < q.length
      · obtain ⟨b, o, rfl, bl⟩ := HQ.out.sl.at (by omega) m (by have := HQ.out.len; omega)
        obtain ⟨f, t, d, ao', cx, hqm, hP, c0, c1, c2⟩ := q_cells HQ.out (hX0.trans hB) hlt
        have HC := Lib.hid (refPacket_any _ _ wr hP)
        have HQ1 : Hid ((q.take (m + 1)).all okP = ((q.take m).all okP && okP q[m])) := Lib.hid (by rw [List.take_succ_eq_append_getElem hlt, List.all_append]; simp)
        clear hqm hP
        cases hok : okP q[m] with
        | true =>
          rw [hok] at HC HQ1
          clear hok
          go_wp2_with (go_at_call 29; refine HC.out.mono ?_; rintro e w' ⟨rfl, hE⟩)
          go_roundw
          case rel => exact ⟨m + 1, by go_num, by omega, by rw [HQ1.out, HALL.out]; rfl, hB.trans hE⟩
          case measure => simp [intOf] <;> omega
        | false =>
          rw [hok] at HC
          have hno : q.all okP = false := by
            rw [Bool.eq_false_iff]
            intro h2
            rw [List.all_eq_true] at h2
            rw [h2 _ (List.getElem_mem hlt)] at hok
            cases hok
          have HNO := Lib.hid hno
          clear hok hno
          go_wp2_with (go_at_call 29; refine HC.out.mono ?_; rintro e w' ⟨rfl, hE⟩)
          go_ret
          exact ⟨by rw [HX.out, HNO.out]; rfl, hX0.trans (hB.trans hE)⟩
      · have hmn : m = q.length := by omega
        have HQA : Hid (q.all okP = true) := Lib.hid (by
          have h1 := HALL.out
          rw [hmn, List.take_length] at h1
          exact h1)
        clear HALL
        subst hmn
        have hbx := hbx.ext hB
        have hX1 := hX0.trans hB
        go_wp2_with fail
        go_loopw [4] (fun i wrr => ∃ m2 : Nat, i = .int .i64 m2 ∧ m2 ≤ a.length ∧ (List.range m2).all (okAt a) = true ∧ Ext wr wrr) (fun i _ => a.length - (intOf i).toNat)
        case atStart => exact ⟨0, rfl, by omega, by simp, Ext.refl _⟩
        case round =>
          obtain ⟨m2, rfl, hm2, hok, hB2⟩ := hrel
          have HOK := Lib.hid hok
          clear hok
          obtain ⟨b0, b1, _⟩ := hbx.ext hB2
          by_cases hlt : m2 < a.length
          · obtain ⟨b, o, rfl, bl⟩ := HA.out.sl.at (by omega) m2 (by rw [pr_length]; exact hlt)
            obtain ⟨c0, c1⟩ := a_cells HA.out (hX1.trans hB2) hlt
            obtain ⟨x, hx⟩ : ∃ x, x = a[m2].1 := ⟨_, rfl⟩
            obtain ⟨y, hy⟩ : ∃ y, y = a[m2].2 := ⟨_, rfl⟩
            rw [← hx] at c0
            rw [← hy] at c1
            have hAB := (Ext.refl wr).alloc (.cells #[.int .i64 x, .int .i64 y] 55)
            have hbb := Box2.new wr (.int .i64 x) (.int .i64 y) 55
            have HOKA : Hid (okAt a m2 = (okL x y && (m2 == 0 || lt2 (a.getD (m2 - 1) (0, 0)).1 (a.getD (m2 - 1) (0, 0)).2 x y))) := Lib.hid (by rw [okAt, getD_lt hlt, ← hx, ← hy])
            clear hx hy
            have HFIN : Hid (okAt a m2 = false → checkN ⟨q, a⟩ = 480) := Lib.hid fun h => by rw [HX.out, okA_false hlt h, HQA.out]; rfl
            have HNXT : Hid (okAt a m2 = true → (List.range (m2 + 1)).all (okAt a) = true) := Lib.hid fun h => by rw [range_all_succ, HOK.out, h]; rfl
            have HC1 := Lib.hid fun (W : World) => campus_any x W
            have HC2 := Lib.hid fun (W : World) => campus_any y W
            have hbad : Hid ((campus x = false ∨ (campus x = true ∧ campus y = false) ∨ (campus x = true ∧ campus y = true ∧ y ≤ x)) → okAt a m2 = false) := Lib.hid fun h => by
              rw [HOKA.out, okL_campus]
              rcases h with h | ⟨h1, h⟩ | ⟨h1, h2, h⟩
              · rw [h]; rfl
              · rw [h1, h]; rfl
              · rw [h1, h2, decide_eq_false (by omega)]; rfl
            have hgood : Hid (campus x = true → campus y = true → ¬ y ≤ x → okL x y = true) := Lib.hid fun h1 h2 h => by
              rw [okL_campus, h1, h2, decide_eq_true (by omega)]; rfl
            cases hx1 : campus x with
            | false =>
              have HB1 := Lib.hid (HFIN.out (hbad.out (.inl hx1)))
              rw [hx1] at HC1
              clear hx1
              go_wp2_with (first
                | (go_at_call_of 34 (Value.int .i64 x); refine (HC1.out _).mono ?_; rintro e w' ⟨rfl, rfl⟩))
              go_ret
              exact ⟨by rw [HB1.out]; rfl, hX1.trans (hB2.trans hAB)⟩
            | true =>
              cases hy1 : campus y with
              | false =>
                have HB1 := Lib.hid (HFIN.out (hbad.out (.inr (.inl ⟨hx1, hy1⟩))))
                rw [hx1] at HC1
                rw [hy1] at HC2
                clear hx1 hy1
                go_wp2_with (first
                  | (go_at_call_of 34 (Value.int .i64 x); refine (HC1.out _).mono ?_; rintro e w' ⟨rfl, rfl⟩)
                  | (go_at_call_of 34 (Value.int .i64 y); refine (HC2.out _).mono ?_; rintro e w' ⟨rfl, rfl⟩))
                go_ret
                exact ⟨by rw [HB1.out]; rfl, hX1.trans (hB2.trans hAB)⟩
              | true =>
                by_cases hyx : y ≤ x
                · have HB1 := Lib.hid (HFIN.out (hbad.out (.inr (.inr ⟨hx1, hy1, hyx⟩))))
                  rw [hx1] at HC1
                  rw [hy1] at HC2
                  clear hx1 hy1
                  go_wp2_with (first
                    | (go_at_call_of 34 (Value.int .i64 x); refine (HC1.out _).mono ?_; rintro e w' ⟨rfl, rfl⟩)
                    | (go_at_call_of 34 (Value.int .i64 y); refine (HC2.out _).mono ?_; rintro e w' ⟨rfl, rfl⟩))
                  go_ret
                  exact ⟨by rw [HB1.out]; rfl, hX1.trans (hB2.trans hAB)⟩
                · rw [hgood.out hx1 hy1 hyx] at HOKA
                  rw [hx1] at HC1
                  rw [hy1] at HC2
                  clear hx1 hy1 hbad hgood
                  rcases Nat.eq_zero_or_pos m2 with hm0 | hm0
                  · subst hm0
                    simp only [Nat.zero_mul, Nat.add_zero] at c0 c1
                    go_wp2_with (first
                      | (go_at_call_of 34 (Value.int .i64 x); refine (HC1.out _).mono ?_; rintro e w' ⟨rfl, rfl⟩)
                      | (go_at_call_of 34 (Value.int .i64 y); refine (HC2.out _).mono ?_; rintro e w' ⟨rfl, rfl⟩))
                    go_quiet (fail)
                    go_wp2_with fail
                    go_roundw
                    case rel => exact ⟨0 + 1, by go_num, by omega, HNXT.out (by rw [HOKA.out]; rfl), hB2.trans (hAB.trans ((Ext.refl _).drewN nq))⟩
                    case measure => simp [intOf] <;> omega
                  · obtain ⟨k, rfl⟩ : ∃ k, m2 = k + 1 := ⟨m2 - 1, by omega⟩
                    obtain ⟨p0, p1⟩ := a_cells HA.out ((hX1.trans hB2).trans hAB) (show k < a.length by omega)
                    have b1' := hAB.cell b1
                    have hgk := getD_lt (show k < a.length by omega)
                    have HLT : Hid (okAt a (k + 1) = lt2 a[k].1 a[k].2 x y) := Lib.hid (by rw [HOKA.out, show k + 1 - 1 = k by omega, hgk]; simp)
                    obtain ⟨px, hpx⟩ : ∃ px, px = a[k].1 := ⟨_, rfl⟩
                    obtain ⟨py, hpy⟩ : ∃ py, py = a[k].2 := ⟨_, rfl⟩
                    rw [← hpx] at p0 HLT
                    rw [← hpy] at p1 HLT
                    clear hpx hpy hgk
                    have hk0 : (0 : Int) < (k : Int) + 1 := by omega
                    have hk1 : (0 : Int) ≤ (k : Int) := by omega
                    have hk2 : (k : Int) < (a.length : Int) := by omega
                    have hw1 : IntKind.i64.wrap (k : Int) = (k : Int) := by simp [IntKind.wrap, IntKind.bits, IntKind.signed]; omega
                    have HLD : Hid (lt2 px py x y = (decide (px < x) || (decide (px = x) && decide (py < y)))) := Lib.hid rfl
                    go_wp2_with (first
                      | (go_at_call_of 34 (Value.int .i64 x); refine (HC1.out _).mono ?_; rintro e w' ⟨rfl, rfl⟩)
                      | (go_at_call_of 34 (Value.int .i64 y); refine (HC2.out _).mono ?_; rintro e w' ⟨rfl, rfl⟩))
                    generalize hWB : (wr.alloc (.cells #[.int .i64 x, .int .i64 y] 55)) = wb at *
                    obtain ⟨e0, e1, _⟩ := hbb
                    have gb1 : ∀ X, (wb.drew.grow X).cell? ⟨w.heap.size, 1, none⟩ = some (.slice (some ⟨b, o, none⟩) a.length cap') := fun X => ((Ext.refl wb).drew.trans (ext_grow _ X)).cell b1'
                    have ge0 : ∀ X, (wb.drew.grow X).cell? ⟨wr.heap.size, 0, none⟩ = some (.int .i64 x) := fun X => ((Ext.refl wb).drew.trans (ext_grow _ X)).cell e0
                    have ge1 : ∀ X, (wb.drew.grow X).cell? ⟨wr.heap.size, 1, none⟩ = some (.int .i64 y) := fun X => ((Ext.refl wb).drew.trans (ext_grow _ X)).cell e1
                    have gp0 : ∀ X, (wb.drew.grow X).cell? ⟨b, o + k * 2, none⟩ = some (.int .i64 px) := fun X => ((Ext.refl wb).drew.trans (ext_grow _ X)).cell p0
                    have gp1 : ∀ X, (wb.drew.grow X).cell? ⟨b, o + k * 2 + 1, none⟩ = some (.int .i64 py) := fun X => ((Ext.refl wb).drew.trans (ext_grow _ X)).cell p1
                    have HXB := Lib.hid (hX1.trans (hB2.trans hAB))
                    have HBB := Lib.hid (hB2.trans hAB)
                    clear b0 b1 b1' c0 c1 p0 p1 e0 e1 hbx hX0 hX1 hB hB2 hAB
                    refine wp_region_rel_all (fun _ => none) (by kernel_rfl) (by kernel_rfl) ?_
                    repeat (first
                      | (refine wpRel_quick ?_ ?_ ?_ ?_
                         · rfl
                         · rfl
                         · first | exact noEnter rfl | (intro f args W W'; go_simp)
                         intro K hK
                         go_big_quiet_op
                         go_big_quiet_on)
                      | (refine wpRel_skip ?_ ?_
                         · rfl
                         simp only [Act.put, List.setIfInBounds_toArray, List.set_cons_zero, List.set_cons_succ]))
                    by_cases r1 : x < px
                    · have HB1 := Lib.hid (HFIN.out (by rw [HLT.out, HLD.out, decide_eq_false (by omega), decide_eq_false (p := px = x) (by omega)]; rfl))
                      simp only [decide_eq_true r1]
                      repeat (first
                        | (refine wpRel_quick ?_ ?_ ?_ ?_
                           · rfl
                           · rfl
                           · first | exact noEnter rfl | (intro f args W W'; go_simp)
                           intro K hK
                           go_big_quiet_op
                           go_big_quiet_on)
                        | (refine wpRel_skip ?_ ?_
                           · rfl
                           simp only [Act.put, List.setIfInBounds_toArray, List.set_cons_zero, List.set_cons_succ]))
                      refine wpRel_nil ?_
                      intro W hW
                      go_wp2_with fail
                      go_ret
                      exact ⟨by rw [HB1.out]; rfl, HXB.out.trans ((Ext.refl wb).drew.trans hW.1)⟩
                    · simp only [decide_eq_false r1]
                      repeat (first
                        | (refine wpRel_quick ?_ ?_ ?_ ?_
                           · rfl
                           · rfl
                           · first | exact noEnter rfl | (intro f args W W'; go_simp)
                           intro K hK
                           go_big_quiet_op
                           go_big_quiet_on)
                        | (refine wpRel_skip ?_ ?_
                           · rfl
                           simp only [Act.put, List.setIfInBounds_toArray, List.set_cons_zero, List.set_cons_succ]))
                      cases r2 : (x == px) with
                      | true =>
                        have r2' : x = px := by simpa using r2
                        repeat (first
                          | (refine wpRel_quick ?_ ?_ ?_ ?_
                             · rfl
                             · rfl
                             · first | exact noEnter rfl | (intro f args W W'; go_simp)
                             intro K hK
                             go_big_quiet_op
                             go_big_quiet_on)
                          | (refine wpRel_skip ?_ ?_
                             · rfl
                             simp only [Act.put, List.setIfInBounds_toArray, List.set_cons_zero, List.set_cons_succ]))
                        by_cases r3 : y ≤ py
                        · have HB1 := Lib.hid (HFIN.out (by rw [HLT.out, HLD.out, decide_eq_false (by omega), decide_eq_false (p := py < y) (by omega), Bool.and_false]; rfl))
                          clear r2'
                          refine wpRel_nil ?_
                          intro W hW
                          go_wp2_with fail
                          go_ret
                          exact ⟨by rw [HB1.out]; rfl, HXB.out.trans ((Ext.refl wb).drew.trans hW.1)⟩
                        · have HNX2 := Lib.hid (HNXT.out (by rw [HLT.out, HLD.out, decide_eq_true (p := px = x) (by omega), decide_eq_true (p := py < y) (by omega)]; simp))
                          clear r2'
                          refine wpRel_nil ?_
                          intro W hW
                          go_wp2_with fail
                          go_roundw
                          case rel => exact ⟨k + 1 + 1, by go_num, by omega, HNX2.out, HBB.out.trans ((Ext.refl wb).drew.trans hW.1)⟩
                          case measure => simp [intOf] <;> omega
                      | false =>
                        have r2' : ¬ x = px := by simpa using r2
                        have HNX2 := Lib.hid (HNXT.out (by rw [HLT.out, HLD.out, decide_eq_true (p := px < x) (by omega)]; simp))
                        clear r2'
                        repeat (first
                          | (refine wpRel_quick ?_ ?_ ?_ ?_
                             · rfl
                             · rfl
                             · first | exact noEnter rfl | (intro f args W W'; go_simp)
                             intro K hK
                             go_big_quiet_op
                             go_big_quiet_on)
                          | (refine wpRel_skip ?_ ?_
                             · rfl
                             simp only [Act.put, List.setIfInBounds_toArray, List.set_cons_zero, List.set_cons_succ]))
                        refine wpRel_nil ?_
                        intro W hW
                        go_wp2_with fail
                        go_roundw
                        case rel => exact ⟨k + 1 + 1, by go_num, by omega, HNX2.out, HBB.out.trans ((Ext.refl wb).drew.trans hW.1)⟩
                        case measure => simp [intOf] <;> omega
          · have hmn2 : m2 = a.length := by omega
            go_wp2_with fail
            go_ret
            refine ⟨?_, hX1.trans hB2⟩
            have h1 := HOK.out
            rw [hmn2] at h1
            rw [HX.out, HQA.out, okA, h1]
            rfl
end Go.Proofs.Ytdlahgmbilkdcaa
