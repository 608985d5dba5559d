import Derived.Test.YtdlahgmbilkdcaaN2
namespace Go.Sz
open Go.RowKit
def lt2 (x0 x1 y0 y1 : Int) : Bool := decide (x0 < y0) || (decide (x0 = y0) && decide (x1 < y1))
theorem cmp2_ge (x0 x1 y0 y1 : Int) : decide (0 ≤ cmp2 x0 x1 y0 y1) = !(lt2 x0 x1 y0 y1) := by
  unfold cmp2 lt2 cmpI
  rw [Bool.eq_iff_iff]
  simp only [Bool.not_eq_true', Bool.or_eq_false_iff, Bool.and_eq_false_iff, decide_eq_true_eq, decide_eq_false_iff_not]
  split <;> (repeat' split) <;> omega
def okAt (a : List (Int × Int)) (i : Nat) : Bool := okL (a.getD i (0, 0)).1 (a.getD i (0, 0)).2 && (i == 0 || lt2 (a.getD (i - 1) (0, 0)).1 (a.getD (i - 1) (0, 0)).2 (a.getD i (0, 0)).1 (a.getD i (0, 0)).2)
def okA (a : List (Int × Int)) : Bool := (List.range a.length).all (okAt a)
def okN (n : Nw) : Bool := decide (n.q.length ≤ 4096) && n.q.all okP && okA n.a
def checkN (n : Nw) : Int := if okN n = true then 0 else 480
theorem getD_lt {a : List (Int × Int)} {i : Nat} (h : i < a.length) : a.getD i (0, 0) = a[i] := by simp [List.getD, h]
theorem range_all_succ (f : Nat → Bool) (m : Nat) : (List.range (m + 1)).all f = ((List.range m).all f && f m) := by rw [List.range_succ, List.all_append]; simp
theorem okA_false {a : List (Int × Int)} {m : Nat} (hm : m < a.length) (h : okAt a m = false) : okA a = false := by
  rw [okA, Bool.eq_false_iff]
  intro h2
  rw [List.all_eq_true] at h2
  rw [h2 m (List.mem_range.2 hm)] at h
  cases h
theorem yielded_undef : yielded.match_1 (motive := fun _ => Option Bool) (some undef) (fun b => some b) (fun _ => none) = none := rfl
end Go.Sz
namespace Go.Proofs.Ytdlahgmbilkdcaa
open Go.RowKit Go.Sz

set_option maxRecDepth 100000 in
set_option maxHeartbeats 3200000 in
theorem check_any (n : Nw) (cs : List Value) (w : World) (h : RepN w cs n) : Calls Try.prog 13 #[.agg cs.toArray] w fun e w' => e = .returned (.int .i64 (checkN n)) ∧ Ext w w' := by
  obtain ⟨ao, cap, bo, cap', rows, rfl, hq, ha⟩ := h
  obtain ⟨q, a⟩ := n
  simp only at hq ha ⊢
  have hs1 : (q.length : Int) ≤ 9223372036854775807 := by have := hq.sl.max; have := hq.sl.le; have := hq.len; omega
  have hs2 : (a.length : Int) ≤ 9223372036854775807 := by have h1 := ha.sl.max; have h2 := ha.sl.le; rw [pr_length] at h2; omega
  have HX : Hid (checkN ⟨q, a⟩ = if (decide (q.length ≤ 4096) && q.all okP && okA a) = true then 0 else 480) := Lib.hid rfl
  have HQ := Lib.hid hq
  have HA := Lib.hid ha
  have HC := Lib.hid fun (W : World) (hE : Ext w W) => containsFunc_any q ao cap rows W (HQ.out.ext hE)
  clear hq ha
  have hX0 := (Ext.refl w).alloc (.cells #[.slice ao q.length cap, .slice bo a.length cap'] 25)
  have hbx := Box2.new w (.slice ao q.length cap) (.slice bo a.length cap') 25
  by_cases hbig : 4096 < q.length
  · have q1 : (4096 : Int) < (q.length : Int) := by omega
    go_enter Try.func13, Try.ntmps13
    go_wp2_with fail
    go_ret
    exact ⟨by rw [HX.out, decide_eq_false (by omega)]; rfl, hX0⟩
  · have q1 : ¬ (4096 : Int) < (q.length : Int) := by omega
    have hle : q.length ≤ 4096 := by omega
    cases hall : q.all okP with
    | false =>
      rw [hall] at HC HX
      go_enter Try.func13, Try.ntmps13
      go_wp2_with (go_at_call 30; refine (HC.out _ hX0).mono ?_; rintro e w1 ⟨rfl, hE1⟩)
      go_ret
      exact ⟨by rw [HX.out]; simp, hX0.trans hE1⟩
    | true =>
      rw [hall, decide_eq_true hle] at HX
      rw [hall] at HC
      go_enter Try.func13, Try.ntmps13
      go_wp2_with fail
      refine (HC.out _ hX0).mono ?_
      rintro e w1 ⟨rfl, hE1⟩
      have hX1 := hX0.trans hE1
      have hb1 := hbx.ext hE1
      clear hbx hX0 hE1
      obtain ⟨b0, b1, _⟩ := hb1
      go_wp2_with fail
      go_loopw [17] (fun i wr => ∃ m : Nat, i = .int .i64 m ∧ m ≤ a.length ∧ (List.range m).all (okAt a) = true ∧ Ext w1 wr) (fun i _ => a.length - (intOf i).toNat)
      case atStart => exact ⟨0, rfl, by omega, by simp, Ext.refl _⟩
      case round =>
        obtain ⟨m, rfl, hm, hok, hB⟩ := hrel
        have HOK := Lib.hid hok
        clear hok
        have d1 := hB.cell b1
        by_cases hlt : m < a.length
        · obtain ⟨b, o, rfl, bl⟩ := HA.out.sl.at (by omega) m (by rw [pr_length]; exact hlt)
          obtain ⟨c0, c1⟩ := a_cells HA.out (hX1.trans hB) hlt
          obtain ⟨x, hx⟩ : ∃ x, x = a[m].1 := ⟨_, rfl⟩
          obtain ⟨y, hy⟩ : ∃ y, y = a[m].2 := ⟨_, rfl⟩
          rw [← hx] at c0
          rw [← hy] at c1
          have hAB := (Ext.refl wr).alloc (.cells #[.int .i64 x, .int .i64 y] 55)
          have hbb := Box2.new wr (.int .i64 x) (.int .i64 y) 55
          have HOKA : Hid (okAt a m = (okL x y && (m == 0 || lt2 (a.getD (m - 1) (0, 0)).1 (a.getD (m - 1) (0, 0)).2 x y))) := Lib.hid (by rw [okAt, getD_lt hlt, ← hx, ← hy])
          clear hx hy
          have HFIN : Hid (okAt a m = false → checkN ⟨q, a⟩ = 480) := Lib.hid fun h => by rw [HX.out, okA_false hlt h]; rfl
          have HNXT : Hid (okAt a m = true → (List.range (m + 1)).all (okAt a) = true) := Lib.hid fun h => by rw [range_all_succ, HOK.out, h]; rfl
          cases hl : okL x y with
          | false =>
            have HV := Lib.hid fun (W : World) => valid_any x y W
            rw [hl] at HV HOKA
            go_wp2_with fail
            generalize (wr.alloc (.cells #[.int .i64 x, .int .i64 y] 55)) = wb at *
            obtain ⟨e0, e1, _⟩ := hbb
            refine wp_region_any (by kernel_rfl) ?_
            change wpAny _ _ _ _ _ _ _ (World.drew _)
            refine wpAny_ready (rs := [0]) (by kernel_rfl) (by simp) ?_
            refine AllReady.cons rfl (fun K hK => ?_) AllReady.nil
            go_simp
            refine hK _ _ ?_
            clear hK K
            refine wpAny_ready (rs := [1]) (by kernel_rfl) (by simp) ?_
            refine AllReady.cons rfl (fun K hK => ?_) AllReady.nil
            go_simp
            refine (HV.out _).mono ?_
            rintro e w4 ⟨rfl, hE4'⟩
            go_simp
            refine hK _ _ ?_
            clear hK K
            refine wpAny_ready (rs := [2]) (by kernel_rfl) (by simp) ?_
            refine AllReady.cons rfl (fun K hK => ?_) AllReady.nil
            go_simp
            refine hK _ _ ?_
            clear hK K
            refine wpAny_ready (rs := [3]) (by kernel_rfl) (by simp) ?_
            refine AllReady.cons rfl (fun K hK => ?_) AllReady.nil
            go_simp
            refine hK _ _ ?_
            clear hK K
            refine wpAny_take (i := 4) (v := undef) (oi := ?ois1) ?his1 (by kernel_rfl) (by kernel_rfl) (by kernel_rfl) ?hqs1 (Or.inr ⟨?hws1, rfl⟩) ?rests1
            case his1 => simp only [List.getElem?_toArray, List.getElem?_cons_succ, List.getElem?_cons_zero]; rfl
            case hqs1 => exact fun _ _ _ h => h
            case hws1 => rfl
            simp only [Act.put, List.setIfInBounds_toArray, List.set_cons_zero, List.set_cons_succ]
            refine wpAny_take (i := 5) (v := undef) (oi := ?ois2) ?his2 (by kernel_rfl) (by kernel_rfl) (by kernel_rfl) ?hqs2 (Or.inr ⟨?hws2, rfl⟩) ?rests2
            case his2 => simp only [List.getElem?_toArray, List.getElem?_cons_succ, List.getElem?_cons_zero]; rfl
            case hqs2 => exact fun _ _ _ h => h
            case hws2 => rfl
            simp only [Act.put, List.setIfInBounds_toArray, List.set_cons_zero, List.set_cons_succ]
            refine wpAny_take (i := 6) (v := undef) (oi := ?ois3) ?his3 (by kernel_rfl) (by kernel_rfl) (by kernel_rfl) ?hqs3 (Or.inr ⟨?hws3, rfl⟩) ?rests3
            case his3 => simp only [List.getElem?_toArray, List.getElem?_cons_succ, List.getElem?_cons_zero]; rfl
            case hqs3 => exact fun _ _ _ h => h
            case hws3 => rfl
            simp only [Act.put, List.setIfInBounds_toArray, List.set_cons_zero, List.set_cons_succ]
            refine wpAny_take (i := 7) (v := undef) (oi := ?ois4) ?his4 (by kernel_rfl) (by kernel_rfl) (by kernel_rfl) ?hqs4 (Or.inr ⟨?hws4, rfl⟩) ?rests4
            case his4 => simp only [List.getElem?_toArray, List.getElem?_cons_succ, List.getElem?_cons_zero]; rfl
            case hqs4 => exact fun _ _ _ h => h
            case hws4 => rfl
            simp only [Act.put, List.setIfInBounds_toArray, List.set_cons_zero, List.set_cons_succ]
            refine wpAny_take (i := 8) (v := undef) (oi := ?ois5) ?his5 (by kernel_rfl) (by kernel_rfl) (by kernel_rfl) ?hqs5 (Or.inr ⟨?hws5, rfl⟩) ?rests5
            case his5 => simp only [List.getElem?_toArray, List.getElem?_cons_succ, List.getElem?_cons_zero]; rfl
            case hqs5 => exact fun _ _ _ h => h
            case hws5 => rfl
            simp only [Act.put, List.setIfInBounds_toArray, List.set_cons_zero, List.set_cons_succ]
            refine wpAny_take (i := 9) (v := undef) (oi := ?ois6) ?his6 (by kernel_rfl) (by kernel_rfl) (by kernel_rfl) ?hqs6 (Or.inr ⟨?hws6, rfl⟩) ?rests6
            case his6 => simp only [List.getElem?_toArray, List.getElem?_cons_succ, List.getElem?_cons_zero]; rfl
            case hqs6 => exact fun _ _ _ h => h
            case hws6 => rfl
            simp only [Act.put, List.setIfInBounds_toArray, List.set_cons_zero, List.set_cons_succ]
            refine wpAny_take (i := 10) (v := undef) (oi := ?ois7) ?his7 (by kernel_rfl) (by kernel_rfl) (by kernel_rfl) ?hqs7 (Or.inr ⟨?hws7, rfl⟩) ?rests7
            case his7 => simp only [List.getElem?_toArray, List.getElem?_cons_succ, List.getElem?_cons_zero]; rfl
            case hqs7 => exact fun _ _ _ h => h
            case hws7 => rfl
            simp only [Act.put, List.setIfInBounds_toArray, List.set_cons_zero, List.set_cons_succ]
            refine wpAny_take (i := 11) (v := undef) (oi := ?ois8) ?his8 (by kernel_rfl) (by kernel_rfl) (by kernel_rfl) ?hqs8 (Or.inr ⟨?hws8, rfl⟩) ?rests8
            case his8 => simp only [List.getElem?_toArray, List.getElem?_cons_succ, List.getElem?_cons_zero]; rfl
            case hqs8 => exact fun _ _ _ h => h
            case hws8 => rfl
            simp only [Act.put, List.setIfInBounds_toArray, List.set_cons_zero, List.set_cons_succ]
            refine wpAny_take (i := 12) (v := undef) (oi := ?ois9) ?his9 (by kernel_rfl) (by kernel_rfl) (by kernel_rfl) ?hqs9 (Or.inr ⟨?hws9, rfl⟩) ?rests9
            case his9 => simp only [List.getElem?_toArray, List.getElem?_cons_succ, List.getElem?_cons_zero]; rfl
            case hqs9 => exact fun _ _ _ h => h
            case hws9 => rfl
            simp only [Act.put, List.setIfInBounds_toArray, List.set_cons_zero, List.set_cons_succ]
            refine wpAny_take (i := 13) (v := undef) (oi := ?ois10) ?his10 (by kernel_rfl) (by kernel_rfl) (by kernel_rfl) ?hqs10 (Or.inr ⟨?hws10, rfl⟩) ?rests10
            case his10 => simp only [List.getElem?_toArray, List.getElem?_cons_succ, List.getElem?_cons_zero]; rfl
            case hqs10 => exact fun _ _ _ h => h
            case hws10 => rfl
            simp only [Act.put, List.setIfInBounds_toArray, List.set_cons_zero, List.set_cons_succ]
            refine wpAny_take (i := 14) (v := undef) (oi := ?ois11) ?his11 (by kernel_rfl) (by kernel_rfl) (by kernel_rfl) ?hqs11 (Or.inr ⟨?hws11, rfl⟩) ?rests11
            case his11 => simp only [List.getElem?_toArray, List.getElem?_cons_succ, List.getElem?_cons_zero]; rfl
            case hqs11 => exact fun _ _ _ h => h
            case hws11 => rfl
            simp only [Act.put, List.setIfInBounds_toArray, List.set_cons_zero, List.set_cons_succ]
            refine wpAny_take (i := 15) (v := undef) (oi := ?ois12) ?his12 (by kernel_rfl) (by kernel_rfl) (by kernel_rfl) ?hqs12 (Or.inr ⟨?hws12, rfl⟩) ?rests12
            case his12 => simp only [List.getElem?_toArray, List.getElem?_cons_succ, List.getElem?_cons_zero]; rfl
            case hqs12 => exact fun _ _ _ h => h
            case hws12 => rfl
            simp only [Act.put, List.setIfInBounds_toArray, List.set_cons_zero, List.set_cons_succ]
            refine wpAny_take (i := 16) (v := undef) (oi := ?ois13) ?his13 (by kernel_rfl) (by kernel_rfl) (by kernel_rfl) ?hqs13 (Or.inr ⟨?hws13, rfl⟩) ?rests13
            case his13 => simp only [List.getElem?_toArray, List.getElem?_cons_succ, List.getElem?_cons_zero]; rfl
            case hqs13 => exact fun _ _ _ h => h
            case hws13 => rfl
            simp only [Act.put, List.setIfInBounds_toArray, List.set_cons_zero, List.set_cons_succ]
            refine wpAny_ready (rs := [17]) (by kernel_rfl) (by simp) ?_
            refine AllReady.cons rfl (fun K hK => ?_) AllReady.nil
            go_simp
            refine hK _ _ ?_
            clear hK K
            refine wpAny_done (by kernel_rfl) ?_ _
            have hE4 := (Ext.refl wb).drew.trans hE4'
            go_wp2_with fail
            go_ret
            exact ⟨by rw [HFIN.out (by rw [HOKA.out]; rfl)]; rfl, hX1.trans (hB.trans (hAB.trans hE4))⟩
          | true =>
            have HV := Lib.hid fun (W : World) => valid_any x y W
            rw [hl] at HV HOKA
            rcases Nat.eq_zero_or_pos m with hm0 | hm0
            · subst hm0
              simp only [Nat.zero_mul, Nat.add_zero] at c0 c1
              go_wp2_with fail
              generalize (wr.alloc (.cells #[.int .i64 x, .int .i64 y] 55)) = wb at *
              obtain ⟨e0, e1, _⟩ := hbb
              refine wp_region_any (by kernel_rfl) ?_
              change wpAny _ _ _ _ _ _ _ (World.drew _)
              refine wpAny_ready (rs := [0]) (by kernel_rfl) (by simp) ?_
              refine AllReady.cons rfl (fun K hK => ?_) AllReady.nil
              go_simp
              refine hK _ _ ?_
              clear hK K
              refine wpAny_ready (rs := [1]) (by kernel_rfl) (by simp) ?_
              refine AllReady.cons rfl (fun K hK => ?_) AllReady.nil
              go_simp
              refine (HV.out _).mono ?_
              rintro e w4 ⟨rfl, hE4'⟩
              have hE4 := (Ext.refl wb).drew.trans hE4'
              go_simp
              refine hK _ _ ?_
              clear hK K
              refine wpAny_ready (rs := [2]) (by kernel_rfl) (by simp) ?_
              refine AllReady.cons rfl (fun K hK => ?_) AllReady.nil
              go_simp
              refine hK _ _ ?_
              clear hK K
              refine wpAny_ready (rs := [3]) (by kernel_rfl) (by simp) ?_
              refine AllReady.cons rfl (fun K hK => ?_) AllReady.nil
              go_simp
              refine hK _ _ ?_
              clear hK K
              refine wpAny_ready (rs := [4]) (by kernel_rfl) (by simp) ?_
              refine AllReady.cons rfl (fun K hK => ?_) AllReady.nil
              go_simp
              refine hK _ _ ?_
              clear hK K
              refine wpAny_ready (rs := [5]) (by kernel_rfl) (by simp) ?_
              refine AllReady.cons rfl (fun K hK => ?_) AllReady.nil
              go_simp
              refine hK _ _ ?_
              clear hK K
              refine wpAny_ready (rs := [6]) (by kernel_rfl) (by simp) ?_
              refine AllReady.cons rfl (fun K hK => ?_) AllReady.nil
              go_simp
              refine hK _ _ ?_
              clear hK K
              refine wpAny_take (i := 7) (v := undef) (oi := ?ois14) ?his14 (by kernel_rfl) (by kernel_rfl) (by kernel_rfl) ?hqs14 (Or.inr ⟨?hws14, rfl⟩) ?rests14
              case his14 => simp only [List.getElem?_toArray, List.getElem?_cons_succ, List.getElem?_cons_zero]; rfl
              case hqs14 => exact fun _ _ _ h => h
              case hws14 => rfl
              simp only [Act.put, List.setIfInBounds_toArray, List.set_cons_zero, List.set_cons_succ]
              refine wpAny_take (i := 8) (v := undef) (oi := ?ois15) ?his15 (by kernel_rfl) (by kernel_rfl) (by kernel_rfl) ?hqs15 (Or.inr ⟨?hws15, rfl⟩) ?rests15
              case his15 => simp only [List.getElem?_toArray, List.getElem?_cons_succ, List.getElem?_cons_zero]; rfl
              case hqs15 => exact fun _ _ _ h => h
              case hws15 => rfl
              simp only [Act.put, List.setIfInBounds_toArray, List.set_cons_zero, List.set_cons_succ]
              refine wpAny_take (i := 9) (v := undef) (oi := ?ois16) ?his16 (by kernel_rfl) (by kernel_rfl) (by kernel_rfl) ?hqs16 (Or.inr ⟨?hws16, rfl⟩) ?rests16
              case his16 => simp only [List.getElem?_toArray, List.getElem?_cons_succ, List.getElem?_cons_zero]; rfl
              case hqs16 => exact fun _ _ _ h => h
              case hws16 => rfl
              simp only [Act.put, List.setIfInBounds_toArray, List.set_cons_zero, List.set_cons_succ]
              refine wpAny_take (i := 10) (v := undef) (oi := ?ois17) ?his17 (by kernel_rfl) (by kernel_rfl) (by kernel_rfl) ?hqs17 (Or.inr ⟨?hws17, rfl⟩) ?rests17
              case his17 => simp only [List.getElem?_toArray, List.getElem?_cons_succ, List.getElem?_cons_zero]; rfl
              case hqs17 => exact fun _ _ _ h => h
              case hws17 => rfl
              simp only [Act.put, List.setIfInBounds_toArray, List.set_cons_zero, List.set_cons_succ]
              refine wpAny_take (i := 11) (v := undef) (oi := ?ois18) ?his18 (by kernel_rfl) (by kernel_rfl) (by kernel_rfl) ?hqs18 (Or.inr ⟨?hws18, rfl⟩) ?rests18
              case his18 => simp only [List.getElem?_toArray, List.getElem?_cons_succ, List.getElem?_cons_zero]; rfl
              case hqs18 => exact fun _ _ _ h => h
              case hws18 => rfl
              simp only [Act.put, List.setIfInBounds_toArray, List.set_cons_zero, List.set_cons_succ]
              refine wpAny_take (i := 12) (v := undef) (oi := ?ois19) ?his19 (by kernel_rfl) (by kernel_rfl) (by kernel_rfl) ?hqs19 (Or.inr ⟨?hws19, rfl⟩) ?rests19
              case his19 => simp only [List.getElem?_toArray, List.getElem?_cons_succ, List.getElem?_cons_zero]; rfl
              case hqs19 => exact fun _ _ _ h => h
              case hws19 => rfl
              simp only [Act.put, List.setIfInBounds_toArray, List.set_cons_zero, List.set_cons_succ]
              refine wpAny_take (i := 13) (v := undef) (oi := ?ois20) ?his20 (by kernel_rfl) (by kernel_rfl) (by kernel_rfl) ?hqs20 (Or.inr ⟨?hws20, rfl⟩) ?rests20
              case his20 => simp only [List.getElem?_toArray, List.getElem?_cons_succ, List.getElem?_cons_zero]; rfl
              case hqs20 => exact fun _ _ _ h => h
              case hws20 => rfl
              simp only [Act.put, List.setIfInBounds_toArray, List.set_cons_zero, List.set_cons_succ]
              refine wpAny_take (i := 14) (v := undef) (oi := ?ois21) ?his21 (by kernel_rfl) (by kernel_rfl) (by kernel_rfl) ?hqs21 (Or.inr ⟨?hws21, rfl⟩) ?rests21
              case his21 => simp only [List.getElem?_toArray, List.getElem?_cons_succ, List.getElem?_cons_zero]; rfl
              case hqs21 => exact fun _ _ _ h => h
              case hws21 => rfl
              simp only [Act.put, List.setIfInBounds_toArray, List.set_cons_zero, List.set_cons_succ]
              refine wpAny_take (i := 15) (v := undef) (oi := ?ois22) ?his22 (by kernel_rfl) (by kernel_rfl) (by kernel_rfl) ?hqs22 (Or.inr ⟨?hws22, rfl⟩) ?rests22
              case his22 => simp only [List.getElem?_toArray, List.getElem?_cons_succ, List.getElem?_cons_zero]; rfl
              case hqs22 => exact fun _ _ _ h => h
              case hws22 => rfl
              simp only [Act.put, List.setIfInBounds_toArray, List.set_cons_zero, List.set_cons_succ]
              refine wpAny_ready (rs := [16]) (by kernel_rfl) (by simp) ?_
              refine AllReady.cons rfl (fun K hK => ?_) AllReady.nil
              go_simp
              refine hK _ _ ?_
              clear hK K
              refine wpAny_ready (rs := [17]) (by kernel_rfl) (by simp) ?_
              refine AllReady.cons rfl (fun K hK => ?_) AllReady.nil
              go_simp
              refine hK _ _ ?_
              clear hK K
              refine wpAny_done (by kernel_rfl) ?_ _
              go_wp2_with fail
              go_roundw
              case rel => exact ⟨0 + 1, by go_num, by omega, HNXT.out (by rw [HOKA.out]; rfl), hB.trans (hAB.trans hE4)⟩
              case measure => simp [intOf] <;> omega
            · obtain ⟨k, rfl⟩ : ∃ k, m = k + 1 := ⟨m - 1, by omega⟩
              obtain ⟨p0, p1⟩ := a_cells HA.out ((hX1.trans hB).trans hAB) (show k < a.length by omega)
              have hgk := getD_lt (show k < a.length by omega)
              have HLT : Hid (okAt a (k + 1) = lt2 a[k].1 a[k].2 x y) := Lib.hid (by rw [HOKA.out, show k + 1 - 1 = k by omega, hgk]; simp)
              obtain ⟨px, hpx⟩ : ∃ px, px = a[k].1 := ⟨_, rfl⟩
              obtain ⟨py, hpy⟩ : ∃ py, py = a[k].2 := ⟨_, rfl⟩
              rw [← hpx] at p0 HLT
              rw [← hpy] at p1 HLT
              clear hpx hpy hgk
              have hk0 : (0 : Int) < (k : Int) + 1 := by omega
              have hk1 : (0 : Int) ≤ (k : Int) := by omega
              have hk2 : (k : Int) < (a.length : Int) := by omega
              have hw1 : IntKind.i64.wrap (k : Int) = (k : Int) := by simp [IntKind.wrap, IntKind.bits, IntKind.signed]; omega
              have HCM := Lib.hid fun (W : World) h0 h1 g0 g1 => compare_any b (o + k * 2) wr.heap.size 0 px py x y W h0 h1 g0 g1
              have hge := cmp2_ge px py x y
              generalize cmp2 px py x y = c at *
              cases hlt2 : lt2 px py x y with
              | false =>
                rw [hlt2] at HLT hge
                have hc : (0 : Int) ≤ c := by simpa using hge
                clear hge
                go_wp2_with fail
                generalize (wr.alloc (.cells #[.int .i64 x, .int .i64 y] 55)) = wb at *
                obtain ⟨e0, e1, _⟩ := hbb
                refine wp_region_any (by kernel_rfl) ?_
                change wpAny _ _ _ _ _ _ _ (World.drew _)
                refine wpAny_ready (rs := [0]) (by kernel_rfl) (by simp) ?_
                refine AllReady.cons rfl (fun K hK => ?_) AllReady.nil
                go_simp
                refine hK _ _ ?_
                clear hK K
                refine wpAny_ready (rs := [1]) (by kernel_rfl) (by simp) ?_
                refine AllReady.cons rfl (fun K hK => ?_) AllReady.nil
                go_simp
                refine (HV.out _).mono ?_
                rintro e w4 ⟨rfl, hE4'⟩
                have hE4 := (Ext.refl wb).drew.trans hE4'
                have n1 := (hAB.trans hE4).cell d1
                go_simp
                refine hK _ _ ?_
                clear hK K
                refine wpAny_ready (rs := [2]) (by kernel_rfl) (by simp) ?_
                refine AllReady.cons rfl (fun K hK => ?_) AllReady.nil
                go_simp
                refine hK _ _ ?_
                clear hK K
                refine wpAny_ready (rs := [3]) (by kernel_rfl) (by simp) ?_
                refine AllReady.cons rfl (fun K hK => ?_) AllReady.nil
                go_simp
                refine hK _ _ ?_
                clear hK K
                refine wpAny_ready (rs := [4]) (by kernel_rfl) (by simp) ?_
                refine AllReady.cons rfl (fun K hK => ?_) AllReady.nil
                go_simp
                refine hK _ _ ?_
                clear hK K
                refine wpAny_ready (rs := [5]) (by kernel_rfl) (by simp) ?_
                refine AllReady.cons rfl (fun K hK => ?_) AllReady.nil
                go_simp
                refine hK _ _ ?_
                clear hK K
                refine wpAny_ready (rs := [6]) (by kernel_rfl) (by simp) ?_
                refine AllReady.cons rfl (fun K hK => ?_) AllReady.nil
                go_simp
                refine hK _ _ ?_
                clear hK K
                refine wpAny_take (i := 7) (v := ?vs23) (oi := ?ois23) ?his23 (by kernel_rfl) (by kernel_rfl) (by kernel_rfl) ?hqs23 (Or.inl ⟨?hws23, ?hys23⟩) ?rests23
                case his23 => simp only [List.getElem?_toArray, List.getElem?_cons_succ, List.getElem?_cons_zero]; rfl
                case hws23 => rfl
                case hys23 =>
                  intro w
                  go_simp
                  with_reducible rfl
                case hqs23 => exact fun _ _ _ h => h
                simp only [Act.put, List.setIfInBounds_toArray, List.set_cons_zero, List.set_cons_succ]
                refine wpAny_take (i := 9) (v := ?vs24) (oi := ?ois24) ?his24 (by kernel_rfl) (by kernel_rfl) (by kernel_rfl) ?hqs24 (Or.inl ⟨?hws24, ?hys24⟩) ?rests24
                case his24 => simp only [List.getElem?_toArray, List.getElem?_cons_succ, List.getElem?_cons_zero]; rfl
                case hws24 => rfl
                case hys24 =>
                  intro w
                  go_simp
                  with_reducible rfl
                case hqs24 => exact fun _ _ _ h => h
                simp only [Act.put, List.setIfInBounds_toArray, List.set_cons_zero, List.set_cons_succ]
                refine wpAny_take (i := 10) (v := ?vs25) (oi := ?ois25) ?his25 (by kernel_rfl) (by kernel_rfl) (by kernel_rfl) ?hqs25 (Or.inl ⟨?hws25, ?hys25⟩) ?rests25
                case his25 => simp only [List.getElem?_toArray, List.getElem?_cons_succ, List.getElem?_cons_zero]; rfl
                case hws25 => rfl
                case hys25 =>
                  intro w
                  go_simp
                  with_reducible rfl
                case hqs25 => exact fun _ _ _ h => h
                simp only [Act.put, List.setIfInBounds_toArray, List.set_cons_zero, List.set_cons_succ]
                refine wpAny_take (i := 13) (v := ?vs26) (oi := ?ois26) ?his26 (by kernel_rfl) (by kernel_rfl) (by kernel_rfl) ?hqs26 (Or.inl ⟨?hws26, ?hys26⟩) ?rests26
                case his26 => simp only [List.getElem?_toArray, List.getElem?_cons_succ, List.getElem?_cons_zero]; rfl
                case hws26 => rfl
                case hys26 =>
                  intro w
                  go_simp
                  with_reducible rfl
                case hqs26 => exact fun _ _ _ h => h
                simp only [Act.put, List.setIfInBounds_toArray, List.set_cons_zero, List.set_cons_succ]
                refine wpAny_ready (rs := [8]) (by kernel_rfl) (by simp) ?_
                refine AllReady.cons rfl (fun K hK => ?_) AllReady.nil
                go_simp
                refine hK _ _ ?_
                clear hK K
                refine wpAny_ready (rs := [11]) (by kernel_rfl) (by simp) ?_
                refine AllReady.cons rfl (fun K hK => ?_) AllReady.nil
                go_simp
                refine hK _ _ ?_
                clear hK K
                refine wpAny_ready (rs := [12]) (by kernel_rfl) (by simp) ?_
                refine AllReady.cons rfl (fun K hK => ?_) AllReady.nil
                go_simp
                refine hK _ _ ?_
                clear hK K
                refine wpAny_ready (rs := [14]) (by kernel_rfl) (by simp) ?_
                refine AllReady.cons rfl (fun K hK => ?_) AllReady.nil
                go_simp
                refine (HCM.out w4 (hE4.cell p0) (hE4.cell p1) (hE4.cell e0) (hE4.cell e1)).mono ?_
                rintro e w5 ⟨rfl, hE5⟩
                go_simp
                refine hK _ _ ?_
                clear hK K
                refine wpAny_ready (rs := [15]) (by kernel_rfl) (by simp) ?_
                refine AllReady.cons rfl (fun K hK => ?_) AllReady.nil
                go_simp
                refine hK _ _ ?_
                clear hK K
                refine wpAny_ready (rs := [16]) (by kernel_rfl) (by simp) ?_
                refine AllReady.cons rfl (fun K hK => ?_) AllReady.nil
                go_simp
                refine hK _ _ ?_
                clear hK K
                refine wpAny_ready (rs := [17]) (by kernel_rfl) (by simp) ?_
                refine AllReady.cons rfl (fun K hK => ?_) AllReady.nil
                go_simp
                refine hK _ _ ?_
                clear hK K
                refine wpAny_done (by kernel_rfl) ?_ _
                go_wp2_with fail
                go_ret
                exact ⟨by rw [HFIN.out HLT.out]; rfl, hX1.trans (hB.trans (hAB.trans (hE4.trans hE5)))⟩
              | true =>
                rw [hlt2] at HLT hge
                have hc : ¬ (0 : Int) ≤ c := by simpa using hge
                clear hge
                go_wp2_with fail
                generalize (wr.alloc (.cells #[.int .i64 x, .int .i64 y] 55)) = wb at *
                obtain ⟨e0, e1, _⟩ := hbb
                refine wp_region_any (by kernel_rfl) ?_
                change wpAny _ _ _ _ _ _ _ (World.drew _)
                refine wpAny_ready (rs := [0]) (by kernel_rfl) (by simp) ?_
                refine AllReady.cons rfl (fun K hK => ?_) AllReady.nil
                go_simp
                refine hK _ _ ?_
                clear hK K
                refine wpAny_ready (rs := [1]) (by kernel_rfl) (by simp) ?_
                refine AllReady.cons rfl (fun K hK => ?_) AllReady.nil
                go_simp
                refine (HV.out _).mono ?_
                rintro e w4 ⟨rfl, hE4'⟩
                have hE4 := (Ext.refl wb).drew.trans hE4'
                have n1 := (hAB.trans hE4).cell d1
                go_simp
                refine hK _ _ ?_
                clear hK K
                refine wpAny_ready (rs := [2]) (by kernel_rfl) (by simp) ?_
                refine AllReady.cons rfl (fun K hK => ?_) AllReady.nil
                go_simp
                refine hK _ _ ?_
                clear hK K
                refine wpAny_ready (rs := [3]) (by kernel_rfl) (by simp) ?_
                refine AllReady.cons rfl (fun K hK => ?_) AllReady.nil
                go_simp
                refine hK _ _ ?_
                clear hK K
                refine wpAny_ready (rs := [4]) (by kernel_rfl) (by simp) ?_
                refine AllReady.cons rfl (fun K hK => ?_) AllReady.nil
                go_simp
                refine hK _ _ ?_
                clear hK K
                refine wpAny_ready (rs := [5]) (by kernel_rfl) (by simp) ?_
                refine AllReady.cons rfl (fun K hK => ?_) AllReady.nil
                go_simp
                refine hK _ _ ?_
                clear hK K
                refine wpAny_ready (rs := [6]) (by kernel_rfl) (by simp) ?_
                refine AllReady.cons rfl (fun K hK => ?_) AllReady.nil
                go_simp
                refine hK _ _ ?_
                clear hK K
                refine wpAny_take (i := 7) (v := ?vs27) (oi := ?ois27) ?his27 (by kernel_rfl) (by kernel_rfl) (by kernel_rfl) ?hqs27 (Or.inl ⟨?hws27, ?hys27⟩) ?rests27
                case his27 => simp only [List.getElem?_toArray, List.getElem?_cons_succ, List.getElem?_cons_zero]; rfl
                case hws27 => rfl
                case hys27 =>
                  intro w
                  go_simp
                  with_reducible rfl
                case hqs27 => exact fun _ _ _ h => h
                simp only [Act.put, List.setIfInBounds_toArray, List.set_cons_zero, List.set_cons_succ]
                refine wpAny_take (i := 9) (v := ?vs28) (oi := ?ois28) ?his28 (by kernel_rfl) (by kernel_rfl) (by kernel_rfl) ?hqs28 (Or.inl ⟨?hws28, ?hys28⟩) ?rests28
                case his28 => simp only [List.getElem?_toArray, List.getElem?_cons_succ, List.getElem?_cons_zero]; rfl
                case hws28 => rfl
                case hys28 =>
                  intro w
                  go_simp
                  with_reducible rfl
                case hqs28 => exact fun _ _ _ h => h
                simp only [Act.put, List.setIfInBounds_toArray, List.set_cons_zero, List.set_cons_succ]
                refine wpAny_take (i := 10) (v := ?vs29) (oi := ?ois29) ?his29 (by kernel_rfl) (by kernel_rfl) (by kernel_rfl) ?hqs29 (Or.inl ⟨?hws29, ?hys29⟩) ?rests29
                case his29 => simp only [List.getElem?_toArray, List.getElem?_cons_succ, List.getElem?_cons_zero]; rfl
                case hws29 => rfl
                case hys29 =>
                  intro w
                  go_simp
                  with_reducible rfl
                case hqs29 => exact fun _ _ _ h => h
                simp only [Act.put, List.setIfInBounds_toArray, List.set_cons_zero, List.set_cons_succ]
                refine wpAny_take (i := 13) (v := ?vs30) (oi := ?ois30) ?his30 (by kernel_rfl) (by kernel_rfl) (by kernel_rfl) ?hqs30 (Or.inl ⟨?hws30, ?hys30⟩) ?rests30
                case his30 => simp only [List.getElem?_toArray, List.getElem?_cons_succ, List.getElem?_cons_zero]; rfl
                case hws30 => rfl
                case hys30 =>
                  intro w
                  go_simp
                  with_reducible rfl
                case hqs30 => exact fun _ _ _ h => h
                simp only [Act.put, List.setIfInBounds_toArray, List.set_cons_zero, List.set_cons_succ]
                refine wpAny_ready (rs := [8]) (by kernel_rfl) (by simp) ?_
                refine AllReady.cons rfl (fun K hK => ?_) AllReady.nil
                go_simp
                refine hK _ _ ?_
                clear hK K
                refine wpAny_ready (rs := [11]) (by kernel_rfl) (by simp) ?_
                refine AllReady.cons rfl (fun K hK => ?_) AllReady.nil
                go_simp
                refine hK _ _ ?_
                clear hK K
                refine wpAny_ready (rs := [12]) (by kernel_rfl) (by simp) ?_
                refine AllReady.cons rfl (fun K hK => ?_) AllReady.nil
                go_simp
                refine hK _ _ ?_
                clear hK K
                refine wpAny_ready (rs := [14]) (by kernel_rfl) (by simp) ?_
                refine AllReady.cons rfl (fun K hK => ?_) AllReady.nil
                go_simp
                refine (HCM.out w4 (hE4.cell p0) (hE4.cell p1) (hE4.cell e0) (hE4.cell e1)).mono ?_
                rintro e w5 ⟨rfl, hE5⟩
                go_simp
                refine hK _ _ ?_
                clear hK K
                refine wpAny_ready (rs := [15]) (by kernel_rfl) (by simp) ?_
                refine AllReady.cons rfl (fun K hK => ?_) AllReady.nil
                go_simp
                refine hK _ _ ?_
                clear hK K
                refine wpAny_ready (rs := [16]) (by kernel_rfl) (by simp) ?_
                refine AllReady.cons rfl (fun K hK => ?_) AllReady.nil
                go_simp
                refine hK _ _ ?_
                clear hK K
                refine wpAny_ready (rs := [17]) (by kernel_rfl) (by simp) ?_
                refine AllReady.cons rfl (fun K hK => ?_) AllReady.nil
                go_simp
                refine hK _ _ ?_
                clear hK K
                refine wpAny_done (by kernel_rfl) ?_ _
                go_wp2_with fail
                go_roundw
                case rel => exact ⟨k + 1 + 1, by go_num, by omega, HNXT.out HLT.out, hB.trans (hAB.trans (hE4.trans hE5))⟩
                case measure => simp [intOf] <;> omega
        · have hmn : m = a.length := by omega
          go_wp2_with fail
          go_ret
          refine ⟨?_, hX1.trans hB⟩
          have h1 := HOK.out
          rw [hmn] at h1
          rw [HX.out, okA, h1]
          rfl
end Go.Proofs.Ytdlahgmbilkdcaa
