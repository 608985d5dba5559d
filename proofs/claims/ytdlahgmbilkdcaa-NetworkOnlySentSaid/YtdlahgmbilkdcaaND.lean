/- IsCut, Index, Contains: is a pair in the list? -/
import Derived.Test.YtdlahgmbilkdcaaN5
import Derived.Test.YtdlahgmbilkdcaaNC
namespace Go.Sz
open Go.RowKit
def hasL (a : List (Int × Int)) (x y : Int) : Bool := a.any fun p => p.1 == x && p.2 == y
theorem hasL_take {a : List (Int × Int)} {m : Nat} (h : m < a.length) (x y : Int) : hasL (a.take (m + 1)) x y = (hasL (a.take m) x y || (a[m].1 == x && a[m].2 == y)) := by
  unfold hasL
  rw [List.take_succ_eq_append_getElem h, List.any_append]
  simp
theorem hasL_of_take {a : List (Int × Int)} {m : Nat} {x y : Int} (h : hasL (a.take m) x y = true) : hasL a x y = true := by
  unfold hasL at *
  rw [List.any_eq_true] at *
  obtain ⟨p, hp, h⟩ := h
  exact ⟨p, List.mem_of_mem_take hp, h⟩
end Go.Sz
namespace Go.Proofs.Ytdlahgmbilkdcaa
open Go.RowKit Go.Sz

set_option maxRecDepth 100000 in
set_option maxHeartbeats 3200000 in
theorem isCut_lt (n : Nw) (x y : Int) (hxy : x < y) (cs : List Value) (w : World) (h : RepN w cs n) : Calls Try.prog 40 #[.agg cs.toArray, .int .i64 x, .int .i64 y] w fun e w' => e = .returned (.bool (hasL n.a x y)) ∧ Ext w w' := by
  obtain ⟨ao, cap, bo, cap', rows, rfl, hq, ha⟩ := h
  obtain ⟨q, a⟩ := n
  simp only at hq ha ⊢
  have hs2 : (a.length : Int) ≤ 9223372036854775807 := by have h1 := ha.sl.max; have h2 := ha.sl.le; rw [pr_length] at h2; omega
  have HA := Lib.hid ha
  clear hq ha
  have hX0 := (Ext.refl w).alloc (.cells #[.slice ao q.length cap, .slice bo a.length cap'] 25)
  have hbx := Box2.new w (.slice ao q.length cap) (.slice bo a.length cap') 25
  go_enter Try.func40, Try.ntmps40
  go_wp2_with fail
  generalize (w.alloc (.cells #[.slice ao q.length cap, .slice bo a.length cap'] 25)) = w1 at *
  go_loop [7] (fun i => ∃ m : Nat, i = .int .i64 m ∧ m ≤ a.length ∧ hasL (a.take m) x y = false) (fun i => a.length - (intOf i).toNat)
  case atStart => exact ⟨0, rfl, by omega, rfl⟩
  case round =>
    obtain ⟨m, rfl, hm, hno⟩ := hrel
    have HNO := Lib.hid hno
    clear hno
    obtain ⟨b0, b1, _⟩ := hbx
    by_cases hlt : m < a.length
    · obtain ⟨b, o, rfl, bl⟩ := HA.out.sl.at (by omega) m (by rw [pr_length]; exact hlt)
      obtain ⟨c0, c1⟩ := a_cells HA.out hX0 hlt
      have HT := Lib.hid (hasL_take hlt x y)
      obtain ⟨u, hu⟩ : ∃ u, u = a[m].1 := ⟨_, rfl⟩
      obtain ⟨v, hv⟩ : ∃ v, v = a[m].2 := ⟨_, rfl⟩
      rw [← hu] at c0 HT
      rw [← hv] at c1 HT
      clear hu hv
      have HR : Hid (hasL a x y = false ∨ (hasL a x y = true)) := Lib.hid (by cases hasL a x y <;> simp)
      cases r1 : (u == x) with
      | true =>
        cases r2 : (v == y) with
        | true =>
          rw [r1, r2] at HT
          have HY : Hid (hasL a x y = true) := Lib.hid (hasL_of_take (m := m + 1) (by rw [HT.out]; simp))
          go_wp2_with fail
          go_ret
          exact ⟨by rw [HY.out]; rfl, hX0⟩
        | false =>
          rw [r1, r2] at HT
          have HN2 := Lib.hid (show hasL (a.take (m + 1)) x y = false by rw [HT.out, HNO.out]; rfl)
          go_wp2_with fail
          go_round
          case rel => exact ⟨m + 1, by go_num, by omega, HN2.out⟩
          case measure => simp [intOf] <;> omega
      | false =>
        rw [r1] at HT
        have HN2 := Lib.hid (show hasL (a.take (m + 1)) x y = false by rw [HT.out, HNO.out]; rfl)
        go_wp2_with fail
        go_round
        case rel => exact ⟨m + 1, by go_num, by omega, HN2.out⟩
        case measure => simp [intOf] <;> omega
    · have hmn : m = a.length := by omega
      have HN3 := Lib.hid (show hasL a x y = false by have h := HNO.out; rwa [hmn, List.take_length] at h)
      go_wp2_with fail
      go_ret
      exact ⟨by rw [HN3.out]; rfl, hX0⟩

set_option maxRecDepth 100000 in
set_option maxHeartbeats 3200000 in
theorem isCut_gt (n : Nw) (x y : Int) (hxy : y < x) (cs : List Value) (w : World) (h : RepN w cs n) : Calls Try.prog 40 #[.agg cs.toArray, .int .i64 x, .int .i64 y] w fun e w' => e = .returned (.bool (hasL n.a y x)) ∧ Ext w w' := by
  obtain ⟨ao, cap, bo, cap', rows, rfl, hq, ha⟩ := h
  obtain ⟨q, a⟩ := n
  simp only at hq ha ⊢
  have hs2 : (a.length : Int) ≤ 9223372036854775807 := by have h1 := ha.sl.max; have h2 := ha.sl.le; rw [pr_length] at h2; omega
  have HA := Lib.hid ha
  clear hq ha
  have hX0 := (Ext.refl w).alloc (.cells #[.slice ao q.length cap, .slice bo a.length cap'] 25)
  have hbx := Box2.new w (.slice ao q.length cap) (.slice bo a.length cap') 25
  go_enter Try.func40, Try.ntmps40
  go_wp2_with fail
  generalize (w.alloc (.cells #[.slice ao q.length cap, .slice bo a.length cap'] 25)) = w1 at *
  go_loop [7] (fun i => ∃ m : Nat, i = .int .i64 m ∧ m ≤ a.length ∧ hasL (a.take m) y x = false) (fun i => a.length - (intOf i).toNat)
  case atStart => exact ⟨0, rfl, by omega, rfl⟩
  case round =>
    obtain ⟨m, rfl, hm, hno⟩ := hrel
    have HNO := Lib.hid hno
    clear hno
    obtain ⟨b0, b1, _⟩ := hbx
    by_cases hlt : m < a.length
    · obtain ⟨b, o, rfl, bl⟩ := HA.out.sl.at (by omega) m (by rw [pr_length]; exact hlt)
      obtain ⟨c0, c1⟩ := a_cells HA.out hX0 hlt
      have HT := Lib.hid (hasL_take hlt y x)
      obtain ⟨u, hu⟩ : ∃ u, u = a[m].1 := ⟨_, rfl⟩
      obtain ⟨v, hv⟩ : ∃ v, v = a[m].2 := ⟨_, rfl⟩
      rw [← hu] at c0 HT
      rw [← hv] at c1 HT
      clear hu hv
      have HR : Hid (hasL a y x = false ∨ (hasL a y x = true)) := Lib.hid (by cases hasL a y x <;> simp)
      cases r1 : (u == y) with
      | true =>
        cases r2 : (v == x) with
        | true =>
          rw [r1, r2] at HT
          have HY : Hid (hasL a y x = true) := Lib.hid (hasL_of_take (m := m + 1) (by rw [HT.out]; simp))
          go_wp2_with fail
          go_ret
          exact ⟨by rw [HY.out]; rfl, hX0⟩
        | false =>
          rw [r1, r2] at HT
          have HN2 := Lib.hid (show hasL (a.take (m + 1)) y x = false by rw [HT.out, HNO.out]; rfl)
          go_wp2_with fail
          go_round
          case rel => exact ⟨m + 1, by go_num, by omega, HN2.out⟩
          case measure => simp [intOf] <;> omega
      | false =>
        rw [r1] at HT
        have HN2 := Lib.hid (show hasL (a.take (m + 1)) y x = false by rw [HT.out, HNO.out]; rfl)
        go_wp2_with fail
        go_round
        case rel => exact ⟨m + 1, by go_num, by omega, HN2.out⟩
        case measure => simp [intOf] <;> omega
    · have hmn : m = a.length := by omega
      have HN3 := Lib.hid (show hasL a y x = false by have h := HNO.out; rwa [hmn, List.take_length] at h)
      go_wp2_with fail
      go_ret
      exact ⟨by rw [HN3.out]; rfl, hX0⟩

set_option maxRecDepth 100000 in
set_option maxHeartbeats 3200000 in
theorem isCut_eq (n : Nw) (x : Int) (cs : List Value) (w : World) (h : RepN w cs n) : Calls Try.prog 40 #[.agg cs.toArray, .int .i64 x, .int .i64 x] w fun e w' => e = .returned (.bool (hasL n.a x x)) ∧ Ext w w' := by
  obtain ⟨ao, cap, bo, cap', rows, rfl, hq, ha⟩ := h
  obtain ⟨q, a⟩ := n
  simp only at hq ha ⊢
  have hs2 : (a.length : Int) ≤ 9223372036854775807 := by have h1 := ha.sl.max; have h2 := ha.sl.le; rw [pr_length] at h2; omega
  have HA := Lib.hid ha
  clear hq ha
  have hX0 := (Ext.refl w).alloc (.cells #[.slice ao q.length cap, .slice bo a.length cap'] 25)
  have hbx := Box2.new w (.slice ao q.length cap) (.slice bo a.length cap') 25
  go_enter Try.func40, Try.ntmps40
  go_wp2_with fail
  generalize (w.alloc (.cells #[.slice ao q.length cap, .slice bo a.length cap'] 25)) = w1 at *
  go_loop [7] (fun i => ∃ m : Nat, i = .int .i64 m ∧ m ≤ a.length ∧ hasL (a.take m) x x = false) (fun i => a.length - (intOf i).toNat)
  case atStart => exact ⟨0, rfl, by omega, rfl⟩
  case round =>
    obtain ⟨m, rfl, hm, hno⟩ := hrel
    have HNO := Lib.hid hno
    clear hno
    obtain ⟨b0, b1, _⟩ := hbx
    by_cases hlt : m < a.length
    · obtain ⟨b, o, rfl, bl⟩ := HA.out.sl.at (by omega) m (by rw [pr_length]; exact hlt)
      obtain ⟨c0, c1⟩ := a_cells HA.out hX0 hlt
      have HT := Lib.hid (hasL_take hlt x x)
      obtain ⟨u, hu⟩ : ∃ u, u = a[m].1 := ⟨_, rfl⟩
      obtain ⟨v, hv⟩ : ∃ v, v = a[m].2 := ⟨_, rfl⟩
      rw [← hu] at c0 HT
      rw [← hv] at c1 HT
      clear hu hv
      have HR : Hid (hasL a x x = false ∨ (hasL a x x = true)) := Lib.hid (by cases hasL a x x <;> simp)
      cases r1 : (u == x) with
      | true =>
        cases r2 : (v == x) with
        | true =>
          rw [r1, r2] at HT
          have HY : Hid (hasL a x x = true) := Lib.hid (hasL_of_take (m := m + 1) (by rw [HT.out]; simp))
          go_wp2_with fail
          go_ret
          exact ⟨by rw [HY.out]; rfl, hX0⟩
        | false =>
          rw [r1, r2] at HT
          have HN2 := Lib.hid (show hasL (a.take (m + 1)) x x = false by rw [HT.out, HNO.out]; rfl)
          go_wp2_with fail
          go_round
          case rel => exact ⟨m + 1, by go_num, by omega, HN2.out⟩
          case measure => simp [intOf] <;> omega
      | false =>
        rw [r1] at HT
        have HN2 := Lib.hid (show hasL (a.take (m + 1)) x x = false by rw [HT.out, HNO.out]; rfl)
        go_wp2_with fail
        go_round
        case rel => exact ⟨m + 1, by go_num, by omega, HN2.out⟩
        case measure => simp [intOf] <;> omega
    · have hmn : m = a.length := by omega
      have HN3 := Lib.hid (show hasL a x x = false by have h := HNO.out; rwa [hmn, List.take_length] at h)
      go_wp2_with fail
      go_ret
      exact ⟨by rw [HN3.out]; rfl, hX0⟩

theorem isCut_any (n : Nw) (x y : Int) (cs : List Value) (w : World) (h : RepN w cs n) : Calls Try.prog 40 #[.agg cs.toArray, .int .i64 x, .int .i64 y] w fun e w' => e = .returned (.bool (hasL n.a (min x y) (max x y))) ∧ Ext w w' := by
  rcases (show x < y ∨ y < x ∨ x = y by omega) with hxy | hxy | hxy
  · rw [show min x y = x by omega, show max x y = y by omega]
    exact isCut_lt n x y hxy cs w h
  · rw [show min x y = y by omega, show max x y = x by omega]
    exact isCut_gt n x y hxy cs w h
  · subst hxy
    rw [show min x x = x by omega, show max x x = x by omega]
    exact isCut_eq n x cs w h

set_option maxRecDepth 100000 in
set_option maxHeartbeats 3200000 in
theorem index_any (a : List (Int × Int)) (x y : Int) (bo : Option Addr) (cap' : Nat) (w : World) (ha : RepA w bo cap' a) : Calls Try.prog 45 #[.slice bo a.length cap', .agg #[.int .i64 x, .int .i64 y]] w fun e w' => (∃ r : Int, e = .returned (.int .i64 r) ∧ decide (0 ≤ r) = hasL a x y) ∧ Ext w w' := by
  have hs2 : (a.length : Int) ≤ 9223372036854775807 := by have h1 := ha.sl.max; have h2 := ha.sl.le; rw [pr_length] at h2; omega
  have HA := Lib.hid ha
  clear ha
  have hX0 := (Ext.refl w).alloc (.cells #[.int .i64 x, .int .i64 y] 55)
  have hbx := Box2.new w (.int .i64 x) (.int .i64 y) 55
  go_enter Try.func45, Try.ntmps45
  go_wp2_with fail
  generalize (w.alloc (.cells #[.int .i64 x, .int .i64 y] 55)) = w1 at *
  go_loopw [8] (fun i wr => ∃ m : Nat, i = .int .i64 m ∧ m ≤ a.length ∧ hasL (a.take m) x y = false ∧ Ext w1 wr) (fun i _ => a.length - (intOf i).toNat)
  case atStart => exact ⟨0, rfl, by omega, rfl, Ext.refl _⟩
  case round =>
    obtain ⟨m, rfl, hm, hno, hB⟩ := hrel
    have HNO := Lib.hid hno
    clear hno
    obtain ⟨b0, b1, _⟩ := hbx.ext hB
    by_cases hlt : m < a.length
    · obtain ⟨b, o, rfl, bl⟩ := HA.out.sl.at (by omega) m (by rw [pr_length]; exact hlt)
      obtain ⟨c0, c1⟩ := a_cells HA.out (hX0.trans hB) hlt
      have HT := Lib.hid (hasL_take hlt x y)
      obtain ⟨u, hu⟩ : ∃ u, u = a[m].1 := ⟨_, rfl⟩
      obtain ⟨v, hv⟩ : ∃ v, v = a[m].2 := ⟨_, rfl⟩
      rw [← hu] at c0 HT
      rw [← hv] at c1 HT
      clear hu hv
      have heq := eq2 x y u v
      have hcomm : (x == u && y == v) = (u == x && v == y) := by rw [Bool.eq_iff_iff]; simp; omega
      rw [hcomm] at heq
      clear hcomm
      cases r : (u == x && v == y) with
      | true =>
        rw [r] at HT heq
        have HY : Hid (hasL a x y = true) := Lib.hid (hasL_of_take (m := m + 1) (by rw [HT.out]; simp))
        clear r
        go_wp2_with fail
        go_quiet (fail)
        go_wp2_with fail
        go_ret
        exact ⟨⟨m, rfl, by rw [HY.out]; simp⟩, hX0.trans (hB.trans ((Ext.refl _).drewN nq))⟩
      | false =>
        rw [r] at HT heq
        have HN2 := Lib.hid (show hasL (a.take (m + 1)) x y = false by rw [HT.out, HNO.out]; rfl)
        clear r
        go_wp2_with fail
        go_quiet (fail)
        go_wp2_with fail
        go_roundw
        case rel => exact ⟨m + 1, by go_num, by omega, HN2.out, hB.trans ((Ext.refl _).drewN nq)⟩
        case measure => simp [intOf] <;> omega
    · have hmn : m = a.length := by omega
      have HN3 := Lib.hid (show hasL a x y = false by have h := HNO.out; rwa [hmn, List.take_length] at h)
      go_wp2_with fail
      go_ret
      exact ⟨⟨-1, rfl, by rw [HN3.out]; rfl⟩, hX0.trans hB⟩

theorem contains_any (a : List (Int × Int)) (x y : Int) (bo : Option Addr) (cap' : Nat) (w : World) (ha : RepA w bo cap' a) : Calls Try.prog 36 #[.slice bo a.length cap', .agg #[.int .i64 x, .int .i64 y]] w fun e w' => e = .returned (.bool (hasL a x y)) ∧ Ext w w' := by
  have HI := Lib.hid fun (W : World) (hE : Ext w W) => index_any a x y bo cap' W (ha.ext hE)
  clear ha
  go_enter Try.func36, Try.ntmps36
  go_wp2_with (go_at_call 45; refine (HI.out _ ((Ext.refl w).alloc _)).mono ?_; rintro e w' ⟨⟨r, rfl, hr⟩, hE⟩; have HRR := Lib.hid hr; clear hr)
  go_ret
  exact ⟨by rw [← HRR.out]; rfl, ((Ext.refl w).alloc _).trans hE⟩
end Go.Proofs.Ytdlahgmbilkdcaa
