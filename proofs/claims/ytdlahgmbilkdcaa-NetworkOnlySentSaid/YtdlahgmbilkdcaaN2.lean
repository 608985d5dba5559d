import Derived.Test.YtdlahgmbilkdcaaN1
import Derived.Test.YtdlahgmbilkdcaaChecked
namespace Go.Sz
open Go.RowKit
def cmp2 (x0 x1 y0 y1 : Int) : Int := if cmpI x0 y0 = 0 then cmpI x1 y1 else cmpI x0 y0
theorem cmpI_zero {a b : Int} : cmpI a b = 0 ↔ a = b := by unfold cmpI; split <;> (try split) <;> omega
theorem q_cells {w : World} {b o cap : Nat} {rows : List (List Value)} {q : List Pk} (h : RepQ w (some ⟨b, o, none⟩) cap rows q) {W : World} (hE : Ext w W) {i : Nat} (hi : i < q.length) :
    ∃ f t d ao' cap', q[i] = ⟨f, t, d⟩ ∧ RepP W [.int .i64 f, .int .i64 t, .slice ao' d.length cap'] q[i] ∧ W.cell? ⟨b, o + i * 3, none⟩ = some (.int .i64 f) ∧ W.cell? ⟨b, o + i * 3 + 1, none⟩ = some (.int .i64 t) ∧ W.cell? ⟨b, o + i * 3 + 2, none⟩ = some (.slice ao' (List.length d) cap') := by
  have hl := h.len
  have hr : rows[i]? = some rows[i] := List.getElem?_eq_getElem (by omega)
  have hR := h.el i _ _ hr (List.getElem?_eq_getElem hi)
  obtain ⟨ao', cap', hcs, h1, h2, h3⟩ := hR
  rw [hcs] at hr
  refine ⟨q[i].f, q[i].t, q[i].d, ao', cap', rfl, ⟨ao', cap', rfl, h1, h2, h3.ext hE⟩, hE.cell (h.sl.cellAt (j := 0) hr rfl), hE.cell (h.sl.cellAt (j := 1) hr rfl), hE.cell (h.sl.cellAt (j := 2) hr rfl)⟩
theorem a_cells {w : World} {b o cap : Nat} {a : List (Int × Int)} (h : RepA w (some ⟨b, o, none⟩) cap a) {W : World} (hE : Ext w W) {i : Nat} (hi : i < a.length) :
    W.cell? ⟨b, o + i * 2, none⟩ = some (.int .i64 a[i].1) ∧ W.cell? ⟨b, o + i * 2 + 1, none⟩ = some (.int .i64 a[i].2) := by
  have hr : (pr a)[i]? = some [.int .i64 a[i].1, .int .i64 a[i].2] := by simp only [pr]; rw [List.getElem?_map, List.getElem?_eq_getElem hi]; rfl
  exact ⟨hE.cell (h.sl.cellAt (j := 0) hr rfl), hE.cell (h.sl.cellAt (j := 1) hr rfl)⟩
end Go.Sz
namespace Go.Proofs.Ytdlahgmbilkdcaa
open Go.RowKit Go.Sz

set_option maxRecDepth 100000 in
set_option maxHeartbeats 1600000 in
theorem compare_any (b o b' o' : Nat) (x0 x1 y0 y1 : Int) (w : World) (h0 : w.cell? ⟨b, o, none⟩ = some (.int .i64 x0)) (h1 : w.cell? ⟨b, o + 1, none⟩ = some (.int .i64 x1)) (g0 : w.cell? ⟨b', o', none⟩ = some (.int .i64 y0)) (g1 : w.cell? ⟨b', o' + 1, none⟩ = some (.int .i64 y1)) :
    Calls Try.prog 33 #[.slice (some ⟨b, o, none⟩) 2 2, .slice (some ⟨b', o', none⟩) 2 2] w fun e w' => e = .returned (.int .i64 (cmp2 x0 x1 y0 y1)) ∧ Ext w w' := by
  have HX : Hid (cmp2 x0 x1 y0 y1 = if cmpI x0 y0 = 0 then cmpI x1 y1 else cmpI x0 y0) := Lib.hid rfl
  go_enter Try.func33, Try.ntmps33
  go_wp2_with fail
  go_loopw [11] (fun i wr => ∃ m : Nat, i = .int .i64 m ∧ m ≤ 2 ∧ (1 ≤ m → cmpI x0 y0 = 0) ∧ (2 ≤ m → cmpI x1 y1 = 0) ∧ Ext w wr) (fun i _ => 2 - (intOf i).toNat)
  case atStart => exact ⟨0, rfl, by omega, by omega, by omega, Ext.refl _⟩
  case round =>
    obtain ⟨m, rfl, hm, k0, k1, hB⟩ := hrel
    have m0 := hB.cell h0
    have m1 := hB.cell h1
    have n0 := hB.cell g0
    have n1 := hB.cell g1
    have HK0 := Lib.hid k0
    have HK1 := Lib.hid k1
    clear k0 k1
    rcases (show m = 0 ∨ m = 1 ∨ m = 2 by omega) with rfl | rfl | rfl
    · by_cases hz : cmpI x0 y0 = 0
      · go_wp2_with (go_at_call 44; refine (cmp_any _ _ _).mono ?_; rintro e w' ⟨rfl, rfl⟩; rw [hz])
        go_roundw
        case rel => exact ⟨1, by go_num, by omega, fun _ => hz, by omega, hB⟩
        case measure => simp [intOf] <;> omega
      · have q : (cmpI x0 y0 != 0) = true := by simpa using hz
        go_wp2_with (go_at_call 44; refine (cmp_any _ _ _).mono ?_; rintro e w' ⟨rfl, rfl⟩)
        go_ret
        exact ⟨by rw [HX.out, if_neg hz]; rfl, hB⟩
    · have hz := HK0.out (by omega)
      by_cases hz1 : cmpI x1 y1 = 0
      · go_wp2_with (go_at_call 44; refine (cmp_any _ _ _).mono ?_; rintro e w' ⟨rfl, rfl⟩; rw [hz1])
        go_roundw
        case rel => exact ⟨2, by go_num, by omega, fun _ => hz, fun _ => hz1, hB⟩
        case measure => simp [intOf] <;> omega
      · have q : (cmpI x1 y1 != 0) = true := by simpa using hz1
        go_wp2_with (go_at_call 44; refine (cmp_any _ _ _).mono ?_; rintro e w' ⟨rfl, rfl⟩)
        go_ret
        exact ⟨by rw [HX.out, if_pos hz]; rfl, hB⟩
    · have hz := HK0.out (by omega)
      have hz1 := HK1.out (by omega)
      go_wp2_with fail
      go_ret
      exact ⟨by rw [HX.out, if_pos hz, hz1]; rfl, hB⟩

theorem check1_any (p : Pk) (cs : List Value) (w : World) (h : RepP w cs p) : Calls Try.prog 31 #[.agg cs.toArray] w fun e w' => e = .returned (.bool (!okP p)) ∧ Ext w w' := by
  have HH := Lib.hid h
  obtain ⟨ao, cap, rfl, hf, ht, hs⟩ := h
  have HP := Lib.hid fun (W : World) (hE : Ext w W) => packet_any p _ W (HH.out.ext hE)
  clear hs HH
  generalize okP p = b at *
  cases b
  all_goals
    go_enter Try.func31, Try.ntmps31
    go_wp2_with fail
    refine (HP.out _ ((Ext.refl w).alloc _)).mono ?_
    rintro e w1 ⟨rfl, hE1⟩
    go_wp2_with fail
    go_ret
    exact ⟨rfl, ((Ext.refl w).alloc _).trans hE1⟩

set_option maxRecDepth 100000 in
set_option maxHeartbeats 1600000 in
theorem indexFunc_any (q : List Pk) (ao : Option Addr) (cap : Nat) (rows : List (List Value)) (w : World) (h : RepQ w ao cap rows q) :
    Calls Try.prog 43 #[.slice ao q.length cap, .func (Fn.func 31) #[] #[]] w fun e w' => (∃ r : Int, e = .returned (.int .i64 r) ∧ decide (0 ≤ r) = !(q.all okP)) ∧ Ext w w' := by
  have hs1 : (q.length : Int) ≤ 9223372036854775807 := by have := h.sl.max; have := h.sl.le; have := h.len; omega
  have HH := Lib.hid h
  clear h
  go_enter Try.func43, Try.ntmps43
  go_wp2_with fail
  go_loopw [8] (fun i wr => ∃ m : Nat, i = .int .i64 m ∧ m ≤ q.length ∧ (q.take m).all okP = true ∧ Ext w wr) (fun i _ => q.length - (intOf i).toNat)
  case atStart => exact ⟨0, rfl, by omega, by simp, Ext.refl _⟩
  case round =>
    obtain ⟨m, rfl, hm, hall, hB⟩ := hrel
    have HALL := Lib.hid hall
    clear hall
    by_cases hlt : m < q.length
    · obtain ⟨b, o, rfl, bl⟩ := HH.out.sl.at (by omega) m (by have := HH.out.len; omega)
      obtain ⟨f, t, d, ao', cap', hqm, hP, c0, c1, c2⟩ := q_cells HH.out hB hlt
      have HC := Lib.hid (check1_any _ _ wr hP)
      have HQ : Hid ((q.take (m + 1)).all okP = ((q.take m).all okP && okP q[m])) := Lib.hid (by rw [List.take_succ_eq_append_getElem hlt, List.all_append]; simp)
      cases hok : okP q[m] with
      | true =>
        rw [hok] at HC HQ
        go_wp2_with (go_at_call 31; refine HC.out.mono ?_; rintro e w' ⟨rfl, hE⟩)
        go_roundw
        case rel => exact ⟨m + 1, by go_num, by omega, by rw [HQ.out, HALL.out]; rfl, hB.trans hE⟩
        case measure => simp [intOf] <;> omega
      | false =>
        rw [hok] at HC
        go_wp2_with (go_at_call 31; refine HC.out.mono ?_; rintro e w' ⟨rfl, hE⟩)
        go_ret
        refine ⟨⟨m, rfl, ?_⟩, hB.trans hE⟩
        have h1 : q.all okP = false := by
          rw [Bool.eq_false_iff]
          intro h2
          rw [List.all_eq_true] at h2
          rw [h2 _ (List.getElem_mem hlt)] at hok
          cases hok
        rw [h1]
        simp
    · have hmn : m = q.length := by omega
      go_wp2_with fail
      go_ret
      refine ⟨⟨-1, rfl, ?_⟩, hB⟩
      have h1 := HALL.out
      rw [hmn, List.take_length] at h1
      rw [h1]
      rfl

theorem containsFunc_any (q : List Pk) (ao : Option Addr) (cap : Nat) (rows : List (List Value)) (w : World) (h : RepQ w ao cap rows q) :
    Calls Try.prog 30 #[.slice ao q.length cap, .func (Fn.func 31) #[] #[]] w fun e w' => e = .returned (.bool (!(q.all okP))) ∧ Ext w w' := by
  have HI := Lib.hid (indexFunc_any q ao cap rows w h)
  clear h
  go_enter Try.func30, Try.ntmps30
  go_wp2_with (go_at_call 43; refine HI.out.mono ?_; rintro e w' ⟨⟨r, rfl, hr⟩, hE⟩; have HRR := Lib.hid hr; clear hr)
  go_ret
  exact ⟨by rw [← HRR.out]; rfl, hE⟩
end Go.Proofs.Ytdlahgmbilkdcaa
