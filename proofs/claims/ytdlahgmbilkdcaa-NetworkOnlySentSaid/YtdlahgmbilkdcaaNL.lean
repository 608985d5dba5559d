/- Cut: the reference's. -/
import Derived.Test.YtdlahgmbilkdcaaNK
namespace Go.Proofs.Ytdlahgmbilkdcaa
open Go.RowKit Go.Sz

set_option maxRecDepth 100000 in
set_option maxHeartbeats 6400000 in
theorem refCut_lt (n : Nw) (x y : Int) (on : Bool) (cs : List Value) (w : World) (h : RepN w cs n) (hok : okN n = true) (hcx : campus x = true) (hcy : campus y = true) (hxy : x < y) : Calls Try.prog 21 #[.agg cs.toArray, .int .i64 x, .int .i64 y, .bool on] w (RetN (⟨n.q, cutL n.a x y on⟩, 0) w) := by
  have HH := Lib.hid h
  have HC := Lib.hid fun (W : World) (hE : Ext w W) => refCheck_any n _ W (HH.out.ext hE)
  have hck : checkN n = 0 := by unfold checkN; rw [if_pos hok]
  rw [hck] at HC
  have HC1 := Lib.hid fun (W : World) => campus_any x W
  have HC2 := Lib.hid fun (W : World) => campus_any y W
  rw [hcx] at HC1
  rw [hcy] at HC2
  have HICC := Lib.hid fun (i j : Int) (W : World) (hE : Ext w W) => isCut_any n i j _ W (HH.out.ext hE)
  have hne : (x == y) = false := by simp; omega
  clear hok hck hcx hcy
  obtain ⟨ao, cap, bo, cap', rows, rfl, hq, ha⟩ := h
  have HQ := Lib.hid hq
  clear hq ha
  obtain ⟨q, a⟩ := n
  simp only at HC HQ HICC ⊢
  have HON : Hid (∀ p, isOn a x y on p = if (p.1 == x && p.2 == y) = true then on else hasL a p.1 p.2) := Lib.hid fun p => rfl
  have hX0 := ((Ext.refl w).alloc (.cells #[.slice ao q.length cap, .slice bo a.length cap'] 25)).alloc (.cells #[.slice none 0 0, .slice none 0 0] 25)
  have hbn := (Box2.new w (.slice ao q.length cap) (.slice bo a.length cap') 25).ext ((Ext.refl _).alloc (.cells #[.slice none 0 0, .slice none 0 0] 25))
  have hbr := Box2.new' (w.alloc (.cells #[.slice ao q.length cap, .slice bo a.length cap'] 25)) (.slice none 0 0) (.slice none 0 0) 25 (w.heap.size + 1) (by simp)
  obtain ⟨i0, hi, hz0, hz1, hz2⟩ := info_parts info2
  go_enter Try.func21, Try.ntmps21
  go_wp2_with (first
    | (go_at_call 14; refine (HC.out _ hX0).mono ?_; rintro e w1 ⟨rfl, hE1⟩)
    | (go_at_call_of 34 (Value.int .i64 x); refine (HC1.out _).mono ?_; rintro e w' ⟨rfl, rfl⟩)
    | (go_at_call_of 34 (Value.int .i64 y); refine (HC2.out _).mono ?_; rintro e w' ⟨rfl, rfl⟩))
  have hX1 := hX0.trans hE1
  have HBN := Lib.hid (hbn.ext hE1)
  have HBR := Lib.hid (hbr.ext hE1)
  have hsz1 : w.heap.size + 2 ≤ w1.heap.size := by have := hE1.size; simp at this; omega
  clear hX0 hbn hbr hE1
  go_loopw [10, 11] (fun lv i wr => ∃ m : Nat, i = .int .i64 m ∧ m ≤ 7 ∧ wr.ownsRow w1.heap.size 55 2 lv (cutTo (isOn a x y on) m (m + 1)).length (pr (cutTo (isOn a x y on) m (m + 1))).flatten ∧ Ext w1 wr) (fun _ i _ => 7 - (intOf i).toNat)
  case atStart => exact ⟨0, rfl, by omega, by rw [cutTo_start]; exact World.ownsRow_nil _ _ _ _, Ext.refl _⟩
  case round =>
    obtain ⟨m, rfl, hm, ho, hB⟩ := hrel
    by_cases hlt : m < 7
    · have hlti : (m : Int) < 7 := by omega
      have HO := Lib.hid ho
      clear ho
      go_wp2_with fail
      go_loopw [10, 12] (fun lv j wr => ∃ k : Nat, j = .int .i64 k ∧ m + 1 ≤ k ∧ k ≤ 7 ∧ wr.ownsRow w1.heap.size 55 2 lv (cutTo (isOn a x y on) m k).length (pr (cutTo (isOn a x y on) m k)).flatten ∧ Ext w1 wr) (fun _ j _ => 7 - (intOf j).toNat)
      case atStart => exact ⟨m + 1, by go_num, by omega, by omega, HO.out, hB⟩
      case round =>
        clear HO hB
        obtain ⟨k, rfl, hk1, hk2, ho, hB⟩ := hrel
        have HO := Lib.hid ho
        clear ho
        by_cases hlk : k < 7
        · have hlki : (k : Int) < 7 := by omega
          have hlen := cutTo_len (isOn a x y on) hlt hlk (by omega)
          have HBLK : Hid (∀ b, Value.ownBlock u10 = some b → w1.heap.size ≤ b) := Lib.hid (ownsRow_blocks HO.out)
          obtain ⟨n0, n1, _⟩ := HBN.out.ext hB
          have HIC : Hid (∀ W, Ext w1 W → Calls Try.prog 40 #[.agg #[.slice ao q.length cap, .slice bo a.length cap'], .int .i64 m, .int .i64 k] W fun e w' => e = .returned (.bool (hasL a m k)) ∧ Ext W w') := Lib.hid fun W hE => by
            have h1 := HICC.out m k W (hX1.trans hE)
            rw [show min (m : Int) (k : Int) = m by omega, show max (m : Int) (k : Int) = k by omega] at h1
            exact h1
          cases e1 : ((m : Int) == x) with
          | false =>
            have hP : Hid (isOn a x y on ((m : Int), (k : Int)) = hasL a m k) := Lib.hid (by rw [HON.out]; simp only; rw [if_neg (by rw [e1]; simp)])
            cases hh : hasL a m k with
            | true =>
              have HY1 : Hid (isOn a x y on ((m : Int), (k : Int)) = true) := Lib.hid (hP.out.trans hh)
              rw [hh] at HIC
              clear hh hP
              go_wp2_with (first
                | (go_at_call 40; refine (HIC.out _ hB).mono ?_; rintro e w5 ⟨rfl, hE5⟩; obtain ⟨n0, n1, _⟩ := HBN.out.ext (hB.trans hE5))
                | (at_builtin; refine wpList_append_S rfl _ _ 23 23 rfl w1.heap.size 55 i0 _ 2 16 Try.underlying23 hi hz0 hz1 hz2 rfl _ _ _ rfl (ownsRow_ext HO.out (hE5.alloc _)) (.slice (some ⟨w5.heap.size, 0, none⟩) 1 1) 1 [.int .i64 m, .int .i64 k] rfl (Src.ofSlice _ Try.underlying23 ⟨w5.heap.size, 0, none⟩ 1 1 _ rfl (two_cells (by simp) (by simp)) (by simp [Value.oneCell'])) (by unfold maxLen; omega) (by omega) (by have := (hB.trans hE5).size; simp; omega) ?_; intro v6 w6 ho6 hg6))
              have hX6 : Ext w1 w6 := Ext.trans' ((hB.trans hE5).alloc (.cells #[.int .i64 m, .int .i64 k] 55)) hg6 (HBLK.out)
              go_roundw
              case rel => exact ⟨k + 1, by go_num, by omega, by omega, by rw [cutTo_yes hlt hlk (by omega) HY1.out, List.length_append]; simpa [pr] using ho6, hX6⟩
              case measure => simp [intOf] <;> omega
            | false =>
              have HN1 : Hid (isOn a x y on ((m : Int), (k : Int)) = false) := Lib.hid (hP.out.trans hh)
              rw [hh] at HIC
              clear hh hP
              go_wp2_with (first
                | (go_at_call 40; refine (HIC.out _ hB).mono ?_; rintro e w5 ⟨rfl, hE5⟩; obtain ⟨n0, n1, _⟩ := HBN.out.ext (hB.trans hE5)))
              go_roundw
              case rel => exact ⟨k + 1, by go_num, by omega, by omega, by rw [cutTo_no hlt hlk (by omega) HN1.out]; exact ownsRow_ext HO.out hE5, hB.trans hE5⟩
              case measure => simp [intOf] <;> omega
          | true =>
            cases e2 : ((k : Int) == y) with
            | false =>
              have hP : Hid (isOn a x y on ((m : Int), (k : Int)) = hasL a m k) := Lib.hid (by rw [HON.out]; simp only; rw [if_neg (by rw [e1, e2]; simp)])
              cases hh : hasL a m k with
              | true =>
                have HY1 : Hid (isOn a x y on ((m : Int), (k : Int)) = true) := Lib.hid (hP.out.trans hh)
                rw [hh] at HIC
                clear hh hP
                go_wp2_with (first
                  | (go_at_call 40; refine (HIC.out _ hB).mono ?_; rintro e w5 ⟨rfl, hE5⟩; obtain ⟨n0, n1, _⟩ := HBN.out.ext (hB.trans hE5))
                  | (at_builtin; refine wpList_append_S rfl _ _ 23 23 rfl w1.heap.size 55 i0 _ 2 16 Try.underlying23 hi hz0 hz1 hz2 rfl _ _ _ rfl (ownsRow_ext HO.out (hE5.alloc _)) (.slice (some ⟨w5.heap.size, 0, none⟩) 1 1) 1 [.int .i64 m, .int .i64 k] rfl (Src.ofSlice _ Try.underlying23 ⟨w5.heap.size, 0, none⟩ 1 1 _ rfl (two_cells (by simp) (by simp)) (by simp [Value.oneCell'])) (by unfold maxLen; omega) (by omega) (by have := (hB.trans hE5).size; simp; omega) ?_; intro v6 w6 ho6 hg6))
                have hX6 : Ext w1 w6 := Ext.trans' ((hB.trans hE5).alloc (.cells #[.int .i64 m, .int .i64 k] 55)) hg6 (HBLK.out)
                go_roundw
                case rel => exact ⟨k + 1, by go_num, by omega, by omega, by rw [cutTo_yes hlt hlk (by omega) HY1.out, List.length_append]; simpa [pr] using ho6, hX6⟩
                case measure => simp [intOf] <;> omega
              | false =>
                have HN1 : Hid (isOn a x y on ((m : Int), (k : Int)) = false) := Lib.hid (hP.out.trans hh)
                rw [hh] at HIC
                clear hh hP
                go_wp2_with (first
                  | (go_at_call 40; refine (HIC.out _ hB).mono ?_; rintro e w5 ⟨rfl, hE5⟩; obtain ⟨n0, n1, _⟩ := HBN.out.ext (hB.trans hE5)))
                go_roundw
                case rel => exact ⟨k + 1, by go_num, by omega, by omega, by rw [cutTo_no hlt hlk (by omega) HN1.out]; exact ownsRow_ext HO.out hE5, hB.trans hE5⟩
                case measure => simp [intOf] <;> omega
            | true =>
              have hP : Hid (isOn a x y on ((m : Int), (k : Int)) = on) := Lib.hid (by rw [HON.out]; simp only; rw [if_pos (by rw [e1, e2]; rfl)])
              cases on with
              | true =>
                have HY1 : Hid (isOn a x y true ((m : Int), (k : Int)) = true) := Lib.hid hP.out
                clear hP
                go_wp2_with (first
                  | (go_at_call 40; refine (HIC.out _ hB).mono ?_; rintro e w5 ⟨rfl, hE5⟩; obtain ⟨n0, n1, _⟩ := HBN.out.ext (hB.trans hE5))
                  | (at_builtin; refine wpList_append_S rfl _ _ 23 23 rfl w1.heap.size 55 i0 _ 2 16 Try.underlying23 hi hz0 hz1 hz2 rfl _ _ _ rfl (ownsRow_ext HO.out (hE5.alloc _)) (.slice (some ⟨w5.heap.size, 0, none⟩) 1 1) 1 [.int .i64 m, .int .i64 k] rfl (Src.ofSlice _ Try.underlying23 ⟨w5.heap.size, 0, none⟩ 1 1 _ rfl (two_cells (by simp) (by simp)) (by simp [Value.oneCell'])) (by unfold maxLen; omega) (by omega) (by have := (hB.trans hE5).size; simp; omega) ?_; intro v6 w6 ho6 hg6))
                have hX6 : Ext w1 w6 := Ext.trans' ((hB.trans hE5).alloc (.cells #[.int .i64 m, .int .i64 k] 55)) hg6 (HBLK.out)
                go_roundw
                case rel => exact ⟨k + 1, by go_num, by omega, by omega, by rw [cutTo_yes hlt hlk (by omega) HY1.out, List.length_append]; simpa [pr] using ho6, hX6⟩
                case measure => simp [intOf] <;> omega
              | false =>
                have HN1 : Hid (isOn a x y false ((m : Int), (k : Int)) = false) := Lib.hid hP.out
                clear hP
                go_wp2_with (first
                  | (go_at_call 40; refine (HIC.out _ hB).mono ?_; rintro e w5 ⟨rfl, hE5⟩; obtain ⟨n0, n1, _⟩ := HBN.out.ext (hB.trans hE5)))
                go_roundw
                case rel => exact ⟨k + 1, by go_num, by omega, by omega, by rw [cutTo_no hlt hlk (by omega) HN1.out]; exact ownsRow_ext HO.out hE5, hB.trans hE5⟩
                case measure => simp [intOf] <;> omega
        · have hk7 : k = 7 := by omega
          subst hk7
          go_wp2_with fail
          go_roundw
          case rel => exact ⟨m + 1, by go_num, by omega, by rw [← cutTo_next _ hlt]; exact HO.out, hB⟩
          case measure => simp [intOf] <;> omega
    · have hm7 : m = 7 := by omega
      subst hm7
      have ho2 : wr.ownsRow w1.heap.size 55 2 u10 (cutL a x y on).length (pr (cutL a x y on)).flatten := by rw [cutTo_end] at ho; exact ho
      have hwid : ∀ r ∈ pr (cutL a x y on), r.length = 2 := fun r hr => by
        simp only [pr, List.mem_map] at hr
        obtain ⟨z, _, rfl⟩ := hr
        rfl
      obtain ⟨ao3, cap3, rfl, hs3, hf3⟩ := SL.of_own ho2 hwid (pr_length _)
      have HS3 := Lib.hid hs3
      have HF3 := Lib.hid hf3
      clear ho ho2 hs3 hf3 hwid
      obtain ⟨n0, n1, nz⟩ := HBN.out.ext hB
      have HBR2 := HBR.out.ext hB
      obtain ⟨r0, r1, rz⟩ := HBR2
      go_wp2_with fail
      have hXF := (((hX1.trans hB).setCell (p := ⟨w.heap.size, 1, none⟩) (by simp) (.slice ao3 (cutL a x y on).length cap3)).setCell (p := ⟨w.heap.size + 1, 0, none⟩) (by simp) (.slice ao q.length cap)).setCell (p := ⟨w.heap.size + 1, 1, none⟩) (by simp) (.slice ao3 (cutL a x y on).length cap3)
      have hSF := ((HS3.out.setCell (p := ⟨w.heap.size, 1, none⟩) (.slice ao3 (cutL a x y on).length cap3) (fun z hz _ => by have := HF3.out z hz; simp; omega)).setCell (p := ⟨w.heap.size + 1, 0, none⟩) (.slice ao q.length cap) (fun z hz _ => by have := HF3.out z hz; simp; omega)).setCell (p := ⟨w.heap.size + 1, 1, none⟩) (.slice ao3 (cutL a x y on).length cap3) (fun z hz _ => by have := HF3.out z hz; simp; omega)
      refine bodyPost_ret (v := .tuple #[.agg #[.slice ao q.length cap, .slice ao3 (cutL a x y on).length cap3], .int .i64 0]) ?_ rfl ⟨[.slice ao q.length cap, .slice ao3 (cutL a x y on).length cap3], rfl, ⟨ao, cap, ao3, cap3, rows, rfl, HQ.out.ext hXF, ⟨hSF, cutL_rg a x y on⟩⟩, hXF⟩
      simp [results, Try.results21, go_sem, r0, r1]

set_option maxRecDepth 100000 in
set_option maxHeartbeats 6400000 in
theorem refCut_gt (n : Nw) (x y : Int) (on : Bool) (cs : List Value) (w : World) (h : RepN w cs n) (hok : okN n = true) (hcx : campus x = true) (hcy : campus y = true) (hxy : y < x) : Calls Try.prog 21 #[.agg cs.toArray, .int .i64 x, .int .i64 y, .bool on] w (RetN (⟨n.q, cutL n.a y x on⟩, 0) w) := by
  have HH := Lib.hid h
  have HC := Lib.hid fun (W : World) (hE : Ext w W) => refCheck_any n _ W (HH.out.ext hE)
  have hck : checkN n = 0 := by unfold checkN; rw [if_pos hok]
  rw [hck] at HC
  have HC1 := Lib.hid fun (W : World) => campus_any x W
  have HC2 := Lib.hid fun (W : World) => campus_any y W
  rw [hcx] at HC1
  rw [hcy] at HC2
  have HICC := Lib.hid fun (i j : Int) (W : World) (hE : Ext w W) => isCut_any n i j _ W (HH.out.ext hE)
  have hne : (x == y) = false := by simp; omega
  clear hok hck hcx hcy
  obtain ⟨ao, cap, bo, cap', rows, rfl, hq, ha⟩ := h
  have HQ := Lib.hid hq
  clear hq ha
  obtain ⟨q, a⟩ := n
  simp only at HC HQ HICC ⊢
  have HON : Hid (∀ p, isOn a y x on p = if (p.1 == y && p.2 == x) = true then on else hasL a p.1 p.2) := Lib.hid fun p => rfl
  have hX0 := ((Ext.refl w).alloc (.cells #[.slice ao q.length cap, .slice bo a.length cap'] 25)).alloc (.cells #[.slice none 0 0, .slice none 0 0] 25)
  have hbn := (Box2.new w (.slice ao q.length cap) (.slice bo a.length cap') 25).ext ((Ext.refl _).alloc (.cells #[.slice none 0 0, .slice none 0 0] 25))
  have hbr := Box2.new' (w.alloc (.cells #[.slice ao q.length cap, .slice bo a.length cap'] 25)) (.slice none 0 0) (.slice none 0 0) 25 (w.heap.size + 1) (by simp)
  obtain ⟨i0, hi, hz0, hz1, hz2⟩ := info_parts info2
  go_enter Try.func21, Try.ntmps21
  go_wp2_with (first
    | (go_at_call 14; refine (HC.out _ hX0).mono ?_; rintro e w1 ⟨rfl, hE1⟩)
    | (go_at_call_of 34 (Value.int .i64 x); refine (HC1.out _).mono ?_; rintro e w' ⟨rfl, rfl⟩)
    | (go_at_call_of 34 (Value.int .i64 y); refine (HC2.out _).mono ?_; rintro e w' ⟨rfl, rfl⟩))
  have hX1 := hX0.trans hE1
  have HBN := Lib.hid (hbn.ext hE1)
  have HBR := Lib.hid (hbr.ext hE1)
  have hsz1 : w.heap.size + 2 ≤ w1.heap.size := by have := hE1.size; simp at this; omega
  clear hX0 hbn hbr hE1
  go_loopw [10, 11] (fun lv i wr => ∃ m : Nat, i = .int .i64 m ∧ m ≤ 7 ∧ wr.ownsRow w1.heap.size 55 2 lv (cutTo (isOn a y x on) m (m + 1)).length (pr (cutTo (isOn a y x on) m (m + 1))).flatten ∧ Ext w1 wr) (fun _ i _ => 7 - (intOf i).toNat)
  case atStart => exact ⟨0, rfl, by omega, by rw [cutTo_start]; exact World.ownsRow_nil _ _ _ _, Ext.refl _⟩
  case round =>
    obtain ⟨m, rfl, hm, ho, hB⟩ := hrel
    by_cases hlt : m < 7
    · have hlti : (m : Int) < 7 := by omega
      have HO := Lib.hid ho
      clear ho
      go_wp2_with fail
      go_loopw [10, 12] (fun lv j wr => ∃ k : Nat, j = .int .i64 k ∧ m + 1 ≤ k ∧ k ≤ 7 ∧ wr.ownsRow w1.heap.size 55 2 lv (cutTo (isOn a y x on) m k).length (pr (cutTo (isOn a y x on) m k)).flatten ∧ Ext w1 wr) (fun _ j _ => 7 - (intOf j).toNat)
      case atStart => exact ⟨m + 1, by go_num, by omega, by omega, HO.out, hB⟩
      case round =>
        clear HO hB
        obtain ⟨k, rfl, hk1, hk2, ho, hB⟩ := hrel
        have HO := Lib.hid ho
        clear ho
        by_cases hlk : k < 7
        · have hlki : (k : Int) < 7 := by omega
          have hlen := cutTo_len (isOn a y x on) hlt hlk (by omega)
          have HBLK : Hid (∀ b, Value.ownBlock u10 = some b → w1.heap.size ≤ b) := Lib.hid (ownsRow_blocks HO.out)
          obtain ⟨n0, n1, _⟩ := HBN.out.ext hB
          have HIC : Hid (∀ W, Ext w1 W → Calls Try.prog 40 #[.agg #[.slice ao q.length cap, .slice bo a.length cap'], .int .i64 m, .int .i64 k] W fun e w' => e = .returned (.bool (hasL a m k)) ∧ Ext W w') := Lib.hid fun W hE => by
            have h1 := HICC.out m k W (hX1.trans hE)
            rw [show min (m : Int) (k : Int) = m by omega, show max (m : Int) (k : Int) = k by omega] at h1
            exact h1
          cases e1 : ((m : Int) == y) with
          | false =>
            have hP : Hid (isOn a y x on ((m : Int), (k : Int)) = hasL a m k) := Lib.hid (by rw [HON.out]; simp only; rw [if_neg (by rw [e1]; simp)])
            cases hh : hasL a m k with
            | true =>
              have HY1 : Hid (isOn a y x on ((m : Int), (k : Int)) = true) := Lib.hid (hP.out.trans hh)
              rw [hh] at HIC
              clear hh hP
              go_wp2_with (first
                | (go_at_call 40; refine (HIC.out _ hB).mono ?_; rintro e w5 ⟨rfl, hE5⟩; obtain ⟨n0, n1, _⟩ := HBN.out.ext (hB.trans hE5))
                | (at_builtin; refine wpList_append_S rfl _ _ 23 23 rfl w1.heap.size 55 i0 _ 2 16 Try.underlying23 hi hz0 hz1 hz2 rfl _ _ _ rfl (ownsRow_ext HO.out (hE5.alloc _)) (.slice (some ⟨w5.heap.size, 0, none⟩) 1 1) 1 [.int .i64 m, .int .i64 k] rfl (Src.ofSlice _ Try.underlying23 ⟨w5.heap.size, 0, none⟩ 1 1 _ rfl (two_cells (by simp) (by simp)) (by simp [Value.oneCell'])) (by unfold maxLen; omega) (by omega) (by have := (hB.trans hE5).size; simp; omega) ?_; intro v6 w6 ho6 hg6))
              have hX6 : Ext w1 w6 := Ext.trans' ((hB.trans hE5).alloc (.cells #[.int .i64 m, .int .i64 k] 55)) hg6 (HBLK.out)
              go_roundw
              case rel => exact ⟨k + 1, by go_num, by omega, by omega, by rw [cutTo_yes hlt hlk (by omega) HY1.out, List.length_append]; simpa [pr] using ho6, hX6⟩
              case measure => simp [intOf] <;> omega
            | false =>
              have HN1 : Hid (isOn a y x on ((m : Int), (k : Int)) = false) := Lib.hid (hP.out.trans hh)
              rw [hh] at HIC
              clear hh hP
              go_wp2_with (first
                | (go_at_call 40; refine (HIC.out _ hB).mono ?_; rintro e w5 ⟨rfl, hE5⟩; obtain ⟨n0, n1, _⟩ := HBN.out.ext (hB.trans hE5)))
              go_roundw
              case rel => exact ⟨k + 1, by go_num, by omega, by omega, by rw [cutTo_no hlt hlk (by omega) HN1.out]; exact ownsRow_ext HO.out hE5, hB.trans hE5⟩
              case measure => simp [intOf] <;> omega
          | true =>
            cases e2 : ((k : Int) == x) with
            | false =>
              have hP : Hid (isOn a y x on ((m : Int), (k : Int)) = hasL a m k) := Lib.hid (by rw [HON.out]; simp only; rw [if_neg (by rw [e1, e2]; simp)])
              cases hh : hasL a m k with
              | true =>
                have HY1 : Hid (isOn a y x on ((m : Int), (k : Int)) = true) := Lib.hid (hP.out.trans hh)
                rw [hh] at HIC
                clear hh hP
                go_wp2_with (first
                  | (go_at_call 40; refine (HIC.out _ hB).mono ?_; rintro e w5 ⟨rfl, hE5⟩; obtain ⟨n0, n1, _⟩ := HBN.out.ext (hB.trans hE5))
                  | (at_builtin; refine wpList_append_S rfl _ _ 23 23 rfl w1.heap.size 55 i0 _ 2 16 Try.underlying23 hi hz0 hz1 hz2 rfl _ _ _ rfl (ownsRow_ext HO.out (hE5.alloc _)) (.slice (some ⟨w5.heap.size, 0, none⟩) 1 1) 1 [.int .i64 m, .int .i64 k] rfl (Src.ofSlice _ Try.underlying23 ⟨w5.heap.size, 0, none⟩ 1 1 _ rfl (two_cells (by simp) (by simp)) (by simp [Value.oneCell'])) (by unfold maxLen; omega) (by omega) (by have := (hB.trans hE5).size; simp; omega) ?_; intro v6 w6 ho6 hg6))
                have hX6 : Ext w1 w6 := Ext.trans' ((hB.trans hE5).alloc (.cells #[.int .i64 m, .int .i64 k] 55)) hg6 (HBLK.out)
                go_roundw
                case rel => exact ⟨k + 1, by go_num, by omega, by omega, by rw [cutTo_yes hlt hlk (by omega) HY1.out, List.length_append]; simpa [pr] using ho6, hX6⟩
                case measure => simp [intOf] <;> omega
              | false =>
                have HN1 : Hid (isOn a y x on ((m : Int), (k : Int)) = false) := Lib.hid (hP.out.trans hh)
                rw [hh] at HIC
                clear hh hP
                go_wp2_with (first
                  | (go_at_call 40; refine (HIC.out _ hB).mono ?_; rintro e w5 ⟨rfl, hE5⟩; obtain ⟨n0, n1, _⟩ := HBN.out.ext (hB.trans hE5)))
                go_roundw
                case rel => exact ⟨k + 1, by go_num, by omega, by omega, by rw [cutTo_no hlt hlk (by omega) HN1.out]; exact ownsRow_ext HO.out hE5, hB.trans hE5⟩
                case measure => simp [intOf] <;> omega
            | true =>
              have hP : Hid (isOn a y x on ((m : Int), (k : Int)) = on) := Lib.hid (by rw [HON.out]; simp only; rw [if_pos (by rw [e1, e2]; rfl)])
              cases on with
              | true =>
                have HY1 : Hid (isOn a y x true ((m : Int), (k : Int)) = true) := Lib.hid hP.out
                clear hP
                go_wp2_with (first
                  | (go_at_call 40; refine (HIC.out _ hB).mono ?_; rintro e w5 ⟨rfl, hE5⟩; obtain ⟨n0, n1, _⟩ := HBN.out.ext (hB.trans hE5))
                  | (at_builtin; refine wpList_append_S rfl _ _ 23 23 rfl w1.heap.size 55 i0 _ 2 16 Try.underlying23 hi hz0 hz1 hz2 rfl _ _ _ rfl (ownsRow_ext HO.out (hE5.alloc _)) (.slice (some ⟨w5.heap.size, 0, none⟩) 1 1) 1 [.int .i64 m, .int .i64 k] rfl (Src.ofSlice _ Try.underlying23 ⟨w5.heap.size, 0, none⟩ 1 1 _ rfl (two_cells (by simp) (by simp)) (by simp [Value.oneCell'])) (by unfold maxLen; omega) (by omega) (by have := (hB.trans hE5).size; simp; omega) ?_; intro v6 w6 ho6 hg6))
                have hX6 : Ext w1 w6 := Ext.trans' ((hB.trans hE5).alloc (.cells #[.int .i64 m, .int .i64 k] 55)) hg6 (HBLK.out)
                go_roundw
                case rel => exact ⟨k + 1, by go_num, by omega, by omega, by rw [cutTo_yes hlt hlk (by omega) HY1.out, List.length_append]; simpa [pr] using ho6, hX6⟩
                case measure => simp [intOf] <;> omega
              | false =>
                have HN1 : Hid (isOn a y x false ((m : Int), (k : Int)) = false) := Lib.hid hP.out
                clear hP
                go_wp2_with (first
                  | (go_at_call 40; refine (HIC.out _ hB).mono ?_; rintro e w5 ⟨rfl, hE5⟩; obtain ⟨n0, n1, _⟩ := HBN.out.ext (hB.trans hE5)))
                go_roundw
                case rel => exact ⟨k + 1, by go_num, by omega, by omega, by rw [cutTo_no hlt hlk (by omega) HN1.out]; exact ownsRow_ext HO.out hE5, hB.trans hE5⟩
                case measure => simp [intOf] <;> omega
        · have hk7 : k = 7 := by omega
          subst hk7
          go_wp2_with fail
          go_roundw
          case rel => exact ⟨m + 1, by go_num, by omega, by rw [← cutTo_next _ hlt]; exact HO.out, hB⟩
          case measure => simp [intOf] <;> omega
    · have hm7 : m = 7 := by omega
      subst hm7
      have ho2 : wr.ownsRow w1.heap.size 55 2 u10 (cutL a y x on).length (pr (cutL a y x on)).flatten := by rw [cutTo_end] at ho; exact ho
      have hwid : ∀ r ∈ pr (cutL a y x on), r.length = 2 := fun r hr => by
        simp only [pr, List.mem_map] at hr
        obtain ⟨z, _, rfl⟩ := hr
        rfl
      obtain ⟨ao3, cap3, rfl, hs3, hf3⟩ := SL.of_own ho2 hwid (pr_length _)
      have HS3 := Lib.hid hs3
      have HF3 := Lib.hid hf3
      clear ho ho2 hs3 hf3 hwid
      obtain ⟨n0, n1, nz⟩ := HBN.out.ext hB
      have HBR2 := HBR.out.ext hB
      obtain ⟨r0, r1, rz⟩ := HBR2
      go_wp2_with fail
      have hXF := (((hX1.trans hB).setCell (p := ⟨w.heap.size, 1, none⟩) (by simp) (.slice ao3 (cutL a y x on).length cap3)).setCell (p := ⟨w.heap.size + 1, 0, none⟩) (by simp) (.slice ao q.length cap)).setCell (p := ⟨w.heap.size + 1, 1, none⟩) (by simp) (.slice ao3 (cutL a y x on).length cap3)
      have hSF := ((HS3.out.setCell (p := ⟨w.heap.size, 1, none⟩) (.slice ao3 (cutL a y x on).length cap3) (fun z hz _ => by have := HF3.out z hz; simp; omega)).setCell (p := ⟨w.heap.size + 1, 0, none⟩) (.slice ao q.length cap) (fun z hz _ => by have := HF3.out z hz; simp; omega)).setCell (p := ⟨w.heap.size + 1, 1, none⟩) (.slice ao3 (cutL a y x on).length cap3) (fun z hz _ => by have := HF3.out z hz; simp; omega)
      refine bodyPost_ret (v := .tuple #[.agg #[.slice ao q.length cap, .slice ao3 (cutL a y x on).length cap3], .int .i64 0]) ?_ rfl ⟨[.slice ao q.length cap, .slice ao3 (cutL a y x on).length cap3], rfl, ⟨ao, cap, ao3, cap3, rows, rfl, HQ.out.ext hXF, ⟨hSF, cutL_rg a y x on⟩⟩, hXF⟩
      simp [results, Try.results21, go_sem, r0, r1]

set_option maxRecDepth 100000 in
set_option maxHeartbeats 3200000 in
theorem refCut_480 (n : Nw) (x y : Int) (on : Bool) (cs : List Value) (w : World) (h : RepN w cs n) (hok : okN n = false) : Calls Try.prog 21 #[.agg cs.toArray, .int .i64 x, .int .i64 y, .bool on] w (RetN (⟨[], []⟩, 480) w) := by
  have HH := Lib.hid h
  have HC := Lib.hid fun (W : World) (hE : Ext w W) => refCheck_any n _ W (HH.out.ext hE)
  have HC1 := Lib.hid fun (W : World) => campus_any x W
  have HC2 := Lib.hid fun (W : World) => campus_any y W
  have hck : checkN n = 480 := by unfold checkN; rw [if_neg (by rw [hok]; simp)]
  rw [hck] at HC
  clear hok hck
  obtain ⟨ao, cap, bo, cap', rows, rfl, hq, ha⟩ := h
  clear hq ha
  obtain ⟨q, a⟩ := n
  simp only at HC ⊢
  have hX0 := ((Ext.refl w).alloc (.cells #[.slice ao q.length cap, .slice bo a.length cap'] 25)).alloc (.cells #[.slice none 0 0, .slice none 0 0] 25)
  have hbr := Box2.new' (w.alloc (.cells #[.slice ao q.length cap, .slice bo a.length cap'] 25)) (.slice none 0 0) (.slice none 0 0) 25 (w.heap.size + 1) (by simp)
  go_enter Try.func21, Try.ntmps21
  go_wp2_with (first
      | (go_at_call 14; refine (HC.out _ hX0).mono ?_; rintro e w1 ⟨rfl, hE1⟩; obtain ⟨r0, r1, rz⟩ := hbr.ext hE1)
      | (go_at_call_of 34 (Value.int .i64 x); refine (HC1.out _).mono ?_; rintro e w' ⟨rfl, rfl⟩)
      | (go_at_call_of 34 (Value.int .i64 y); refine (HC2.out _).mono ?_; rintro e w' ⟨rfl, rfl⟩))
  refine bodyPost_ret (v := .tuple #[.agg #[.slice none 0 0, .slice none 0 0], .int .i64 480]) ?_ rfl ⟨_, rfl, RepN.zero _, ((hX0.trans hE1).setCell (by simp) _).setCell (by simp) _⟩
  simp [results, Try.results21, go_sem, r0, r1]

set_option maxRecDepth 100000 in
set_option maxHeartbeats 3200000 in
theorem refCut_bx (n : Nw) (x y : Int) (on : Bool) (cs : List Value) (w : World) (h : RepN w cs n) (hok : okN n = true) (hcx : campus x = false) : Calls Try.prog 21 #[.agg cs.toArray, .int .i64 x, .int .i64 y, .bool on] w (RetN (⟨[], []⟩, 1) w) := by
  have HH := Lib.hid h
  have HC := Lib.hid fun (W : World) (hE : Ext w W) => refCheck_any n _ W (HH.out.ext hE)
  have HC1 := Lib.hid fun (W : World) => campus_any x W
  have HC2 := Lib.hid fun (W : World) => campus_any y W
  have hck : checkN n = 0 := by unfold checkN; rw [if_pos hok]
  rw [hck] at HC
  rw [hcx] at HC1
  clear hok hck hcx
  obtain ⟨ao, cap, bo, cap', rows, rfl, hq, ha⟩ := h
  clear hq ha
  obtain ⟨q, a⟩ := n
  simp only at HC ⊢
  have hX0 := ((Ext.refl w).alloc (.cells #[.slice ao q.length cap, .slice bo a.length cap'] 25)).alloc (.cells #[.slice none 0 0, .slice none 0 0] 25)
  have hbr := Box2.new' (w.alloc (.cells #[.slice ao q.length cap, .slice bo a.length cap'] 25)) (.slice none 0 0) (.slice none 0 0) 25 (w.heap.size + 1) (by simp)
  go_enter Try.func21, Try.ntmps21
  go_wp2_with (first
      | (go_at_call 14; refine (HC.out _ hX0).mono ?_; rintro e w1 ⟨rfl, hE1⟩; obtain ⟨r0, r1, rz⟩ := hbr.ext hE1)
      | (go_at_call_of 34 (Value.int .i64 x); refine (HC1.out _).mono ?_; rintro e w' ⟨rfl, rfl⟩)
      | (go_at_call_of 34 (Value.int .i64 y); refine (HC2.out _).mono ?_; rintro e w' ⟨rfl, rfl⟩))
  refine bodyPost_ret (v := .tuple #[.agg #[.slice none 0 0, .slice none 0 0], .int .i64 1]) ?_ rfl ⟨_, rfl, RepN.zero _, ((hX0.trans hE1).setCell (by simp) _).setCell (by simp) _⟩
  simp [results, Try.results21, go_sem, r0, r1]

set_option maxRecDepth 100000 in
set_option maxHeartbeats 3200000 in
theorem refCut_by (n : Nw) (x y : Int) (on : Bool) (cs : List Value) (w : World) (h : RepN w cs n) (hok : okN n = true) (hcx : campus x = true) (hcy : campus y = false) : Calls Try.prog 21 #[.agg cs.toArray, .int .i64 x, .int .i64 y, .bool on] w (RetN (⟨[], []⟩, 1) w) := by
  have HH := Lib.hid h
  have HC := Lib.hid fun (W : World) (hE : Ext w W) => refCheck_any n _ W (HH.out.ext hE)
  have HC1 := Lib.hid fun (W : World) => campus_any x W
  have HC2 := Lib.hid fun (W : World) => campus_any y W
  have hck : checkN n = 0 := by unfold checkN; rw [if_pos hok]
  rw [hck] at HC
  rw [hcx] at HC1
  rw [hcy] at HC2
  clear hok hck hcx hcy
  obtain ⟨ao, cap, bo, cap', rows, rfl, hq, ha⟩ := h
  clear hq ha
  obtain ⟨q, a⟩ := n
  simp only at HC ⊢
  have hX0 := ((Ext.refl w).alloc (.cells #[.slice ao q.length cap, .slice bo a.length cap'] 25)).alloc (.cells #[.slice none 0 0, .slice none 0 0] 25)
  have hbr := Box2.new' (w.alloc (.cells #[.slice ao q.length cap, .slice bo a.length cap'] 25)) (.slice none 0 0) (.slice none 0 0) 25 (w.heap.size + 1) (by simp)
  go_enter Try.func21, Try.ntmps21
  go_wp2_with (first
      | (go_at_call 14; refine (HC.out _ hX0).mono ?_; rintro e w1 ⟨rfl, hE1⟩; obtain ⟨r0, r1, rz⟩ := hbr.ext hE1)
      | (go_at_call_of 34 (Value.int .i64 x); refine (HC1.out _).mono ?_; rintro e w' ⟨rfl, rfl⟩)
      | (go_at_call_of 34 (Value.int .i64 y); refine (HC2.out _).mono ?_; rintro e w' ⟨rfl, rfl⟩))
  refine bodyPost_ret (v := .tuple #[.agg #[.slice none 0 0, .slice none 0 0], .int .i64 1]) ?_ rfl ⟨_, rfl, RepN.zero _, ((hX0.trans hE1).setCell (by simp) _).setCell (by simp) _⟩
  simp [results, Try.results21, go_sem, r0, r1]

set_option maxRecDepth 100000 in
set_option maxHeartbeats 3200000 in
theorem refCut_eq (n : Nw) (x y : Int) (on : Bool) (cs : List Value) (w : World) (h : RepN w cs n) (hok : okN n = true) (hcx : campus x = true) (hcy : campus y = true) (hxy : (x == y) = true) : Calls Try.prog 21 #[.agg cs.toArray, .int .i64 x, .int .i64 y, .bool on] w (RetN (⟨[], []⟩, 1) w) := by
  have HH := Lib.hid h
  have HC := Lib.hid fun (W : World) (hE : Ext w W) => refCheck_any n _ W (HH.out.ext hE)
  have HC1 := Lib.hid fun (W : World) => campus_any x W
  have HC2 := Lib.hid fun (W : World) => campus_any y W
  have hck : checkN n = 0 := by unfold checkN; rw [if_pos hok]
  rw [hck] at HC
  rw [hcx] at HC1
  rw [hcy] at HC2
  clear hok hck hcx hcy
  obtain ⟨ao, cap, bo, cap', rows, rfl, hq, ha⟩ := h
  clear hq ha
  obtain ⟨q, a⟩ := n
  simp only at HC ⊢
  have hX0 := ((Ext.refl w).alloc (.cells #[.slice ao q.length cap, .slice bo a.length cap'] 25)).alloc (.cells #[.slice none 0 0, .slice none 0 0] 25)
  have hbr := Box2.new' (w.alloc (.cells #[.slice ao q.length cap, .slice bo a.length cap'] 25)) (.slice none 0 0) (.slice none 0 0) 25 (w.heap.size + 1) (by simp)
  go_enter Try.func21, Try.ntmps21
  go_wp2_with (first
      | (go_at_call 14; refine (HC.out _ hX0).mono ?_; rintro e w1 ⟨rfl, hE1⟩; obtain ⟨r0, r1, rz⟩ := hbr.ext hE1)
      | (go_at_call_of 34 (Value.int .i64 x); refine (HC1.out _).mono ?_; rintro e w' ⟨rfl, rfl⟩)
      | (go_at_call_of 34 (Value.int .i64 y); refine (HC2.out _).mono ?_; rintro e w' ⟨rfl, rfl⟩))
  refine bodyPost_ret (v := .tuple #[.agg #[.slice none 0 0, .slice none 0 0], .int .i64 1]) ?_ rfl ⟨_, rfl, RepN.zero _, ((hX0.trans hE1).setCell (by simp) _).setCell (by simp) _⟩
  simp [results, Try.results21, go_sem, r0, r1]

theorem okL_min (x y : Int) : okL (min x y) (max x y) = (campus x && campus y && (x != y)) := by
  unfold okL campus
  rw [Bool.eq_iff_iff]
  simp only [Bool.and_eq_true, decide_eq_true_eq, bne_iff_ne, ne_eq]
  omega

theorem refCut_any (n : Nw) (x y : Int) (on : Bool) (cs : List Value) (w : World) (h : RepN w cs n) : Calls Try.prog 21 #[.agg cs.toArray, .int .i64 x, .int .i64 y, .bool on] w (RetN (cutN n x y on) w) := by
  unfold cutN
  rw [okL_min]
  cases hok : okN n with
  | false => exact refCut_480 n x y on cs w h hok
  | true =>
    cases hcx : campus x with
    | false => exact refCut_bx n x y on cs w h hok hcx
    | true =>
      cases hcy : campus y with
      | false => exact refCut_by n x y on cs w h hok hcx hcy
      | true =>
        cases hxy : (x == y) with
        | true =>
          have : (x != y) = false := by simpa using hxy
          rw [this]
          exact refCut_eq n x y on cs w h hok hcx hcy hxy
        | false =>
          have hne : (x != y) = true := by simpa using hxy
          rw [hne]
          simp only [Bool.and_self, if_true]
          have hne' : x ≠ y := by simpa using hxy
          rcases (show x < y ∨ y < x by omega) with hlt | hlt
          · rw [show min x y = x by omega, show max x y = y by omega]
            exact refCut_lt n x y on cs w h hok hcx hcy hlt
          · rw [show min x y = y by omega, show max x y = x by omega]
            exact refCut_gt n x y on cs w h hok hcx hcy hlt
end Go.Proofs.Ytdlahgmbilkdcaa
