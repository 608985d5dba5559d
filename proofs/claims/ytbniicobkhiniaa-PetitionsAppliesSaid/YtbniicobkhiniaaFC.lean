/- Petitions: facts.Points. -/
import Derived.Test.YtbniicobkhiniaaFB
import Derived.Deep.WholeRow
import Derived.Test.YtbniicobkhiniaaJ
namespace Go.Sz
open Go.RowKit
/-- the points up to a term -/
def ptsM (l : List Ft) (k : Ky) (a m kn : Int) : List (Int × Int) := ((rngF (max 0 a) m).filter fun t => decide (0 ≤ valF l k t kn)).map fun t => (t, valF l k t kn)
theorem ptsM_done (l : List Ft) (k : Ky) (a b kn : Int) : ptsM l k a (min b 1024) kn = ptsF l k a b kn := rfl
theorem ptsM_next (l : List Ft) (k : Ky) {a m : Int} (kn : Int) (h : max 0 a ≤ m) : ptsM l k a (m + 1) kn = ptsM l k a m kn ++ (if 0 ≤ valF l k m kn then [(m, valF l k m kn)] else []) := by
  unfold ptsM
  rw [rngF_snoc h, List.filter_append, List.map_append]
  congr 1
  by_cases hv : 0 ≤ valF l k m kn
  · rw [if_pos hv]; simp [hv]
  · rw [if_neg hv]; simp [hv]
theorem ptsM_nil (l : List Ft) (k : Ky) {a m : Int} (kn : Int) (h : m ≤ max 0 a) : ptsM l k a m kn = [] := by
  unfold ptsM
  rw [rngF_nil h]
  rfl
theorem ptsM_len (l : List Ft) (k : Ky) {a m : Int} (kn : Int) (h : m ≤ 1024) : (ptsM l k a m kn).length ≤ 1024 := by
  unfold ptsM
  rw [List.length_map]
  refine Nat.le_trans (List.length_filter_le _ _) ?_
  unfold rngF
  rw [List.length_map, List.length_range]
  omega
theorem ptsM_end (l : List Ft) (k : Ky) {a b m : Int} (kn : Int) (h1 : max 0 a ≤ m) (h2 : m ≤ max 0 a ∨ m ≤ min b 1024) (h3 : ¬ m < min b 1024) : ptsM l k a m kn = ptsF l k a b kn := by
  rcases h2 with h2 | h2
  · rw [ptsM_nil l k kn h2, ← ptsM_done, ptsM_nil l k kn (by omega)]
  · rw [← ptsM_done, show m = min b 1024 by omega]
theorem prows_append (l l' : List (Int × Int)) : prows (l ++ l') = prows l ++ prows l' := List.map_append
theorem prows_wid (l : List (Int × Int)) : ∀ r ∈ prows l, r.length = 2 := by
  intro r hr
  simp only [prows, List.mem_map] at hr
  obtain ⟨x, _, rfl⟩ := hr
  rfl
theorem RepPt.of_own {w : World} {D e n : Nat} {v : Value} {l : List (Int × Int)} (h : w.ownsRow D e 2 v n (prows l).flatten) (hn : l.length = n) : ∃ ao cap, v = .slice ao l.length cap ∧ RepPt w ao cap l := by
  obtain ⟨ao, cap, h1, h2, _⟩ := SL.of_own h (prows_wid l) (by rw [prows_length]; exact hn)
  exact ⟨ao, cap, by rw [h1, hn], h2⟩
theorem two_one (x y : Int) : ∀ u ∈ [Value.int .i64 x, .int .i64 y], u.oneCell' = true := fun u hu => by
  simp only [List.mem_cons, List.not_mem_nil, or_false] at hu
  rcases hu with rfl | rfl <;> rfl
theorem alloc_row {w : World} {z c : Array Value} {t : TypeId} : (w.alloc (.cells z t)).setRow w.heap.size c = w.alloc (.cells c t) := World.setRow_alloc_new w z c t
/-- a list of points -/
def RetPt (l : List (Int × Int)) (w : World) (e : Ending) (w' : World) : Prop := ∃ ao cap, e = .returned (.slice ao l.length cap) ∧ RepPt w' ao cap l ∧ Ext w w'
end Go.Sz
namespace Go.Proofs.Ytbniicobkhiniaa
open Go.RowKit Go.Sz
attribute [local go_sem] zr91
theorem infoPt : (Try.prog.info? 83).map (fun i => (i.zero, i.size, i.bytes)) = some (some (.agg #[.int .i64 0, .int .i64 0]), 2, 16) := by kernel_rfl
theorem vrow_info (l : List Ft) (k : Ky) (kn : Int) : (Try.prog.info? 91).map (·.size) = some (vrow l k kn).toArray.size := by
  rw [List.size_toArray, vrow_length]
  kernel_rfl
theorem vrow_size (l : List Ft) (k : Ky) (kn : Int) : z91.size = (vrow l k kn).toArray.size := by
  rw [show (vrow l k kn).toArray.size = 1024 by rw [List.size_toArray, vrow_length]]
  simp [z91]
set_option maxRecDepth 100000 in
set_option maxHeartbeats 6400000 in
theorem points_any (l : List Ft) (k : Ky) (a b kn : Int) (ao : Option Addr) (cap : Nat) (w : World) (h : RepF w ao cap l) : Calls Try.prog 39 #[.slice ao l.length cap, .agg #[.int .i64 k.k, .int .i64 k.s, .int .i64 k.o], .int .i64 a, .int .i64 b, .int .i64 kn] w (RetPt (ptsF l k a b kn) w) := by
  obtain ⟨i0, hi, hz0, hz1, hz2⟩ := info_parts infoPt
  have HI := Lib.hid (And.intro hi (And.intro hz0 (And.intro hz1 hz2)))
  have hA0 : Ext w (w.alloc (.cells #[.int .i64 k.k, .int .i64 k.s, .int .i64 k.o] 26)) := (Ext.refl w).alloc _
  have HVC := Lib.hid (values_any l k kn ao cap _ (h.ext hA0))
  have HA0 := Lib.hid hA0
  clear h hA0 hi hz0 hz1 hz2
  obtain ⟨m0, hm0, ha⟩ : ∃ m0 : Nat, max 0 a = (m0 : Int) ∧ ((a > 0 ∧ a = (m0 : Int)) ∨ (¬ a > 0 ∧ m0 = 0)) := ⟨(max 0 a).toNat, by omega, by omega⟩
  have HM0 := Lib.hid hm0
  clear hm0
  rcases ha with ⟨ha, rfl⟩ | ⟨ha, rfl⟩
  · go_enter Try.func39, Try.ntmps39
    go_wp2_with (first
      | (go_at_call 48; refine HVC.out.mono ?_; rintro e w1 ⟨rfl, hE1⟩; have HE1 := Lib.hid hE1; clear hE1)
      | (refine wpList_store_row rfl 91 _ _ rfl w1.heap.size (vrow l k kn).toArray rfl rfl 91 z91 (heap_alloc_new _ _) (vrow_info l k kn) (vrow_size l k kn) (vrow_one l k kn) ?_; rw [alloc_row]; have HX := Lib.hid ((HA0.out.trans HE1.out).alloc (.cells (vrow l k kn).toArray 91)); have HCB := Lib.hid (cb_new w1 (vrow l k kn) 91); have HLB := Lib.hid (show w1.heap.size < (w1.alloc (.cells (vrow l k kn).toArray 91)).heap.size by simp); have HB := Lib.hid (show w.heap.size ≤ w1.heap.size from Nat.le_trans HA0.out.size HE1.out.size); clear HVC HA0 HE1; generalize (w1.alloc (.cells (vrow l k kn).toArray 91)) = w2 at *; generalize w1.heap.size = B at *))
    go_loopw [10, 12] (fun u iv wr => ∃ m : Nat, iv = .int .i64 m ∧ max 0 (m0 : Int) ≤ (m : Int) ∧ ((m : Int) ≤ max 0 (m0 : Int) ∨ (m : Int) ≤ min b 1024) ∧ wr.ownsRow w2.heap.size 83 2 u (ptsM l k (m0 : Int) m kn).length (prows (ptsM l k (m0 : Int) m kn)).flatten ∧ Ext w2 wr) (fun _ iv _ => 1024 - (intOf iv).toNat)
    case atStart => exact ⟨m0, rfl, by omega, .inl (by omega), by rw [ptsM_nil l k kn (by omega)]; exact World.ownsRow_nil _ _ _ _, Ext.refl _⟩
    case round =>
      obtain ⟨m, rfl, hm1, hm2, ho, hE⟩ := hrel
      have HM1 := Lib.hid hm1
      have HM2 := Lib.hid hm2
      have HOW := Lib.hid ho
      have HE := Lib.hid hE
      clear hm1 hm2 ho hE
      have hl3 : (0 : Int) ≤ m := by omega
      by_cases hlt : (m : Int) < min b 1024
      · have hl1 : (m : Int) < 1024 := by omega
        have hl2 : (m : Int) < b := by omega
        have HLT := Lib.hid hlt
        clear hlt
        have c0 := (HCB.out.ext HLB.out HE.out).at_ m _ (vrow_at l k kn (by omega))
        have HNX := Lib.hid (ptsM_next l k kn HM1.out)
        have HLN := Lib.hid (ptsM_len l k (a := (m0 : Int)) kn (show (m : Int) ≤ 1024 by omega))
        obtain ⟨y, hy⟩ : ∃ y, valF l k m kn = y := ⟨_, rfl⟩
        rw [hy] at c0 HNX
        clear hy
        by_cases hv : y ≥ 0
        · rw [if_pos hv] at HNX
          by_cases hb : 1024 < b
          all_goals
            have HOA := Lib.hid (ownsRow_ext HOW.out ((Ext.refl wr).alloc (.cells #[.int .i64 m, .int .i64 y] 83)))
            have HSZ : Hid (w2.heap.size ≤ (wr.alloc (.cells #[.int .i64 m, .int .i64 y] 83)).heap.size) := Lib.hid (HE.out.alloc _).size
            obtain ⟨hi, hz0, hz1, hz2⟩ := HI.out
            go_wp2_with (at_builtin; refine wpList_append_S rfl _ _ 81 81 rfl w2.heap.size 83 i0 _ 2 16 Try.underlying81 hi hz0 hz1 hz2 rfl _ _ _ rfl HOA.out (.slice (some ⟨wr.heap.size, 0, none⟩) 1 1) 1 [.int .i64 m, .int .i64 y] rfl (Src.ofSlice _ Try.underlying81 ⟨wr.heap.size, 0, none⟩ 1 1 _ rfl (two_cells (by simp) (by simp)) (two_one _ _)) (by have := HLN.out; unfold maxLen; omega) (by have := HLN.out; omega) HSZ.out ?_; intro v6 w6 ho6 hg6; have HO6 := Lib.hid ho6; have HG6 := Lib.hid hg6; clear ho6 hg6)
            go_roundw
            case rel => exact ⟨m + 1, by go_num, by have := HM1.out; omega, .inr (by have := HLT.out; omega), by rw [show ((m + 1 : Nat) : Int) = (m : Int) + 1 by omega, HNX.out]; simp only [prows_append, List.flatten_append, List.length_append]; exact HO6.out, Ext.trans' (HE.out.alloc (.cells #[.int .i64 m, .int .i64 y] 83)) HG6.out (ownsRow_blocks HOA.out)⟩
            case measure => simp [intOf] <;> omega
        · rw [if_neg hv, List.append_nil] at HNX
          by_cases hb : 1024 < b
          all_goals
            go_wp2_with fail
            go_roundw
            case rel => exact ⟨m + 1, by go_num, by have := HM1.out; omega, .inr (by have := HLT.out; omega), by rw [show ((m + 1 : Nat) : Int) = (m : Int) + 1 by omega, HNX.out]; exact HOW.out, HE.out⟩
            case measure => simp [intOf] <;> omega
      · have HEND := Lib.hid (ptsM_end l k kn HM1.out HM2.out hlt)
        obtain ⟨ao6, cap6, rfl, hR6⟩ := RepPt.of_own HOW.out rfl
        have HR6 := Lib.hid hR6
        clear hR6
        by_cases hb : 1024 < b
        · have hl2 : ¬ (m : Int) < 1024 := by omega
          clear hlt
          go_wp2_with fail
          go_ret
          rw [HEND.out] at *
          exact ⟨ao6, cap6, rfl, HR6.out, HX.out.trans HE.out⟩
        · have hl2 : ¬ (m : Int) < b := by omega
          clear hlt
          go_wp2_with fail
          go_ret
          rw [HEND.out] at *
          exact ⟨ao6, cap6, rfl, HR6.out, HX.out.trans HE.out⟩
  · go_enter Try.func39, Try.ntmps39
    go_wp2_with (first
      | (go_at_call 48; refine HVC.out.mono ?_; rintro e w1 ⟨rfl, hE1⟩; have HE1 := Lib.hid hE1; clear hE1)
      | (refine wpList_store_row rfl 91 _ _ rfl w1.heap.size (vrow l k kn).toArray rfl rfl 91 z91 (heap_alloc_new _ _) (vrow_info l k kn) (vrow_size l k kn) (vrow_one l k kn) ?_; rw [alloc_row]; have HX := Lib.hid ((HA0.out.trans HE1.out).alloc (.cells (vrow l k kn).toArray 91)); have HCB := Lib.hid (cb_new w1 (vrow l k kn) 91); have HLB := Lib.hid (show w1.heap.size < (w1.alloc (.cells (vrow l k kn).toArray 91)).heap.size by simp); have HB := Lib.hid (show w.heap.size ≤ w1.heap.size from Nat.le_trans HA0.out.size HE1.out.size); clear HVC HA0 HE1; generalize (w1.alloc (.cells (vrow l k kn).toArray 91)) = w2 at *; generalize w1.heap.size = B at *))
    go_loopw [10, 12] (fun u iv wr => ∃ m : Nat, iv = .int .i64 m ∧ max 0 a ≤ (m : Int) ∧ ((m : Int) ≤ max 0 a ∨ (m : Int) ≤ min b 1024) ∧ wr.ownsRow w2.heap.size 83 2 u (ptsM l k a m kn).length (prows (ptsM l k a m kn)).flatten ∧ Ext w2 wr) (fun _ iv _ => 1024 - (intOf iv).toNat)
    case atStart => exact ⟨0, rfl, by omega, .inl (by omega), by rw [ptsM_nil l k kn (by omega)]; exact World.ownsRow_nil _ _ _ _, Ext.refl _⟩
    case round =>
      obtain ⟨m, rfl, hm1, hm2, ho, hE⟩ := hrel
      have HM1 := Lib.hid hm1
      have HM2 := Lib.hid hm2
      have HOW := Lib.hid ho
      have HE := Lib.hid hE
      clear hm1 hm2 ho hE
      have hl3 : (0 : Int) ≤ m := by omega
      by_cases hlt : (m : Int) < min b 1024
      · have hl1 : (m : Int) < 1024 := by omega
        have hl2 : (m : Int) < b := by omega
        have HLT := Lib.hid hlt
        clear hlt
        have c0 := (HCB.out.ext HLB.out HE.out).at_ m _ (vrow_at l k kn (by omega))
        have HNX := Lib.hid (ptsM_next l k kn HM1.out)
        have HLN := Lib.hid (ptsM_len l k (a := a) kn (show (m : Int) ≤ 1024 by omega))
        obtain ⟨y, hy⟩ : ∃ y, valF l k m kn = y := ⟨_, rfl⟩
        rw [hy] at c0 HNX
        clear hy
        by_cases hv : y ≥ 0
        · rw [if_pos hv] at HNX
          by_cases hb : 1024 < b
          all_goals
            have HOA := Lib.hid (ownsRow_ext HOW.out ((Ext.refl wr).alloc (.cells #[.int .i64 m, .int .i64 y] 83)))
            have HSZ : Hid (w2.heap.size ≤ (wr.alloc (.cells #[.int .i64 m, .int .i64 y] 83)).heap.size) := Lib.hid (HE.out.alloc _).size
            obtain ⟨hi, hz0, hz1, hz2⟩ := HI.out
            go_wp2_with (at_builtin; refine wpList_append_S rfl _ _ 81 81 rfl w2.heap.size 83 i0 _ 2 16 Try.underlying81 hi hz0 hz1 hz2 rfl _ _ _ rfl HOA.out (.slice (some ⟨wr.heap.size, 0, none⟩) 1 1) 1 [.int .i64 m, .int .i64 y] rfl (Src.ofSlice _ Try.underlying81 ⟨wr.heap.size, 0, none⟩ 1 1 _ rfl (two_cells (by simp) (by simp)) (two_one _ _)) (by have := HLN.out; unfold maxLen; omega) (by have := HLN.out; omega) HSZ.out ?_; intro v6 w6 ho6 hg6; have HO6 := Lib.hid ho6; have HG6 := Lib.hid hg6; clear ho6 hg6)
            go_roundw
            case rel => exact ⟨m + 1, by go_num, by have := HM1.out; omega, .inr (by have := HLT.out; omega), by rw [show ((m + 1 : Nat) : Int) = (m : Int) + 1 by omega, HNX.out]; simp only [prows_append, List.flatten_append, List.length_append]; exact HO6.out, Ext.trans' (HE.out.alloc (.cells #[.int .i64 m, .int .i64 y] 83)) HG6.out (ownsRow_blocks HOA.out)⟩
            case measure => simp [intOf] <;> omega
        · rw [if_neg hv, List.append_nil] at HNX
          by_cases hb : 1024 < b
          all_goals
            go_wp2_with fail
            go_roundw
            case rel => exact ⟨m + 1, by go_num, by have := HM1.out; omega, .inr (by have := HLT.out; omega), by rw [show ((m + 1 : Nat) : Int) = (m : Int) + 1 by omega, HNX.out]; exact HOW.out, HE.out⟩
            case measure => simp [intOf] <;> omega
      · have HEND := Lib.hid (ptsM_end l k kn HM1.out HM2.out hlt)
        obtain ⟨ao6, cap6, rfl, hR6⟩ := RepPt.of_own HOW.out rfl
        have HR6 := Lib.hid hR6
        clear hR6
        by_cases hb : 1024 < b
        · have hl2 : ¬ (m : Int) < 1024 := by omega
          clear hlt
          go_wp2_with fail
          go_ret
          rw [HEND.out] at *
          exact ⟨ao6, cap6, rfl, HR6.out, HX.out.trans HE.out⟩
        · have hl2 : ¬ (m : Int) < b := by omega
          clear hlt
          go_wp2_with fail
          go_ret
          rw [HEND.out] at *
          exact ⟨ao6, cap6, rfl, HR6.out, HX.out.trans HE.out⟩
end Go.Proofs.Ytbniicobkhiniaa
