/- Waiting: Place, of the program and of the reference. -/
import Derived.Test.YtbhpeecebcihkaaWE
namespace Go.Sz
open Go.RowKit
/-- a place, and whether there is one -/
def RetP (r : Int × Bool) (w : World) (e : Ending) (w' : World) : Prop := e = .returned (.tuple #[.int .i64 r.1, .bool r.2]) ∧ Ext w w'
theorem aheadW_no {a b : Int} {y x : Wt} (h : (x.a == a && x.b == b) = false) : aheadW a b y x = false := by unfold aheadW; rw [h]; rfl
theorem aheadW_yes {a b : Int} {y x : Wt} (h : (x.a == a && x.b == b) = true) : aheadW a b y x = decide (cmpW x y < 0) := by unfold aheadW; rw [h]; rfl
end Go.Sz
namespace Go.Proofs.Ytbhpeecebcihkaa
open Go.RowKit Go.Sz
set_option maxRecDepth 100000 in
set_option maxHeartbeats 6400000 in
theorem place_any (l : List Wt) (s a b : Int) (ao : Option Addr) (cap : Nat) (w : World) (h : RepW w ao cap l) (hb : l.length ≤ 100000) : Calls Try.prog 21 #[.slice ao l.length cap, .int .i64 s, .agg #[.int .i64 a, .int .i64 b]] w (RetP (placeW l s a b) w) := by
  have hX0 : Ext w (w.alloc (.cells #[.int .i64 a, .int .i64 b] 24)) := (Ext.refl w).alloc _
  have HL := Lib.hid (h.ext hX0)
  have hs1 := h.max
  have hs5 : (l.length : Int) ≤ 100000 := by omega
  have d0 : (w.alloc (.cells #[.int .i64 a, .int .i64 b] 24)).cell? ⟨w.heap.size, 0, none⟩ = some (.int .i64 a) := by simp
  have d1 : (w.alloc (.cells #[.int .i64 a, .int .i64 b] 24)).cell? ⟨w.heap.size, 1, none⟩ = some (.int .i64 b) := by simp
  have HD := Lib.hid (And.intro d0 d1)
  have HX0 := Lib.hid hX0
  clear h hX0 hb
  rcases findW_or' l (isW s a b) with hn | ⟨i, hi, hn, hfi⟩
  · have HR : Hid (placeW l s a b = (0, false)) := Lib.hid (placeW_none hn)
    have HF : Hid (findW l (isW s a b) = -1) := Lib.hid (by unfold findW; rw [hn])
    clear hn
    go_enter Try.func21, Try.ntmps21
    go_wp2_with (go_at_call 29; refine (find_any l s a b _ _ _ HL.out).mono ?_; rintro e w1 ⟨rfl, hE1⟩; rw [HF.out]; have HE1 := Lib.hid hE1; clear hE1)
    go_ret2
    exact ⟨by rw [HR.out]; rfl, HX0.out.trans HE1.out⟩
  · have HF : Hid (findW l (isW s a b) = (i : Int)) := Lib.hid hfi
    have hii : (i : Int) < (l.length : Int) := by omega
    have hi0 : (0 : Int) ≤ (i : Int) := by omega
    obtain ⟨bb, o, rfl, _⟩ := w_cells HL.out (Ext.refl _) hi
    obtain ⟨y, hy⟩ : ∃ y, l[i] = y := ⟨_, rfl⟩
    have HR : Hid (placeW l s a b = (1 + ((l.countP (aheadW a b y) : Nat) : Int), true)) := Lib.hid (by rw [placeW_some hi hn, hy])
    have HYC : Hid (∀ W, Ext (w.alloc (.cells #[.int .i64 a, .int .i64 b] 24)) W → W.cell? ⟨bb, o + i * 5, none⟩ = some (.int .i64 y.s) ∧ W.cell? ⟨bb, o + i * 5 + 1, none⟩ = some (.int .i64 y.a) ∧ W.cell? ⟨bb, o + i * 5 + 2, none⟩ = some (.int .i64 y.b) ∧ W.cell? ⟨bb, o + i * 5 + 3, none⟩ = some (.int .i64 y.k) ∧ W.cell? ⟨bb, o + i * 5 + 4, none⟩ = some (.int .i64 y.t)) := Lib.hid fun W hE => by
      obtain ⟨b', o', e, h1⟩ := w_cells HL.out hE hi
      cases e
      rw [hy] at h1
      exact h1
    clear hn hfi hy
    go_enter Try.func21, Try.ntmps21
    go_wp2_with (go_at_call 29; refine (find_any l s a b _ _ _ HL.out).mono ?_; rintro e w1 ⟨rfl, hE1⟩; rw [HF.out]; have HE1 := Lib.hid hE1; clear hE1)
    clear d0 d1
    generalize w.alloc (.cells #[.int .i64 a, .int .i64 b] 24) = wz at *
    go_loopw [6, 19] (fun pv iv wr => ∃ k : Nat, iv = .int .i64 k ∧ k ≤ l.length ∧ pv = .int .i64 (1 + (((l.take k).countP (aheadW a b y) : Nat) : Int)) ∧ Ext wz wr) (fun _ iv _ => l.length - (intOf iv).toNat)
    case atStart => exact ⟨0, rfl, by omega, by simp, HE1.out⟩
    case round =>
      obtain ⟨k, rfl, hk, rfl, hE⟩ := hrel
      have HE := Lib.hid hE
      clear hE HE1
      have hcb := countPW_le l k (aheadW a b y)
      have hci : (((l.take k).countP (aheadW a b y) : Nat) : Int) ≤ (k : Int) := by omega
      by_cases hlt : k < l.length
      · have hki : (k : Int) < (l.length : Int) := by omega
        obtain ⟨bb', o', he, c0, c1, c2, c3, c4⟩ := w_cells HL.out HE.out hlt
        cases he
        have HTK := Lib.hid (countPW_take hlt (aheadW a b y))
        generalize l[k] = x at *
        generalize (l.take k).countP (aheadW a b y) = n at *
        have hX : Ext wr (wr.alloc (.cells #[.int .i64 x.s, .int .i64 x.a, .int .i64 x.b, .int .i64 x.k, .int .i64 x.t] 26)) := (Ext.refl wr).alloc _
        have x0 : (wr.alloc (.cells #[.int .i64 x.s, .int .i64 x.a, .int .i64 x.b, .int .i64 x.k, .int .i64 x.t] 26)).cell? ⟨wr.heap.size, 0, none⟩ = some (.int .i64 x.s) := by simp
        have x1 : (wr.alloc (.cells #[.int .i64 x.s, .int .i64 x.a, .int .i64 x.b, .int .i64 x.k, .int .i64 x.t] 26)).cell? ⟨wr.heap.size, 1, none⟩ = some (.int .i64 x.a) := by simp
        have x2 : (wr.alloc (.cells #[.int .i64 x.s, .int .i64 x.a, .int .i64 x.b, .int .i64 x.k, .int .i64 x.t] 26)).cell? ⟨wr.heap.size, 2, none⟩ = some (.int .i64 x.b) := by simp
        have x3 : (wr.alloc (.cells #[.int .i64 x.s, .int .i64 x.a, .int .i64 x.b, .int .i64 x.k, .int .i64 x.t] 26)).cell? ⟨wr.heap.size, 3, none⟩ = some (.int .i64 x.k) := by simp
        have x4 : (wr.alloc (.cells #[.int .i64 x.s, .int .i64 x.a, .int .i64 x.b, .int .i64 x.k, .int .i64 x.t] 26)).cell? ⟨wr.heap.size, 4, none⟩ = some (.int .i64 x.t) := by simp
        have HX := Lib.hid (HE.out.trans hX)
        go_wp2_with fail
        clear c0 c1 c2 c3 c4
        generalize (wr.alloc (.cells #[.int .i64 x.s, .int .i64 x.a, .int .i64 x.b, .int .i64 x.k, .int .i64 x.t] 26)) = wx at *
        clear hX
        obtain ⟨y0, y1, y2, y3, y4⟩ := HYC.out _ HX.out
        have d0 := HX.out.cell HD.out.1
        have d1 := HX.out.cell HD.out.2
        have gd0 := grow_cell d0
        have gd1 := grow_cell d1
        have gx0 := grow_cell x0
        have gy0 := grow_cell y0
        have gx1 := grow_cell x1
        have gy1 := grow_cell y1
        have gx2 := grow_cell x2
        have gy2 := grow_cell y2
        have gx3 := grow_cell x3
        have gy3 := grow_cell y3
        have gx4 := grow_cell x4
        have gy4 := grow_cell y4
        have he := eqB x.a x.b a b
        cases h1 : (x.a == a && x.b == b) with
        | false =>
          rw [h1] at he
          have HN : Hid (aheadW a b y x = false) := Lib.hid (aheadW_no h1)
          clear h1
          refine wp_region_rel_all (fun i => none) (by kernel_rfl) (by kernel_rfl) ?_
          repeat (first
            | (refine wpRel_quick ?_ ?_ ?_ ?_
               · rfl
               · rfl
               · first | exact noEnter rfl | (intro f args W W'; go_simp)
               intro K hK
               go_big_quiet_op
               go_big_quiet_on)
            | (refine wpRel_skip ?_ ?_
               · rfl
               simp only [Act.put, List.setIfInBounds_toArray, List.set_cons_zero, List.set_cons_succ]))
          refine wpRel_nil ?_
          intro W3 hW3
          have HE3 := Lib.hid (HX.out.trans ((Ext.refl _).drew.trans hW3.1))
          clear hW3 he x0 gx0 y0 gy0 x1 gx1 y1 gy1 x2 gx2 y2 gy2 x3 gx3 y3 gy3 x4 gx4 y4 gy4 d0 d1 gd0 gd1
          go_wp2_with fail
          go_roundw
          case rel => exact ⟨k + 1, by go_num, by omega, by rw [HTK.out, HN.out]; rfl, HE3.out⟩
          case measure => simp [intOf] <;> omega
        | true =>
          rw [h1] at he
          have HA := Lib.hid (aheadW_yes (y := y) h1)
          clear h1
          by_cases hc : cmpW x y < 0
          · have HN : Hid (aheadW a b y x = true) := Lib.hid (by rw [HA.out, decide_eq_true hc])
            refine wp_region_rel_all (fun i => if i = 10 then some (spV (.int .i64 (cmpW x y))) else none) (by kernel_rfl) (by kernel_rfl) ?_
            repeat (first
              | (refine wpRel_quick ?_ ?_ ?_ ?_
                 · rfl
                 · rfl
                 · first | exact noEnter rfl | (intro f args W W'; go_simp)
                 intro K hK
                 go_big_quiet_op
                 go_big_quiet_on)
              | (refine wpRel_skip ?_ ?_
                 · rfl
                 simp only [Act.put, List.setIfInBounds_toArray, List.set_cons_zero, List.set_cons_succ]))
            refine wpRel_rich _ rfl rfl (fun W hW => ?_) (fun v W3 hW3 hv => ?_)
            · have hc := compareW_any x y W
              go_simp
              refine Calls.mono hc ?_
              rintro e w' ⟨rfl, h⟩
              exact ⟨_, rfl, rfl, by first | exact h | (subst h; exact Ext.refl _)⟩
            obtain rfl := hv
            clear hW3
            simp only [Act.put, List.setIfInBounds_toArray, List.set_cons_zero, List.set_cons_succ]
            repeat (first
              | (refine wpRel_quick ?_ ?_ ?_ ?_
                 · rfl
                 · rfl
                 · first | exact noEnter rfl | (intro f args W W'; go_simp)
                 intro K hK
                 go_big_quiet_op
                 go_big_quiet_on)
              | (refine wpRel_skip ?_ ?_
                 · rfl
                 simp only [Act.put, List.setIfInBounds_toArray, List.set_cons_zero, List.set_cons_succ]))
            refine wpRel_nil ?_
            intro W3 hW3
            have HE3 := Lib.hid (HX.out.trans ((Ext.refl _).drew.trans hW3.1))
            clear hW3 he x0 gx0 y0 gy0 x1 gx1 y1 gy1 x2 gx2 y2 gy2 x3 gx3 y3 gy3 x4 gx4 y4 gy4 d0 d1 gd0 gd1
            go_wp2_with fail
            go_roundw
            case rel => exact ⟨k + 1, by go_num, by omega, by rw [HTK.out, HN.out]; go_num, HE3.out⟩
            case measure => simp [intOf] <;> omega
          · have HN : Hid (aheadW a b y x = false) := Lib.hid (by rw [HA.out, decide_eq_false hc])
            refine wp_region_rel_all (fun i => if i = 10 then some (spV (.int .i64 (cmpW x y))) else none) (by kernel_rfl) (by kernel_rfl) ?_
            repeat (first
              | (refine wpRel_quick ?_ ?_ ?_ ?_
                 · rfl
                 · rfl
                 · first | exact noEnter rfl | (intro f args W W'; go_simp)
                 intro K hK
                 go_big_quiet_op
                 go_big_quiet_on)
              | (refine wpRel_skip ?_ ?_
                 · rfl
                 simp only [Act.put, List.setIfInBounds_toArray, List.set_cons_zero, List.set_cons_succ]))
            refine wpRel_rich _ rfl rfl (fun W hW => ?_) (fun v W3 hW3 hv => ?_)
            · have hc := compareW_any x y W
              go_simp
              refine Calls.mono hc ?_
              rintro e w' ⟨rfl, h⟩
              exact ⟨_, rfl, rfl, by first | exact h | (subst h; exact Ext.refl _)⟩
            obtain rfl := hv
            clear hW3
            simp only [Act.put, List.setIfInBounds_toArray, List.set_cons_zero, List.set_cons_succ]
            repeat (first
              | (refine wpRel_quick ?_ ?_ ?_ ?_
                 · rfl
                 · rfl
                 · first | exact noEnter rfl | (intro f args W W'; go_simp)
                 intro K hK
                 go_big_quiet_op
                 go_big_quiet_on)
              | (refine wpRel_skip ?_ ?_
                 · rfl
                 simp only [Act.put, List.setIfInBounds_toArray, List.set_cons_zero, List.set_cons_succ]))
            refine wpRel_nil ?_
            intro W3 hW3
            have HE3 := Lib.hid (HX.out.trans ((Ext.refl _).drew.trans hW3.1))
            clear hW3 he x0 gx0 y0 gy0 x1 gx1 y1 gy1 x2 gx2 y2 gy2 x3 gx3 y3 gy3 x4 gx4 y4 gy4 d0 d1 gd0 gd1
            go_wp2_with fail
            go_roundw
            case rel => exact ⟨k + 1, by go_num, by omega, by rw [HTK.out, HN.out]; rfl, HE3.out⟩
            case measure => simp [intOf] <;> omega
      · have hki : ¬ (k : Int) < (l.length : Int) := by omega
        have HT : Hid (l.take k = l) := Lib.hid (List.take_of_length_le (by omega))
        go_wp2_with fail
        go_ret2
        exact ⟨by rw [HR.out, HT.out]; rfl, HX0.out.trans HE.out⟩
set_option maxRecDepth 100000 in
set_option maxHeartbeats 6400000 in
theorem refPlace_any (l : List Wt) (s a b : Int) (ao : Option Addr) (cap : Nat) (w : World) (h : RepW w ao cap l) (hb : l.length ≤ 100000) : Calls Try.prog 22 #[.slice ao l.length cap, .int .i64 s, .agg #[.int .i64 a, .int .i64 b]] w (RetP (placeW l s a b) w) := by
  have hX0 : Ext w (w.alloc (.cells #[.int .i64 a, .int .i64 b] 24)) := (Ext.refl w).alloc _
  have HL := Lib.hid (h.ext hX0)
  have hs1 := h.max
  have hs5 : (l.length : Int) ≤ 100000 := by omega
  have d0 : (w.alloc (.cells #[.int .i64 a, .int .i64 b] 24)).cell? ⟨w.heap.size, 0, none⟩ = some (.int .i64 a) := by simp
  have d1 : (w.alloc (.cells #[.int .i64 a, .int .i64 b] 24)).cell? ⟨w.heap.size, 1, none⟩ = some (.int .i64 b) := by simp
  have HD := Lib.hid (And.intro d0 d1)
  have HX0 := Lib.hid hX0
  clear h hX0 hb
  rcases findW_or' l (isW s a b) with hn | ⟨i, hi, hn, hfi⟩
  · have HR : Hid (placeW l s a b = (0, false)) := Lib.hid (placeW_none hn)
    have HF : Hid (findW l (isW s a b) = -1) := Lib.hid (by unfold findW; rw [hn])
    clear hn
    go_enter Try.func22, Try.ntmps22
    go_wp2_with (go_at_call 35; refine (index_any l s a b _ _ _ HL.out).mono ?_; rintro e w1 ⟨rfl, hE1⟩; rw [HF.out]; have HE1 := Lib.hid hE1; clear hE1)
    go_ret2
    exact ⟨by rw [HR.out]; rfl, HX0.out.trans HE1.out⟩
  · have HF : Hid (findW l (isW s a b) = (i : Int)) := Lib.hid hfi
    have hii : (i : Int) < (l.length : Int) := by omega
    have hi0 : (0 : Int) ≤ (i : Int) := by omega
    obtain ⟨bb, o, rfl, _⟩ := w_cells HL.out (Ext.refl _) hi
    obtain ⟨y, hy⟩ : ∃ y, l[i] = y := ⟨_, rfl⟩
    have HR : Hid (placeW l s a b = (1 + ((l.countP (aheadW a b y) : Nat) : Int), true)) := Lib.hid (by rw [placeW_some hi hn, hy])
    have HYC : Hid (∀ W, Ext (w.alloc (.cells #[.int .i64 a, .int .i64 b] 24)) W → W.cell? ⟨bb, o + i * 5, none⟩ = some (.int .i64 y.s) ∧ W.cell? ⟨bb, o + i * 5 + 1, none⟩ = some (.int .i64 y.a) ∧ W.cell? ⟨bb, o + i * 5 + 2, none⟩ = some (.int .i64 y.b) ∧ W.cell? ⟨bb, o + i * 5 + 3, none⟩ = some (.int .i64 y.k) ∧ W.cell? ⟨bb, o + i * 5 + 4, none⟩ = some (.int .i64 y.t)) := Lib.hid fun W hE => by
      obtain ⟨b', o', e, h1⟩ := w_cells HL.out hE hi
      cases e
      rw [hy] at h1
      exact h1
    clear hn hfi hy
    go_enter Try.func22, Try.ntmps22
    go_wp2_with (go_at_call 35; refine (index_any l s a b _ _ _ HL.out).mono ?_; rintro e w1 ⟨rfl, hE1⟩; rw [HF.out]; have HE1 := Lib.hid hE1; clear hE1)
    clear d0 d1
    generalize w.alloc (.cells #[.int .i64 a, .int .i64 b] 24) = wz at *
    go_loopw [9, 10] (fun pv iv wr => ∃ k : Nat, iv = .int .i64 k ∧ k ≤ l.length ∧ pv = .int .i64 (1 + (((l.take k).countP (aheadW a b y) : Nat) : Int)) ∧ Ext wz wr) (fun _ iv _ => l.length - (intOf iv).toNat)
    case atStart => exact ⟨0, rfl, by omega, by simp, HE1.out⟩
    case round =>
      obtain ⟨k, rfl, hk, rfl, hE⟩ := hrel
      have HE := Lib.hid hE
      clear hE HE1
      have hcb := countPW_le l k (aheadW a b y)
      have hci : (((l.take k).countP (aheadW a b y) : Nat) : Int) ≤ (k : Int) := by omega
      by_cases hlt : k < l.length
      · have hki : (k : Int) < (l.length : Int) := by omega
        obtain ⟨bb', o', he, c0, c1, c2, c3, c4⟩ := w_cells HL.out HE.out hlt
        cases he
        have HTK := Lib.hid (countPW_take hlt (aheadW a b y))
        generalize l[k] = x at *
        generalize (l.take k).countP (aheadW a b y) = n at *
        have HX := HE
        have x0 := c0
        have x1 := c1
        have x2 := c2
        have x3 := c3
        have x4 := c4
        clear c0 c1 c2 c3 c4
        obtain ⟨y0, y1, y2, y3, y4⟩ := HYC.out _ HX.out
        have d0 := HX.out.cell HD.out.1
        have d1 := HX.out.cell HD.out.2
        have gd0 := grow_cell d0
        have gd1 := grow_cell d1
        have gx0 := grow_cell x0
        have gy0 := grow_cell y0
        have gx1 := grow_cell x1
        have gy1 := grow_cell y1
        have gx2 := grow_cell x2
        have gy2 := grow_cell y2
        have gx3 := grow_cell x3
        have gy3 := grow_cell y3
        have gx4 := grow_cell x4
        have gy4 := grow_cell y4
        have he := eqB x.a x.b a b
        cases h1 : (x.a == a && x.b == b) with
        | false =>
          rw [h1] at he
          have HN : Hid (aheadW a b y x = false) := Lib.hid (aheadW_no h1)
          clear h1
          go_wp2_with fail
          refine wp_region_rel_all (fun i => none) (by kernel_rfl) (by kernel_rfl) ?_
          repeat (first
            | (refine wpRel_quick ?_ ?_ ?_ ?_
               · rfl
               · rfl
               · first | exact noEnter rfl | (intro f args W W'; go_simp)
               intro K hK
               go_big_quiet_op
               go_big_quiet_on)
            | (refine wpRel_skip ?_ ?_
               · rfl
               simp only [Act.put, List.setIfInBounds_toArray, List.set_cons_zero, List.set_cons_succ]))
          refine wpRel_nil ?_
          intro W3 hW3
          have HE3 := Lib.hid (HX.out.trans ((Ext.refl _).drew.trans hW3.1))
          clear hW3 he x0 gx0 y0 gy0 x1 gx1 y1 gy1 x2 gx2 y2 gy2 x3 gx3 y3 gy3 x4 gx4 y4 gy4 d0 d1 gd0 gd1
          go_wp2_with fail
          go_roundw
          case rel => exact ⟨k + 1, by go_num, by omega, by rw [HTK.out, HN.out]; rfl, HE3.out⟩
          case measure => simp [intOf] <;> omega
        | true =>
          rw [h1] at he
          have HA := Lib.hid (aheadW_yes (y := y) h1)
          clear h1
          by_cases hc : cmpW x y < 0
          · have HN : Hid (aheadW a b y x = true) := Lib.hid (by rw [HA.out, decide_eq_true hc])
            have hd : decide (cmpW x y < 0) = true := decide_eq_true hc
            clear hc
            go_wp2_with fail
            refine wp_region_rel_all (fun i => if i = 16 then some (spV (.bool true)) else none) (by kernel_rfl) (by kernel_rfl) ?_
            repeat (first
              | (refine wpRel_quick ?_ ?_ ?_ ?_
                 · rfl
                 · rfl
                 · first | exact noEnter rfl | (intro f args W W'; go_simp)
                 intro K hK
                 go_big_quiet_op
                 go_big_quiet_on)
              | (refine wpRel_skip ?_ ?_
                 · rfl
                 simp only [Act.put, List.setIfInBounds_toArray, List.set_cons_zero, List.set_cons_succ]))
            refine wpRel_rich _ rfl rfl (fun W hW => ?_) (fun v W3 hW3 hv => ?_)
            · have hc := (hd ▸ prec_any x y W)
              go_simp
              refine Calls.mono hc ?_
              rintro e w' ⟨rfl, h⟩
              exact ⟨_, rfl, rfl, by first | exact h | (subst h; exact Ext.refl _)⟩
            obtain rfl := hv
            clear hW3
            simp only [Act.put, List.setIfInBounds_toArray, List.set_cons_zero, List.set_cons_succ]
            repeat (first
              | (refine wpRel_quick ?_ ?_ ?_ ?_
                 · rfl
                 · rfl
                 · first | exact noEnter rfl | (intro f args W W'; go_simp)
                 intro K hK
                 go_big_quiet_op
                 go_big_quiet_on)
              | (refine wpRel_skip ?_ ?_
                 · rfl
                 simp only [Act.put, List.setIfInBounds_toArray, List.set_cons_zero, List.set_cons_succ]))
            refine wpRel_nil ?_
            intro W3 hW3
            have HE3 := Lib.hid (HX.out.trans ((Ext.refl _).drew.trans hW3.1))
            clear hW3 he x0 gx0 y0 gy0 x1 gx1 y1 gy1 x2 gx2 y2 gy2 x3 gx3 y3 gy3 x4 gx4 y4 gy4 d0 d1 gd0 gd1
            go_wp2_with fail
            go_roundw
            case rel => exact ⟨k + 1, by go_num, by omega, by rw [HTK.out, HN.out]; go_num, HE3.out⟩
            case measure => simp [intOf] <;> omega
          · have HN : Hid (aheadW a b y x = false) := Lib.hid (by rw [HA.out, decide_eq_false hc])
            have hd : decide (cmpW x y < 0) = false := decide_eq_false hc
            clear hc
            go_wp2_with fail
            refine wp_region_rel_all (fun i => if i = 16 then some (spV (.bool false)) else none) (by kernel_rfl) (by kernel_rfl) ?_
            repeat (first
              | (refine wpRel_quick ?_ ?_ ?_ ?_
                 · rfl
                 · rfl
                 · first | exact noEnter rfl | (intro f args W W'; go_simp)
                 intro K hK
                 go_big_quiet_op
                 go_big_quiet_on)
              | (refine wpRel_skip ?_ ?_
                 · rfl
                 simp only [Act.put, List.setIfInBounds_toArray, List.set_cons_zero, List.set_cons_succ]))
            refine wpRel_rich _ rfl rfl (fun W hW => ?_) (fun v W3 hW3 hv => ?_)
            · have hc := (hd ▸ prec_any x y W)
              go_simp
              refine Calls.mono hc ?_
              rintro e w' ⟨rfl, h⟩
              exact ⟨_, rfl, rfl, by first | exact h | (subst h; exact Ext.refl _)⟩
            obtain rfl := hv
            clear hW3
            simp only [Act.put, List.setIfInBounds_toArray, List.set_cons_zero, List.set_cons_succ]
            repeat (first
              | (refine wpRel_quick ?_ ?_ ?_ ?_
                 · rfl
                 · rfl
                 · first | exact noEnter rfl | (intro f args W W'; go_simp)
                 intro K hK
                 go_big_quiet_op
                 go_big_quiet_on)
              | (refine wpRel_skip ?_ ?_
                 · rfl
                 simp only [Act.put, List.setIfInBounds_toArray, List.set_cons_zero, List.set_cons_succ]))
            refine wpRel_nil ?_
            intro W3 hW3
            have HE3 := Lib.hid (HX.out.trans ((Ext.refl _).drew.trans hW3.1))
            clear hW3 he x0 gx0 y0 gy0 x1 gx1 y1 gy1 x2 gx2 y2 gy2 x3 gx3 y3 gy3 x4 gx4 y4 gy4 d0 d1 gd0 gd1
            go_wp2_with fail
            go_roundw
            case rel => exact ⟨k + 1, by go_num, by omega, by rw [HTK.out, HN.out]; rfl, HE3.out⟩
            case measure => simp [intOf] <;> omega
      · have hki : ¬ (k : Int) < (l.length : Int) := by omega
        have HT : Hid (l.take k = l) := Lib.hid (List.take_of_length_le (by omega))
        go_wp2_with fail
        go_ret2
        exact ⟨by rw [HR.out, HT.out]; rfl, HX0.out.trans HE.out⟩
end Go.Proofs.Ytbhpeecebcihkaa
