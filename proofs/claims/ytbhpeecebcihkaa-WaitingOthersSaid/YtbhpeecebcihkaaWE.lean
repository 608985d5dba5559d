/- Waiting: First of the reference. -/
import Derived.Test.YtbhpeecebcihkaaWA
namespace Go.Sz
open Go.RowKit
theorem BoxW.keepS {w : World} {B C : Nat} {o : Wt} (h : BoxW w C o) (p : Wt) (hne : C ≠ B) : BoxW (set5 w B p) C o := by
  refine ⟨cell_set5 p hne h.c0, cell_set5 p hne h.c1, cell_set5 p hne h.c2, cell_set5 p hne h.c3, cell_set5 p hne h.c4, fun i => ?_⟩
  unfold set5
  simpa using h.fz i
end Go.Sz
namespace Go.Proofs.Ytbhpeecebcihkaa
open Go.RowKit Go.Sz
set_option maxRecDepth 100000 in
set_option maxHeartbeats 6400000 in
theorem refFirst_any (l : List Wt) (a b : Int) (ao : Option Addr) (cap : Nat) (w : World) (h : RepW w ao cap l) : Calls Try.prog 20 #[.slice ao l.length cap, .agg #[.int .i64 a, .int .i64 b]] w (RetF (firstW l a b) w) := by
  have HL := Lib.hid h
  have hs1 := h.max
  have hX0 : Ext w (((w.alloc (.cells #[.int .i64 a, .int .i64 b] 24)).alloc (.cells #[.int .i64 0, .int .i64 0, .int .i64 0, .int .i64 0, .int .i64 0] 26)).alloc (.cells #[.int .i64 0, .int .i64 0, .int .i64 0, .int .i64 0, .int .i64 0] 26)) := (((Ext.refl w).alloc _).alloc _).alloc _
  have hby : BoxW (((w.alloc (.cells #[.int .i64 a, .int .i64 b] 24)).alloc (.cells #[.int .i64 0, .int .i64 0, .int .i64 0, .int .i64 0, .int .i64 0] 26)).alloc (.cells #[.int .i64 0, .int .i64 0, .int .i64 0, .int .i64 0, .int .i64 0] 26)) (w.heap.size + 1) w0 := (BoxW.new (w.alloc (.cells #[.int .i64 a, .int .i64 b] 24)) w0 26 (w.heap.size + 1) (by simp)).ext ((Ext.refl _).alloc _)
  have hbx : BoxW (((w.alloc (.cells #[.int .i64 a, .int .i64 b] 24)).alloc (.cells #[.int .i64 0, .int .i64 0, .int .i64 0, .int .i64 0, .int .i64 0] 26)).alloc (.cells #[.int .i64 0, .int .i64 0, .int .i64 0, .int .i64 0, .int .i64 0] 26)) (w.heap.size + 2) w0 := BoxW.new _ w0 _ _ (by simp)
  have d0 : (((w.alloc (.cells #[.int .i64 a, .int .i64 b] 24)).alloc (.cells #[.int .i64 0, .int .i64 0, .int .i64 0, .int .i64 0, .int .i64 0] 26)).alloc (.cells #[.int .i64 0, .int .i64 0, .int .i64 0, .int .i64 0, .int .i64 0] 26)).cell? ⟨w.heap.size, 0, none⟩ = some (.int .i64 a) := ((Ext.refl _).alloc _).cell (show ((w.alloc (.cells #[.int .i64 a, .int .i64 b] 24)).alloc (.cells #[.int .i64 0, .int .i64 0, .int .i64 0, .int .i64 0, .int .i64 0] 26)).cell? ⟨w.heap.size, 0, none⟩ = some (.int .i64 a) by simp)
  have d1 : (((w.alloc (.cells #[.int .i64 a, .int .i64 b] 24)).alloc (.cells #[.int .i64 0, .int .i64 0, .int .i64 0, .int .i64 0, .int .i64 0] 26)).alloc (.cells #[.int .i64 0, .int .i64 0, .int .i64 0, .int .i64 0, .int .i64 0] 26)).cell? ⟨w.heap.size, 1, none⟩ = some (.int .i64 b) := ((Ext.refl _).alloc _).cell (show ((w.alloc (.cells #[.int .i64 a, .int .i64 b] 24)).alloc (.cells #[.int .i64 0, .int .i64 0, .int .i64 0, .int .i64 0, .int .i64 0] 26)).cell? ⟨w.heap.size, 1, none⟩ = some (.int .i64 b) by simp)
  have HS := Lib.hid (And.intro hbx (And.intro hby (And.intro d0 (And.intro d1 hX0))))
  clear h hX0 hbx hby d0 d1
  go_enter Try.func20, Try.ntmps20
  go_wp2_with fail
  generalize (((w.alloc (.cells #[.int .i64 a, .int .i64 b] 24)).alloc (.cells #[.int .i64 0, .int .i64 0, .int .i64 0, .int .i64 0, .int .i64 0] 26)).alloc (.cells #[.int .i64 0, .int .i64 0, .int .i64 0, .int .i64 0, .int .i64 0] 26)) = wz at *
  obtain ⟨B, hB⟩ : ∃ B, w.heap.size = B := ⟨_, rfl⟩
  rw [hB] at HS ⊢
  have HB := Lib.hid hB
  clear hB
  go_loopw [7, 8] (fun okv iv wr => ∃ k : Nat, ∃ st, iv = .int .i64 k ∧ k ≤ l.length ∧ st = firstW (l.take k) a b ∧ okv = .bool st.2 ∧ BoxW wr (B + 2) st.1 ∧ BoxW wr (B + 1) w0 ∧ wr.cell? ⟨B, 0, none⟩ = some (.int .i64 a) ∧ wr.cell? ⟨B, 1, none⟩ = some (.int .i64 b) ∧ Ext w wr) (fun _ iv _ => l.length - (intOf iv).toNat)
  case atStart => exact ⟨0, (w0, false), rfl, by omega, rfl, rfl, HS.out.1, HS.out.2.1, HS.out.2.2.1, HS.out.2.2.2.1, HS.out.2.2.2.2⟩
  case round =>
    obtain ⟨k, st, rfl, hk, hst, rfl, hbx, hby, d0, d1, hE⟩ := hrel
    have HST := Lib.hid hst
    have HBX := Lib.hid hbx
    have HBY := Lib.hid hby
    have HE := Lib.hid hE
    have HDD := Lib.hid (And.intro d0 d1)
    clear hst hbx hby hE
    by_cases hlt : k < l.length
    · have hki : (k : Int) < (l.length : Int) := by omega
      obtain ⟨bb, o, rfl, c0, c1, c2, c3, c4⟩ := w_cells HL.out HE.out hlt
      have HTK := Lib.hid (firstW_take hlt a b)
      generalize l[k] = x at *
      obtain ⟨y, ok⟩ := st
      obtain ⟨b0, b1, b2, b3, b4, -⟩ := HBX.out
      try dsimp only at b0 b1 b2 b3 b4
      have gd0 := grow_cell d0
      have gd1 := grow_cell d1
      have gc0 := grow_cell c0
      have gb0 := grow_cell b0
      have gc1 := grow_cell c1
      have gb1 := grow_cell b1
      have gc2 := grow_cell c2
      have gb2 := grow_cell b2
      have gc3 := grow_cell c3
      have gb3 := grow_cell b3
      have gc4 := grow_cell c4
      have gb4 := grow_cell b4
      clear d0 d1
      have he := eqB x.a x.b a b
      cases h1 : (x.a == a && x.b == b) with
      | false =>
        rw [h1] at he
        have HN : Hid (stepF a b (y, ok) x = (y, ok)) := Lib.hid (stepF_no h1)
        clear h1
        go_wp2_with fail
        refine wp_region_rel_all (fun i => none) (by kernel_rfl) (by kernel_rfl) ?_
        repeat (first
          | (refine wpRel_quick ?_ ?_ ?_ ?_
             · rfl
             · rfl
             · first | exact noEnter rfl | (intro f args W W'; go_simp)
             intro K hK
             go_big_quiet_op
             go_big_quiet_on)
          | (refine wpRel_skip ?_ ?_
             · rfl
             simp only [Act.put, List.setIfInBounds_toArray, List.set_cons_zero, List.set_cons_succ]))
        refine wpRel_nil ?_
        intro W3 hW3
        have hE3 := (Ext.refl _).drew.trans hW3.1
        clear hW3 he
        have HE3 := Lib.hid hE3
        clear hE3 c0 gc0 c1 gc1 c2 gc2 c3 gc3 c4 gc4 b0 gb0 b1 gb1 b2 gb2 b3 gb3 b4 gb4 gd0 gd1
        go_wp2_with fail
        go_roundw
        case rel => exact ⟨k + 1, (y, ok), by go_num, by omega, by rw [HTK.out, ← HST.out, HN.out], rfl, HBX.out.ext HE3.out, HBY.out.ext HE3.out, HE3.out.cell HDD.out.1, HE3.out.cell HDD.out.2, HE.out.trans HE3.out⟩
        case measure => simp [intOf] <;> omega
      | true =>
        rw [h1] at he
        have H1 := Lib.hid h1
        clear h1
        cases ok with
        | false =>
          have HN : Hid (stepF a b (y, false) x = (x, true)) := Lib.hid (stepF_first H1.out rfl)
          go_wp2_with fail
          refine wp_region_rel_all (fun i => none) (by kernel_rfl) (by kernel_rfl) ?_
          repeat (first
            | (refine wpRel_quick ?_ ?_ ?_ ?_
               · rfl
               · rfl
               · first | exact noEnter rfl | (intro f args W W'; go_simp)
               intro K hK
               go_big_quiet_op
               go_big_quiet_on)
            | (refine wpRel_skip ?_ ?_
               · rfl
               simp only [Act.put, List.setIfInBounds_toArray, List.set_cons_zero, List.set_cons_succ]))
          refine wpRel_nil ?_
          intro W3 hW3
          have hE3 := (Ext.refl _).drew.trans hW3.1
          clear hW3 he
          have f0 := hE3.cell c0
          have f1 := hE3.cell c1
          have f2 := hE3.cell c2
          have f3 := hE3.cell c3
          have f4 := hE3.cell c4
          obtain ⟨b0', b1', b2', b3', b4', bf⟩ := HBX.out.ext hE3
          have bf0 := bf 0
          have bf1 := bf 1
          have bf2 := bf 2
          have bf3 := bf 3
          have bf4 := bf 4
          have HE3 := Lib.hid hE3
          clear hE3 bf c0 gc0 c1 gc1 c2 gc2 c3 gc3 c4 gc4 b0 gb0 b1 gb1 b2 gb2 b3 gb3 b4 gb4 gd0 gd1
          go_wp2_with fail
          go_roundw
          case rel => exact ⟨k + 1, (x, true), by go_num, by omega, by rw [HTK.out, ← HST.out, HN.out], rfl, (HBX.out.ext HE3.out).set x, ((HBY.out.ext HE3.out).keepS x (by omega)), cell_set5 x (by omega) (HE3.out.cell HDD.out.1), cell_set5 x (by omega) (HE3.out.cell HDD.out.2), ext_set5 (HE.out.trans HE3.out) (by rw [HB.out]; omega) x⟩
          case measure => simp [intOf] <;> omega
        | true =>
          by_cases hc : cmpW x y < 0
          · have hd : decide (cmpW x y < 0) = true := decide_eq_true hc
            have HN : Hid (stepF a b (y, true) x = (x, true)) := Lib.hid (stepF_less H1.out rfl hc)
            clear hc
            go_wp2_with fail
            refine wp_region_rel_all (fun i => if i = 16 then some (spV (.bool true)) else none) (by kernel_rfl) (by kernel_rfl) ?_
            repeat (first
              | (refine wpRel_quick ?_ ?_ ?_ ?_
                 · rfl
                 · rfl
                 · first | exact noEnter rfl | (intro f args W W'; go_simp)
                 intro K hK
                 go_big_quiet_op
                 go_big_quiet_on)
              | (refine wpRel_skip ?_ ?_
                 · rfl
                 simp only [Act.put, List.setIfInBounds_toArray, List.set_cons_zero, List.set_cons_succ]))
            refine wpRel_rich _ rfl rfl (fun W hW => ?_) (fun v W3 hW3 hv => ?_)
            · have hc := (hd ▸ prec_any x y W)
              go_simp
              refine Calls.mono hc ?_
              rintro e w' ⟨rfl, h⟩
              exact ⟨_, rfl, rfl, by first | exact h | (subst h; exact Ext.refl _)⟩
            obtain rfl := hv
            clear hW3
            simp only [Act.put, List.setIfInBounds_toArray, List.set_cons_zero, List.set_cons_succ]
            repeat (first
              | (refine wpRel_quick ?_ ?_ ?_ ?_
                 · rfl
                 · rfl
                 · first | exact noEnter rfl | (intro f args W W'; go_simp)
                 intro K hK
                 go_big_quiet_op
                 go_big_quiet_on)
              | (refine wpRel_skip ?_ ?_
                 · rfl
                 simp only [Act.put, List.setIfInBounds_toArray, List.set_cons_zero, List.set_cons_succ]))
            refine wpRel_nil ?_
            intro W3 hW3
            have hE3 := (Ext.refl _).drew.trans hW3.1
            clear hW3 he
            have f0 := hE3.cell c0
            have f1 := hE3.cell c1
            have f2 := hE3.cell c2
            have f3 := hE3.cell c3
            have f4 := hE3.cell c4
            obtain ⟨b0', b1', b2', b3', b4', bf⟩ := HBX.out.ext hE3
            have bf0 := bf 0
            have bf1 := bf 1
            have bf2 := bf 2
            have bf3 := bf 3
            have bf4 := bf 4
            have HE3 := Lib.hid hE3
            clear hE3 bf c0 gc0 c1 gc1 c2 gc2 c3 gc3 c4 gc4 b0 gb0 b1 gb1 b2 gb2 b3 gb3 b4 gb4 gd0 gd1
            go_wp2_with fail
            go_roundw
            case rel => exact ⟨k + 1, (x, true), by go_num, by omega, by rw [HTK.out, ← HST.out, HN.out], rfl, (HBX.out.ext HE3.out).set x, ((HBY.out.ext HE3.out).keepS x (by omega)), cell_set5 x (by omega) (HE3.out.cell HDD.out.1), cell_set5 x (by omega) (HE3.out.cell HDD.out.2), ext_set5 (HE.out.trans HE3.out) (by rw [HB.out]; omega) x⟩
            case measure => simp [intOf] <;> omega
          · have hd : decide (cmpW x y < 0) = false := decide_eq_false hc
            have HN : Hid (stepF a b (y, true) x = (y, true)) := Lib.hid (stepF_more H1.out rfl hc)
            clear hc
            go_wp2_with fail
            refine wp_region_rel_all (fun i => if i = 16 then some (spV (.bool false)) else none) (by kernel_rfl) (by kernel_rfl) ?_
            repeat (first
              | (refine wpRel_quick ?_ ?_ ?_ ?_
                 · rfl
                 · rfl
                 · first | exact noEnter rfl | (intro f args W W'; go_simp)
                 intro K hK
                 go_big_quiet_op
                 go_big_quiet_on)
              | (refine wpRel_skip ?_ ?_
                 · rfl
                 simp only [Act.put, List.setIfInBounds_toArray, List.set_cons_zero, List.set_cons_succ]))
            refine wpRel_rich _ rfl rfl (fun W hW => ?_) (fun v W3 hW3 hv => ?_)
            · have hc := (hd ▸ prec_any x y W)
              go_simp
              refine Calls.mono hc ?_
              rintro e w' ⟨rfl, h⟩
              exact ⟨_, rfl, rfl, by first | exact h | (subst h; exact Ext.refl _)⟩
            obtain rfl := hv
            clear hW3
            simp only [Act.put, List.setIfInBounds_toArray, List.set_cons_zero, List.set_cons_succ]
            repeat (first
              | (refine wpRel_quick ?_ ?_ ?_ ?_
                 · rfl
                 · rfl
                 · first | exact noEnter rfl | (intro f args W W'; go_simp)
                 intro K hK
                 go_big_quiet_op
                 go_big_quiet_on)
              | (refine wpRel_skip ?_ ?_
                 · rfl
                 simp only [Act.put, List.setIfInBounds_toArray, List.set_cons_zero, List.set_cons_succ]))
            refine wpRel_nil ?_
            intro W3 hW3
            have hE3 := (Ext.refl _).drew.trans hW3.1
            clear hW3 he
            have HE3 := Lib.hid hE3
            clear hE3 c0 gc0 c1 gc1 c2 gc2 c3 gc3 c4 gc4 b0 gb0 b1 gb1 b2 gb2 b3 gb3 b4 gb4 gd0 gd1
            go_wp2_with fail
            go_roundw
            case rel => exact ⟨k + 1, (y, true), by go_num, by omega, by rw [HTK.out, ← HST.out, HN.out], rfl, HBX.out.ext HE3.out, HBY.out.ext HE3.out, HE3.out.cell HDD.out.1, HE3.out.cell HDD.out.2, HE.out.trans HE3.out⟩
            case measure => simp [intOf] <;> omega
    · have hki : ¬ (k : Int) < (l.length : Int) := by omega
      have HR : Hid (firstW l a b = st) := Lib.hid (by rw [HST.out, List.take_of_length_le (by omega)])
      obtain ⟨b0, b1, b2, b3, b4, -⟩ := HBX.out
      obtain ⟨y0, y1, y2, y3, y4, yf⟩ := HBY.out
      have yf0 := yf 0
      have yf1 := yf 1
      have yf2 := yf 2
      have yf3 := yf 3
      have yf4 := yf 4
      have hs := HBY.out.set st.1
      have hE5 := ext_set5 HE.out (B := B + 1) (by rw [HB.out]; omega) st.1
      unfold set5 at hs hE5
      clear yf d0 d1
      go_wp2_with fail
      (try simp only [Exit.inBlock, Exit.then])
      clear yf0 yf1 yf2 yf3 yf4 y0 y1 y2 y3 y4 b0 b1 b2 b3 b4
      generalize (((((wr.setCell ⟨B + 1, 0, none⟩ (.int .i64 st.1.s)).setCell ⟨B + 1, 1, none⟩ (.int .i64 st.1.a)).setCell ⟨B + 1, 2, none⟩ (.int .i64 st.1.b)).setCell ⟨B + 1, 3, none⟩ (.int .i64 st.1.k)).setCell ⟨B + 1, 4, none⟩ (.int .i64 st.1.t)) = w5 at *
      obtain ⟨s0, s1, s2, s3, s4, -⟩ := hs
      refine bodyPost_ret (v := .tuple #[.agg st.1.enc.toArray, .bool st.2]) (by simp [results, Try.results20, go_sem, s0, s1, s2, s3, s4]; try rfl) rfl ?_
      rw [HR.out]
      exact ⟨rfl, hE5⟩
end Go.Proofs.Ytbhpeecebcihkaa
