/- Requests: Value and Encode of the reference. -/
import Derived.Test.YtahaplioegeloaaDoorQF
import Derived.Test.YtahaplioegeloaaDoorQD
namespace Go.Sz
open Go.RowKit
theorem encV_repF {w : World} {g : Nat} {r : Rq} {lc : List Value} {F : Nat → Prop} (h : SL w 4 (some ⟨g, 0, none⟩) 9 (nineC r lc)) (hF : F g) (hr : r.ok) (hl : RepV w F lc (listV (r.ch.map bdV))) : RepV w F (listC (some ⟨g, 0, none⟩) 9 9) (encV r) := by
  obtain ⟨h1, h2, h3, h4, h5, h6, h7, h8⟩ := hr
  exact listC_rep h (fun a ha hne => by cases ha; exact hF) rfl rfl (fun i r z e1 e2 => by
    match i, e1, e2 with
    | 0, e1, e2 => simp [nineC] at e1 e2; subst e1 e2; exact numC_rep _ _ h1
    | 1, e1, e2 => simp [nineC] at e1 e2; subst e1 e2; exact numC_rep _ _ h2
    | 2, e1, e2 => simp [nineC] at e1 e2; subst e1 e2; exact numC_rep _ _ h3
    | 3, e1, e2 => simp [nineC] at e1 e2; subst e1 e2; exact numC_rep _ _ h4
    | 4, e1, e2 => simp [nineC] at e1 e2; subst e1 e2; exact numC_rep _ _ h5
    | 5, e1, e2 => simp [nineC] at e1 e2; subst e1 e2; exact hl
    | 6, e1, e2 => simp [nineC] at e1 e2; subst e1 e2; exact numC_rep _ _ h6
    | 7, e1, e2 => simp [nineC] at e1 e2; subst e1 e2; exact numC_rep _ _ h7
    | 8, e1, e2 => simp [nineC] at e1 e2; subst e1 e2; exact numC_rep _ _ h8
    | i + 9, e1, e2 => simp [nineC] at e1)
theorem LstE.sliceF {D : Nat} {e : TypeId} {xs : List V} {wr : World} {v : Value} {rows : List (List Value)} {F : Nat → Prop} (hL : LstE D e xs wr v rows F) (hF : ∀ b, F b → D ≤ b) : ∃ ao cap, v = .slice ao xs.length cap ∧
    RepV wr (fun b => D ≤ b ∧ b < wr.heap.size) (listC ao xs.length cap) (listV xs) := by
  obtain ⟨ao, cap, hv, hs, hfar⟩ := SL.of_own hL.own hL.wid hL.len
  refine ⟨ao, cap, hv, ?_⟩
  exact RepV.mk (l := xs) rows ⟨by omega, by omega⟩ ⟨by omega, by omega⟩ (by decide) hs (fun a ha hr => ⟨hfar a ha, hs.blk (by omega) a ha hr⟩) hL.len (fun i r x h1 h2 => (hL.rep i r x h1 h2).weaken fun b hb => ⟨hF b hb, (hL.foot b hb).1⟩)
def spNineF (D : Nat) (rows : List (List Value)) : Spec where
  R v W := ∃ g, v = .slice (some ⟨g, 0, none⟩) 9 9 ∧ D ≤ g ∧ SL W 4 (some ⟨g, 0, none⟩) 9 rows
  mono := fun hE ⟨g, hv, hd, hs⟩ => ⟨g, hv, hd, hs.ext hE⟩
def spNineLF (D : Nat) (rows : List (List Value)) : Spec where
  R v W := ∃ g, v = .agg #[.int .i64 3, .int .i64 0, .string ⟨#[]⟩, .slice (some ⟨g, 0, none⟩) 9 9] ∧ D ≤ g ∧ SL W 4 (some ⟨g, 0, none⟩) 9 rows
  mono := fun hE ⟨g, hv, hd, hs⟩ => ⟨g, hv, hd, hs.ext hE⟩
theorem RepV.far {w : World} {F : Nat → Prop} {cs : List Value} {v : V} {B i : Nat} {u : Value} (h : RepV w F cs v) (hF : ∀ b, F b → b ≠ B) : RepV (w.setCell ⟨B, i, none⟩ u) F cs v :=
  h.keep fun b hb => heap_setCell_far _ _ _ _ (hF b hb)
end Go.Sz
namespace Go.Proofs.YtahaplioegeloaaDoor
open Go.RowKit Go.Sz
theorem refNumL_any (n : Int) (w : World) : Calls Tryd.prog 55 #[.int .i64 n] w fun e w' => e = .returned (.agg #[.int .i64 1, .int .i64 n, .string ⟨#[]⟩, .slice none 0 0]) ∧ Ext w w' := refNum_any n w
theorem refListL_any (a : Option Addr) (len cap : Nat) (w : World) : Calls Tryd.prog 54 #[.slice a len cap] w fun e w' => e = .returned (.agg #[.int .i64 3, .int .i64 0, .string ⟨#[]⟩, .slice a len cap]) ∧ Ext w w' := refList_any a len cap w
set_option maxRecDepth 100000 in
set_option maxHeartbeats 6400000 in
theorem refValue_any (r : Rq) (ao : Option Addr) (cap : Nat) (w : World) (hr : RepB w ao cap r.ch) (hok : r.ok) (hin : ∀ x ∈ r.ch, inB x) (hl8 : r.ch.length ≤ 8) : Calls Tryd.prog 35 #[.agg (r.cells ao cap).toArray] w fun e w' => ∃ g, e = .returned (.agg (listC (some ⟨g, 0, none⟩) 9 9).toArray) ∧ RepV w' (fun b => b < w'.heap.size) (listC (some ⟨g, 0, none⟩) 9 9) (encV r) ∧ Ext w w' := by
  have hX : Ext w ((w.alloc (.cells (r.cells ao cap).toArray 26)).alloc (.cells #[.int .i64 0, .int .i64 0, .string ⟨#[]⟩, .slice none 0 0] 59)) := ((Ext.refl w).alloc _).alloc _
  have HB0 := Lib.hid ((BoxQ.new w r ao cap 26 w.heap.size rfl).ext ((Ext.refl (w.alloc (.cells (r.cells ao cap).toArray 26))).alloc (.cells #[.int .i64 0, .int .i64 0, .string ⟨#[]⟩, .slice none 0 0] 59)))
  have HZ0 := Lib.hid (Box.new (w.alloc (.cells (r.cells ao cap).toArray 26)) (.int .i64 0) (.int .i64 0) (.string ⟨#[]⟩) (.slice none 0 0) 59)
  have HS0 : Hid (((w.alloc (.cells (r.cells ao cap).toArray 26)).alloc (.cells #[.int .i64 0, .int .i64 0, .string ⟨#[]⟩, .slice none 0 0] 59)).heap.size = w.heap.size + 2 ∧ (w.alloc (.cells (r.cells ao cap).toArray 26)).heap.size = w.heap.size + 1) := Lib.hid (by simp)
  have HRB := Lib.hid (hr.ext hX)
  have HX := Lib.hid hX
  have HN := Lib.hid hin
  have HREP : Hid (∀ (w : World) (g : Nat) (lc : List Value) (F : Nat → Prop), SL w 4 (some ⟨g, 0, none⟩) 9 (nineC r lc) → F g → RepV w F lc (listV (r.ch.map bdV)) → RepV w F (listC (some ⟨g, 0, none⟩) 9 9) (encV r)) := Lib.hid fun w g lc F h1 h2 h3 => encV_repF h1 h2 hok h3
  clear hr hX hok hin
  unfold Rq.cells at *
  obtain ⟨c, n, s, k, t, ch, g, h, y⟩ := r
  dsimp only at *
  go_enter Tryd.func35, Tryd.ntmps35
  go_wp2_with (go_at_call 54; refine (refListL_any none 0 0 _).mono ?_; rintro e w2 ⟨rfl, hX2⟩)
  obtain ⟨i0, hi, hz0, hz1, hz2⟩ := info_parts infoV
  have HX2 := Lib.hid hX2
  clear hX2
  go_loopw [4] (fun iv wr => ∃ (j : Nat) (v : Value) (rows : List (List Value)) (F : Nat → Prop), iv = .int .i64 j ∧ j ≤ ch.length ∧ Ext w2 wr ∧ Box wr w2.heap.size (.int .i64 3) (.int .i64 0) (.string ⟨#[]⟩) v ∧ LstE (w2.heap.size + 1) 59 ((ch.take j).map bdV) wr v rows F ∧ (∀ b, F b → w2.heap.size + 1 ≤ b)) (fun iv _ => ch.length - (intOf iv).toNat)
  case atStart => exact ⟨0, .slice none 0 0, [], fun _ => False, rfl, by omega, (Ext.refl _).alloc _, Box.new _ _ _ _ _ _, LstE.nil _ _ _, by simp⟩
  case round =>
    obtain ⟨j, v, rows, F, rfl, hj, hE, hB, hL, hF⟩ := hrel
    have HL := Lib.hid hL
    have HF := Lib.hid hF
    have HB := Lib.hid hB
    have HEr := Lib.hid hE
    clear hL hF hB hE
    have hb5 := (HB0.out.ext (HX2.out.trans HEr.out)).c5
    dsimp only at hb5
    have gb5 := grow_cell hb5
    by_cases hlt : j < ch.length
    · have hji : (j : Int) < (ch.length : Int) := by omega
      obtain ⟨bb, o, hao, c0, c1⟩ := b_cells HRB.out (HX2.out.trans HEr.out) hlt
      have HXI := Lib.hid (HN.out _ (List.getElem_mem hlt))
      have HMT := Lib.hid (map_take_succ hlt)
      have HLen : Hid (((ch.take j).map bdV).length = j) := Lib.hid (by simp; omega)
      subst hao
      generalize ch[j] = x at *
      have gc0 := grow_cell c0
      have gc1 := grow_cell c1
      have gc3 := grow_cell HB.out.c3
      go_wp2_with fail
      refine wp_region_rel (fun i => if i = 8 then some (spV (.agg #[.int .i64 1, .int .i64 x.1, .string ⟨#[]⟩, .slice none 0 0])) else if i = 15 then some (spV (.agg #[.int .i64 1, .int .i64 x.2, .string ⟨#[]⟩, .slice none 0 0])) else if i = 16 then some (spTwo (wr.heap.size) x.1 x.2) else if i = 17 then some (spPair (wr.heap.size) x.1 x.2) else if i = 18 then some (spOneTwo (wr.heap.size) x.1 x.2) else none) 19 3 (by kernel_rfl) (by kernel_rfl) ?_
      simp only [List.take_succ_cons, List.take_zero]
      repeat (first
        | (refine wpRel_quick ?_ ?_ ?_ ?_
           · rfl
           · rfl
           · first | exact noEnter rfl | (intro f args W W'; go_simp)
           intro K hK
           go_big_quiet_op
           go_big_quiet_on)
        | (refine wpRel_skip ?_ ?_
           · rfl
           simp only [Act.put, List.setIfInBounds_toArray, List.set_cons_zero, List.set_cons_succ]))
      refine wpRel_rich _ rfl rfl (fun W hW => ?_) (fun v W3 hW3 hv => ?_)
      · have hc := refNumL_any x.1 W
        go_simp
        refine Calls.mono hc ?_
        rintro e w' ⟨rfl, h⟩
        exact ⟨_, rfl, rfl, by first | exact h | (subst h; exact Ext.refl _)⟩
      obtain rfl := hv
      clear hW3
      simp only [Act.put, List.setIfInBounds_toArray, List.set_cons_zero, List.set_cons_succ]
      repeat (first
        | (refine wpRel_quick ?_ ?_ ?_ ?_
           · rfl
           · rfl
           · first | exact noEnter rfl | (intro f args W W'; go_simp)
           intro K hK
           go_big_quiet_op
           go_big_quiet_on)
        | (refine wpRel_skip ?_ ?_
           · rfl
           simp only [Act.put, List.setIfInBounds_toArray, List.set_cons_zero, List.set_cons_succ]))
      refine wpRel_rich _ rfl rfl (fun W hW => ?_) (fun v W3 hW3 hv => ?_)
      · have hc := refNumL_any x.2 W
        go_simp
        refine Calls.mono hc ?_
        rintro e w' ⟨rfl, h⟩
        exact ⟨_, rfl, rfl, by first | exact h | (subst h; exact Ext.refl _)⟩
      obtain rfl := hv
      clear hW3
      simp only [Act.put, List.setIfInBounds_toArray, List.set_cons_zero, List.set_cons_succ]
      repeat (first
        | (refine wpRel_quick ?_ ?_ ?_ ?_
           · rfl
           · rfl
           · first | exact noEnter rfl | (intro f args W W'; go_simp)
           intro K hK
           go_big_quiet_op
           go_big_quiet_on)
        | (refine wpRel_skip ?_ ?_
           · rfl
           simp only [Act.put, List.setIfInBounds_toArray, List.set_cons_zero, List.set_cons_succ]))
      refine wpRel_rich _ rfl rfl (fun W hW => ?_) (fun v8 W8 hW8 hv => ?_)
      · go_simp
        exact ⟨⟨_, rfl, by have h1 : wr.heap.size ≤ W.heap.size := hW.1.size; omega, sl_news W [numC x.1, numC x.2] 4 2 _ (by simp [numC]) rfl (by omega)⟩, (Ext.refl _).alloc _⟩
      obtain ⟨g8, rfl, _, _⟩ := hv
      clear hW8
      simp only [Act.put, List.setIfInBounds_toArray, List.set_cons_zero, List.set_cons_succ]
      repeat (first
        | (refine wpRel_quick ?_ ?_ ?_ ?_
           · rfl
           · rfl
           · first | exact noEnter rfl | (intro f args W W'; go_simp)
           intro K hK
           go_big_quiet_op
           go_big_quiet_on)
        | (refine wpRel_skip ?_ ?_
           · rfl
           simp only [Act.put, List.setIfInBounds_toArray, List.set_cons_zero, List.set_cons_succ]))
      refine wpRel_rich _ rfl rfl (fun W hW => ?_) (fun v9 W9 hW9 hv => ?_)
      · obtain ⟨g8', he, hg8, hs8⟩ := hW.2 16 (by unfold Anc; kernel_rfl) _ _ rfl rfl
        cases he
        have hc := refListL_any (some ⟨g8, 0, none⟩) 2 2 W
        go_simp
        refine Calls.mono hc ?_
        rintro e w' ⟨rfl, h⟩
        exact ⟨_, rfl, ⟨_, rfl, hg8, hs8.ext h⟩, h⟩
      obtain ⟨g9, rfl, _, _⟩ := hv
      clear hW9
      simp only [Act.put, List.setIfInBounds_toArray, List.set_cons_zero, List.set_cons_succ]
      repeat (first
        | (refine wpRel_quick ?_ ?_ ?_ ?_
           · rfl
           · rfl
           · first | exact noEnter rfl | (intro f args W W'; go_simp)
           intro K hK
           go_big_quiet_op
           go_big_quiet_on)
        | (refine wpRel_skip ?_ ?_
           · rfl
           simp only [Act.put, List.setIfInBounds_toArray, List.set_cons_zero, List.set_cons_succ]))
      refine wpRel_rich _ rfl rfl (fun W hW => ?_) (fun v10 W10 hW10 hv => ?_)
      · obtain ⟨g9', he, hg9, hs9⟩ := hW.2 17 (by unfold Anc; kernel_rfl) _ _ rfl rfl
        cases he
        go_simp
        exact ⟨⟨_, _, rfl, hg9, sl_news W [listC (some ⟨g9, 0, none⟩) 2 2] 4 1 _ (by simp [listC]) rfl (by omega), hs9.ext ((Ext.refl _).alloc _)⟩, (Ext.refl _).alloc _⟩
      obtain ⟨g10, g9', rfl, _⟩ := hv
      clear hW10
      simp only [Act.put, List.setIfInBounds_toArray, List.set_cons_zero, List.set_cons_succ]
      repeat (first
        | (refine wpRel_quick ?_ ?_ ?_ ?_
           · rfl
           · rfl
           · first | exact noEnter rfl | (intro f args W W'; go_simp)
           intro K hK
           go_big_quiet_op
           go_big_quiet_on)
        | (refine wpRel_skip ?_ ?_
           · rfl
           simp only [Act.put, List.setIfInBounds_toArray, List.set_cons_zero, List.set_cons_succ]))
      refine wpRel_nil ?_
      intro W hW
      obtain ⟨g10', g9', he, hg9, hs10, hs9⟩ := hW.2 18 trivial _ _ rfl rfl
      cases he
      have hEW : Ext wr W := (Ext.refl wr).drew.trans hW.1
      have hBW := HB.out.ext hEW
      have hoW : W.ownsRow (w2.heap.size + 1) 59 4 v j rows.flatten := by
        have := ownsRow_ext HL.out.own hEW
        rwa [HLen.out] at this
      have HRB2 := Lib.hid (ownsRow_blocks HL.out.own)
      have hsz0 := HEr.out.size
      have hszW := hEW.size
      have hBlt := HB.out.lt
      refine wpAny_ready (rs := [19]) (by kernel_rfl) (by simp) ?_
      refine AllReady.cons rfl (fun K hK => ?_) AllReady.nil
      refine step_append_S rfl _ _ 57 57 rfl (w2.heap.size + 1) 59 i0 _ 4 56 Tryd.underlying57 hi hz0 hz1 hz2 rfl v j rows.flatten rfl hoW (.slice (some ⟨g10, 0, none⟩) 1 1) 1 [listC (some ⟨g9', 0, none⟩) 2 2].flatten rfl ?_ (by unfold maxLen; omega) (by omega) (by have := HB.out.lt; omega) ?_
      · exact hs10.src (P := Tryd.prog) (by omega) Tryd.underlying57 (fun r hr u hu => by simp [listC] at hr; subst hr; simp at hu; rcases hu with rfl | rfl | rfl | rfl <;> rfl)
      intro v6 w6 ho6 hg6
      obtain ⟨ac6, cc6, rfl⟩ := ownsRow_slice ho6
      have hX6 : Ext w2 w6 := (HEr.out.trans hEW).trans' hg6 (fun k hk => by have := HRB2.out k hk; omega)
      have hB6 : Box w6 w2.heap.size (.int .i64 3) (.int .i64 0) (.string ⟨#[]⟩) v := hBW.keep (hg6.by_.block _ hBW.lt (fun h => by have := HRB2.out _ h.symm; omega))
      have hL6 := HL.out.push hEW (Fx := fun b => b = g9') (bdV_rep hs9 HXI.out rfl) (fun b hb => by subst hb; omega) (fun u hu => by simp [listC] at hu; rcases hu with rfl | rfl | rfl | rfl <;> rfl) hg6 (by rw [HLen.out]; simpa using ho6) (by omega : w2.heap.size < w2.heap.size + 1) (fun b hb => by rcases hb with hb | rfl; have := HF.out b hb; omega; omega) (.slice ac6 (j + 1) cc6)
      have HL6 := Lib.hid hL6
      have HX6 := Lib.hid hX6
      have HB6 := Lib.hid hB6
      have HF6 : Hid (∀ b, (F b ∨ (b = g9' ∧ b < W.heap.size)) → w2.heap.size + 1 ≤ b) := Lib.hid fun b hb => by
        rcases hb with hb | ⟨rfl, _⟩
        · exact HF.out b hb
        · omega
      clear hL6 hX6 hBW hoW ho6 hg6 hs9 hs10 hEW
      refine hK _ _ ?_
      clear hK K
      simp only [Act.put, List.setIfInBounds_toArray]
      obtain ⟨m0, m1, m2, m3, mz⟩ := hB6
      have mz3 := mz 3
      clear mz
      refine wpAny_ready (rs := [20]) (by kernel_rfl) (by simp) ?_
      refine AllReady.cons rfl (fun K hK => ?_) AllReady.nil
      go_simp
      refine hK _ _ ?_
      clear hK K
      refine wpAny_ready (rs := [21]) (by kernel_rfl) (by simp) ?_
      refine AllReady.cons rfl (fun K hK => ?_) AllReady.nil
      go_simp
      refine hK _ _ ?_
      clear hK K
      refine wpAny_done (by kernel_rfl) ?_ _
      go_wp2_with fail
      go_roundw
      case rel => exact ⟨j + 1, .slice ac6 (j + 1) cc6, _, _, by go_num, by omega, HX6.out.setCell (by simp) _, HB6.out.set3 _, by rw [HMT.out]; exact HL6.out, HF6.out⟩
      case measure => simp [intOf] <;> omega
    · have hji : ¬ (j : Int) < (ch.length : Int) := by omega
      obtain rfl : j = ch.length := by omega
      have hL := HL.out
      rw [List.take_length] at hL
      obtain ⟨la, lcap, rfl, hlr⟩ := hL.sliceF HF.out
      rw [List.length_map] at hlr
      have hlen : (ch.map bdV).length = ch.length := List.length_map _
      rw [hlen] at HL HB
      have HLR : Hid (∀ W, Ext wr W → RepV W (fun b => w2.heap.size + 1 ≤ b ∧ b < W.heap.size) (listC la ch.length lcap) (listV (ch.map bdV))) := Lib.hid fun W hE => (hlr.ext hE).weaken fun b hb => ⟨hb.1, Nat.lt_of_lt_of_le hb.2 hE.size⟩
      clear hL hlr hlen
      obtain ⟨b0, b1, b2, b3, b4, b5, b6, b7, b8, -⟩ := (HB0.out.ext (HX2.out.trans HEr.out))
      try dsimp only at b0 b1 b2 b3 b4 b5 b6 b7 b8
      have gb0 := grow_cell b0
      have gb1 := grow_cell b1
      have gb2 := grow_cell b2
      have gb3 := grow_cell b3
      have gb4 := grow_cell b4
      have gb6 := grow_cell b6
      have gb7 := grow_cell b7
      have gb8 := grow_cell b8
      have gm0 := grow_cell HB.out.c0
      have gm1 := grow_cell HB.out.c1
      have gm2 := grow_cell HB.out.c2
      have gm3 := grow_cell HB.out.c3
      clear b0 b1 b2 b3 b4 b5 b6 b7 b8
      have HRZ := Lib.hid (HZ0.out.ext (HX2.out.trans HEr.out))
      go_wp2_with fail
      refine wp_region_rel (fun i => if i = 2 then some (spV (.agg #[.int .i64 1, .int .i64 c, .string ⟨#[]⟩, .slice none 0 0])) else if i = 5 then some (spV (.agg #[.int .i64 1, .int .i64 n, .string ⟨#[]⟩, .slice none 0 0])) else if i = 8 then some (spV (.agg #[.int .i64 1, .int .i64 s, .string ⟨#[]⟩, .slice none 0 0])) else if i = 11 then some (spV (.agg #[.int .i64 1, .int .i64 k, .string ⟨#[]⟩, .slice none 0 0])) else if i = 14 then some (spV (.agg #[.int .i64 1, .int .i64 t, .string ⟨#[]⟩, .slice none 0 0])) else if i = 19 then some (spV (.agg #[.int .i64 1, .int .i64 g, .string ⟨#[]⟩, .slice none 0 0])) else if i = 23 then some (spV (.agg #[.int .i64 1, .int .i64 h, .string ⟨#[]⟩, .slice none 0 0])) else if i = 26 then some (spV (.agg #[.int .i64 1, .int .i64 y, .string ⟨#[]⟩, .slice none 0 0])) else if i = 27 then some (spNineF (w2.heap.size + 1) (nineC ⟨c, n, s, k, t, ch, g, h, y⟩ (listC la ch.length lcap))) else if i = 28 then some (spNineLF (w2.heap.size + 1) (nineC ⟨c, n, s, k, t, ch, g, h, y⟩ (listC la ch.length lcap))) else none) 29 1 (by kernel_rfl) (by kernel_rfl) ?_
      simp only [List.take_succ_cons, List.take_zero]
      repeat (first
        | (refine wpRel_quick ?_ ?_ ?_ ?_
           · rfl
           · rfl
           · first | exact noEnter rfl | (intro f args W W'; go_simp)
           intro K hK
           go_big_quiet_op
           go_big_quiet_on)
        | (refine wpRel_skip ?_ ?_
           · rfl
           simp only [Act.put, List.setIfInBounds_toArray, List.set_cons_zero, List.set_cons_succ]))
      refine wpRel_rich _ rfl rfl (fun W hW => ?_) (fun v W3 hW3 hv => ?_)
      · have hc := refNumL_any c W
        go_simp
        refine Calls.mono hc ?_
        rintro e w' ⟨rfl, h⟩
        exact ⟨_, rfl, rfl, by first | exact h | (subst h; exact Ext.refl _)⟩
      obtain rfl := hv
      clear hW3
      simp only [Act.put, List.setIfInBounds_toArray, List.set_cons_zero, List.set_cons_succ]
      repeat (first
        | (refine wpRel_quick ?_ ?_ ?_ ?_
           · rfl
           · rfl
           · first | exact noEnter rfl | (intro f args W W'; go_simp)
           intro K hK
           go_big_quiet_op
           go_big_quiet_on)
        | (refine wpRel_skip ?_ ?_
           · rfl
           simp only [Act.put, List.setIfInBounds_toArray, List.set_cons_zero, List.set_cons_succ]))
      refine wpRel_rich _ rfl rfl (fun W hW => ?_) (fun v W3 hW3 hv => ?_)
      · have hc := refNumL_any n W
        go_simp
        refine Calls.mono hc ?_
        rintro e w' ⟨rfl, h⟩
        exact ⟨_, rfl, rfl, by first | exact h | (subst h; exact Ext.refl _)⟩
      obtain rfl := hv
      clear hW3
      simp only [Act.put, List.setIfInBounds_toArray, List.set_cons_zero, List.set_cons_succ]
      repeat (first
        | (refine wpRel_quick ?_ ?_ ?_ ?_
           · rfl
           · rfl
           · first | exact noEnter rfl | (intro f args W W'; go_simp)
           intro K hK
           go_big_quiet_op
           go_big_quiet_on)
        | (refine wpRel_skip ?_ ?_
           · rfl
           simp only [Act.put, List.setIfInBounds_toArray, List.set_cons_zero, List.set_cons_succ]))
      refine wpRel_rich _ rfl rfl (fun W hW => ?_) (fun v W3 hW3 hv => ?_)
      · have hc := refNumL_any s W
        go_simp
        refine Calls.mono hc ?_
        rintro e w' ⟨rfl, h⟩
        exact ⟨_, rfl, rfl, by first | exact h | (subst h; exact Ext.refl _)⟩
      obtain rfl := hv
      clear hW3
      simp only [Act.put, List.setIfInBounds_toArray, List.set_cons_zero, List.set_cons_succ]
      repeat (first
        | (refine wpRel_quick ?_ ?_ ?_ ?_
           · rfl
           · rfl
           · first | exact noEnter rfl | (intro f args W W'; go_simp)
           intro K hK
           go_big_quiet_op
           go_big_quiet_on)
        | (refine wpRel_skip ?_ ?_
           · rfl
           simp only [Act.put, List.setIfInBounds_toArray, List.set_cons_zero, List.set_cons_succ]))
      refine wpRel_rich _ rfl rfl (fun W hW => ?_) (fun v W3 hW3 hv => ?_)
      · have hc := refNumL_any k W
        go_simp
        refine Calls.mono hc ?_
        rintro e w' ⟨rfl, h⟩
        exact ⟨_, rfl, rfl, by first | exact h | (subst h; exact Ext.refl _)⟩
      obtain rfl := hv
      clear hW3
      simp only [Act.put, List.setIfInBounds_toArray, List.set_cons_zero, List.set_cons_succ]
      repeat (first
        | (refine wpRel_quick ?_ ?_ ?_ ?_
           · rfl
           · rfl
           · first | exact noEnter rfl | (intro f args W W'; go_simp)
           intro K hK
           go_big_quiet_op
           go_big_quiet_on)
        | (refine wpRel_skip ?_ ?_
           · rfl
           simp only [Act.put, List.setIfInBounds_toArray, List.set_cons_zero, List.set_cons_succ]))
      refine wpRel_rich _ rfl rfl (fun W hW => ?_) (fun v W3 hW3 hv => ?_)
      · have hc := refNumL_any t W
        go_simp
        refine Calls.mono hc ?_
        rintro e w' ⟨rfl, h⟩
        exact ⟨_, rfl, rfl, by first | exact h | (subst h; exact Ext.refl _)⟩
      obtain rfl := hv
      clear hW3
      simp only [Act.put, List.setIfInBounds_toArray, List.set_cons_zero, List.set_cons_succ]
      repeat (first
        | (refine wpRel_quick ?_ ?_ ?_ ?_
           · rfl
           · rfl
           · first | exact noEnter rfl | (intro f args W W'; go_simp)
           intro K hK
           go_big_quiet_op
           go_big_quiet_on)
        | (refine wpRel_skip ?_ ?_
           · rfl
           simp only [Act.put, List.setIfInBounds_toArray, List.set_cons_zero, List.set_cons_succ]))
      refine wpRel_rich _ rfl rfl (fun W hW => ?_) (fun v W3 hW3 hv => ?_)
      · have hc := refNumL_any g W
        go_simp
        refine Calls.mono hc ?_
        rintro e w' ⟨rfl, h⟩
        exact ⟨_, rfl, rfl, by first | exact h | (subst h; exact Ext.refl _)⟩
      obtain rfl := hv
      clear hW3
      simp only [Act.put, List.setIfInBounds_toArray, List.set_cons_zero, List.set_cons_succ]
      repeat (first
        | (refine wpRel_quick ?_ ?_ ?_ ?_
           · rfl
           · rfl
           · first | exact noEnter rfl | (intro f args W W'; go_simp)
           intro K hK
           go_big_quiet_op
           go_big_quiet_on)
        | (refine wpRel_skip ?_ ?_
           · rfl
           simp only [Act.put, List.setIfInBounds_toArray, List.set_cons_zero, List.set_cons_succ]))
      refine wpRel_rich _ rfl rfl (fun W hW => ?_) (fun v W3 hW3 hv => ?_)
      · have hc := refNumL_any h W
        go_simp
        refine Calls.mono hc ?_
        rintro e w' ⟨rfl, h⟩
        exact ⟨_, rfl, rfl, by first | exact h | (subst h; exact Ext.refl _)⟩
      obtain rfl := hv
      clear hW3
      simp only [Act.put, List.setIfInBounds_toArray, List.set_cons_zero, List.set_cons_succ]
      repeat (first
        | (refine wpRel_quick ?_ ?_ ?_ ?_
           · rfl
           · rfl
           · first | exact noEnter rfl | (intro f args W W'; go_simp)
           intro K hK
           go_big_quiet_op
           go_big_quiet_on)
        | (refine wpRel_skip ?_ ?_
           · rfl
           simp only [Act.put, List.setIfInBounds_toArray, List.set_cons_zero, List.set_cons_succ]))
      refine wpRel_rich _ rfl rfl (fun W hW => ?_) (fun v W3 hW3 hv => ?_)
      · have hc := refNumL_any y W
        go_simp
        refine Calls.mono hc ?_
        rintro e w' ⟨rfl, h⟩
        exact ⟨_, rfl, rfl, by first | exact h | (subst h; exact Ext.refl _)⟩
      obtain rfl := hv
      clear hW3
      simp only [Act.put, List.setIfInBounds_toArray, List.set_cons_zero, List.set_cons_succ]
      repeat (first
        | (refine wpRel_quick ?_ ?_ ?_ ?_
           · rfl
           · rfl
           · first | exact noEnter rfl | (intro f args W W'; go_simp)
           intro K hK
           go_big_quiet_op
           go_big_quiet_on)
        | (refine wpRel_skip ?_ ?_
           · rfl
           simp only [Act.put, List.setIfInBounds_toArray, List.set_cons_zero, List.set_cons_succ]))
      refine wpRel_rich _ rfl rfl (fun W hW => ?_) (fun v27 W27 hW27 hv => ?_)
      · go_simp
        exact ⟨⟨_, rfl, by have h1 : wr.heap.size ≤ W.heap.size := hW.1.size; have h2 := HB.out.lt; omega, sl_news W (nineC ⟨c, n, s, k, t, ch, g, h, y⟩ (listC la ch.length lcap)) 4 9 _ (by simp [nineC, numC, listC]) rfl (by omega)⟩, (Ext.refl _).alloc _⟩
      obtain ⟨g27, rfl, _, _⟩ := hv
      clear hW27
      simp only [Act.put, List.setIfInBounds_toArray, List.set_cons_zero, List.set_cons_succ]
      repeat (first
        | (refine wpRel_quick ?_ ?_ ?_ ?_
           · rfl
           · rfl
           · first | exact noEnter rfl | (intro f args W W'; go_simp)
           intro K hK
           go_big_quiet_op
           go_big_quiet_on)
        | (refine wpRel_skip ?_ ?_
           · rfl
           simp only [Act.put, List.setIfInBounds_toArray, List.set_cons_zero, List.set_cons_succ]))
      refine wpRel_rich _ rfl rfl (fun W hW => ?_) (fun v28 W28 hW28 hv => ?_)
      · obtain ⟨g27', he, hd27, hs27⟩ := hW.2 27 (by unfold Anc; kernel_rfl) _ _ rfl rfl
        cases he
        have hc := refListL_any (some ⟨g27, 0, none⟩) 9 9 W
        go_simp
        refine Calls.mono hc ?_
        rintro e w' ⟨rfl, h⟩
        exact ⟨_, rfl, ⟨_, rfl, hd27, hs27.ext h⟩, h⟩
      obtain ⟨g28, rfl, _, _⟩ := hv
      clear hW28
      simp only [Act.put, List.setIfInBounds_toArray, List.set_cons_zero, List.set_cons_succ]
      repeat (first
        | (refine wpRel_quick ?_ ?_ ?_ ?_
           · rfl
           · rfl
           · first | exact noEnter rfl | (intro f args W W'; go_simp)
           intro K hK
           go_big_quiet_op
           go_big_quiet_on)
        | (refine wpRel_skip ?_ ?_
           · rfl
           simp only [Act.put, List.setIfInBounds_toArray, List.set_cons_zero, List.set_cons_succ]))
      refine wpRel_nil ?_
      intro W hW
      obtain ⟨g28', he, hd28, hs28⟩ := hW.2 28 trivial _ _ rfl rfl
      cases he
      have hEW := (Ext.refl wr).drew.trans hW.1
      have hR := HREP.out W g28 _ (fun b => w2.heap.size + 1 ≤ b ∧ b < W.heap.size) hs28 ⟨hd28, by have := hs28.blk (by omega) _ rfl (by simp [nineC]); simpa using this⟩ (HLR.out W hEW)
      have hz := HRZ.out.ext hEW
      have hq : (w.alloc (.cells #[.int .i64 c, .int .i64 n, .int .i64 s, .int .i64 k, .int .i64 t, .slice ao ch.length cap, .int .i64 g, .int .i64 h, .int .i64 y] 26)).heap.size = w.heap.size + 1 := HS0.out.2
      rw [hq] at hz
      have hw2 : w.heap.size + 2 ≤ w2.heap.size := by have h1 := HX2.out.size; have h2 := HS0.out.1; omega
      have HR := Lib.hid hR
      have HXF := Lib.hid (HX.out.trans (HX2.out.trans (HEr.out.trans hEW)))
      obtain ⟨z0, z1, z2, z3, zz⟩ := hz
      have zz0 := zz 0
      have zz1 := zz 1
      have zz2 := zz 2
      have zz3 := zz 3
      clear hW hs28 hR hEW zz gb5 gb0 gb1 gb2 gb3 gb4 gb6 gb7 gb8 gm0 gm1 gm2 gm3
      refine wpAny_ready (rs := [29]) (by kernel_rfl) (by simp) ?_
      refine AllReady.cons rfl (fun K hK => ?_) AllReady.nil
      go_simp
      refine hK _ _ ?_
      clear hK K
      refine wpAny_done (by kernel_rfl) ?_ _
      go_wp2_with fail
      have hfar : ∀ b, (w2.heap.size + 1 ≤ b ∧ b < W.heap.size) → b ≠ w.heap.size + 1 := fun b hb => by omega
      refine bodyPost_ret (v := .agg (listC (some ⟨g28, 0, none⟩) 9 9).toArray) ?_ rfl ⟨g28, rfl, ((((HR.out.far hfar).far hfar).far hfar).far hfar).weaken (fun b hb => by simpa using hb.2), (((HXF.out.setCell (by show w.heap.size ≤ w.heap.size + 1; omega) _).setCell (by show w.heap.size ≤ w.heap.size + 1; omega) _).setCell (by show w.heap.size ≤ w.heap.size + 1; omega) _).setCell (by show w.heap.size ≤ w.heap.size + 1; omega) _⟩
      simp [results, Tryd.results35, go_sem, listC, z0, z1, z2, z3]
set_option maxRecDepth 100000 in
set_option maxHeartbeats 6400000 in
theorem refEncodeQ_bad (r : Rq) (ao : Option Addr) (cap : Nat) (w : World) (hr : RepB w ao cap r.ch) (hv : validQ r = false) : Calls Tryd.prog 14 #[.agg (r.cells ao cap).toArray] w fun e w' => e = .returned (.tuple #[.slice none 0 0, .int .i64 290]) ∧ Ext w w' := by
  have hX : Ext w (w.alloc (.cells (r.cells ao cap).toArray 26)) := (Ext.refl w).alloc _
  have HC : Hid (Calls Tryd.prog 33 #[.agg (r.cells ao cap).toArray] (w.alloc (.cells (r.cells ao cap).toArray 26)) fun e w' => e = .returned (.bool false) ∧ Ext w w') := Lib.hid ((refValid_any r ao cap _ (hr.ext hX)).mono fun e w' ⟨h1, h2⟩ => ⟨by rw [h1, hv], hX.trans h2⟩)
  clear hr hX hv
  unfold Rq.cells at *
  obtain ⟨c, n, s, k, t, ch, g, h, y⟩ := r
  dsimp only at *
  go_enter Tryd.func14, Tryd.ntmps14
  go_wp2_with (go_at_call 33; refine HC.out.mono ?_; rintro e w1 ⟨rfl, hX⟩)
  go_ret2
  exact ⟨rfl, hX⟩
set_option maxRecDepth 100000 in
set_option maxHeartbeats 6400000 in
theorem refEncodeQ_ok (r : Rq) (ao : Option Addr) (cap : Nat) (w : World) (hr : RepB w ao cap r.ch) (hv : validQ r = true) : Calls Tryd.prog 14 #[.agg (r.cells ao cap).toArray] w fun e w' => ∃ a d, e = .returned (.tuple #[.slice a (encV r).enc.length d, .int .i64 0]) ∧ SL w' 1 a d (br (encV r).enc) ∧ Ext w w' := by
  have hX : Ext w (w.alloc (.cells (r.cells ao cap).toArray 26)) := (Ext.refl w).alloc _
  have HB0 := Lib.hid (BoxQ.new w r ao cap 26 w.heap.size rfl)
  obtain ⟨hok, hin, hl8⟩ := validQ_in hv
  have HC : Hid (Calls Tryd.prog 33 #[.agg (r.cells ao cap).toArray] (w.alloc (.cells (r.cells ao cap).toArray 26)) fun e w' => e = .returned (.bool true) ∧ Ext (w.alloc (.cells (r.cells ao cap).toArray 26)) w') := Lib.hid ((refValid_any r ao cap _ (hr.ext hX)).mono fun e w' ⟨h1, h2⟩ => ⟨by rw [h1, hv], h2⟩)
  have HV : Hid (∀ W, Ext (w.alloc (.cells (r.cells ao cap).toArray 26)) W → Calls Tryd.prog 35 #[.agg (r.cells ao cap).toArray] W fun e w' => ∃ g, e = .returned (.agg (listC (some ⟨g, 0, none⟩) 9 9).toArray) ∧ RepV w' (fun b => b < w'.heap.size) (listC (some ⟨g, 0, none⟩) 9 9) (encV r) ∧ Ext W w') := Lib.hid fun W hE => refValue_any r ao cap W ((hr.ext hX).ext hE) hok hin hl8
  have HE : Hid (∀ W cs, RepV W (fun b => b < W.heap.size) cs (encV r) → Calls Tryd.prog 34 #[.agg cs.toArray] W fun e w' => ∃ a d, e = .returned (.tuple #[.slice a (encV r).enc.length d, .int .i64 0]) ∧ SL w' 1 a d (br (encV r).enc) ∧ Ext W w') := Lib.hid fun W cs hR => by
    have := refEncode_sl (encV r) (encV_ht r) W _ cs hR (by have := encV_len hok hin hl8; omega)
    rw [encV_out, encV_check] at this
    exact this
  have HX := Lib.hid hX
  clear hr hX hv hok hin
  unfold Rq.cells at *
  obtain ⟨c, n, s, k, t, ch, g, h, y⟩ := r
  dsimp only at *
  go_enter Tryd.func14, Tryd.ntmps14
  go_wp2_with (first | (go_at_call 33; refine HC.out.mono ?_; rintro e w1 ⟨rfl, hX1⟩; obtain ⟨b0, b1, b2, b3, b4, b5, b6, b7, b8, -⟩ := HB0.out.ext hX1; dsimp only at b0 b1 b2 b3 b4 b5 b6 b7 b8) | (go_at_call 35; refine (HV.out _ hX1).mono ?_; rintro e w2 ⟨g2, rfl, hR2, hX2⟩; unfold listC at hR2 ⊢; clear b0 b1 b2 b3 b4 b5 b6 b7 b8) | (go_at_call 34; refine (HE.out _ _ hR2).mono ?_; rintro e w3 ⟨a, d, rfl, hs, hX3⟩))
  go_ret2
  exact ⟨a, d, rfl, hs, HX.out.trans (hX1.trans (hX2.trans hX3))⟩
end Go.Proofs.YtahaplioegeloaaDoor
