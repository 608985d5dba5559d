/- Waiting: Leave of the reference. -/
import Derived.Test.YtbhpeecebcihkaaWB
namespace Go.Proofs.Ytbhpeecebcihkaa
open Go.RowKit Go.Sz
set_option maxRecDepth 100000 in
set_option maxHeartbeats 6400000 in
theorem refLeave_any (l : List Wt) (s a b : Int) (ao : Option Addr) (cap : Nat) (w : World) (h : RepW w ao cap l) (hb : l.length ≤ 100000) : Calls Try.prog 15 #[.slice ao l.length cap, .int .i64 s, .agg #[.int .i64 a, .int .i64 b]] w (RetLE (leaveW l s a b) w) := by
  obtain ⟨i0, hi, hz0, hz1, hz2⟩ := info_parts infoW
  have hX0 : Ext w (w.alloc (.cells #[.int .i64 a, .int .i64 b] 24)) := (Ext.refl w).alloc _
  have HL := Lib.hid (h.ext hX0)
  have hs1 := h.max
  have hc1 : (cap : Int) ≤ 9223372036854775807 := by have := SL.max h; omega
  have hc2 : (l.length : Int) ≤ (cap : Int) := by have := SL.le h; rw [wrows_length] at this; omega
  have d0 : (w.alloc (.cells #[.int .i64 a, .int .i64 b] 24)).cell? ⟨w.heap.size, 0, none⟩ = some (.int .i64 a) := by simp
  have d1 : (w.alloc (.cells #[.int .i64 a, .int .i64 b] 24)).cell? ⟨w.heap.size, 1, none⟩ = some (.int .i64 b) := by simp
  have HD : Hid (∀ W, Ext (w.alloc (.cells #[.int .i64 a, .int .i64 b] 24)) W → W.cell? ⟨w.heap.size, 0, none⟩ = some (.int .i64 a) ∧ W.cell? ⟨w.heap.size, 1, none⟩ = some (.int .i64 b)) := Lib.hid fun W hE => ⟨hE.cell d0, hE.cell d1⟩
  have HX0 := Lib.hid hX0
  have HBB := Lib.hid hb
  have HTB := Lib.hid (leaveW_bad (l := l) (s := s) (a := a) (b := b))
  have HTN := Lib.hid (leaveW_none (l := l) (s := s) (a := a) (b := b))
  have HTS := Lib.hid (fun i => leaveW_some (l := l) (s := s) (a := a) (b := b) (i := i))
  have HCV : Hid (checkW l = if okLW l = true then 0 else 260) := Lib.hid rfl
  clear h hX0 d0 d1 hb
  generalize leaveW l s a b = r at *
  cases hok : okLW l with
  | false =>
    have HR : Hid (r = ([], 260)) := Lib.hid (HTB.out hok)
    have HC : Hid (checkW l = 260) := Lib.hid (by rw [HCV.out, hok]; rfl)
    clear hok
    go_enter Try.func15, Try.ntmps15
    go_wp2_with (first
      | (go_at_call 18; refine (refCheckW_any l _ _ _ HL.out).mono ?_; rintro e w1 ⟨rfl, hE1⟩; rw [HC.out]; have HE1 := Lib.hid hE1; clear hE1; obtain ⟨d0, d1⟩ := HD.out w1 HE1.out))
    go_ret2
    exact ⟨none, 0, by rw [HR.out]; rfl, by rw [HR.out]; exact RepW.empty _, HX0.out.trans HE1.out⟩
  | true =>
    have HOK := Lib.hid hok
    have HC : Hid (checkW l = 0) := Lib.hid (by rw [HCV.out, hok]; rfl)
    clear hok
    rcases findW_or' l (isW s a b) with hn | ⟨k, hk, hn, hfi⟩
    · have HR : Hid (r = ([], 260)) := Lib.hid (HTN.out hn)
      have HF : Hid (findW l (isW s a b) = -1) := Lib.hid (by unfold findW; rw [hn])
      clear hn
      go_enter Try.func15, Try.ntmps15
      go_wp2_with (first
        | (go_at_call 18; refine (refCheckW_any l _ _ _ HL.out).mono ?_; rintro e w1 ⟨rfl, hE1⟩; rw [HC.out]; have HE1 := Lib.hid hE1; clear hE1; obtain ⟨d0, d1⟩ := HD.out w1 HE1.out)
        | (go_at_call 35; refine (index_any l s a b _ _ _ (HL.out.ext HE1.out)).mono ?_; rintro e w2 ⟨rfl, hE2⟩; rw [HF.out]; have HE2 := Lib.hid (HE1.out.trans hE2); clear hE2 d0 d1))
      go_ret2
      exact ⟨none, 0, by rw [HR.out]; rfl, by rw [HR.out]; exact RepW.empty _, HX0.out.trans HE2.out⟩
    · have HF : Hid (findW l (isW s a b) = (k : Int)) := Lib.hid hfi
      have HR : Hid (r = (l.eraseIdx k, 0)) := Lib.hid (HTS.out k HOK.out hn)
      have hii : (k : Int) < (l.length : Int) := by omega
      obtain ⟨bb, o, rfl, _⟩ := w_cells HL.out (Ext.refl _) hk
      have hck2 : ¬ (cap = k) := by omega
      clear hn hfi HTS HTB HTN
      go_enter Try.func15, Try.ntmps15
      go_wp2_with (first
        | (go_at_call 18; refine (refCheckW_any l _ _ _ HL.out).mono ?_; rintro e w1 ⟨rfl, hE1⟩; rw [HC.out]; have HE1 := Lib.hid hE1; clear hE1; obtain ⟨d0, d1⟩ := HD.out w1 HE1.out)
        | (go_at_call 35; refine (index_any l s a b _ _ _ (HL.out.ext HE1.out)).mono ?_; rintro e w2 ⟨rfl, hE2⟩; rw [HF.out]; have HE2 := Lib.hid (HE1.out.trans hE2); clear hE2 d0 d1))
      by_cases hck : cap = k + 1
      · subst hck
        refine wp_region_rel (fun i => if i = 0 then some (spE w2.heap.size 26 5) else if i = 4 then some (spOwn w2.heap.size 26 5 k (wrows (l.take k))) else none) 9 3 (by kernel_rfl) (by kernel_rfl) ?_
        simp only [List.take_succ_cons, List.take_zero]
        refine wpRel_rich _ rfl rfl (fun W hW => ?_) (fun v W1 hW1 hv => ?_)
        · go_simp
          exact ⟨⟨_, rfl, own_empty W _ hW.1.size _ _⟩, (Ext.refl _).alloc _⟩
        obtain ⟨g0, rfl, _⟩ := hv
        clear hW1
        simp only [Act.put, List.setIfInBounds_toArray, List.set_cons_zero, List.set_cons_succ]
        repeat (first
          | (refine wpRel_quick ?_ ?_ ?_ ?_
             · rfl
             · rfl
             · first | exact noEnter rfl | (intro f args W W'; go_simp)
             intro K hK
             go_big_quiet_op
             go_big_quiet_on)
          | (refine wpRel_skip ?_ ?_
             · rfl
             simp only [Act.put, List.setIfInBounds_toArray, List.set_cons_zero, List.set_cons_succ]))
        refine wpRel_rich _ rfl rfl (fun W hW => ?_) (fun v W2 hW2 hv => ?_)
        · obtain ⟨g1, hg1, ho⟩ := hW.2 0 (by unfold Anc; kernel_rfl) _ _ rfl rfl
          have hx : Ext w2 W := (Ext.refl w2).drew.trans hW.1
          refine g_append_fresh _ _ 22 22 rfl 26 i0 _ 5 40 Try.underlying22 hi hz0 hz1 hz2 rfl (by omega) _ hx.size g0 rfl ho _ k (wrows (l.take k)) rfl ?_ (wrows_wid _) (by rw [wrows_length, List.length_take]; omega) (by have := HBB.out; unfold maxLen; omega) (by have := HBB.out; omega)
          exact o_src_take (HL.out.ext (HE2.out.trans hx)) (by omega) _
        clear hW2
        have hv' : W2.ownsRow w2.heap.size 26 5 v k (wrows (l.take k)).flatten := hv
        obtain ⟨ac, cc, rfl, _, _⟩ := RepW.of_own hv' (by rw [List.length_take]; omega)
        clear hv hv'
        simp only [Act.put, List.setIfInBounds_toArray, List.set_cons_zero, List.set_cons_succ]
        repeat (first
          | (refine wpRel_quick ?_ ?_ ?_ ?_
             · rfl
             · rfl
             · first | exact noEnter rfl | (intro f args W W'; go_simp)
             intro K hK
             go_big_quiet_op
             go_big_quiet_on)
          | (refine wpRel_skip ?_ ?_
             · rfl
             simp only [Act.put, List.setIfInBounds_toArray, List.set_cons_zero, List.set_cons_succ]))
        refine wpRel_nil ?_
        intro W hW
        have ho3 : W.ownsRow w2.heap.size 26 5 (.slice ac k cc) k (wrows (l.take k)).flatten := hW.2 4 trivial _ _ rfl rfl
        have hE : Ext w2 W := (Ext.refl w2).drew.trans hW.1
        have HSV : Hid (Src Try.prog 5 22 (.slice (some ⟨bb, o, none⟩) (l.length - (k + 1)) 0) (l.length - (k + 1)) (wrows (l.drop (k + 1))).flatten W) := Lib.hid (o_src_none (by omega) _)
        have HO3 := Lib.hid ho3
        have HE := Lib.hid hE
        clear hW ho3 hE
        refine wpAny_ready (rs := [9]) (by kernel_rfl) (by simp) ?_
        refine AllReady.cons rfl (fun K hK => ?_) AllReady.nil
        refine step_append_S rfl _ _ 22 22 rfl w2.heap.size 26 i0 _ 5 40 Try.underlying22 hi hz0 hz1 hz2 rfl _ k _ rfl HO3.out _ (l.length - (k + 1)) (wrows (l.drop (k + 1))).flatten rfl HSV.out (by have := HBB.out; unfold maxLen; omega) (by have := HBB.out; omega) HE.out.size ?_
        intro v6 w6 ho6 hg6
        refine hK _ _ ?_
        clear hK K
        have hB6 : Below w2.heap.size w2 w6 := Below.trans HE.out ((Below.refl _ W).grown hg6.by_ HE.out.size (ownsRow_blocks HO3.out))
        have HO6 := Lib.hid ho6
        have HB6 := Lib.hid hB6
        clear ho6 hg6 hB6
        refine wpAny_ready (rs := [10]) (by kernel_rfl) (by simp) ?_
        refine AllReady.cons rfl (fun K hK => ?_) AllReady.nil
        go_simp
        refine hK _ _ ?_
        clear hK K
        refine wpAny_ready (rs := [11]) (by kernel_rfl) (by simp) ?_
        refine AllReady.cons rfl (fun K hK => ?_) AllReady.nil
        go_simp
        refine hK _ _ ?_
        clear hK K
        refine wpAny_done (by kernel_rfl) ?_ _
        go_wp2_with fail
        go_ret2
        have ho8 : w6.ownsRow w2.heap.size 26 5 v6 (l.eraseIdx k).length (wrows (l.eraseIdx k)).flatten := by
          rw [List.eraseIdx_eq_take_drop_succ, wrows_append, List.flatten_append, List.length_append, List.length_take, List.length_drop, Nat.min_eq_left (by omega), show l.length - (k + 1) = (l.length - (k + 1)) by omega]
          exact HO6.out
        obtain ⟨ao5, cap5, hv5, hR5, _⟩ := RepW.of_own ho8 rfl
        exact ⟨ao5, cap5, by rw [HR.out, hv5]; rfl, by rw [HR.out]; exact hR5, HX0.out.trans (HE2.out.trans HB6.out)⟩
      · skip
        refine wp_region_rel (fun i => if i = 0 then some (spE w2.heap.size 26 5) else if i = 4 then some (spOwn w2.heap.size 26 5 k (wrows (l.take k))) else none) 9 3 (by kernel_rfl) (by kernel_rfl) ?_
        simp only [List.take_succ_cons, List.take_zero]
        refine wpRel_rich _ rfl rfl (fun W hW => ?_) (fun v W1 hW1 hv => ?_)
        · go_simp
          exact ⟨⟨_, rfl, own_empty W _ hW.1.size _ _⟩, (Ext.refl _).alloc _⟩
        obtain ⟨g0, rfl, _⟩ := hv
        clear hW1
        simp only [Act.put, List.setIfInBounds_toArray, List.set_cons_zero, List.set_cons_succ]
        repeat (first
          | (refine wpRel_quick ?_ ?_ ?_ ?_
             · rfl
             · rfl
             · first | exact noEnter rfl | (intro f args W W'; go_simp)
             intro K hK
             go_big_quiet_op
             go_big_quiet_on)
          | (refine wpRel_skip ?_ ?_
             · rfl
             simp only [Act.put, List.setIfInBounds_toArray, List.set_cons_zero, List.set_cons_succ]))
        refine wpRel_rich _ rfl rfl (fun W hW => ?_) (fun v W2 hW2 hv => ?_)
        · obtain ⟨g1, hg1, ho⟩ := hW.2 0 (by unfold Anc; kernel_rfl) _ _ rfl rfl
          have hx : Ext w2 W := (Ext.refl w2).drew.trans hW.1
          refine g_append_fresh _ _ 22 22 rfl 26 i0 _ 5 40 Try.underlying22 hi hz0 hz1 hz2 rfl (by omega) _ hx.size g0 rfl ho _ k (wrows (l.take k)) rfl ?_ (wrows_wid _) (by rw [wrows_length, List.length_take]; omega) (by have := HBB.out; unfold maxLen; omega) (by have := HBB.out; omega)
          exact o_src_take (HL.out.ext (HE2.out.trans hx)) (by omega) _
        clear hW2
        have hv' : W2.ownsRow w2.heap.size 26 5 v k (wrows (l.take k)).flatten := hv
        obtain ⟨ac, cc, rfl, _, _⟩ := RepW.of_own hv' (by rw [List.length_take]; omega)
        clear hv hv'
        simp only [Act.put, List.setIfInBounds_toArray, List.set_cons_zero, List.set_cons_succ]
        repeat (first
          | (refine wpRel_quick ?_ ?_ ?_ ?_
             · rfl
             · rfl
             · first | exact noEnter rfl | (intro f args W W'; go_simp)
             intro K hK
             go_big_quiet_op
             go_big_quiet_on)
          | (refine wpRel_skip ?_ ?_
             · rfl
             simp only [Act.put, List.setIfInBounds_toArray, List.set_cons_zero, List.set_cons_succ]))
        refine wpRel_nil ?_
        intro W hW
        have ho3 : W.ownsRow w2.heap.size 26 5 (.slice ac k cc) k (wrows (l.take k)).flatten := hW.2 4 trivial _ _ rfl rfl
        have hE : Ext w2 W := (Ext.refl w2).drew.trans hW.1
        have HSV : Hid (Src Try.prog 5 22 (.slice (some ⟨bb, o + (k + 1) * 5, none⟩) (l.length - (k + 1)) (cap - (k + 1))) (l.length - (k + 1)) (wrows (l.drop (k + 1))).flatten W) := Lib.hid (o_src_drop (HL.out.ext (HE2.out.trans hE)) _)
        have HO3 := Lib.hid ho3
        have HE := Lib.hid hE
        clear hW ho3 hE
        refine wpAny_ready (rs := [9]) (by kernel_rfl) (by simp) ?_
        refine AllReady.cons rfl (fun K hK => ?_) AllReady.nil
        refine step_append_S rfl _ _ 22 22 rfl w2.heap.size 26 i0 _ 5 40 Try.underlying22 hi hz0 hz1 hz2 rfl _ k _ rfl HO3.out _ (l.length - (k + 1)) (wrows (l.drop (k + 1))).flatten rfl HSV.out (by have := HBB.out; unfold maxLen; omega) (by have := HBB.out; omega) HE.out.size ?_
        intro v6 w6 ho6 hg6
        refine hK _ _ ?_
        clear hK K
        have hB6 : Below w2.heap.size w2 w6 := Below.trans HE.out ((Below.refl _ W).grown hg6.by_ HE.out.size (ownsRow_blocks HO3.out))
        have HO6 := Lib.hid ho6
        have HB6 := Lib.hid hB6
        clear ho6 hg6 hB6
        refine wpAny_ready (rs := [10]) (by kernel_rfl) (by simp) ?_
        refine AllReady.cons rfl (fun K hK => ?_) AllReady.nil
        go_simp
        refine hK _ _ ?_
        clear hK K
        refine wpAny_ready (rs := [11]) (by kernel_rfl) (by simp) ?_
        refine AllReady.cons rfl (fun K hK => ?_) AllReady.nil
        go_simp
        refine hK _ _ ?_
        clear hK K
        refine wpAny_done (by kernel_rfl) ?_ _
        go_wp2_with fail
        go_ret2
        have ho8 : w6.ownsRow w2.heap.size 26 5 v6 (l.eraseIdx k).length (wrows (l.eraseIdx k)).flatten := by
          rw [List.eraseIdx_eq_take_drop_succ, wrows_append, List.flatten_append, List.length_append, List.length_take, List.length_drop, Nat.min_eq_left (by omega), show l.length - (k + 1) = (l.length - (k + 1)) by omega]
          exact HO6.out
        obtain ⟨ao5, cap5, hv5, hR5, _⟩ := RepW.of_own ho8 rfl
        exact ⟨ao5, cap5, by rw [HR.out, hv5]; rfl, by rw [HR.out]; exact hR5, HX0.out.trans (HE2.out.trans HB6.out)⟩
end Go.Proofs.Ytbhpeecebcihkaa
