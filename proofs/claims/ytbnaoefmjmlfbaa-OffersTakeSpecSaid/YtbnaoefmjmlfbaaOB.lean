/- Offers: Take of the reference. -/
import Derived.Test.YtbnaoefmjmlfbaaOA
namespace Go.Proofs.Ytbnaoefmjmlfbaa
open Go.RowKit Go.Sz
set_option maxRecDepth 100000 in
set_option maxHeartbeats 6400000 in
theorem refTake_any (l : List Off) (s a b now : Int) (ao : Option Addr) (cap : Nat) (w : World) (h : RepO w ao cap l) (hb : l.length ≤ 100000) : Calls Try.prog 22 #[.slice ao l.length cap, .int .i64 s, .agg #[.int .i64 a, .int .i64 b], .int .i64 now] w (RetLE (takeO l s a b now) w) := by
  obtain ⟨i0, hi, hz0, hz1, hz2⟩ := info_parts infoO
  have hX0 : Ext w (w.alloc (.cells #[.int .i64 a, .int .i64 b] 24)) := (Ext.refl w).alloc _
  have HL := Lib.hid (h.ext hX0)
  have hs1 := h.max
  have hc1 : (cap : Int) ≤ 9223372036854775807 := by have := SL.max h; omega
  have hc2 : (l.length : Int) ≤ (cap : Int) := by have := SL.le h; rw [orows_length] at this; omega
  have HX0 := Lib.hid hX0
  have HBB := Lib.hid hb
  have HTB := Lib.hid (takeO_bad (l := l) (s := s) (a := a) (b := b) (now := now))
  have HTN := Lib.hid (takeO_none (l := l) (s := s) (a := a) (b := b) (now := now))
  have HTS := Lib.hid (fun i => takeO_some (l := l) (s := s) (a := a) (b := b) (now := now) (i := i))
  have HCV : Hid (checkO l = if okLO l = true then 0 else 310) := Lib.hid rfl
  have HFF := Lib.hid (findO_or l (isO s a b))
  clear h hX0 hb
  generalize takeO l s a b now = r at *
  cases hok : okLO l with
  | false =>
    have HR : Hid (r = ([], 310)) := Lib.hid (HTB.out hok)
    have HC : Hid (checkO l = 310) := Lib.hid (by rw [HCV.out, hok]; rfl)
    clear hok
    obtain ⟨fi, HFI⟩ : ∃ fi, Hid (findO l (isO s a b) = fi) := ⟨_, Lib.hid rfl⟩
    go_enter Try.func22, Try.ntmps22
    go_wp2_with (first
        | (go_at_call 29; refine (at_any l s a b _ _ _ HL.out).mono ?_; rintro e w1 ⟨rfl, hE1⟩; rw [HFI.out]; have HE1 := Lib.hid hE1; clear hE1)
        | (go_at_call 15; refine (refCheck_any l _ _ _ (HL.out.ext HE1.out)).mono ?_; rintro e w2 ⟨rfl, hE2⟩; rw [HC.out]; have HE2 := Lib.hid (HE1.out.trans hE2); clear hE2))
    go_ret2
    exact ⟨none, 0, by rw [HR.out]; rfl, by rw [HR.out]; exact RepO.empty _, HX0.out.trans HE2.out⟩
  | true =>
    have HOK := Lib.hid hok
    have HC : Hid (checkO l = 0) := Lib.hid (by rw [HCV.out, hok]; rfl)
    clear hok
    rcases findO_or' l (isO s a b) with hn | ⟨k, hk, hn, hfi⟩
    · have HR : Hid (r = ([], 310)) := Lib.hid (HTN.out HOK.out hn)
      have HF : Hid (findO l (isO s a b) = -1) := Lib.hid (by unfold findO; rw [hn])
      clear hn
      go_enter Try.func22, Try.ntmps22
      go_wp2_with (first
        | (go_at_call 29; refine (at_any l s a b _ _ _ HL.out).mono ?_; rintro e w1 ⟨rfl, hE1⟩; rw [HF.out]; have HE1 := Lib.hid hE1; clear hE1)
        | (go_at_call 15; refine (refCheck_any l _ _ _ (HL.out.ext HE1.out)).mono ?_; rintro e w2 ⟨rfl, hE2⟩; rw [HC.out]; have HE2 := Lib.hid (HE1.out.trans hE2); clear hE2))
      go_ret2
      exact ⟨none, 0, by rw [HR.out]; rfl, by rw [HR.out]; exact RepO.empty _, HX0.out.trans HE2.out⟩
    · have HF : Hid (findO l (isO s a b) = (k : Int)) := Lib.hid hfi
      have HR : Hid (r = if now < l[k].u then (l.eraseIdx k, 0) else ([], 310)) := Lib.hid (HTS.out k HOK.out hk hn)
      have hii : (k : Int) < (l.length : Int) := by omega
      obtain ⟨bb, o, rfl, _⟩ := o_cells HL.out (Ext.refl _) hk
      have HC3 : Hid (∀ W, Ext (w.alloc (.cells #[.int .i64 a, .int .i64 b] 24)) W → W.cell? ⟨bb, o + k * 4 + 3, none⟩ = some (.int .i64 l[k].u)) := Lib.hid fun W hE => by
        obtain ⟨b', o', e, _, _, _, h3⟩ := o_cells HL.out hE hk
        cases e
        exact h3
      clear hn hfi HTS HTB HTN
      generalize l[k] = y at *
      by_cases hu : now < y.u
      · have HR2 : Hid (r = (l.eraseIdx k, 0)) := Lib.hid (by rw [HR.out, if_pos hu])
        have hu' : ¬ y.u ≤ now := by omega
        have hck2 : ¬ (cap = k) := by omega
        go_enter Try.func22, Try.ntmps22
        go_wp2_with (first
        | (go_at_call 29; refine (at_any l s a b _ _ _ HL.out).mono ?_; rintro e w1 ⟨rfl, hE1⟩; rw [HF.out]; have HE1 := Lib.hid hE1; clear hE1)
        | (go_at_call 15; refine (refCheck_any l _ _ _ (HL.out.ext HE1.out)).mono ?_; rintro e w2 ⟨rfl, hE2⟩; rw [HC.out]; have HE2 := Lib.hid (HE1.out.trans hE2); clear hE2; have c3 := HC3.out _ HE2.out))
        by_cases hck : cap = k + 1
        · subst hck
          refine wp_region_rel (fun i => if i = 0 then some (spE w2.heap.size 26 4) else if i = 4 then some (spOwn w2.heap.size 26 4 k (orows (l.take k))) else none) 9 3 (by kernel_rfl) (by kernel_rfl) ?_
          simp only [List.take_succ_cons, List.take_zero]
          refine wpRel_rich _ rfl rfl (fun W hW => ?_) (fun v W1 hW1 hv => ?_)
          · go_simp
            exact ⟨⟨_, rfl, own_empty W _ hW.1.size _ _⟩, (Ext.refl _).alloc _⟩
          obtain ⟨g0, rfl, _⟩ := hv
          clear hW1
          simp only [Act.put, List.setIfInBounds_toArray, List.set_cons_zero, List.set_cons_succ]
          repeat (first
            | (refine wpRel_quick ?_ ?_ ?_ ?_
               · rfl
               · rfl
               · first | exact noEnter rfl | (intro f args W W'; go_simp)
               intro K hK
               go_big_quiet_op
               go_big_quiet_on)
            | (refine wpRel_skip ?_ ?_
               · rfl
               simp only [Act.put, List.setIfInBounds_toArray, List.set_cons_zero, List.set_cons_succ]))
          refine wpRel_rich _ rfl rfl (fun W hW => ?_) (fun v W2 hW2 hv => ?_)
          · obtain ⟨g1, hg1, ho⟩ := hW.2 0 (by unfold Anc; kernel_rfl) _ _ rfl rfl
            have hx : Ext w2 W := (Ext.refl w2).drew.trans hW.1
            refine g_append_fresh _ _ 22 22 rfl 26 i0 _ 4 32 Try.underlying22 hi hz0 hz1 hz2 rfl (by omega) _ hx.size g0 rfl ho _ k (orows (l.take k)) rfl ?_ (orows_wid _) (by rw [orows_length, List.length_take]; omega) (by have := HBB.out; unfold maxLen; omega) (by have := HBB.out; omega)
            exact o_src_take (HL.out.ext (HE2.out.trans hx)) (by omega) _
          clear hW2
          have hv' : W2.ownsRow w2.heap.size 26 4 v k (orows (l.take k)).flatten := hv
          obtain ⟨ac, cc, rfl, _, _⟩ := RepO.of_own hv' (by rw [List.length_take]; omega)
          clear hv hv'
          simp only [Act.put, List.setIfInBounds_toArray, List.set_cons_zero, List.set_cons_succ]
          repeat (first
            | (refine wpRel_quick ?_ ?_ ?_ ?_
               · rfl
               · rfl
               · first | exact noEnter rfl | (intro f args W W'; go_simp)
               intro K hK
               go_big_quiet_op
               go_big_quiet_on)
            | (refine wpRel_skip ?_ ?_
               · rfl
               simp only [Act.put, List.setIfInBounds_toArray, List.set_cons_zero, List.set_cons_succ]))
          refine wpRel_nil ?_
          intro W hW
          have ho3 : W.ownsRow w2.heap.size 26 4 (.slice ac k cc) k (orows (l.take k)).flatten := hW.2 4 trivial _ _ rfl rfl
          have hE : Ext w2 W := (Ext.refl w2).drew.trans hW.1
          have HSV : Hid (Src Try.prog 4 22 (.slice (some ⟨bb, o, none⟩) (l.length - (k + 1)) 0) (l.length - (k + 1)) (orows (l.drop (k + 1))).flatten W) := Lib.hid (o_src_none (by omega) _)
          have HO3 := Lib.hid ho3
          have HE := Lib.hid hE
          clear hW ho3 hE
          refine wpAny_ready (rs := [9]) (by kernel_rfl) (by simp) ?_
          refine AllReady.cons rfl (fun K hK => ?_) AllReady.nil
          refine step_append_S rfl _ _ 22 22 rfl w2.heap.size 26 i0 _ 4 32 Try.underlying22 hi hz0 hz1 hz2 rfl _ k _ rfl HO3.out _ (l.length - (k + 1)) (orows (l.drop (k + 1))).flatten rfl HSV.out (by have := HBB.out; unfold maxLen; omega) (by have := HBB.out; omega) HE.out.size ?_
          intro v6 w6 ho6 hg6
          refine hK _ _ ?_
          clear hK K
          have hB6 : Below w2.heap.size w2 w6 := Below.trans HE.out ((Below.refl _ W).grown hg6.by_ HE.out.size (ownsRow_blocks HO3.out))
          have HO6 := Lib.hid ho6
          have HB6 := Lib.hid hB6
          clear ho6 hg6 hB6
          refine wpAny_ready (rs := [10]) (by kernel_rfl) (by simp) ?_
          refine AllReady.cons rfl (fun K hK => ?_) AllReady.nil
          go_simp
          refine hK _ _ ?_
          clear hK K
          refine wpAny_ready (rs := [11]) (by kernel_rfl) (by simp) ?_
          refine AllReady.cons rfl (fun K hK => ?_) AllReady.nil
          go_simp
          refine hK _ _ ?_
          clear hK K
          refine wpAny_done (by kernel_rfl) ?_ _
          go_wp2_with fail
          go_ret2
          have ho8 : w6.ownsRow w2.heap.size 26 4 v6 (l.eraseIdx k).length (orows (l.eraseIdx k)).flatten := by
            rw [List.eraseIdx_eq_take_drop_succ, orows_append, List.flatten_append, List.length_append, List.length_take, List.length_drop, Nat.min_eq_left (by omega), show l.length - (k + 1) = (l.length - (k + 1)) by omega]
            exact HO6.out
          obtain ⟨ao5, cap5, hv5, hR5, _⟩ := RepO.of_own ho8 rfl
          exact ⟨ao5, cap5, by rw [HR2.out, hv5]; rfl, by rw [HR2.out]; exact hR5, HX0.out.trans (HE2.out.trans HB6.out)⟩
        · skip
          refine wp_region_rel (fun i => if i = 0 then some (spE w2.heap.size 26 4) else if i = 4 then some (spOwn w2.heap.size 26 4 k (orows (l.take k))) else none) 9 3 (by kernel_rfl) (by kernel_rfl) ?_
          simp only [List.take_succ_cons, List.take_zero]
          refine wpRel_rich _ rfl rfl (fun W hW => ?_) (fun v W1 hW1 hv => ?_)
          · go_simp
            exact ⟨⟨_, rfl, own_empty W _ hW.1.size _ _⟩, (Ext.refl _).alloc _⟩
          obtain ⟨g0, rfl, _⟩ := hv
          clear hW1
          simp only [Act.put, List.setIfInBounds_toArray, List.set_cons_zero, List.set_cons_succ]
          repeat (first
            | (refine wpRel_quick ?_ ?_ ?_ ?_
               · rfl
               · rfl
               · first | exact noEnter rfl | (intro f args W W'; go_simp)
               intro K hK
               go_big_quiet_op
               go_big_quiet_on)
            | (refine wpRel_skip ?_ ?_
               · rfl
               simp only [Act.put, List.setIfInBounds_toArray, List.set_cons_zero, List.set_cons_succ]))
          refine wpRel_rich _ rfl rfl (fun W hW => ?_) (fun v W2 hW2 hv => ?_)
          · obtain ⟨g1, hg1, ho⟩ := hW.2 0 (by unfold Anc; kernel_rfl) _ _ rfl rfl
            have hx : Ext w2 W := (Ext.refl w2).drew.trans hW.1
            refine g_append_fresh _ _ 22 22 rfl 26 i0 _ 4 32 Try.underlying22 hi hz0 hz1 hz2 rfl (by omega) _ hx.size g0 rfl ho _ k (orows (l.take k)) rfl ?_ (orows_wid _) (by rw [orows_length, List.length_take]; omega) (by have := HBB.out; unfold maxLen; omega) (by have := HBB.out; omega)
            exact o_src_take (HL.out.ext (HE2.out.trans hx)) (by omega) _
          clear hW2
          have hv' : W2.ownsRow w2.heap.size 26 4 v k (orows (l.take k)).flatten := hv
          obtain ⟨ac, cc, rfl, _, _⟩ := RepO.of_own hv' (by rw [List.length_take]; omega)
          clear hv hv'
          simp only [Act.put, List.setIfInBounds_toArray, List.set_cons_zero, List.set_cons_succ]
          repeat (first
            | (refine wpRel_quick ?_ ?_ ?_ ?_
               · rfl
               · rfl
               · first | exact noEnter rfl | (intro f args W W'; go_simp)
               intro K hK
               go_big_quiet_op
               go_big_quiet_on)
            | (refine wpRel_skip ?_ ?_
               · rfl
               simp only [Act.put, List.setIfInBounds_toArray, List.set_cons_zero, List.set_cons_succ]))
          refine wpRel_nil ?_
          intro W hW
          have ho3 : W.ownsRow w2.heap.size 26 4 (.slice ac k cc) k (orows (l.take k)).flatten := hW.2 4 trivial _ _ rfl rfl
          have hE : Ext w2 W := (Ext.refl w2).drew.trans hW.1
          have HSV : Hid (Src Try.prog 4 22 (.slice (some ⟨bb, o + (k + 1) * 4, none⟩) (l.length - (k + 1)) (cap - (k + 1))) (l.length - (k + 1)) (orows (l.drop (k + 1))).flatten W) := Lib.hid (o_src_drop (HL.out.ext (HE2.out.trans hE)) _)
          have HO3 := Lib.hid ho3
          have HE := Lib.hid hE
          clear hW ho3 hE
          refine wpAny_ready (rs := [9]) (by kernel_rfl) (by simp) ?_
          refine AllReady.cons rfl (fun K hK => ?_) AllReady.nil
          refine step_append_S rfl _ _ 22 22 rfl w2.heap.size 26 i0 _ 4 32 Try.underlying22 hi hz0 hz1 hz2 rfl _ k _ rfl HO3.out _ (l.length - (k + 1)) (orows (l.drop (k + 1))).flatten rfl HSV.out (by have := HBB.out; unfold maxLen; omega) (by have := HBB.out; omega) HE.out.size ?_
          intro v6 w6 ho6 hg6
          refine hK _ _ ?_
          clear hK K
          have hB6 : Below w2.heap.size w2 w6 := Below.trans HE.out ((Below.refl _ W).grown hg6.by_ HE.out.size (ownsRow_blocks HO3.out))
          have HO6 := Lib.hid ho6
          have HB6 := Lib.hid hB6
          clear ho6 hg6 hB6
          refine wpAny_ready (rs := [10]) (by kernel_rfl) (by simp) ?_
          refine AllReady.cons rfl (fun K hK => ?_) AllReady.nil
          go_simp
          refine hK _ _ ?_
          clear hK K
          refine wpAny_ready (rs := [11]) (by kernel_rfl) (by simp) ?_
          refine AllReady.cons rfl (fun K hK => ?_) AllReady.nil
          go_simp
          refine hK _ _ ?_
          clear hK K
          refine wpAny_done (by kernel_rfl) ?_ _
          go_wp2_with fail
          go_ret2
          have ho8 : w6.ownsRow w2.heap.size 26 4 v6 (l.eraseIdx k).length (orows (l.eraseIdx k)).flatten := by
            rw [List.eraseIdx_eq_take_drop_succ, orows_append, List.flatten_append, List.length_append, List.length_take, List.length_drop, Nat.min_eq_left (by omega), show l.length - (k + 1) = (l.length - (k + 1)) by omega]
            exact HO6.out
          obtain ⟨ao5, cap5, hv5, hR5, _⟩ := RepO.of_own ho8 rfl
          exact ⟨ao5, cap5, by rw [HR2.out, hv5]; rfl, by rw [HR2.out]; exact hR5, HX0.out.trans (HE2.out.trans HB6.out)⟩
      · have HR2 : Hid (r = ([], 310)) := Lib.hid (by rw [HR.out, if_neg hu])
        have hu' : y.u ≤ now := by omega
        go_enter Try.func22, Try.ntmps22
        go_wp2_with (first
        | (go_at_call 29; refine (at_any l s a b _ _ _ HL.out).mono ?_; rintro e w1 ⟨rfl, hE1⟩; rw [HF.out]; have HE1 := Lib.hid hE1; clear hE1)
        | (go_at_call 15; refine (refCheck_any l _ _ _ (HL.out.ext HE1.out)).mono ?_; rintro e w2 ⟨rfl, hE2⟩; rw [HC.out]; have HE2 := Lib.hid (HE1.out.trans hE2); clear hE2; have c3 := HC3.out _ HE2.out))
        go_ret2
        exact ⟨none, 0, by rw [HR2.out]; rfl, by rw [HR2.out]; exact RepO.empty _, HX0.out.trans HE2.out⟩
end Go.Proofs.Ytbnaoefmjmlfbaa
