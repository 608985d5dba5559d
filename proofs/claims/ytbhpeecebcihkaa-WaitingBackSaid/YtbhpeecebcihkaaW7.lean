/- Waiting: slices.Insert of one wait into a row of its own. -/
import Derived.Test.YtbhpeecebcihkaaW6
import Derived.Laws.Externs
import Derived.Lib.AppendZerosOnto
namespace Go.Sz
open Go.RowKit
def insW (l : List Wt) (k : Nat) (x : Wt) : List Wt := l.take k ++ x :: l.drop k
theorem insW_len (l : List Wt) (k : Nat) (x : Wt) : (insW l k x).length = l.length + 1 := by unfold insW; rw [List.length_append, List.length_cons, List.length_take, List.length_drop]; omega
theorem wins_flat (l : List Wt) (k : Nat) (x : Wt) : (wrows (insW l k x)).flatten = (wrows (l.take k)).flatten ++ x.enc ++ (wrows (l.drop k)).flatten := by
  unfold insW
  rw [wrows_append, List.flatten_append, List.append_assoc]
  rfl
theorem take_splice (c : List Value) (o : Nat) (cs : List Value) (h : o ≤ c.length) : (c.take o ++ cs ++ c.drop (o + cs.length)).take (o + cs.length) = c.take o ++ cs := by
  have h1 : (c.take o ++ cs).length = o + cs.length := by rw [List.length_append, List.length_take]; omega
  rw [← h1]
  exact List.take_left
theorem drop_splice (c : List Value) (o : Nat) (cs : List Value) (h : o ≤ c.length) : (c.take o ++ cs ++ c.drop (o + cs.length)).drop (o + cs.length) = c.drop (o + cs.length) := by
  have h1 : (c.take o ++ cs).length = o + cs.length := by rw [List.length_append, List.length_take]; omega
  rw [← h1, List.drop_left]
theorem len_splice (c : List Value) (o : Nat) (cs : List Value) (h : o + cs.length ≤ c.length) : (c.take o ++ cs ++ c.drop (o + cs.length)).length = c.length := by
  simp only [List.length_append, List.length_take, List.length_drop]; omega
theorem enc_len (x : Wt) : x.enc.length = 5 := rfl
theorem enc_one (x : Wt) : ∀ u ∈ x.enc, u.oneCell' = true := fun u hu => by
  simp only [Wt.enc, List.mem_cons, List.not_mem_nil, or_false] at hu
  rcases hu with rfl | rfl | rfl | rfl | rfl <;> rfl
theorem wflat_one (l : List Wt) : ∀ u ∈ (wrows l).flatten, u.oneCell' = true := fun u hu => by
  obtain ⟨r, hr, hu⟩ := List.mem_flatten.1 hu
  exact wrows_one _ r hr u hu
theorem cells_of_heap {w : World} {g : Nat} {c : List Value} {t : TypeId} (h : w.heap[g]? = some (.cells c.toArray t (0, 0))) (o : Nat) (j : Nat) (u : Value) (hu : (c.drop o)[j]? = some u) : w.cell? ((⟨g, o, none⟩ : Addr).add j) = some u := by
  rw [Addr.add_lit]
  simp only [World.cell?, h]
  rw [List.getElem?_drop] at hu
  simpa using hu
end Go.Sz
namespace Go.Proofs.Ytbhpeecebcihkaa
open Go.RowKit Go.Sz
/-- what Insert is to do -/
def Ins (D : Nat) (l : List Wt) (k : Nat) (x : Wt) (w : World) (e : Ending) (w' : World) : Prop := ∃ v', e = .returned v' ∧ w'.ownsRow D 26 5 v' (insW l k x).length (wrows (insW l k x)).flatten ∧ Below D w w'
set_option maxRecDepth 100000 in
set_option maxHeartbeats 6400000 in
theorem insert_end (l : List Wt) (D : Nat) (v : Value) (x : Wt) (vb : Nat) (w : World) (h : w.ownsRow D 26 5 v l.length (wrows l).flatten) (hD : D ≤ w.heap.size) (hb : l.length ≤ 100000) (hv : w.heap[vb]? = some (.cells x.enc.toArray 26 (0, 0))) : Calls Try.prog 32 #[v, .int .i64 l.length, .slice (some ⟨vb, 0, none⟩) 1 1] w (Ins D l l.length x w) := by
  obtain ⟨i0, hi, hz0, hz1, hz2⟩ := info_parts infoW
  have HO := Lib.hid h
  have HSRC : Hid (Src Try.prog 5 22 (.slice (some ⟨vb, 0, none⟩) 1 1) 1 x.enc w) := Lib.hid (Src.ofSlice w Try.underlying22 _ 1 1 _ (by rw [enc_len]) (fun j u hu => cells_of_heap hv 0 j u (by simpa using hu)) (enc_one x))
  obtain ⟨ao, cap, rfl, hR, _⟩ := RepW.of_own h rfl
  have hs1 := hR.max
  have hcm : (l.length : Int) ≤ (cap : Int) := by have := SL.le hR; rw [wrows_length] at this; omega
  have hc6 : (cap : Int) ≤ 9223372036854775807 := by have := SL.max hR; omega
  have HB := Lib.hid hb
  have HD := Lib.hid hD
  have HBK := Lib.hid (ownsRow_blocks h)
  clear h hR hv hb hD
  by_cases hc0 : cap = l.length
  all_goals
    go_enter Try.func32, Try.ntmps32
    go_wp2_with (at_builtin; refine wpList_append_S rfl _ _ 22 22 rfl D 26 i0 _ 5 40 Try.underlying22 hi hz0 hz1 hz2 rfl _ _ _ rfl HO.out (.slice (some ⟨vb, 0, none⟩) 1 1) 1 x.enc rfl HSRC.out (by have := HB.out; unfold maxLen; omega) (by have := HB.out; omega) HD.out ?_; intro v6 w6 ho6 hg6; have HO6 := Lib.hid ho6; have HG6 := Lib.hid hg6; clear ho6 hg6)
    go_ret
    refine ⟨_, rfl, ?_, (Below.refl D w).grown HG6.out.by_ HD.out HBK.out⟩
    rw [wins_flat, insW_len, List.take_length, List.drop_length]
    have := HO6.out
    simpa [wrows] using this
set_option maxRecDepth 100000 in
set_option maxHeartbeats 6400000 in
theorem insert_room (l : List Wt) (D k g cap : Nat) (x : Wt) (vb : Nat) (w : World) (h : w.ownsRow D 26 5 (.slice (some ⟨g, 0, none⟩) l.length cap) l.length (wrows l).flatten) (hD : D ≤ w.heap.size) (hk : k < l.length) (hroom : l.length + 1 ≤ cap) (hb : l.length ≤ 100000) (hv : w.heap[vb]? = some (.cells x.enc.toArray 26 (0, 0))) (hne : vb ≠ g) : Calls Try.prog 32 #[.slice (some ⟨g, 0, none⟩) l.length cap, .int .i64 k, .slice (some ⟨vb, 0, none⟩) 1 1] w (Ins D l k x w) := by
  obtain ⟨g', cap', cur, hvv, hDg, hg, hnc, hcm, hcs, htk⟩ := own_block h (by omega)
  cases hvv
  obtain ⟨c, hc⟩ : ∃ c : List Value, cur = c.toArray := ⟨cur.toList, rfl⟩
  subst hc
  simp only [List.size_toArray] at hcs htk
  have hc63 : (cap : Int) ≤ 9223372036854775807 := by unfold maxLen at hcm; omega
  have hki : (k : Int) < (l.length : Int) := by omega
  have hk0 : (0 : Int) ≤ (k : Int) := by omega
  have hnc' : (l.length : Int) + 1 ≤ (cap : Int) := by omega
  have hz2' : ¬ ((k : Int) = (l.length : Int)) := by omega
  have hck : ¬ (cap = k) := by omega
  have hck1 : ¬ (cap = k + 1) := by omega
  have hsz : (Try.prog.info? 26).map (·.size) = some 5 := by kernel_rfl
  have hov : ∀ lb cb, (callFunc 48 #[.slice (some ⟨vb, 0, none⟩) 1 1, .slice (some ⟨g, (k + 1) * 5, none⟩) lb cb]).run Try.prog w = .ok (.value (.bool false)) w := fun lb cb => by
    rw [run_callFunc_extern Try.func48 (by kernel_rfl) (by kernel_rfl) (by kernel_rfl) (e := Extern.SlicesOverlaps.overlaps #[22, 22] #[4]) (by kernel_rfl),
      Lib.run_overlaps_apart w 22 4 26 Try.underlying22 5 (fun w => by simp [sizeOf, go_sem]; kernel_rfl) ⟨vb, 0, none⟩ ⟨g, (k + 1) * 5, none⟩ 1 1 lb cb hne 26 26 5 (cap * 5) (by simp [World.shape?, hv, enc_len]) (by simp [World.shape?, hg, hcs]) (by omega) (by simp [World.frozen?, hv]) (by simp [World.frozen?, hv])]
    rfl
  have HB4 : Hid ((wrows (l.drop k)).flatten.length = (l.length - k) * 5) := Lib.hid (by rw [wflat_len, List.length_drop])
  -- what the cells behind k are
  have hdk : ∀ j u, (wrows (l.drop k)).flatten[j]? = some u → (c.drop (k * 5))[j]? = some u := fun j u hu => by
    rw [wrows_drop, flatten_drop (wrows_wid l), List.getElem?_drop, ← htk, List.getElem?_take] at hu
    split at hu
    · rw [List.getElem?_drop]; exact hu
    · cases hu
  have hfit1 : (k + 1) * 5 + (wrows (l.drop k)).flatten.length ≤ c.length := by rw [HB4.out]; omega
  obtain ⟨c1, hc1⟩ : ∃ c1, c1 = c.take ((k + 1) * 5) ++ (wrows (l.drop k)).flatten ++ c.drop ((k + 1) * 5 + (wrows (l.drop k)).flatten.length) := ⟨_, rfl⟩
  have hl1 : c1.length = c.length := by rw [hc1, len_splice _ _ _ hfit1]
  obtain ⟨c2, hc2⟩ : ∃ c2, c2 = c1.take (k * 5) ++ x.enc ++ c1.drop (k * 5 + x.enc.length) := ⟨_, rfl⟩
  have hfit2 : k * 5 + x.enc.length ≤ c1.length := by rw [enc_len]; omega
  have HL2 : Hid (c2.length = c.length) := Lib.hid (by rw [hc2, len_splice _ _ _ hfit2, hl1])
  have HC2 : Hid (c2.take ((l.length + 1) * 5) = (wrows (insW l k x)).flatten) := Lib.hid (by
    have e1 : c1.take ((k + 1) * 5 + (wrows (l.drop k)).flatten.length) = c.take ((k + 1) * 5) ++ (wrows (l.drop k)).flatten := by rw [hc1]; exact take_splice _ _ _ (by omega)
    have e2 : c2 = (c1.take (k * 5) ++ x.enc) ++ c1.drop ((k + 1) * 5) := by rw [hc2, enc_len, show k * 5 + 5 = (k + 1) * 5 by omega]
    have e3 : c1.take (k * 5) = (wrows (l.take k)).flatten := by
      have h1 : c1.take (k * 5) = (c1.take ((k + 1) * 5 + (wrows (l.drop k)).flatten.length)).take (k * 5) := by rw [List.take_take, Nat.min_eq_left (by omega)]
      rw [h1, e1, List.take_append_of_le_length (by rw [List.length_take]; omega), List.take_take, Nat.min_eq_left (by omega), wrows_take, flatten_take (wrows_wid l), ← htk, List.take_take, Nat.min_eq_left (by omega)]
    have e4 : (c1.drop ((k + 1) * 5)).take ((l.length - k) * 5) = (wrows (l.drop k)).flatten := by
      rw [← HB4.out, List.take_drop, e1, List.drop_left' (by rw [List.length_take]; omega)]
    have e5 : (c1.take (k * 5) ++ x.enc).length = (k + 1) * 5 := by rw [List.length_append, List.length_take, enc_len]; omega
    rw [e2, show (l.length + 1) * 5 = (k + 1) * 5 + (l.length - k) * 5 by omega, ← e5, List.take_append, List.take_of_length_le (Nat.le_add_right _ _), Nat.add_sub_cancel_left, e5, e4, wins_flat, e3])
  have HG := Lib.hid hg
  have HHV := Lib.hid hv
  have HD := Lib.hid hD
  have HDG := Lib.hid hDg
  have HCM := Lib.hid hcm
  have HCS := Lib.hid hcs
  have HL1 := Lib.hid hl1
  have HDK := Lib.hid hdk
  have HF1 := Lib.hid hfit1
  have HF2 := Lib.hid hfit2
  have HK1 := Lib.hid hc1
  have HK2 := Lib.hid hc2
  have HNE := Lib.hid hne
  clear h hg hv hD hDg hcm hcs hl1 hdk hfit1 hfit2 hc1 hc2 htk hb hne hnc
  go_enter Try.func32, Try.ntmps32
  go_wp2_with (simp only [hov])
  refine wp_region_rel (fun _ => none) 8 1 (by kernel_rfl) (by kernel_rfl) ?_
  simp only [List.take_succ_cons, List.take_zero]
  repeat (first
    | (refine wpRel_quick ?_ ?_ ?_ ?_
       · rfl
       · rfl
       · first | exact noEnter rfl | (intro f args W W'; go_simp)
       intro K hK
       go_big_quiet_op
       go_big_quiet_on)
    | (refine wpRel_skip ?_ ?_
       · rfl
       simp only [Act.put, List.setIfInBounds_toArray, List.set_cons_zero, List.set_cons_succ]))
  refine wpRel_nil ?_
  intro W hW
  have hE : Ext w W := (Ext.refl w).drew.trans hW.1
  have hgW : W.heap[g]? = some (.cells c.toArray 26 (0, 0)) := by rw [hE.block g (Array.getElem?_eq_some_iff.1 HG.out).1]; exact HG.out
  have hvW : W.heap[vb]? = some (.cells x.enc.toArray 26 (0, 0)) := by rw [hE.block vb (Array.getElem?_eq_some_iff.1 HHV.out).1]; exact HHV.out
  have HR1 := Lib.hid (fun ty dc sc => run_copy_K (P := Try.prog) W 22 22 ty 26 5 g ((k + 1) * 5) (l.length - k) dc ⟨g, k * 5, none⟩ (l.length + 1 - k) sc c.toArray 26 (l.length - k) (wrows (l.drop k)).flatten Try.underlying22 hsz hgW (by simp only [Nat.min_def]; split <;> omega) HB4.out (fun j u hu => cells_of_heap hgW (k * 5) j u (HDK.out j u hu)) (by simpa using HF1.out) (wflat_one _))
  rw [show (c.toArray.toList.take ((k + 1) * 5) ++ (wrows (l.drop k)).flatten ++ c.toArray.toList.drop ((k + 1) * 5 + (wrows (l.drop k)).flatten.length)) = c1 from HK1.out.symm] at HR1
  have hg1 := setRow_heap W g c.toArray c1.toArray 26 (0, 0) hgW
  have hv1 : (W.setRow g c1.toArray).heap[vb]? = some (.cells x.enc.toArray 26 (0, 0)) := by rw [setRow_other W g vb _ HNE.out]; exact hvW
  have HGR1 : Hid (Grows W (.slice (some ⟨g, 0, none⟩) 0 0) (W.setRow g c1.toArray) (.slice (some ⟨g, 0, none⟩) 0 0)) := Lib.hid (grows_setRow _)
  generalize W.setRow g c1.toArray = W1 at *
  have HR2 := Lib.hid (fun ty dc => run_copy_K (P := Try.prog) W1 22 22 ty 26 5 g (k * 5) (l.length + 1 - k) dc ⟨vb, 0, none⟩ 1 1 c1.toArray 26 1 x.enc Try.underlying22 hsz hg1 (by simp only [Nat.min_def]; split <;> omega) (enc_len x) (fun j u hu => cells_of_heap hv1 0 j u (by simpa using hu)) (by simpa using HF2.out) (enc_one x))
  rw [show (c1.toArray.toList.take (k * 5) ++ x.enc ++ c1.toArray.toList.drop (k * 5 + x.enc.length)) = c2 from HK2.out.symm] at HR2
  have HG2 := Lib.hid (setRow_heap W1 g c1.toArray c2.toArray 26 (0, 0) hg1)
  have HGR2 : Hid (Grows W1 (.slice (some ⟨g, 0, none⟩) 0 0) (W1.setRow g c2.toArray) (.slice (some ⟨g, 0, none⟩) 0 0)) := Lib.hid (grows_setRow _)
  generalize W1.setRow g c2.toArray = W2 at *
  have HE := Lib.hid hE
  clear hE hW hg1 hv1 hgW hvW
  refine wpAny_ready (rs := [8]) (by kernel_rfl) (by simp) ?_
  refine AllReady.cons rfl (fun K hK => ?_) AllReady.nil
  refine step_copy_run' rfl _ _ 22 22 rfl _ _ rfl rfl (HR1.out _ _ _) ?_
  refine hK _ _ ?_
  clear hK K
  refine wpAny_done (by kernel_rfl) ?_ _
  go_wp2_with (with_reducible refine wpList_copy_run' _ rfl _ _ 22 22 rfl _ _ rfl rfl (HR2.out _ _) ?_)
  go_ret
  refine ⟨_, rfl, ⟨by rw [insW_len, wflat_len, insW_len], .inr ⟨g, cap, c2.toArray, by rw [insW_len]; rfl, HDG.out, HG2.out, by rw [insW_len]; exact hroom, HCM.out, by simp only [List.size_toArray]; rw [HL2.out, HCS.out], by rw [insW_len]; exact HC2.out⟩⟩, (Below.mono HE.out HD.out).trans ((Below.refl _ _).grown (HGR1.out.trans HGR2.out).by_ (by have := HE.out.size; have := HD.out; omega) (fun x hx => by have h1 : some g = some x := hx; injection h1 with h1; have := HDG.out; omega))⟩
set_option maxRecDepth 100000 in
set_option maxHeartbeats 6400000 in
theorem insert_grow (l : List Wt) (D k g : Nat) (x : Wt) (vb : Nat) (w : World) (h : w.ownsRow D 26 5 (.slice (some ⟨g, 0, none⟩) l.length l.length) l.length (wrows l).flatten) (hD : D ≤ w.heap.size) (hk : k < l.length) (hb : l.length ≤ 100000) (hv : w.heap[vb]? = some (.cells x.enc.toArray 26 (0, 0))) : Calls Try.prog 32 #[.slice (some ⟨g, 0, none⟩) l.length l.length, .int .i64 k, .slice (some ⟨vb, 0, none⟩) 1 1] w (Ins D l k x w) := by
  obtain ⟨i0, hi, hz0, hz1, hz2⟩ := info_parts infoW
  obtain ⟨g', cap', cur, hvv, hDg, hg, hnc, hcm, hcs, htk⟩ := own_block h (by omega)
  cases hvv
  obtain ⟨c, hc⟩ : ∃ c : List Value, cur = c.toArray := ⟨cur.toList, rfl⟩
  subst hc
  simp only [List.size_toArray] at hcs htk
  have hki : (k : Int) < (l.length : Int) := by omega
  have hk0 : (0 : Int) ≤ (k : Int) := by omega
  have hz2' : ¬ ((k : Int) = (l.length : Int)) := by omega
  have hck : ¬ (l.length = k) := by omega
  have hl5 : (l.length : Int) ≤ 100000 := by omega
  have hsz : (Try.prog.info? 26).map (·.size) = some 5 := by kernel_rfl
  have HB4 : Hid ((wrows (l.drop k)).flatten.length = (l.length - k) * 5) := Lib.hid (by rw [wflat_len, List.length_drop])
  have HDK : Hid (∀ j u, (wrows (l.drop k)).flatten[j]? = some u → (c.drop (k * 5))[j]? = some u) := Lib.hid fun j u hu => by
    rw [wrows_drop, flatten_drop (wrows_wid l), List.getElem?_drop, ← htk, List.getElem?_take] at hu
    split at hu
    · rw [List.getElem?_drop]; exact hu
    · cases hu
  obtain ⟨G, hG⟩ : ∃ G, G = grownCap w (l.length + 1) l.length 26 := ⟨_, rfl⟩
  have hGn : l.length + 1 ≤ G := by rw [hG]; exact grownCap_ge w _ _ _
  have hGm : G ≤ maxLen := by rw [hG]; exact grownCap_le_maxLen w _ _ _ (by unfold maxLen; omega)
  have hG6 : (G : Int) ≤ 9223372036854775807 := by unfold maxLen at hGm; omega
  have hGk : ¬ (G = k) := by omega
  have hGk1 : ¬ (G = k + 1) := by omega
  obtain ⟨c0, hc0⟩ : ∃ c0 : List Value, c0 = (wrows (l.take k)).flatten ++ (Builtin.zeroCells (.agg #[.int .i64 0, .int .i64 0, .int .i64 0, .int .i64 0, .int .i64 0] : Value).cells (l.length + 1 - k)).toList ++ (Builtin.zeroCells (.agg #[.int .i64 0, .int .i64 0, .int .i64 0, .int .i64 0, .int .i64 0] : Value).cells (G - (l.length + 1))).toList := ⟨_, rfl⟩
  have hkk : (l.length : Int) + 1 - (k : Int) = ((l.length + 1 - k : Nat) : Int) := by omega
  have hik : k + (l.length + 1 - k) = l.length + 1 := by omega
  have hold : (Builtin.firstCells i0.size k (.slice (some ⟨g, 0, none⟩) k l.length)).run Try.prog w.drew = .ok (wrows (l.take k)).flatten.toArray w.drew := by
    rw [hz1]
    exact run_firstCells_some w.drew 5 k ⟨g, 0, none⟩ k l.length _ (by rw [wflat_len, List.length_take, Nat.min_eq_left (by omega)]) (fun j v hj => by
      have h1 := (own_w_take h (show k ≤ l.length by omega)).cells (g := g) rfl j v hj
      simpa using h1)
  obtain ⟨W1, hr0, hH, hE1⟩ : ∃ W1, (∀ ty, (Builtin.append_ #[22, 3] ty #[.slice (some ⟨g, 0, none⟩) k l.length, .int .i64 ((l.length : Int) + 1 - (k : Int))]).run Try.prog w = .ok (.slice (some ⟨w.heap.size, 0, none⟩) (l.length + 1) G) W1) ∧ W1.heap[w.heap.size]? = some (.cells c0.toArray 26 (0, 0)) ∧ Ext w W1 := by
    refine ⟨w.drew.alloc (.cells c0.toArray 26), fun ty => ?_, heap_alloc_new w.drew _, (Ext.refl w).drew.alloc _⟩
    have h1 := Lib.run_append_grow_zeros w 22 3 ty 26 i0 _ .i64 .i64 Try.underlying22 Try.underlying3 hi hz0 (some ⟨g, 0, none⟩) k l.length _ hold (l.length + 1 - k) (by omega) (by omega) (by omega) (by omega) (by rw [hz2]; omega) (by rw [hz2, hik]; exact growslice_fits (by omega) (by omega))
    rw [hik, ← hG] at h1
    have ha : ((wrows (l.take k)).flatten.toArray ++ Builtin.zeroCells (.agg #[.int .i64 0, .int .i64 0, .int .i64 0, .int .i64 0, .int .i64 0] : Value).cells (l.length + 1 - k) ++ Builtin.zeroCells (.agg #[.int .i64 0, .int .i64 0, .int .i64 0, .int .i64 0, .int .i64 0] : Value).cells (G - (l.length + 1))) = c0.toArray := by
      rw [hc0]
      apply Array.toList_inj.1
      simp
    rw [hkk, h1, ha]
  have hl0 : c0.length = G * 5 := by
    rw [hc0]
    simp only [List.length_append, wflat_len, List.length_take, Array.length_toList, size_zeroCells]
    have : (.agg #[.int .i64 0, .int .i64 0, .int .i64 0, .int .i64 0, .int .i64 0] : Value).cells.size = 5 := rfl
    rw [this]
    omega
  have ht0 : c0.take (k * 5) = (wrows (l.take k)).flatten := by
    rw [hc0, List.append_assoc]
    exact List.take_left' (by rw [wflat_len, List.length_take]; omega)
  obtain ⟨c1, hc1⟩ : ∃ c1, c1 = c0.take (k * 5) ++ x.enc ++ c0.drop (k * 5 + x.enc.length) := ⟨_, rfl⟩
  have hfit1 : k * 5 + x.enc.length ≤ c0.length := by rw [enc_len]; omega
  have hl1 : c1.length = c0.length := by rw [hc1, len_splice _ _ _ hfit1]
  obtain ⟨c2, hc2⟩ : ∃ c2, c2 = c1.take ((k + 1) * 5) ++ (wrows (l.drop k)).flatten ++ c1.drop ((k + 1) * 5 + (wrows (l.drop k)).flatten.length) := ⟨_, rfl⟩
  have hfit2 : (k + 1) * 5 + (wrows (l.drop k)).flatten.length ≤ c1.length := by rw [HB4.out]; omega
  have HL2 : Hid (c2.length = G * 5) := Lib.hid (by rw [hc2, len_splice _ _ _ hfit2, hl1, hl0])
  have HC2 : Hid (c2.take ((l.length + 1) * 5) = (wrows (insW l k x)).flatten) := Lib.hid (by
    have e1 : c1.take ((k + 1) * 5) = c0.take (k * 5) ++ x.enc := by rw [hc1, show (k + 1) * 5 = k * 5 + x.enc.length by rw [enc_len]; omega]; exact take_splice _ _ _ (by omega)
    rw [show (l.length + 1) * 5 = (k + 1) * 5 + (wrows (l.drop k)).flatten.length by rw [HB4.out]; omega, hc2, take_splice _ _ _ (by omega), e1, ht0, wins_flat])
  have hgW1 : W1.heap[g]? = some (.cells c.toArray 26 (0, 0)) := by rw [hE1.block g (Array.getElem?_eq_some_iff.1 hg).1]; exact hg
  have hvW1 : W1.heap[vb]? = some (.cells x.enc.toArray 26 (0, 0)) := by rw [hE1.block vb (Array.getElem?_eq_some_iff.1 hv).1]; exact hv
  have hgH : g ≠ w.heap.size := by have := (Array.getElem?_eq_some_iff.1 hg).1; omega
  have HR1 := Lib.hid (fun ty dc => run_copy_K (P := Try.prog) W1 22 22 ty 26 5 w.heap.size (k * 5) (l.length + 1 - k) dc ⟨vb, 0, none⟩ 1 1 c0.toArray 26 1 x.enc Try.underlying22 hsz hH (by simp only [Nat.min_def]; split <;> omega) (enc_len x) (fun j u hu => cells_of_heap hvW1 0 j u (by simpa using hu)) (by simpa using hfit1) (enc_one x))
  rw [show (c0.toArray.toList.take (k * 5) ++ x.enc ++ c0.toArray.toList.drop (k * 5 + x.enc.length)) = c1 from hc1.symm] at HR1
  have hH2 := setRow_heap W1 w.heap.size c0.toArray c1.toArray 26 (0, 0) hH
  have hgW2 : (W1.setRow w.heap.size c1.toArray).heap[g]? = some (.cells c.toArray 26 (0, 0)) := by rw [setRow_other W1 _ g _ hgH]; exact hgW1
  have hE2 : Ext w (W1.setRow w.heap.size c1.toArray) := below_setRow hE1 (Nat.le_refl _) _
  have HR0 := Lib.hid hr0
  generalize W1.setRow w.heap.size c1.toArray = W2 at *
  have HH2 := Lib.hid hH2
  have HGW2 := Lib.hid hgW2
  have HE2 := Lib.hid hE2
  have HD := Lib.hid hD
  have HGM := Lib.hid hGm
  have HF2 := Lib.hid hfit2
  have HK2 := Lib.hid hc2
  clear h hg hv hD hDg hcm hcs hl1 hfit1 hfit2 hc1 hc2 htk hb hnc hG hc0 hl0 ht0 hold hr0 hH hE1 hgW1 hvW1 hgH hH2 hgW2 hE2 hGm hkk hik
  go_enter Try.func32, Try.ntmps32
  go_wp2_with (first
    | (at_builtin; refine wpList_append_run' rfl _ _ 22 3 rfl _ _ rfl rfl (HR0.out _) ?_)
    | (with_reducible refine wpList_copy_run' _ rfl _ _ 22 22 rfl _ _ rfl rfl (HR1.out _ _) ?_))
  simp only [Act.put, List.setIfInBounds_toArray, List.set_cons_zero, List.set_cons_succ]
  refine wp_region_rel (fun _ => none) 8 1 (by kernel_rfl) (by kernel_rfl) ?_
  simp only [List.take_succ_cons, List.take_zero]
  repeat (first
    | (refine wpRel_quick ?_ ?_ ?_ ?_
       · rfl
       · rfl
       · first | exact noEnter rfl | (intro f args W W'; go_simp)
       intro K hK
       go_big_quiet_op
       go_big_quiet_on)
    | (refine wpRel_skip ?_ ?_
       · rfl
       simp only [Act.put, List.setIfInBounds_toArray, List.set_cons_zero, List.set_cons_succ]))
  refine wpRel_nil ?_
  intro W hW
  have hE : Ext W2 W := (Ext.refl W2).drew.trans hW.1
  have hHW : W.heap[w.heap.size]? = some (.cells c1.toArray 26 (0, 0)) := by rw [hE.block _ (Array.getElem?_eq_some_iff.1 HH2.out).1]; exact HH2.out
  have hgW : W.heap[g]? = some (.cells c.toArray 26 (0, 0)) := by rw [hE.block g (Array.getElem?_eq_some_iff.1 HGW2.out).1]; exact HGW2.out
  have HR2 := Lib.hid (fun ty dc sc => run_copy_K (P := Try.prog) W 22 22 ty 26 5 w.heap.size ((k + 1) * 5) (l.length - k) dc ⟨g, k * 5, none⟩ (l.length - k) sc c1.toArray 26 (l.length - k) (wrows (l.drop k)).flatten Try.underlying22 hsz hHW (by simp) HB4.out (fun j u hu => cells_of_heap hgW (k * 5) j u (HDK.out j u hu)) (by simpa using HF2.out) (wflat_one _))
  rw [show (c1.toArray.toList.take ((k + 1) * 5) ++ (wrows (l.drop k)).flatten ++ c1.toArray.toList.drop ((k + 1) * 5 + (wrows (l.drop k)).flatten.length)) = c2 from HK2.out.symm] at HR2
  have HH3 := Lib.hid (setRow_heap W w.heap.size c1.toArray c2.toArray 26 (0, 0) hHW)
  have HE3 : Hid (Ext w (W.setRow w.heap.size c2.toArray)) := Lib.hid (below_setRow (HE2.out.trans hE) (Nat.le_refl _) _)
  generalize W.setRow w.heap.size c2.toArray = W3 at *
  clear hE hW hHW hgW
  refine wpAny_ready (rs := [8]) (by kernel_rfl) (by simp) ?_
  refine AllReady.cons rfl (fun K hK => ?_) AllReady.nil
  refine step_copy_run' rfl _ _ 22 22 rfl _ _ rfl rfl (HR2.out _ _ _) ?_
  refine hK _ _ ?_
  clear hK K
  refine wpAny_done (by kernel_rfl) ?_ _
  go_wp2_with fail
  go_ret
  exact ⟨_, rfl, ⟨by rw [insW_len, wflat_len, insW_len], .inr ⟨w.heap.size, G, c2.toArray, by rw [insW_len]; rfl, HD.out, HH3.out, by rw [insW_len]; exact hGn, HGM.out, by simp only [List.size_toArray]; exact HL2.out, by rw [insW_len]; exact HC2.out⟩⟩, Below.mono HE3.out HD.out⟩
theorem insert_any (l : List Wt) (D k : Nat) (v : Value) (x : Wt) (vb : Nat) (w : World) (h : w.ownsRow D 26 5 v l.length (wrows l).flatten) (hD : D ≤ w.heap.size) (hk : k ≤ l.length) (hb : l.length ≤ 100000) (hv : w.heap[vb]? = some (.cells x.enc.toArray 26 (0, 0))) (hne : k < l.length → ∀ g, v.ownBlock = some g → vb ≠ g) : Calls Try.prog 32 #[v, .int .i64 k, .slice (some ⟨vb, 0, none⟩) 1 1] w (Ins D l k x w) := by
  rcases Nat.lt_or_ge k l.length with h1 | h1
  · obtain ⟨g, cap, cur, rfl, _, _, hnc, _⟩ := own_block h (by omega)
    by_cases hr : l.length + 1 ≤ cap
    · exact insert_room l D k g cap x vb w h hD h1 hr hb hv (hne h1 g rfl)
    · obtain rfl : cap = l.length := by omega
      exact insert_grow l D k g x vb w h hD h1 hb hv
  · obtain rfl : k = l.length := by omega
    exact insert_end l D v x vb w h hD hb hv
end Go.Proofs.Ytbhpeecebcihkaa
