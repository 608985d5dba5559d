/- Waiting: slices.Clone and slices.Delete. -/
import Derived.Test.YtbhpeecebcihkaaW4
import Derived.Test.YtbhpeecebcihkaaJ
import Derived.Lib.SliceRun
namespace Go.Sz
open Go.RowKit
/-- a row of its own, in memory from D on -/
def RetOwn (t : TypeId) (D : Nat) (l : List Wt) (w : World) (e : Ending) (w' : World) : Prop := ∃ v, e = .returned v ∧ w'.ownsRow D t 5 v l.length (wrows l).flatten ∧ Ext w w'
theorem wrows_wid (l : List Wt) : ∀ r ∈ wrows l, r.length = 5 := fun r hr => by
  obtain ⟨x, _, rfl⟩ := List.mem_map.1 hr
  rfl
theorem wrows_one (l : List Wt) : ∀ r ∈ wrows l, ∀ u ∈ r, u.oneCell' = true := fun r hr u hu => by
  obtain ⟨x, _, rfl⟩ := List.mem_map.1 hr
  simp only [Wt.enc, List.mem_cons, List.not_mem_nil, or_false] at hu
  rcases hu with rfl | rfl | rfl | rfl | rfl <;> rfl
theorem RepW.of_own {w : World} {D t : Nat} {v : Value} {l : List Wt} {n : Nat} (h : w.ownsRow D t 5 v n (wrows l).flatten) (hn : l.length = n) : ∃ ao cap, v = .slice ao n cap ∧ RepW w ao cap l ∧ (∀ a, ao = some a → D ≤ a.block) := SL.of_own h (wrows_wid l) (by rw [wrows_length]; exact hn)
theorem RepW.nil {w : World} {cap : Nat} {l : List Wt} (h : RepW w none cap l) : l = [] ∧ cap = 0 := by
  have h1 := SL.nil h rfl
  have h2 := SL.le h
  rw [wrows_length, h1] at h2
  exact ⟨List.eq_nil_of_length_eq_zero (by omega), h1⟩
theorem wrows_take (l : List Wt) (k : Nat) : wrows (l.take k) = (wrows l).take k := by simp [wrows]
theorem wrows_drop (l : List Wt) (k : Nat) : wrows (l.drop k) = (wrows l).drop k := by simp [wrows]
theorem wrows_append (l m : List Wt) : wrows (l ++ m) = wrows l ++ wrows m := by simp [wrows]
theorem wflat_len (l : List Wt) : (wrows l).flatten.length = l.length * 5 := by
  have := flat_len (wrows l) (wrows_wid l)
  rw [this, wrows_length]
theorem own_w_take {w : World} {D t n k g cap : Nat} {l : List Wt} (h : w.ownsRow D t 5 (.slice (some ⟨g, 0, none⟩) n cap) n (wrows l).flatten) (hk : k ≤ n) : w.ownsRow D t 5 (.slice (some ⟨g, 0, none⟩) k cap) k (wrows (l.take k)).flatten := by
  rw [wrows_take, flatten_take (wrows_wid l)]
  exact own_take h hk
end Go.Sz
namespace Go.Proofs.Ytbhpeecebcihkaa
open Go.RowKit Go.Sz
theorem infoW : (Try.prog.info? 26).map (fun i => (i.zero, i.size, i.bytes)) = some (some (.agg #[.int .i64 0, .int .i64 0, .int .i64 0, .int .i64 0, .int .i64 0]), 5, 40) := by kernel_rfl
theorem zeroW (w : World) : (zeroValue 26).run Try.prog w = .ok (.agg #[.int .i64 0, .int .i64 0, .int .i64 0, .int .i64 0, .int .i64 0]) w := by kernel_rfl
theorem zeroW_one (k : Nat) : ∀ v ∈ (Builtin.zeroCells (Value.agg #[.int .i64 0, .int .i64 0, .int .i64 0, .int .i64 0, .int .i64 0]).cells k).toList, v.oneCell' = true := by
  intro v hv
  simp only [Builtin.zeroCells, Array.toList_map, List.mem_map] at hv
  obtain ⟨i, _, rfl⟩ := hv
  have h4 : i % 5 = 0 ∨ i % 5 = 1 ∨ i % 5 = 2 ∨ i % 5 = 3 ∨ i % 5 = 4 := by omega
  have hs : (Value.agg #[.int .i64 0, .int .i64 0, .int .i64 0, .int .i64 0, .int .i64 0]).cells.size = 5 := rfl
  rw [hs]
  rcases h4 with h | h | h | h | h <;> rw [h] <;> rfl
set_option maxRecDepth 100000 in
set_option maxHeartbeats 3200000 in
theorem clone_any (l : List Wt) (ao : Option Addr) (cap : Nat) (w : World) (h : RepW w ao cap l) (hb : l.length ≤ 100000) : Calls Try.prog 33 #[.slice ao l.length cap] w (RetOwn 26 w.heap.size l w) := by
  have HL := Lib.hid h
  have hs1 := h.max
  obtain ⟨i0, hi, hz0, hz1, hz2⟩ := info_parts infoW
  have hnil := fun (w : World) (a : Option Addr) (n c : Nat) => Lib.run_eql_slice_nil (P := Try.prog) w 22 26 a n c 0 0 Try.underlying22
  cases ao with
  | none =>
    obtain ⟨rfl, rfl⟩ := h.nil
    clear h
    go_enter Try.func33, Try.ntmps33
    go_wp2_with fail
    go_ret
    exact ⟨_, rfl, World.ownsRow_nil _ _ _ _, Ext.refl _⟩
  | some a =>
    clear h
    have hX : Ext w (w.alloc (.cells #[] 26)) := (Ext.refl w).alloc _
    have HSRC : Hid (Src Try.prog 5 22 (.slice (some a) l.length cap) l.length (wrows l).flatten (w.alloc (.cells #[] 26))) := Lib.hid (by
      have := SL.src (P := Try.prog) (HL.out.ext hX) (by omega) (tx := 22) Try.underlying22 (wrows_one l)
      rwa [wrows_length] at this)
    have HOE := Lib.hid (own_empty w w.heap.size (Nat.le_refl _) 26 5)
    have HB := Lib.hid hb
    clear hb
    go_enter Try.func33, Try.ntmps33
    go_wp2_with (at_builtin; refine wpList_append_S rfl _ _ 22 22 rfl w.heap.size 26 i0 _ 5 40 Try.underlying22 hi hz0 hz1 hz2 rfl _ _ _ rfl HOE.out (.slice (some a) l.length cap) l.length (wrows l).flatten rfl HSRC.out (by have := HB.out; unfold maxLen; omega) (by have := HB.out; omega) (by simp) ?_; intro v6 w6 ho6 hg6; have HO6 := Lib.hid ho6; have HG6 := Lib.hid hg6; clear ho6 hg6)
    go_ret
    refine ⟨_, rfl, ?_, Ext.trans' hX HG6.out (fun k hk => by have h1 : some w.heap.size = some k := hk; injection h1 with h1; omega)⟩
    have := HO6.out
    simpa using this
set_option maxRecDepth 100000 in
set_option maxHeartbeats 3200000 in
theorem delete_any (l : List Wt) (D k : Nat) (v : Value) (w : World) (h : w.ownsRow D 26 5 v l.length (wrows l).flatten) (hD : D ≤ w.heap.size) (hk : k < l.length) (hb : l.length ≤ 100000) : Calls Try.prog 37 #[v, .int .i64 k, .int .i64 ((k : Int) + 1)] w fun e w' => ∃ v', e = .returned v' ∧ w'.ownsRow D 26 5 v' (l.eraseIdx k).length (wrows (l.eraseIdx k)).flatten ∧ Below D w w' := by
  obtain ⟨i0, hi, hz0, hz1, hz2⟩ := info_parts infoW
  obtain ⟨g, cap, cur, rfl, hDg, hg, hnc, hcm, hcs, htk⟩ := own_block h (by omega)
  have hc63 : (cap : Int) ≤ 9223372036854775807 := by unfold maxLen at hcm; omega
  have hki : (k : Int) < (l.length : Int) := by omega
  have hk0 : (0 : Int) ≤ (k : Int) := by omega
  have hnc' : (l.length : Int) ≤ (cap : Int) := by omega
  have hne : ((k : Int) == (k : Int) + 1) = false := by rw [beq_eq_false_iff_ne]; omega
  have hck : ¬ (cap = k) := by omega
  have hbig : (k : Int) + 1 ≤ (l.length : Int) := by omega
  have HO := Lib.hid h
  have HG := Lib.hid hg
  have HCS := Lib.hid hcs
  have HKN := Lib.hid hk
  have HBB := Lib.hid hb
  clear h hg hcs htk hb hcm
  go_enter Try.func37, Try.ntmps37
  go_wp2_with fail
  by_cases hc1 : cap = k + 1
  · subst hc1
    refine wp_region_rel (fun _ => none) 6 2 (by kernel_rfl) (by kernel_rfl) ?_
    simp only [List.take_succ_cons, List.take_zero]
    repeat (first
      | (refine wpRel_quick ?_ ?_ ?_ ?_
         · rfl
         · rfl
         · first | exact noEnter rfl | (intro f args W W'; go_simp)
         intro K hK
         go_big_quiet_op
         go_big_quiet_on)
      | (refine wpRel_skip ?_ ?_
         · rfl
         simp only [Act.put, List.setIfInBounds_toArray, List.set_cons_zero, List.set_cons_succ]))
    refine wpRel_nil ?_
    intro W hW
    have hE : Ext w W := (Ext.refl w).drew.trans hW.1
    have HSRC : Hid (Src Try.prog 5 22 (.slice (some ⟨g, 0, none⟩) 0 0) 0 (wrows (l.drop (k + 1))).flatten W) := Lib.hid (by rw [List.drop_of_length_le (by omega)]; exact Src.ofSlice W Try.underlying22 _ 0 _ [] (by simp) (by simp) (by simp))
    have HTK := Lib.hid (own_w_take (ownsRow_ext HO.out hE) (show k ≤ l.length by omega))
    have HE := Lib.hid hE
    clear hE hW
    obtain ⟨w2, hr2, ho2, hg2⟩ := run_append_roomK (P := Try.prog) W D 22 22 22 26 i0 5 Try.underlying22 hi hz1 g k _ _ HTK.out _ _ _ HSRC.out (by omega)
    have HR2 := Lib.hid hr2
    have HO2 := Lib.hid ho2
    have HG2 := Lib.hid hg2
    clear hr2 ho2 hg2
    refine wpAny_ready (rs := [6]) (by kernel_rfl) (by simp) ?_
    refine AllReady.cons rfl (fun K hK => ?_) AllReady.nil
    refine step_append_run rfl _ _ 22 22 rfl _ _ rfl rfl HR2.out ?_
    refine hK _ _ ?_
    clear hK K
    refine wpAny_ready (rs := [7]) (by kernel_rfl) (by simp) ?_
    refine AllReady.cons rfl (fun K hK => ?_) AllReady.nil
    go_simp
    refine hK _ _ ?_
    clear hK K
    refine wpAny_done (by kernel_rfl) ?_ _
    obtain ⟨w3, hr3, ho3, hg3⟩ := clear_own (P := Try.prog) HO2.out 22 (.agg #[.int .i64 0, .int .i64 0, .int .i64 0, .int .i64 0, .int .i64 0]) Try.underlying22 zeroW rfl zeroW_one (l.length - k) (k * 5) (by omega) (by simp) (by omega)
    have HO3 := Lib.hid ho3
    have HG3 := Lib.hid hg3
    clear ho3 hg3
    go_wp2_with fail
    go_ret
    refine ⟨_, rfl, ?_, (Below.mono HE.out hD).trans ?_⟩
    · have h3 := HO3.out
      rw [List.eraseIdx_eq_take_drop_succ, wrows_append, List.flatten_append, List.length_append, List.length_take, List.length_drop, Nat.min_eq_left (by omega)]
      rw [show l.length - (k + 1) = 0 by omega]; exact h3
    · exact (Below.refl _ _).grown (HG2.out.trans HG3.out).by_ (by have := HE.out.size; omega) (fun x hx => by have h1 : some g = some x := hx; injection h1 with h1; omega)
  · refine wp_region_rel (fun _ => none) 6 2 (by kernel_rfl) (by kernel_rfl) ?_
    simp only [List.take_succ_cons, List.take_zero]
    repeat (first
      | (refine wpRel_quick ?_ ?_ ?_ ?_
         · rfl
         · rfl
         · first | exact noEnter rfl | (intro f args W W'; go_simp)
         intro K hK
         go_big_quiet_op
         go_big_quiet_on)
      | (refine wpRel_skip ?_ ?_
         · rfl
         simp only [Act.put, List.setIfInBounds_toArray, List.set_cons_zero, List.set_cons_succ]))
    refine wpRel_nil ?_
    intro W hW
    have hE : Ext w W := (Ext.refl w).drew.trans hW.1
    have HSRC : Hid (Src Try.prog 5 22 (.slice (some ⟨g, (k + 1) * 5, none⟩) (l.length - (k + 1)) (cap - (k + 1))) (l.length - (k + 1)) (wrows (l.drop (k + 1))).flatten W) := Lib.hid (Src.ofSlice W Try.underlying22 ⟨g, (k + 1) * 5, none⟩ _ _ _ (by rw [wflat_len, List.length_drop]) (fun j u hu => by rw [wrows_drop, flatten_drop (wrows_wid l), List.getElem?_drop] at hu; have h1 := (ownsRow_ext HO.out hE).cells (g := g) rfl _ u hu; rw [Addr.add_lit] at h1 ⊢; simpa using h1) (fun u hu => by obtain ⟨r, hr, hu⟩ := List.mem_flatten.1 hu; exact wrows_one _ r hr u hu))
    have HTK := Lib.hid (own_w_take (ownsRow_ext HO.out hE) (show k ≤ l.length by omega))
    have HE := Lib.hid hE
    clear hE hW
    obtain ⟨w2, hr2, ho2, hg2⟩ := run_append_roomK (P := Try.prog) W D 22 22 22 26 i0 5 Try.underlying22 hi hz1 g k _ _ HTK.out _ _ _ HSRC.out (by omega)
    have HR2 := Lib.hid hr2
    have HO2 := Lib.hid ho2
    have HG2 := Lib.hid hg2
    clear hr2 ho2 hg2
    refine wpAny_ready (rs := [6]) (by kernel_rfl) (by simp) ?_
    refine AllReady.cons rfl (fun K hK => ?_) AllReady.nil
    refine step_append_run rfl _ _ 22 22 rfl _ _ rfl rfl HR2.out ?_
    refine hK _ _ ?_
    clear hK K
    refine wpAny_ready (rs := [7]) (by kernel_rfl) (by simp) ?_
    refine AllReady.cons rfl (fun K hK => ?_) AllReady.nil
    go_simp
    refine hK _ _ ?_
    clear hK K
    refine wpAny_done (by kernel_rfl) ?_ _
    obtain ⟨w3, hr3, ho3, hg3⟩ := clear_own (P := Try.prog) HO2.out 22 (.agg #[.int .i64 0, .int .i64 0, .int .i64 0, .int .i64 0, .int .i64 0]) Try.underlying22 zeroW rfl zeroW_one (l.length - (k + (l.length - (k + 1)))) ((k + (l.length - (k + 1))) * 5) (by omega) rfl (by omega)
    have HO3 := Lib.hid ho3
    have HG3 := Lib.hid hg3
    clear ho3 hg3
    go_wp2_with fail
    go_ret
    refine ⟨_, rfl, ?_, (Below.mono HE.out hD).trans ?_⟩
    · have h3 := HO3.out
      rw [List.eraseIdx_eq_take_drop_succ, wrows_append, List.flatten_append, List.length_append, List.length_take, List.length_drop, Nat.min_eq_left (by omega)]
      exact h3
    · exact (Below.refl _ _).grown (HG2.out.trans HG3.out).by_ (by have := HE.out.size; omega) (fun x hx => by have h1 : some g = some x := hx; injection h1 with h1; omega)
end Go.Proofs.Ytbhpeecebcihkaa
