/- without: the reference's. -/
import Derived.Test.YtdlahgmbilkdcaaNB
namespace Go.Sz
open Go.RowKit
theorem SL.less {w : World} {n : Nat} {ao : Option Addr} {cap : Nat} {rows : List (List Value)} (h : SL w n ao cap rows) (k : Nat) : SL w n ao cap (rows.take k) :=
  ⟨by have := h.le; simp; omega, h.max, h.nil, fun r hr => h.wid r (List.mem_of_mem_take hr), fun i j r v hr hv => h.cells i j r v (by
    rw [List.getElem?_take] at hr
    split at hr
    · exact hr
    · cases hr) hv⟩
end Go.Sz
namespace Go.Proofs.Ytdlahgmbilkdcaa
open Go.RowKit Go.Sz

set_option maxRecDepth 100000 in
set_option maxHeartbeats 3200000 in
theorem refWithout_any (n : Nw) (k : Nat) (cs : List Value) (w : World) (h : RepN w cs n) (hk : k < n.q.length) (hbig : n.q.length ≤ 4096) : Calls Try.prog 42 #[.agg cs.toArray, .int .i64 k] w (RetN1 (cutQ n k) w) := by
  obtain ⟨ao, cap, bo, cap', rows, rfl, hq, ha⟩ := h
  obtain ⟨q, a⟩ := n
  simp only at hq ha hk hbig ⊢
  have hs1 : (q.length : Int) ≤ 9223372036854775807 := by have := hq.sl.max; have := hq.sl.le; have := hq.len; omega
  have hqc : q.length ≤ cap := by have := hq.sl.le; have := hq.len; omega
  obtain ⟨b, o, rfl, _⟩ := hq.sl.at (by omega) k (by rw [hq.len]; exact hk)
  have HQ := Lib.hid hq
  have HA := Lib.hid ha
  clear hq ha
  obtain ⟨i0, hi, hz0, hz1, hz2⟩ := info_parts infoPk
  have hX0 := ((Ext.refl w).alloc (.cells #[.slice (some ⟨b, o, none⟩) q.length cap, .slice bo a.length cap'] 25)).alloc (.cells #[.slice none 0 0, .slice none 0 0] 25)
  have hbn := (Box2.new w (.slice (some ⟨b, o, none⟩) q.length cap) (.slice bo a.length cap') 25).ext ((Ext.refl _).alloc (.cells #[.slice none 0 0, .slice none 0 0] 25))
  have hbr := Box2.new' (w.alloc (.cells #[.slice (some ⟨b, o, none⟩) q.length cap, .slice bo a.length cap'] 25)) (.slice none 0 0) (.slice none 0 0) 25 (w.heap.size + 1) (by simp)
  have hk1 : (0 : Int) ≤ (k : Int) := by omega
  have hk2 : (k : Int) < (q.length : Int) := by omega
  have hk3 : (k : Int) + 1 ≤ (q.length : Int) := by omega
  have hk4 : k ≤ cap := by omega
  have hk5 : (k : Int) + 1 ≤ (cap : Int) := by omega
  go_enter Try.func42, Try.ntmps42
  go_wp2_with fail
  have hsz : ((w.alloc (.cells #[.slice (some ⟨b, o, none⟩) q.length cap, .slice bo a.length cap'] 25)).alloc (.cells #[.slice none 0 0, .slice none 0 0] 25)).heap.size = w.heap.size + 2 := by simp
  generalize ((w.alloc (.cells #[.slice (some ⟨b, o, none⟩) q.length cap, .slice bo a.length cap'] 25)).alloc (.cells #[.slice none 0 0, .slice none 0 0] 25)) = w1 at *
  have HZ := Lib.hid hsz
  clear hsz
  have HBN := Lib.hid hbn
  obtain ⟨n0, n1, nz⟩ := hbn
  have gn0 : ∀ X, (w1.drew.grow X).cell? ⟨w.heap.size, 0, none⟩ = some (.slice (some ⟨b, o, none⟩) q.length cap) := fun X => ((Ext.refl w1).drew.trans (ext_grow _ X)).cell n0
  have hw : IntKind.i64.wrap ((k : Int) + 1) = (k : Int) + 1 := by simp [IntKind.wrap, IntKind.bits, IntKind.signed]; omega
  have HL := Lib.hid HQ.out.len
  refine wp_region_rel (fun j => if j = 0 then some (spE (w.heap.size + 2) 28 3) else if j = 5 then some (spOwn (w.heap.size + 2) 28 3 k (rows.take k)) else none) 11 3 (by kernel_rfl) (by kernel_rfl) ?_
  simp only [List.take_succ_cons, List.take_zero]
  refine wpRel_rich _ rfl rfl (fun W hW => ?_) (fun v W1 hW1 hv => ?_)
  · go_simp
    exact ⟨⟨_, rfl, own_empty W _ (by have h1 : w1.heap.size ≤ W.heap.size := hW.1.size; have h2 := HZ.out; omega) _ _⟩, (Ext.refl _).alloc _⟩
  obtain ⟨g0, rfl, _⟩ := hv
  simp only [Act.put, List.setIfInBounds_toArray, List.set_cons_zero, List.set_cons_succ]
  repeat (first
    | (refine wpRel_quick ?_ ?_ ?_ ?_
       · rfl
       · rfl
       · first | exact noEnter rfl | (intro f args W W'; go_simp)
       intro K hK
       go_big_quiet_op
       go_big_quiet_on)
    | (refine wpRel_skip ?_ ?_
       · rfl
       simp only [Act.put, List.setIfInBounds_toArray, List.set_cons_zero, List.set_cons_succ]))
  have hwid : ∀ r ∈ rows.take k, r.length = 3 := fun r hr => HQ.out.sl.wid r (List.mem_of_mem_take hr)
  have hlk : (rows.take k).length = k := by have := HL.out; simp; omega
  have HWK := Lib.hid hwid
  have HLK := Lib.hid hlk
  clear hwid hlk
  refine wpRel_rich _ rfl rfl (fun W hW => ?_) (fun v W2 hW2 hv => ?_)
  · obtain ⟨g1, hg1, ho⟩ := hW.2 0 (by unfold Anc; kernel_rfl) _ _ rfl rfl
    have hx : Ext w W := hX0.trans ((Ext.refl w1).drew.trans hW.1)
    refine g_append_fresh _ _ 22 22 rfl 28 i0 _ 3 40 Try.underlying22 hi hz0 hz1 hz2 rfl (by omega) _ (by have h1 : w1.heap.size ≤ W.heap.size := hW.1.size; have h2 := HZ.out; omega) g0 rfl ho (.slice (some ⟨b, o, none⟩) k cap) k (rows.take k) rfl ?_ HWK.out HLK.out (by unfold maxLen; omega) (by omega)
    have := ((HQ.out.sl.ext hx).less k).src (P := Try.prog) (by omega) Try.underlying22 (fun r hr => HQ.out.one r (List.mem_of_mem_take hr))
    rwa [HLK.out] at this
  obtain ⟨ac, cc, rfl, _, _⟩ := SL.of_own hv HWK.out HLK.out
  simp only [Act.put, List.setIfInBounds_toArray, List.set_cons_zero, List.set_cons_succ]
  repeat (first
    | (refine wpRel_quick ?_ ?_ ?_ ?_
       · rfl
       · rfl
       · first | exact noEnter rfl | (intro f args W W'; go_simp)
       intro K hK
       go_big_quiet_op
       go_big_quiet_on)
    | (refine wpRel_skip ?_ ?_
       · rfl
       simp only [Act.put, List.setIfInBounds_toArray, List.set_cons_zero, List.set_cons_succ]))
  generalize hat : (if cap = k + 1 then some (⟨b, o, none⟩ : Addr) else some (⟨b, o + (k + 1) * 3, none⟩ : Addr)) = at0
  have HT : Hid (∀ W, Ext w W → SL W 3 at0 (cap - (k + 1)) (rows.drop (k + 1))) := Lib.hid fun W hE => by
    have hl := HQ.out.len
    have h1 := (HQ.out.sl.ext hE).sub (p := k + 1) (u := q.length - (k + 1)) (by omega)
    rw [List.take_of_length_le (by simp [hl])] at h1
    by_cases hc : cap = k + 1
    · rw [if_pos hc] at hat
      have h0 : rows.drop (k + 1) = [] := List.drop_eq_nil_of_le (by omega)
      rw [h0, hc, Nat.sub_self, ← hat]
      exact SL.done _
    · rw [if_neg hc] at hat
      rw [← hat]
      exact h1
  have HL := Lib.hid HQ.out.len
  clear hat
  refine wpRel_nil ?_
  intro W hW
  have ho3 := hW.2 5 trivial _ _ rfl rfl
  have hEW := (Ext.refl w1).drew.trans hW.1
  have hXW := hX0.trans hEW
  have hbnW := HBN.out.ext hEW
  have hbrW := hbr.ext hEW
  have hDW : w.heap.size + 2 ≤ W.heap.size := by have h1 : w1.heap.size ≤ W.heap.size := hW.1.size; have h2 := HZ.out; omega
  have HRB := Lib.hid (ownsRow_blocks ho3)
  have HT2 := Lib.hid (HT.out W hXW)
  refine wpAny_ready (rs := [11]) (by kernel_rfl) (by simp) ?_
  refine AllReady.cons rfl (fun K hK => ?_) AllReady.nil
  refine step_append_S rfl _ _ 22 22 rfl (w.heap.size + 2) 28 i0 _ 3 40 Try.underlying22 hi hz0 hz1 hz2 rfl _ k (rows.take k).flatten rfl ho3 (.slice at0 (q.length - (k + 1)) (cap - (k + 1))) (q.length - (k + 1)) (rows.drop (k + 1)).flatten rfl ?_ (by unfold maxLen; omega) (by omega) hDW ?_
  · have := HT2.out.src (P := Try.prog) (by omega) Try.underlying22 (fun r hr => HQ.out.one r (List.mem_of_mem_drop hr))
    rwa [show (rows.drop (k + 1)).length = q.length - (k + 1) by have := HL.out; simp; omega] at this
  intro v6 w6 ho6 hg6
  have hX6 : Ext w w6 := hXW.trans' hg6 (fun k hk => by have := HRB.out k hk; omega)
  have hbn6 : Box2 w6 w.heap.size (.slice (some ⟨b, o, none⟩) q.length cap) (.slice bo a.length cap') := hbnW.keep (hg6.by_.block _ hbnW.lt (fun h => by have := HRB.out _ h.symm; omega))
  have hbr6 : Box2 w6 (w.heap.size + 1) (.slice none 0 0) (.slice none 0 0) := hbrW.keep (hg6.by_.block _ hbrW.lt (fun h => by have := HRB.out _ h.symm; omega))
  have ho6' : w6.ownsRow (w.heap.size + 2) 28 3 v6 (k + (q.length - (k + 1))) (rows.take k ++ rows.drop (k + 1)).flatten := by simpa using ho6
  obtain ⟨ao3, cap3, rfl, hs6, hfar⟩ := SL.of_own ho6' (by have := HQ.out.sl.wid; intro r hr; rcases List.mem_append.1 hr with h | h; exact this r (List.mem_of_mem_take h); exact this r (List.mem_of_mem_drop h)) (by have := HL.out; simp; omega)
  have HF3 := Lib.hid hfar
  have HS6 := Lib.hid hs6
  have HX6 := Lib.hid hX6
  clear ho6 ho6' ho3 hfar hs6 hg6 hX6
  refine hK _ _ ?_
  clear hK K
  simp only [Act.put, List.setIfInBounds_toArray]
  obtain ⟨m0, m1, mz⟩ := hbn6
  obtain ⟨r0, r1, rz⟩ := hbr6
  refine wpAny_ready (rs := [12]) (by kernel_rfl) (by simp) ?_
  refine AllReady.cons rfl (fun K hK => ?_) AllReady.nil
  go_simp
  refine hK _ _ ?_
  clear hK K
  refine wpAny_ready (rs := [13]) (by kernel_rfl) (by simp) ?_
  refine AllReady.cons rfl (fun K hK => ?_) AllReady.nil
  go_simp
  refine hK _ _ ?_
  clear hK K
  refine wpAny_done (by kernel_rfl) ?_ _
  go_wp2_with fail
  have hlen : (cutQ ⟨q, a⟩ k).q.length = k + (q.length - (k + 1)) := by simp [cutQ]; omega
  have hXF := ((HX6.out.setCell (p := ⟨w.heap.size, 0, none⟩) (by simp) (.slice ao3 (k + (q.length - (k + 1))) cap3)).setCell (p := ⟨w.heap.size + 1, 0, none⟩) (by simp) (.slice ao3 (k + (q.length - (k + 1))) cap3)).setCell (p := ⟨w.heap.size + 1, 1, none⟩) (by simp) (.slice bo a.length cap')
  have hSF := ((HS6.out.setCell (p := ⟨w.heap.size, 0, none⟩) (.slice ao3 (k + (q.length - (k + 1))) cap3) (fun x hx _ => by have := HF3.out x hx; simp; omega)).setCell (p := ⟨w.heap.size + 1, 0, none⟩) (.slice ao3 (k + (q.length - (k + 1))) cap3) (fun x hx _ => by have := HF3.out x hx; simp; omega)).setCell (p := ⟨w.heap.size + 1, 1, none⟩) (.slice bo a.length cap') (fun x hx _ => by have := HF3.out x hx; simp; omega)
  refine bodyPost_ret (v := .agg #[.slice ao3 (k + (q.length - (k + 1))) cap3, .slice bo a.length cap']) ?_ rfl ⟨[.slice ao3 (k + (q.length - (k + 1))) cap3, .slice bo a.length cap'], rfl, ⟨ao3, cap3, bo, cap', _, by rw [hlen]; rfl, HQ.out.cut hXF hk hSF, HA.out.ext hXF⟩, hXF⟩
  simp [results, Try.results42, go_sem, r0, r1]
end Go.Proofs.Ytdlahgmbilkdcaa
