/- without: the program's. -/
import Derived.Test.YtdlahgmbilkdcaaNA
namespace Go.Sz
open Go.RowKit
def RetN1 (r : Nw) (w : World) (e : Ending) (w' : World) : Prop := ∃ cs, e = .returned (.agg cs.toArray) ∧ RepN w' cs r ∧ Ext w w'
theorem RepQ.cut {w W : World} {ao ao' : Option Addr} {cap cap' k : Nat} {rows : List (List Value)} {q : List Pk} (h : RepQ w ao cap rows q) (hE : Ext w W) (hk : k < q.length) (hs : SL W 3 ao' cap' (rows.take k ++ rows.drop (k + 1))) : RepQ W ao' cap' (rows.take k ++ rows.drop (k + 1)) (q.take k ++ q.drop (k + 1)) := by
  have hl := h.len
  refine ⟨hs, by simp [hl], fun i r p h1 h2 => ?_⟩
  rcases Nat.lt_or_ge i k with hi | hi
  · rw [List.getElem?_append_left (by simp; omega)] at h1 h2
    rw [List.getElem?_take, if_pos hi] at h1 h2
    exact (h.el i r p h1 h2).ext hE
  · rw [List.getElem?_append_right (by simp; omega)] at h1 h2
    rw [List.getElem?_drop] at h1 h2
    rw [List.length_take, Nat.min_eq_left (by omega)] at h1 h2
    exact (h.el _ r p h1 h2).ext hE
end Go.Sz
namespace Go.Proofs.Ytdlahgmbilkdcaa
open Go.RowKit Go.Sz

set_option maxRecDepth 100000 in
set_option maxHeartbeats 3200000 in
theorem without_any (n : Nw) (k : Nat) (cs : List Value) (w : World) (h : RepN w cs n) (hk : k < n.q.length) (hbig : n.q.length ≤ 4096) : Calls Try.prog 38 #[.agg cs.toArray, .int .i64 k] w (RetN1 (cutQ n k) w) := by
  obtain ⟨ao, cap, bo, cap', rows, rfl, hq, ha⟩ := h
  obtain ⟨q, a⟩ := n
  simp only at hq ha hk hbig ⊢
  have hs1 : (q.length : Int) ≤ 9223372036854775807 := by have := hq.sl.max; have := hq.sl.le; have := hq.len; omega
  have hqc : q.length ≤ cap := by have := hq.sl.le; have := hq.len; omega
  obtain ⟨b, o, rfl, _⟩ := hq.sl.at (by omega) k (by rw [hq.len]; exact hk)
  have HQ := Lib.hid hq
  have HA := Lib.hid ha
  clear hq ha
  obtain ⟨i0, hi, hz0, hz1, hz2⟩ := info_parts infoPk
  have hX0 := ((Ext.refl w).alloc (.cells #[.slice (some ⟨b, o, none⟩) q.length cap, .slice bo a.length cap'] 25)).alloc (.cells #[.slice none 0 0, .slice none 0 0] 25)
  have hbn := (Box2.new w (.slice (some ⟨b, o, none⟩) q.length cap) (.slice bo a.length cap') 25).ext ((Ext.refl _).alloc (.cells #[.slice none 0 0, .slice none 0 0] 25))
  have hbr := Box2.new' (w.alloc (.cells #[.slice (some ⟨b, o, none⟩) q.length cap, .slice bo a.length cap'] 25)) (.slice none 0 0) (.slice none 0 0) 25 (w.heap.size + 1) (by simp)
  have hk1 : (0 : Int) ≤ (k : Int) := by omega
  have hk2 : (k : Int) < (q.length : Int) := by omega
  have hk3 : (k : Int) + 1 ≤ (q.length : Int) := by omega
  have hk4 : k ≤ cap := by omega
  have hk5 : (k : Int) + 1 ≤ (cap : Int) := by omega
  go_enter Try.func38, Try.ntmps38
  go_wp2_with fail
  have hsz : ((w.alloc (.cells #[.slice (some ⟨b, o, none⟩) q.length cap, .slice bo a.length cap'] 25)).alloc (.cells #[.slice none 0 0, .slice none 0 0] 25)).heap.size = w.heap.size + 2 := by simp
  generalize ((w.alloc (.cells #[.slice (some ⟨b, o, none⟩) q.length cap, .slice bo a.length cap'] 25)).alloc (.cells #[.slice none 0 0, .slice none 0 0] 25)) = w1 at *
  have HZ := Lib.hid hsz
  clear hsz
  have HBN := Lib.hid hbn
  obtain ⟨n0, n1, nz⟩ := hbn
  have gn0 : ∀ X, (w1.drew.grow X).cell? ⟨w.heap.size, 0, none⟩ = some (.slice (some ⟨b, o, none⟩) q.length cap) := fun X => ((Ext.refl w1).drew.trans (ext_grow _ X)).cell n0
  have hw : IntKind.i64.wrap ((k : Int) + 1) = (k : Int) + 1 := by simp [IntKind.wrap, IntKind.bits, IntKind.signed]; omega
  refine wp_region_rel (fun j => if j = 10 then some (spAp 3 (k + (q.length - (k + 1))) (rows.take k ++ rows.drop (k + 1)) (w.heap.size + 2) (q.length - (k + 1)) (some ⟨b, o, none⟩)) else none) 12 1 (by kernel_rfl) (by kernel_rfl) ?_
  simp only [List.take_succ_cons, List.take_zero]
  repeat (first
    | (refine wpRel_quick ?_ ?_ ?_ ?_
       · rfl
       · rfl
       · first | exact noEnter rfl | (intro f args W W'; go_simp)
       intro K hK
       go_big_quiet_op
       go_big_quiet_on)
    | (refine wpRel_skip ?_ ?_
       · rfl
       simp only [Act.put, List.setIfInBounds_toArray, List.set_cons_zero, List.set_cons_succ]))
  generalize hat : (if cap = k + 1 then some (⟨b, o, none⟩ : Addr) else some (⟨b, o + (k + 1) * 3, none⟩ : Addr)) = at0
  have HT : Hid (∀ W, Ext w W → SL W 3 at0 (cap - (k + 1)) (rows.drop (k + 1))) := Lib.hid fun W hE => by
    have hl := HQ.out.len
    have h1 := (HQ.out.sl.ext hE).sub (p := k + 1) (u := q.length - (k + 1)) (by omega)
    rw [List.take_of_length_le (by simp [hl])] at h1
    by_cases hc : cap = k + 1
    · rw [if_pos hc] at hat
      have h0 : rows.drop (k + 1) = [] := List.drop_eq_nil_of_le (by omega)
      rw [h0, hc, Nat.sub_self, ← hat]
      exact SL.done _
    · rw [if_neg hc] at hat
      rw [← hat]
      exact h1
  have HL := Lib.hid HQ.out.len
  clear hat
  refine wpRel_rich _ rfl rfl (fun W hW => ?_) (fun v W2 hW2 hv => ?_)
  · have hx : Ext w W := hX0.trans ((Ext.refl w1).drew.trans hW.1)
    have hl := HQ.out.len
    refine g_append_full _ _ 22 22 rfl 28 i0 _ 3 40 Try.underlying22 hi hz0 hz1 hz2 rfl (by omega) (some ⟨b, o, none⟩) k (rows.take k) rfl ((HQ.out.sl.ext hx).takes (by omega) (by simp)) (by simp; omega) (.slice at0 (q.length - (k + 1)) (cap - (k + 1))) (q.length - (k + 1)) (fun _ _ x hx => by cases hx; rfl) (rows.drop (k + 1)) rfl ?_ (fun r hr => HQ.out.sl.wid r (List.mem_of_mem_drop hr)) (by simp; omega) (by unfold maxLen; omega) (by omega) _ (by have h1 : w1.heap.size ≤ W.heap.size := hW.1.size; have h2 := HZ.out; omega)
    have := (HT.out W hx).src (P := Try.prog) (by omega) Try.underlying22 (fun r hr => HQ.out.one r (List.mem_of_mem_drop hr))
    rwa [show (rows.drop (k + 1)).length = q.length - (k + 1) by simp; omega] at this
  obtain ⟨ao3, cap3, rfl, _, _⟩ := hv
  simp only [Act.put, List.setIfInBounds_toArray, List.set_cons_zero, List.set_cons_succ]
  repeat (first
    | (refine wpRel_quick ?_ ?_ ?_ ?_
       · rfl
       · rfl
       · first | exact noEnter rfl | (intro f args W W'; go_simp)
       intro K hK
       go_big_quiet_op
       go_big_quiet_on)
    | (refine wpRel_skip ?_ ?_
       · rfl
       simp only [Act.put, List.setIfInBounds_toArray, List.set_cons_zero, List.set_cons_succ]))
  refine wpRel_nil ?_
  intro W hW
  obtain ⟨ao4, cap4, hao, hs4, hfar⟩ := hW.2 10 trivial _ _ rfl rfl
  cases hao
  have hEW := (Ext.refl w1).drew.trans hW.1
  have hXW := hX0.trans hEW
  have hbR : b < w.heap.size := by
    obtain ⟨b', o', e, h⟩ := HQ.out.sl.at (by omega) k (by rw [HQ.out.len]; exact hk)
    cases e; exact h
  have HFAR : Hid (∀ a, ao3 = some a → a.block < w.heap.size ∨ w.heap.size + 2 ≤ a.block) := Lib.hid fun x hx => by
    rcases hfar with ⟨_, h⟩ | h
    · rw [h] at hx; cases hx; exact .inl hbR
    · exact .inr (h x hx)
  have HS4 := Lib.hid hs4
  clear hs4 hfar
  obtain ⟨m0, m1, mz⟩ := HBN.out.ext hEW
  obtain ⟨r0, r1, rz⟩ := hbr.ext hEW
  refine wpAny_ready (rs := [12]) (by kernel_rfl) (by simp) ?_
  refine AllReady.cons rfl (fun K hK => ?_) AllReady.nil
  go_simp
  refine hK _ _ ?_
  clear hK K
  refine wpAny_done (by kernel_rfl) ?_ _
  go_wp2_with fail
  have hlen : (cutQ ⟨q, a⟩ k).q.length = k + (q.length - (k + 1)) := by simp [cutQ]; omega
  have hXF := ((hXW.setCell (p := ⟨w.heap.size, 0, none⟩) (by simp) (.slice ao3 (k + (q.length - (k + 1))) cap3)).setCell (p := ⟨w.heap.size + 1, 0, none⟩) (by simp) (.slice ao3 (k + (q.length - (k + 1))) cap3)).setCell (p := ⟨w.heap.size + 1, 1, none⟩) (by simp) (.slice bo a.length cap')
  have hSF := ((HS4.out.setCell (p := ⟨w.heap.size, 0, none⟩) (.slice ao3 (k + (q.length - (k + 1))) cap3) (fun x hx _ => by have := HFAR.out x hx; simp; omega)).setCell (p := ⟨w.heap.size + 1, 0, none⟩) (.slice ao3 (k + (q.length - (k + 1))) cap3) (fun x hx _ => by have := HFAR.out x hx; simp; omega)).setCell (p := ⟨w.heap.size + 1, 1, none⟩) (.slice bo a.length cap') (fun x hx _ => by have := HFAR.out x hx; simp; omega)
  refine bodyPost_ret (v := .agg #[.slice ao3 (k + (q.length - (k + 1))) cap3, .slice bo a.length cap']) ?_ rfl ⟨[.slice ao3 (k + (q.length - (k + 1))) cap3, .slice bo a.length cap'], rfl, ⟨ao3, cap3, bo, cap', _, by rw [hlen]; rfl, HQ.out.cut hXF hk hSF, HA.out.ext hXF⟩, hXF⟩
  simp [results, Try.results38, go_sem, r0, r1]
end Go.Proofs.Ytdlahgmbilkdcaa
