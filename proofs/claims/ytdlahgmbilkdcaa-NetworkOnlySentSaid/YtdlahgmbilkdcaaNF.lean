/- Repeat: the program's and the reference's. -/
import Derived.Test.YtdlahgmbilkdcaaNE
namespace Go.Sz
open Go.RowKit
def spRetN (r : Nw × Int) : Spec := ⟨fun v W => ∃ cs : List Value, v = .tuple #[.agg cs.toArray, .int .i64 r.2] ∧ RepN W cs r.1, fun hE ⟨cs, h1, h2⟩ => ⟨cs, h1, h2.ext hE⟩⟩
def spRetN1 (r : Nw) : Spec := ⟨fun v W => ∃ cs : List Value, v = .agg cs.toArray ∧ RepN W cs r, fun hE ⟨cs, h1, h2⟩ => ⟨cs, h1, h2.ext hE⟩⟩
end Go.Sz
namespace Go.Proofs.Ytdlahgmbilkdcaa
open Go.RowKit Go.Sz

set_option maxRecDepth 100000 in
set_option maxHeartbeats 3200000 in
theorem repeat_any (n : Nw) (i : Int) (cs : List Value) (w : World) (h : RepN w cs n) : Calls Try.prog 25 #[.agg cs.toArray, .int .i64 i] w (RetN (repeatN n i) w) := by
  have HH := Lib.hid h
  have HC := Lib.hid fun (W : World) (hE : Ext w W) => at_any n i _ W (HH.out.ext hE)
  have HX : Hid (repeatN n i = if askN n i = 0 then sendN n (n.q.getD i.toNat ⟨0, 0, []⟩) else (⟨[], []⟩, askN n i)) := Lib.hid rfl
  have HAS : Hid ((atN n i).2 = askN n i) := Lib.hid rfl
  have HAX : Hid (atN n i = (if askN n i = 0 then n.q.getD i.toNat ⟨0, 0, []⟩ else ⟨0, 0, []⟩, askN n i)) := Lib.hid rfl
  have hs1 := h.sizes
  obtain ⟨ao, cap, bo, cap', rows, rfl, hq, ha⟩ := h
  have HQ := Lib.hid hq
  clear hq ha
  obtain ⟨q, a⟩ := n
  simp only at HX HC HAS HAX HQ hs1 ⊢
  have hX0 := ((Ext.refl w).alloc (.cells #[.slice ao q.length cap, .slice bo a.length cap'] 25)).alloc (.cells #[.slice none 0 0, .slice none 0 0] 25)
  have hbn := (Box2.new w (.slice ao q.length cap) (.slice bo a.length cap') 25).ext ((Ext.refl _).alloc (.cells #[.slice none 0 0, .slice none 0 0] 25))
  have hbr := Box2.new' (w.alloc (.cells #[.slice ao q.length cap, .slice bo a.length cap'] 25)) (.slice none 0 0) (.slice none 0 0) 25 (w.heap.size + 1) (by simp)
  by_cases hak : askN ⟨q, a⟩ i = 0
  · have HR : Hid (repeatN ⟨q, a⟩ i = sendN ⟨q, a⟩ (atN ⟨q, a⟩ i).1) := Lib.hid (by rw [HX.out, HAX.out, if_pos hak, if_pos hak])
    generalize (atN ⟨q, a⟩ i) = pp at *
    obtain ⟨⟨f, t, d⟩, z⟩ := pp
    generalize askN ⟨q, a⟩ i = ak at *
    simp only at HR HAS
    subst hak
    generalize repeatN ⟨q, a⟩ i = r at *
    obtain rfl := HR.out
    have HSX : Hid (sendN ⟨q, a⟩ ⟨f, t, d⟩ = sendN ⟨q, a⟩ ⟨f, t, d⟩) := Lib.hid rfl
    go_enter Try.func25, Try.ntmps25
    go_wp2_with (first
      | (go_at_call 35; refine (HC.out _ hX0).mono ?_; rintro e w1 ⟨cp, rfl, hP1, hE1⟩; have HP1 := Lib.hid hP1; obtain ⟨co, cap2, rfl⟩ := hP1.open; clear hP1; rw [HAS.out]; obtain ⟨n0, n1, _⟩ := hbn.ext hE1; obtain ⟨r0, r1, rz⟩ := hbr.ext hE1; have hp0 := fun ob => ((Ext.refl w1).alloc ob).cell n0; have hp1 := fun ob => ((Ext.refl w1).alloc ob).cell n1; have hpr0 := fun ob => ((Ext.refl w1).alloc ob).cell r0; have hpr1 := fun ob => ((Ext.refl w1).alloc ob).cell r1; have hfz := fun ob i => (((hbr.ext hE1).ext ((Ext.refl w1).alloc ob)).z i))
      | (go_at_call 11; refine (send_any ⟨q, a⟩ ⟨f, t, d⟩ _ _ _ (HH.out.ext ((hX0.trans hE1).alloc (.cells #[.int .i64 f, .int .i64 t, .slice co d.length cap2] 28))) (HP1.out.ext ((Ext.refl w1).alloc (.cells #[.int .i64 f, .int .i64 t, .slice co d.length cap2] 28)))).mono ?_; rintro e w2 ⟨cs2, rfl, hN2, hE2⟩; have HN2 := Lib.hid hN2; obtain ⟨ao2, cap3, bo2, cap4, rfl⟩ := hN2.open; clear hN2; have HB2 := Lib.hid ((hbr.ext hE1).ext (((Ext.refl w1).alloc _).trans hE2)); obtain ⟨t0, t1, tz⟩ := HB2.out))
    have hX2 := ((hX0.trans hE1).alloc (.cells #[.int .i64 f, .int .i64 t, .slice co d.length cap2] 28)).trans hE2
    have hXF := (hX2.setCell (p := ⟨w.heap.size + 1, 0, none⟩) (by simp) (.slice ao2 (sendN ⟨q, a⟩ ⟨f, t, d⟩).1.q.length cap3)).setCell (p := ⟨w.heap.size + 1, 1, none⟩) (by simp) (.slice bo2 (sendN ⟨q, a⟩ ⟨f, t, d⟩).1.a.length cap4)
    refine bodyPost_ret (v := .tuple #[.agg #[.slice ao2 (sendN ⟨q, a⟩ ⟨f, t, d⟩).1.q.length cap3, .slice bo2 (sendN ⟨q, a⟩ ⟨f, t, d⟩).1.a.length cap4], .int .i64 (sendN ⟨q, a⟩ ⟨f, t, d⟩).2]) ?_ rfl ⟨_, rfl, HN2.out.setN HB2.out _ _, hXF⟩
    simp [results, Try.results25, go_sem, t0, t1]
  · have HR : Hid (repeatN ⟨q, a⟩ i = (⟨[], []⟩, askN ⟨q, a⟩ i)) := Lib.hid (by rw [HX.out, if_neg hak])
    generalize atN ⟨q, a⟩ i = pp at *
    generalize askN ⟨q, a⟩ i = ak at *
    generalize repeatN ⟨q, a⟩ i = r at *
    obtain rfl := HR.out
    have hne : (ak != 0) = true := by simpa using hak
    clear hak
    go_enter Try.func25, Try.ntmps25
    go_wp2_with (first
      | (go_at_call 35; refine (HC.out _ hX0).mono ?_; rintro e w1 ⟨cp, rfl, hP1, hE1⟩; have HP1 := Lib.hid hP1; obtain ⟨co, cap2, rfl⟩ := hP1.open; clear hP1; rw [HAS.out]; obtain ⟨n0, n1, _⟩ := hbn.ext hE1; obtain ⟨r0, r1, rz⟩ := hbr.ext hE1; have hp0 := fun ob => ((Ext.refl w1).alloc ob).cell n0; have hp1 := fun ob => ((Ext.refl w1).alloc ob).cell n1; have hpr0 := fun ob => ((Ext.refl w1).alloc ob).cell r0; have hpr1 := fun ob => ((Ext.refl w1).alloc ob).cell r1; have hfz := fun ob i => (((hbr.ext hE1).ext ((Ext.refl w1).alloc ob)).z i)))
    refine bodyPost_ret (v := .tuple #[.agg #[.slice none 0 0, .slice none 0 0], .int .i64 ak]) ?_ rfl ⟨_, rfl, RepN.zero _, ?_⟩
    · simp [results, Try.results25, go_sem, hpr0, hpr1]
    · exact (((hX0.trans hE1).alloc _).setCell (by simp) _).setCell (by simp) _
end Go.Proofs.Ytdlahgmbilkdcaa
