/- Lose, Repeat: the program's and the reference's. -/
import Derived.Test.YtdlahgmbilkdcaaNE0
namespace Go.Sz
open Go.RowKit
def loseN (n : Nw) (i : Int) : Nw × Int := (if askN n i = 0 then cutQ n i.toNat else ⟨[], []⟩, askN n i)
def repeatN (n : Nw) (i : Int) : Nw × Int := if askN n i = 0 then sendN n (n.q.getD i.toNat ⟨0, 0, []⟩) else (⟨[], []⟩, askN n i)
theorem okN_len {n : Nw} (h : okN n = true) : n.q.length ≤ 4096 := by
  simp only [okN, Bool.and_eq_true, decide_eq_true_eq] at h
  exact h.1.1
theorem RepN.open {w : World} {cs : List Value} {n : Nw} (h : RepN w cs n) : ∃ ao cap bo cap', cs = [.slice ao n.q.length cap, .slice bo n.a.length cap'] := by
  obtain ⟨ao, cap, bo, cap', _, h, _⟩ := h
  exact ⟨ao, cap, bo, cap', h⟩
theorem RepP.open {w : World} {cs : List Value} {p : Pk} (h : RepP w cs p) : ∃ ao cap, cs = [.int .i64 p.f, .int .i64 p.t, .slice ao p.d.length cap] := by
  obtain ⟨ao, cap, h, _⟩ := h
  exact ⟨ao, cap, h⟩
theorem RepN.sizes {w : World} {cs : List Value} {n : Nw} (h : RepN w cs n) : (n.q.length : Int) ≤ 9223372036854775807 := by
  obtain ⟨ao, cap, bo, cap', rows, _, hq, _⟩ := h
  have := hq.sl.max; have := hq.sl.le; have := hq.len; omega
end Go.Sz
namespace Go.Proofs.Ytdlahgmbilkdcaa
open Go.RowKit Go.Sz

theorem refAsked_any (n : Nw) (i : Int) (cs : List Value) (w : World) (h : RepN w cs n) : Calls Try.prog 41 #[.agg cs.toArray, .int .i64 i] w fun e w' => e = .returned (.int .i64 (askN n i)) ∧ Ext w w' :=
  asked_any refCheck_any n i cs w h

set_option maxRecDepth 100000 in
set_option maxHeartbeats 3200000 in
theorem lose_any (n : Nw) (i : Int) (cs : List Value) (w : World) (h : RepN w cs n) : Calls Try.prog 23 #[.agg cs.toArray, .int .i64 i] w (RetN (loseN n i) w) := by
  have HH := Lib.hid h
  have HC := Lib.hid fun (W : World) (hE : Ext w W) => at_any n i _ W (HH.out.ext hE)
  have HX : Hid (loseN n i = (if askN n i = 0 then cutQ n i.toNat else ⟨[], []⟩, askN n i)) := Lib.hid rfl
  have HAS : Hid ((atN n i).2 = askN n i) := Lib.hid rfl
  have hs1 := h.sizes
  obtain ⟨ao, cap, bo, cap', rfl⟩ := h.open
  clear h
  obtain ⟨q, a⟩ := n
  simp only at HX HC HAS hs1 ⊢
  have hX0 := ((Ext.refl w).alloc (.cells #[.slice ao q.length cap, .slice bo a.length cap'] 25)).alloc (.cells #[.slice none 0 0, .slice none 0 0] 25)
  have hbn := (Box2.new w (.slice ao q.length cap) (.slice bo a.length cap') 25).ext ((Ext.refl _).alloc (.cells #[.slice none 0 0, .slice none 0 0] 25))
  have hbr := Box2.new' (w.alloc (.cells #[.slice ao q.length cap, .slice bo a.length cap'] 25)) (.slice none 0 0) (.slice none 0 0) 25 (w.heap.size + 1) (by simp)
  by_cases hak : askN ⟨q, a⟩ i = 0
  · obtain ⟨hok, hi0, hi1⟩ := askN_zero hak
    obtain ⟨k, rfl⟩ : ∃ k : Nat, i = (k : Int) := ⟨i.toNat, by omega⟩
    have hk : k < q.length := by simp only at hi1; omega
    have HW := Lib.hid fun (W : World) (hE : Ext w W) => without_any ⟨q, a⟩ k _ W (HH.out.ext hE) hk (okN_len hok)
    have HR : Hid (loseN ⟨q, a⟩ k = (cutQ ⟨q, a⟩ k, 0)) := Lib.hid (by rw [HX.out, hak]; rfl)
    generalize atN ⟨q, a⟩ k = r0 at *
    generalize askN ⟨q, a⟩ k = ak at *
    generalize loseN ⟨q, a⟩ k = r at *
    obtain rfl := HR.out
    subst hak
    clear hok hi0 hi1
    go_enter Try.func23, Try.ntmps23
    go_wp2_with (first
      | (go_at_call 35; refine (HC.out _ hX0).mono ?_; rintro e w1 ⟨cp, rfl, hP1, hE1⟩; obtain ⟨co, cap2, rfl⟩ := hP1.open; clear hP1; rw [HAS.out]; obtain ⟨n0, n1, _⟩ := hbn.ext hE1; obtain ⟨r0, r1, rz⟩ := hbr.ext hE1)
      | (go_at_call 38; refine (HW.out _ (hX0.trans hE1)).mono ?_; rintro e w2 ⟨cs2, rfl, hN2, hE2⟩; have HN2 := Lib.hid hN2; obtain ⟨ao2, cap3, bo2, cap4, rfl⟩ := hN2.open; clear hN2; obtain ⟨r0, r1, rz⟩ := hbr.ext (hE1.trans hE2)))
    have hX2 := (hX0.trans hE1).trans hE2
    have hXF := (hX2.setCell (p := ⟨w.heap.size + 1, 0, none⟩) (by simp) (.slice ao2 (cutQ ⟨q, a⟩ k).q.length cap3)).setCell (p := ⟨w.heap.size + 1, 1, none⟩) (by simp) (.slice bo2 (cutQ ⟨q, a⟩ k).a.length cap4)
    refine bodyPost_ret (v := .tuple #[.agg #[.slice ao2 (cutQ ⟨q, a⟩ k).q.length cap3, .slice bo2 (cutQ ⟨q, a⟩ k).a.length cap4], .int .i64 0]) ?_ rfl ⟨_, rfl, ?_, hXF⟩
    · simp [results, Try.results23, go_sem, r0, r1]
    · exact HN2.out.setN ((hbr.ext hE1).ext hE2) _ _
  · have HR : Hid (loseN ⟨q, a⟩ i = (⟨[], []⟩, askN ⟨q, a⟩ i)) := Lib.hid (by rw [HX.out, if_neg hak])
    generalize atN ⟨q, a⟩ i = r0 at *
    generalize askN ⟨q, a⟩ i = ak at *
    generalize loseN ⟨q, a⟩ i = r at *
    obtain rfl := HR.out
    have hne : (ak != 0) = true := by simpa using hak
    clear hak
    go_enter Try.func23, Try.ntmps23
    go_wp2_with (first
      | (go_at_call 35; refine (HC.out _ hX0).mono ?_; rintro e w1 ⟨cp, rfl, hP1, hE1⟩; obtain ⟨co, cap2, rfl⟩ := hP1.open; clear hP1; rw [HAS.out]; obtain ⟨n0, n1, _⟩ := hbn.ext hE1; obtain ⟨r0, r1, rz⟩ := hbr.ext hE1))
    refine bodyPost_ret (v := .tuple #[.agg #[.slice none 0 0, .slice none 0 0], .int .i64 ak]) ?_ rfl ⟨_, rfl, RepN.zero _, ?_⟩
    · simp [results, Try.results23, go_sem, r0, r1]
    · exact ((hX0.trans hE1).setCell (by simp) _).setCell (by simp) _

set_option maxRecDepth 100000 in
set_option maxHeartbeats 3200000 in
theorem refLose_any (n : Nw) (i : Int) (cs : List Value) (w : World) (h : RepN w cs n) : Calls Try.prog 24 #[.agg cs.toArray, .int .i64 i] w (RetN (loseN n i) w) := by
  have HH := Lib.hid h
  have HC := Lib.hid fun (W : World) (hE : Ext w W) => refAsked_any n i _ W (HH.out.ext hE)
  have HX : Hid (loseN n i = (if askN n i = 0 then cutQ n i.toNat else ⟨[], []⟩, askN n i)) := Lib.hid rfl
  have HAS : Hid ((atN n i).2 = askN n i) := Lib.hid rfl
  have hs1 := h.sizes
  obtain ⟨ao, cap, bo, cap', rfl⟩ := h.open
  clear h
  obtain ⟨q, a⟩ := n
  simp only at HX HC HAS hs1 ⊢
  have hX0 := ((Ext.refl w).alloc (.cells #[.slice ao q.length cap, .slice bo a.length cap'] 25)).alloc (.cells #[.slice none 0 0, .slice none 0 0] 25)
  have hbn := (Box2.new w (.slice ao q.length cap) (.slice bo a.length cap') 25).ext ((Ext.refl _).alloc (.cells #[.slice none 0 0, .slice none 0 0] 25))
  have hbr := Box2.new' (w.alloc (.cells #[.slice ao q.length cap, .slice bo a.length cap'] 25)) (.slice none 0 0) (.slice none 0 0) 25 (w.heap.size + 1) (by simp)
  by_cases hak : askN ⟨q, a⟩ i = 0
  · obtain ⟨hok, hi0, hi1⟩ := askN_zero hak
    obtain ⟨k, rfl⟩ : ∃ k : Nat, i = (k : Int) := ⟨i.toNat, by omega⟩
    have hk : k < q.length := by simp only at hi1; omega
    have HW := Lib.hid fun (W : World) (hE : Ext w W) => refWithout_any ⟨q, a⟩ k _ W (HH.out.ext hE) hk (okN_len hok)
    have HR : Hid (loseN ⟨q, a⟩ k = (cutQ ⟨q, a⟩ k, 0)) := Lib.hid (by rw [HX.out, hak]; rfl)
    generalize atN ⟨q, a⟩ k = r0 at *
    generalize askN ⟨q, a⟩ k = ak at *
    generalize loseN ⟨q, a⟩ k = r at *
    obtain rfl := HR.out
    subst hak
    clear hok hi0 hi1
    go_enter Try.func24, Try.ntmps24
    go_wp2_with (first
      | (go_at_call 41; refine (HC.out _ hX0).mono ?_; rintro e w1 ⟨rfl, hE1⟩; obtain ⟨n0, n1, _⟩ := hbn.ext hE1; obtain ⟨r0, r1, rz⟩ := hbr.ext hE1)
      | (go_at_call 42; refine (HW.out _ (hX0.trans hE1)).mono ?_; rintro e w2 ⟨cs2, rfl, hN2, hE2⟩; have HN2 := Lib.hid hN2; obtain ⟨ao2, cap3, bo2, cap4, rfl⟩ := hN2.open; clear hN2; obtain ⟨r0, r1, rz⟩ := hbr.ext (hE1.trans hE2)))
    have hX2 := (hX0.trans hE1).trans hE2
    have hXF := (hX2.setCell (p := ⟨w.heap.size + 1, 0, none⟩) (by simp) (.slice ao2 (cutQ ⟨q, a⟩ k).q.length cap3)).setCell (p := ⟨w.heap.size + 1, 1, none⟩) (by simp) (.slice bo2 (cutQ ⟨q, a⟩ k).a.length cap4)
    refine bodyPost_ret (v := .tuple #[.agg #[.slice ao2 (cutQ ⟨q, a⟩ k).q.length cap3, .slice bo2 (cutQ ⟨q, a⟩ k).a.length cap4], .int .i64 0]) ?_ rfl ⟨_, rfl, ?_, hXF⟩
    · simp [results, Try.results24, go_sem, r0, r1]
    · exact HN2.out.setN ((hbr.ext hE1).ext hE2) _ _
  · have HR : Hid (loseN ⟨q, a⟩ i = (⟨[], []⟩, askN ⟨q, a⟩ i)) := Lib.hid (by rw [HX.out, if_neg hak])
    generalize atN ⟨q, a⟩ i = r0 at *
    generalize askN ⟨q, a⟩ i = ak at *
    generalize loseN ⟨q, a⟩ i = r at *
    obtain rfl := HR.out
    have hne : (ak != 0) = true := by simpa using hak
    clear hak
    go_enter Try.func24, Try.ntmps24
    go_wp2_with (first
      | (go_at_call 41; refine (HC.out _ hX0).mono ?_; rintro e w1 ⟨rfl, hE1⟩; obtain ⟨n0, n1, _⟩ := hbn.ext hE1; obtain ⟨r0, r1, rz⟩ := hbr.ext hE1))
    refine bodyPost_ret (v := .tuple #[.agg #[.slice none 0 0, .slice none 0 0], .int .i64 ak]) ?_ rfl ⟨_, rfl, RepN.zero _, ?_⟩
    · simp [results, Try.results24, go_sem, r0, r1]
    · exact ((hX0.trans hE1).setCell (by simp) _).setCell (by simp) _
end Go.Proofs.Ytdlahgmbilkdcaa
