/- at, asked, without. -/
import Derived.Test.YtdlahgmbilkdcaaN7
import Derived.Test.YtdlahgmbilkdcaaN9
namespace Go.Sz
open Go.RowKit
def atN (n : Nw) (i : Int) : Pk × Int := (if askN n i = 0 then n.q.getD i.toNat ⟨0, 0, []⟩ else ⟨0, 0, []⟩, askN n i)
def RetP (r : Pk × Int) (w : World) (e : Ending) (w' : World) : Prop := ∃ cs, e = .returned (.tuple #[.agg cs.toArray, .int .i64 r.2]) ∧ RepP w' cs r.1 ∧ Ext w w'
theorem RepP.zero (w : World) : RepP w [.int .i64 0, .int .i64 0, .slice none 0 0] ⟨0, 0, []⟩ := ⟨none, 0, rfl, ⟨by simp, by simp⟩, ⟨by simp, by simp⟩, SL.empty _ _⟩
def cutQ (n : Nw) (k : Nat) : Nw := ⟨n.q.take k ++ n.q.drop (k + 1), n.a⟩
theorem askN_zero {n : Nw} {i : Int} (h : askN n i = 0) : okN n = true ∧ 0 ≤ i ∧ i < n.q.length := by
  unfold askN at h
  split at h
  · rename_i h1
    split at h
    · rename_i h2; exact ⟨h1, h2⟩
    · cases h
  · cases h
end Go.Sz
namespace Go.Proofs.Ytdlahgmbilkdcaa
open Go.RowKit Go.Sz

set_option maxRecDepth 100000 in
set_option maxHeartbeats 3200000 in
theorem at_any (n : Nw) (i : Int) (cs : List Value) (w : World) (h : RepN w cs n) : Calls Try.prog 35 #[.agg cs.toArray, .int .i64 i] w (RetP (atN n i) w) := by
  have HH := Lib.hid h
  obtain ⟨ao, cap, bo, cap', rows, rfl, hq, ha⟩ := h
  have HC := Lib.hid fun (W : World) (hE : Ext w W) => check_any n _ W (HH.out.ext hE)
  have HX : Hid (askN n i = if okN n = true then (if 0 ≤ i ∧ i < n.q.length then 0 else 1) else 480) := Lib.hid rfl
  have HCX : Hid (checkN n = if okN n = true then 0 else 480) := Lib.hid rfl
  have HAX : Hid (atN n i = (if askN n i = 0 then n.q.getD i.toNat ⟨0, 0, []⟩ else ⟨0, 0, []⟩, askN n i)) := Lib.hid rfl
  obtain ⟨q, a⟩ := n
  simp only at hq ha HX HC HAX ⊢
  have hs1 : (q.length : Int) ≤ 9223372036854775807 := by have := hq.sl.max; have := hq.sl.le; have := hq.len; omega
  have HQ := Lib.hid hq
  clear hq ha HH
  have hX0 := ((Ext.refl w).alloc (.cells #[.slice ao q.length cap, .slice bo a.length cap'] 25)).alloc (.cells #[.int .i64 0, .int .i64 0, .slice none 0 0] 28)
  have hbn := (Box2.new w (.slice ao q.length cap) (.slice bo a.length cap') 25).ext ((Ext.refl _).alloc (.cells #[.int .i64 0, .int .i64 0, .slice none 0 0] 28))
  have hbr := Box3.new' (w.alloc (.cells #[.slice ao q.length cap, .slice bo a.length cap'] 25)) (.int .i64 0) (.int .i64 0) (.slice none 0 0) 28 (w.heap.size + 1) (by simp)
  generalize okN ⟨q, a⟩ = ok at *
  generalize checkN ⟨q, a⟩ = ck at *
  generalize askN ⟨q, a⟩ i = ak at *
  generalize atN ⟨q, a⟩ i = r at *
  cases ok with
  | false =>
    have hck : ck = 480 := by rw [HCX.out]; rfl
    have hak : ak = 480 := by rw [HX.out]; rfl
    subst hck hak
    have hr : r = (⟨0, 0, []⟩, 480) := by rw [HAX.out]; rfl
    subst hr
    go_enter Try.func35, Try.ntmps35
    go_wp2_with (go_at_call 13; refine (HC.out _ hX0).mono ?_; rintro e w1 ⟨rfl, hE1⟩; obtain ⟨r0, r1, r2, rz⟩ := hbr.ext hE1)
    refine bodyPost_ret (v := .tuple #[.agg #[.int .i64 0, .int .i64 0, .slice none 0 0], .int .i64 480]) ?_ rfl ⟨_, rfl, RepP.zero _, ?_⟩
    · simp [results, Try.results35, go_sem, r0, r1, r2]
    · exact (((hX0.trans hE1).setCell (by simp) _).setCell (by simp) _).setCell (by simp) _
  | true =>
    have hck : ck = 0 := by rw [HCX.out]; rfl
    subst hck
    by_cases hin : 0 ≤ i ∧ i < q.length
    · have hak : ak = 0 := by rw [HX.out]; simp [hin]
      subst hak
      obtain ⟨k, rfl⟩ : ∃ k : Nat, i = (k : Int) := ⟨i.toNat, by omega⟩
      have hk : k < q.length := by omega
      have hr : r = (q[k], 0) := by rw [HAX.out]; simp [List.getD, hk]
      subst hr
      have hk1 : (0 : Int) ≤ (k : Int) := by omega
      have hk2 : (k : Int) < (q.length : Int) := by omega
      have hk3 : ¬ (k : Int) < 0 := by omega
      clear hin
      obtain ⟨b, o, rfl, _⟩ := HQ.out.sl.at (by omega) k (by rw [HQ.out.len]; exact hk)
      obtain ⟨f, t, d, co, cap2, hqk, hP, c0, c1, c2⟩ := q_cells HQ.out (Ext.refl w) hk
      have HP := Lib.hid hP
      have HD : Hid (q[k] = ⟨f, t, d⟩) := Lib.hid hqk
      clear hqk hP
      go_enter Try.func35, Try.ntmps35
      go_wp2_with (go_at_call 13; refine (HC.out _ hX0).mono ?_; rintro e w1 ⟨rfl, hE1⟩; obtain ⟨n0, n1, _⟩ := hbn.ext hE1; obtain ⟨r0, r1, r2, rz⟩ := hbr.ext hE1; have c0' := (hX0.trans hE1).cell c0; have c1' := (hX0.trans hE1).cell c1; have c2' := (hX0.trans hE1).cell c2)
      have hXF := (((hX0.trans hE1).setCell (p := ⟨w.heap.size + 1, 0, none⟩) (by simp) (.int .i64 f)).setCell (p := ⟨w.heap.size + 1, 1, none⟩) (by simp) (.int .i64 t)).setCell (p := ⟨w.heap.size + 1, 2, none⟩) (by simp) (.slice co d.length cap2)
      refine bodyPost_ret (v := .tuple #[.agg #[.int .i64 f, .int .i64 t, .slice co d.length cap2], .int .i64 0]) ?_ rfl ⟨_, rfl, HP.out.ext hXF, hXF⟩
      simp [results, Try.results35, go_sem, r0, r1, r2]
    · have hak : ak = 1 := by rw [HX.out]; simp [hin]
      subst hak
      have hr : r = (⟨0, 0, []⟩, 1) := by rw [HAX.out]; rfl
      subst hr
      by_cases hneg : i < 0
      all_goals
        have hbig : ¬ i < 0 → (q.length : Int) ≤ i := by omega
        first
          | (have hbig' := hbig hneg)
          | skip
        clear hin hbig
        go_enter Try.func35, Try.ntmps35
        go_wp2_with (go_at_call 13; refine (HC.out _ hX0).mono ?_; rintro e w1 ⟨rfl, hE1⟩; obtain ⟨n0, n1, _⟩ := hbn.ext hE1; obtain ⟨r0, r1, r2, rz⟩ := hbr.ext hE1)
        refine bodyPost_ret (v := .tuple #[.agg #[.int .i64 0, .int .i64 0, .slice none 0 0], .int .i64 1]) ?_ rfl ⟨_, rfl, RepP.zero _, ?_⟩
        · simp [results, Try.results35, go_sem, r0, r1, r2]
        · exact (((hX0.trans hE1).setCell (by simp) _).setCell (by simp) _).setCell (by simp) _
end Go.Proofs.Ytdlahgmbilkdcaa
