import Derived.Test.YtdlahgmbilkdcaaN3
namespace Go.Sz
/-- the errors of Deliver, Lose and Repeat -/
def askN (n : Nw) (i : Int) : Int := if okN n = true then (if 0 ≤ i ∧ i < n.q.length then 0 else 1) else 480
end Go.Sz
namespace Go.Proofs.Ytdlahgmbilkdcaa
open Go.RowKit Go.Sz

theorem few_any (n : Nw) (cs : List Value) (w : World) (h : RepN w cs n) : Calls Try.prog 10 #[.agg cs.toArray] w fun e w' => e = .returned (.bool (decide (n.q.length ≤ 40) && decide (n.a.length ≤ 40))) ∧ Ext w w' := by
  obtain ⟨ao, cap, bo, cap', rows, rfl, hq, ha⟩ := h
  obtain ⟨q, a⟩ := n
  simp only at hq ha ⊢
  have hs1 : (q.length : Int) ≤ 9223372036854775807 := by have := hq.sl.max; have := hq.sl.le; have := hq.len; omega
  have hs2 : (a.length : Int) ≤ 9223372036854775807 := by have h1 := ha.sl.max; have h2 := ha.sl.le; rw [pr_length] at h2; omega
  clear hq ha
  have hX0 := (Ext.refl w).alloc (.cells #[.slice ao q.length cap, .slice bo a.length cap'] 25)
  go_enter Try.func10, Try.ntmps10
  go_wp2_with fail
  all_goals
    go_ret
    refine ⟨congrArg (fun b => Ending.returned (.bool b)) ?_, hX0⟩
    rw [Bool.eq_iff_iff]
    simp
    try omega


set_option maxRecDepth 100000 in
theorem asked_any (hck : ∀ (n : Nw) (cs : List Value) (w : World), RepN w cs n → Calls Try.prog 14 #[.agg cs.toArray] w fun e w' => e = .returned (.int .i64 (checkN n)) ∧ Ext w w')
    (n : Nw) (i : Int) (cs : List Value) (w : World) (h : RepN w cs n) : Calls Try.prog 41 #[.agg cs.toArray, .int .i64 i] w fun e w' => e = .returned (.int .i64 (askN n i)) ∧ Ext w w' := by
  have HH := Lib.hid h
  obtain ⟨ao, cap, bo, cap', rows, rfl, hq, ha⟩ := h
  have HC := Lib.hid fun (W : World) (hE : Ext w W) => hck n _ W (HH.out.ext hE)
  have HX : Hid (askN n i = if okN n = true then (if 0 ≤ i ∧ i < n.q.length then 0 else 1) else 480) := Lib.hid rfl
  have HCX : Hid (checkN n = if okN n = true then 0 else 480) := Lib.hid rfl
  obtain ⟨q, a⟩ := n
  simp only at hq ha HX HC ⊢
  have hs1 : (q.length : Int) ≤ 9223372036854775807 := by have := hq.sl.max; have := hq.sl.le; have := hq.len; omega
  clear hq ha hck HH
  have hX0 := (Ext.refl w).alloc (.cells #[.slice ao q.length cap, .slice bo a.length cap'] 25)
  have hbx := Box2.new w (.slice ao q.length cap) (.slice bo a.length cap') 25
  generalize okN ⟨q, a⟩ = ok at *
  generalize checkN ⟨q, a⟩ = ck at *
  cases ok with
  | false =>
    have hck : ck = 480 := by rw [HCX.out]; rfl
    subst hck
    go_enter Try.func41, Try.ntmps41
    go_wp2_with (go_at_call 14; refine (HC.out _ hX0).mono ?_; rintro e w1 ⟨rfl, hE1⟩)
    go_ret
    exact ⟨by rw [HX.out]; rfl, hX0.trans hE1⟩
  | true =>
    have hck : ck = 0 := by rw [HCX.out]; rfl
    subst hck
    go_enter Try.func41, Try.ntmps41
    go_wp2_with fail
    refine (HC.out _ hX0).mono ?_
    rintro e w1 ⟨rfl, hE1⟩
    obtain ⟨b0, b1, _⟩ := hbx.ext hE1
    go_wp2_with fail
    all_goals
      go_ret
      refine ⟨congrArg (fun b => Ending.returned (.int .i64 b)) ?_, hX0.trans hE1⟩
      rw [HX.out]
      simp only [if_true]
      first | (rw [if_neg (by omega)]; done) | (rw [if_pos (by omega)]; done)
end Go.Proofs.Ytdlahgmbilkdcaa
