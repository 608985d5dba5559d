import Derived.Test.YtmojeecgcmpbkaaS5
namespace Go.Sz
open Go.RowKit
theorem sl_one (w : World) (t : TypeId) (a0 a1 a2 a3 : Value) (g : Nat) (hg : g = w.heap.size) : SL (w.alloc (.cells #[a0, a1, a2, a3] t)) 4 (some ⟨g, 0, none⟩) 1 [[a0, a1, a2, a3]] := by
  subst hg
  refine ⟨by simp, by omega, by simp, by simp, ?_⟩
  intro i j r v hr hv
  refine ⟨_, _, rfl, ?_⟩
  match i, hr with
  | 0, hr =>
    simp at hr; subst hr
    match j, hv with
    | 0, hv => simp at hv; subst hv; simp
    | 1, hv => simp at hv; subst hv; simp
    | 2, hv => simp at hv; subst hv; simp
    | 3, hv => simp at hv; subst hv; simp
    | j + 4, hv => simp at hv
  | i + 1, hr => simp at hr
end Go.Sz
namespace Go.Proofs.Ytmojeecgcmpbkaa
open Go.RowKit Go.Sz

set_option maxRecDepth 100000 in
set_option maxHeartbeats 3200000 in
theorem law_encode (v : V) (w : World) (F : Nat → Prop) (cs : List Value) (hR : RepV w F cs v) (hFb : ∀ b, F b → b < w.heap.size) :
    Calls Try.prog 3 #[.agg cs.toArray] w fun e w' => e = .returned (.bool true) ∧ Ext w w' := by
  obtain ⟨k, n, s, l⟩ := v
  obtain ⟨ao, cap, rows, rfl, _⟩ := hR.open
  have HR := Lib.hid hR
  clear hR
  go_enter Try.func3, Try.ntmps3
  go_wp2_with fail
  have hX0 := (Ext.refl w).alloc (.cells #[.int .i64 k, .int .i64 n, .string s, .slice ao l.length cap] 24)
  have hbx := Box.new w (.int .i64 k) (.int .i64 n) (.string s) (.slice ao l.length cap) 24
  generalize (w.alloc (.cells #[.int .i64 k, .int .i64 n, .string s, .slice ao l.length cap] 24)) = w0 at *
  refine (sane_any _).mono ?_
  rintro e w1 ⟨rfl, hE1⟩
  have hX1 := hX0.trans hE1
  obtain ⟨c0, c1, c2, c3, cz⟩ := hbx.ext hE1
  go_wp2_with fail
  have hs2 := sl_one w1 24 (.int .i64 k) (.int .i64 n) (.string s) (.slice ao l.length cap) w1.heap.size rfl
  have hX2 := hX1.alloc (.cells #[.int .i64 k, .int .i64 n, .string s, .slice ao l.length cap] 24)
  have hA2 := (Ext.refl w1).alloc (.cells #[.int .i64 k, .int .i64 n, .string s, .slice ao l.length cap] 24)
  clear c0 c1 c2 c3 cz
  generalize (w1.alloc (.cells #[.int .i64 k, .int .i64 n, .string s, .slice ao l.length cap] 24)) = w2 at *
  have hfew := few_any [.mk k n s l] (some ⟨w1.heap.size, 0, none⟩) 1 _ F w2 hs2 rfl (fun i r x h1 h2 => by
    match i, h1, h2 with
    | 0, h1, h2 => simp at h1 h2; subst h1 h2; exact HR.out.ext hX2
    | i + 1, h1, h2 => simp at h1)
  refine hfew.mono ?_
  clear hfew hs2
  rintro e w3 ⟨⟨b, rfl, hb⟩, hE3⟩
  have hX3 := hX2.trans hE3
  cases b with
  | false =>
    go_wp2_with fail
    go_ret
    exact ⟨rfl, hX3⟩
  | true =>
    have hsm : Small (.mk k n s l) := hb (by trivial) _ (by simp)
    obtain ⟨hsm1, hsm2⟩ := hsm
    have hY3 := (hE1.trans hA2).trans hE3
    obtain ⟨c0, c1, c2, c3, cz⟩ := hbx.ext hY3
    go_wp2_with fail
    refine (encode_sl (.mk k n s l) hsm2 w3 F _ (HR.out.ext hX3) (fun b hb => Nat.lt_of_lt_of_le (hFb b hb) hX3.size) hsm1).mono ?_
    rintro e w4 ⟨ao4, cap4, rfl, hs4, hE4⟩
    have hX4 := hX3.trans hE4
    have hY4 := hY3.trans hE4
    clear c0 c1 c2 c3 cz
    obtain ⟨c0, c1, c2, c3, cz⟩ := hbx.ext hY4
    have HS4 := Lib.hid hs4
    clear hs4
    go_wp2_with fail
    refine (refEncode_sl (.mk k n s l) hsm2 w4 F _ (HR.out.ext hX4) hsm1).mono ?_
    rintro e w5 ⟨ao5, cap5, rfl, hs5, hE5⟩
    have hX5 := hX4.trans hE5
    have hY5 := hY4.trans hE5
    clear c0 c1 c2 c3 cz
    obtain ⟨c0, c1, c2, c3, cz⟩ := hbx.ext hY5
    have HS5 := Lib.hid hs5
    clear hs5
    go_wp2_with fail
    refine (size_any (.mk k n s l) hsm2 w5 F _ (HR.out.ext hX5) (fun b hb => Nat.lt_of_lt_of_le (hFb b hb) hX5.size) hsm1).mono ?_
    rintro e w6 ⟨rfl, hE6⟩
    have hX6 := hX5.trans hE6
    have hY6 := hY5.trans hE6
    clear c0 c1 c2 c3 cz
    obtain ⟨c0, c1, c2, c3, cz⟩ := hbx.ext hY6
    go_wp2_with fail
    refine (refSize_any (.mk k n s l) hsm2 w6 F _ (HR.out.ext hX6) hsm1).mono ?_
    rintro e w7 ⟨rfl, hE7⟩
    have hX7 := hX6.trans hE7
    have hY7 := hY6.trans hE7
    clear c0 c1 c2 c3 cz
    obtain ⟨c0, c1, c2, c3, cz⟩ := hbx.ext hY7
    have HK := Lib.hid fun (W : World) (h : Ext w7 W) => (⟨h.cell c0, h.cell c1, h.cell c2, h.cell c3, (HS4.out.ext (((hE5.trans hE6).trans hE7).trans h)).toStr (P := Try.prog) (bs := encOut (.mk k n s l)) 27 9 5 Try.underlying27 Try.underlying5 Try.underlying9,
        (HS5.out.ext ((hE6.trans hE7).trans h)).toStr (P := Try.prog) (bs := encOut (.mk k n s l)) 27 9 5 Try.underlying27 Try.underlying5 Try.underlying9⟩ :
      W.cell? ⟨w.heap.size, 0, none⟩ = some (.int .i64 k) ∧ W.cell? ⟨w.heap.size, 1, none⟩ = some (.int .i64 n) ∧ W.cell? ⟨w.heap.size, 2, none⟩ = some (.string s) ∧ W.cell? ⟨w.heap.size, 3, none⟩ = some (.slice ao l.length cap) ∧
        (convert 27 9 (.slice ao4 (encOut (.mk k n s l)).length cap4)).run Try.prog W = .ok (.string ⟨(encOut (.mk k n s l)).toArray⟩) W ∧ (convert 27 9 (.slice ao5 (encOut (.mk k n s l)).length cap5)).run Try.prog W = .ok (.string ⟨(encOut (.mk k n s l)).toArray⟩) W)
    have HC := Lib.hid fun (W : World) (h : Ext w7 W) => check_any (.mk k n s l) hsm2 W F _ (HR.out.ext (hX7.trans h))
    have HD := Lib.hid fun (W : World) (h : Ext w7 W) => refCheck_any (.mk k n s l) hsm2 W F _ (HR.out.ext (hX7.trans h))
    generalize checkV (.mk k n s l) = ck at *
    generalize encOut (.mk k n s l) = en at *
    have q1 : (ck == ck) = true := by simp
    have q2 : ((en.length : Int) == (en.length : Int)) = true := by simp
    go_wp2_with fail
    have HX := Lib.hid hX7
    clear hX7 hX6 hX5 hX4 hX3 hX2 hX1 hX0 hY7 hY6 hY5 hY4 hY3 hE1 hE3 hE4 hE5 hE6 hE7 hA2 hbx cz hsm1 hsm2
    go_region_held3 (fun w' => w'.cell? ⟨w.heap.size, 0, none⟩ = some (.int .i64 k) ∧ w'.cell? ⟨w.heap.size, 1, none⟩ = some (.int .i64 n) ∧ w'.cell? ⟨w.heap.size, 2, none⟩ = some (.string s) ∧ w'.cell? ⟨w.heap.size, 3, none⟩ = some (.slice ao l.length cap) ∧
        (convert 27 9 (.slice ao4 en.length cap4)).run Try.prog w' = .ok (.string ⟨en.toArray⟩) w' ∧ (convert 27 9 (.slice ao5 en.length cap5)).run Try.prog w' = .ok (.string ⟨en.toArray⟩) w')
      (first | exact HK.out _ (Ext.refl _).drew | exact HK.out _ ((Ext.refl _).drew.trans hE8) | exact HK.out _ ((Ext.refl _).drew.trans hE9) | exact HK.out _ (((Ext.refl _).drew.trans hE8).trans hE9) | exact HK.out _ (((Ext.refl _).drew.trans hE9).trans hE8))
      (first
        | (go_at_call 12; refine (HC.out _ (Ext.refl _).drew).mono ?_; rintro e w8 ⟨rfl, hE8⟩)
        | (go_at_call 12; refine (HC.out _ ((Ext.refl _).drew.trans hE9)).mono ?_; rintro e w8 ⟨rfl, hE8⟩)
        | (go_at_call 13; refine (HD.out _ (Ext.refl _).drew).mono ?_; rintro e w9 ⟨rfl, hE9⟩)
        | (go_at_call 13; refine (HD.out _ ((Ext.refl _).drew.trans hE8)).mono ?_; rintro e w9 ⟨rfl, hE9⟩))
    all_goals
      go_wp2_with fail
      go_ret
      first
        | exact ⟨rfl, HX.out.trans (((Ext.refl _).drew.trans hE8).trans hE9)⟩
        | exact ⟨rfl, HX.out.trans (((Ext.refl _).drew.trans hE9).trans hE8)⟩
end Go.Proofs.Ytmojeecgcmpbkaa
