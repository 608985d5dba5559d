import Derived.Test.YtmojeecgcmpbkaaR7
import Derived.Test.YtmojeecgcmpbkaaS5
namespace Go.Proofs.Ytmojeecgcmpbkaa
open Go.RowKit Go.Sz

set_option maxRecDepth 100000 in
set_option maxHeartbeats 3200000 in
theorem law_decode (bs : List UInt8) (ao : Option Addr) (cap : Nat) (w : World) (hs : SL w 1 ao cap (br bs)) :
    Calls Try.prog 4 #[.slice ao bs.length cap] w fun e w' => e = .returned (.bool true) ∧ Ext w w' := by
  have HS := Lib.hid hs
  have hmax : (bs.length : Int) ≤ 9223372036854775807 := by have h1 := hs.le; have h2 := hs.max; rw [br_length] at h1; omega
  clear hs
  by_cases hbig : 2000 < bs.length
  · have q1 : (2000 : Int) < (bs.length : Int) := by omega
    go_enter Try.func4, Try.ntmps4
    go_wp2_with fail
    refine (sane_any _).mono ?_
    rintro e w1 ⟨rfl, hE1⟩
    go_wp2_with fail
    go_ret
    exact ⟨rfl, hE1⟩
  · have q1 : ¬ (2000 : Int) < (bs.length : Int) := by omega
    have HD1 := Lib.hid fun (W : World) (h : Ext w W) => decode_any bs ao cap W (HS.out.ext h) (by omega)
    have HD2 := Lib.hid fun (W : World) (h : Ext w W) => refDecode_any bs ao cap W (HS.out.ext h) (by omega)
    generalize decOut bs = dd at *
    obtain ⟨⟨xk, xn, xs, xl⟩, ec⟩ := dd
    go_enter Try.func4, Try.ntmps4
    go_wp2_with fail
    refine (sane_any _).mono ?_
    rintro e w1 ⟨rfl, hE1⟩
    go_wp2_with fail
    refine (HD1.out _ hE1).mono ?_
    rintro e w2 ⟨cs, F, rfl, hR, _, hE2⟩
    obtain ⟨a2, cap2, rows2, hcs, _⟩ := hR.open
    obtain ⟨cl⟩ := cs
    simp only at hcs
    subst hcs
    have HR := Lib.hid hR
    clear hR
    go_wp2_with fail
    have hX2 := hE1.trans hE2
    have hA3 := (Ext.refl w2).alloc (.cells #[.int .i64 xk, .int .i64 xn, .string xs, .slice a2 xl.length cap2] 24)
    have hbx := Box.new w2 (.int .i64 xk) (.int .i64 xn) (.string xs) (.slice a2 xl.length cap2) 24
    generalize (w2.alloc (.cells #[.int .i64 xk, .int .i64 xn, .string xs, .slice a2 xl.length cap2] 24)) = w3 at *
    refine (HD2.out _ (hX2.trans hA3)).mono ?_
    rintro e w4 ⟨cs, F4, rfl, hR4, hE4⟩
    obtain ⟨a4, cap4, rows4, hcs, _⟩ := hR4.open
    obtain ⟨cl⟩ := cs
    simp only at hcs
    subst hcs
    have HR4 := Lib.hid hR4
    clear hR4
    obtain ⟨c0, c1, c2, c3, _⟩ := hbx.ext hE4
    have hp0 := fun ob => ((Ext.refl w4).alloc ob).cell c0
    have hp1 := fun ob => ((Ext.refl w4).alloc ob).cell c1
    have hp2 := fun ob => ((Ext.refl w4).alloc ob).cell c2
    have hp3 := fun ob => ((Ext.refl w4).alloc ob).cell c3
    have q2 : (ec == ec) = true := by simp
    go_wp2_with fail
    refine (refSame_eq _ (.mk xk xn xs xl) (Nat.le_refl _) _ _ _ F F4 (HR.out.ext ((hA3.trans hE4).alloc _)) (HR4.out.ext ((Ext.refl _).alloc _))).mono ?_
    rintro e w5 ⟨rfl, hE5⟩
    go_wp2_with fail
    go_ret
    exact ⟨rfl, (((hX2.trans hA3).trans hE4).alloc _).trans hE5⟩
end Go.Proofs.Ytmojeecgcmpbkaa
