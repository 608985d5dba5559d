/- Offers: the laws MakeSpec and ExpireSpec. -/
import Derived.Test.YtbnaoefmjmlfbaaOS
namespace Go.Proofs.Ytbnaoefmjmlfbaa
open Go.RowKit Go.Sz
theorem fw_as {l : List Off} {r : Bool} (hr : decide (l.length ≤ 40) = r) {ao : Option Addr} {cap : Nat} {w : World} (h : RepO w ao cap l) : Calls Try.prog 11 #[.slice ao l.length cap] w fun e w' => e = .returned (.bool r) ∧ Ext w w' := hr ▸ few_any l ao cap w h
theorem rm_as {l : List Off} {x : Off} {r : List Off × Int} (hr : makeO l x = r) {ao : Option Addr} {cap : Nat} {w : World} (h : RepO w ao cap l) (hb : l.length ≤ 100000) : Calls Try.prog 13 #[.slice ao l.length cap, .agg x.enc.toArray] w (RetLE r w) := hr ▸ refMake_any l x ao cap w h hb
theorem rt_as {l : List Off} {s a b now : Int} {r : List Off × Int} (hr : takeO l s a b now = r) {ao : Option Addr} {cap : Nat} {w : World} (h : RepO w ao cap l) (hb : l.length ≤ 100000) : Calls Try.prog 22 #[.slice ao l.length cap, .int .i64 s, .agg #[.int .i64 a, .int .i64 b], .int .i64 now] w (RetLE r w) := hr ▸ refTake_any l s a b now ao cap w h hb
theorem rx_as {l : List Off} {now : Int} {r : List Off × List Off} (hr : expO l now = r) {ao : Option Addr} {cap : Nat} {w : World} (h : RepO w ao cap l) (hb : l.length ≤ 100000) : Calls Try.prog 18 #[.slice ao l.length cap, .int .i64 now] w (RetLL r w) := hr ▸ refExpire_any l now ao cap w h hb
theorem rc_as {l : List Off} {r : Int} (hr : checkO l = r) {ao : Option Addr} {cap : Nat} {w : World} (h : RepO w ao cap l) : Calls Try.prog 15 #[.slice ao l.length cap] w fun e w' => e = .returned (.int .i64 r) ∧ Ext w w' := hr ▸ refCheck_any l ao cap w h
theorem rh_as {l : List Off} {n r : Int} (hr : heldO l n = r) {ao : Option Addr} {cap : Nat} {w : World} (h : RepO w ao cap l) : Calls Try.prog 20 #[.slice ao l.length cap, .int .i64 n] w fun e w' => e = .returned (.int .i64 r) ∧ Ext w w' := hr ▸ refHeld_any l n ao cap w h
theorem heldO_neg (l : List Off) : heldO l (-1) = 0 := by unfold heldO; rfl
theorem same_self (l : List Off) : decide (l = l) = true := decide_eq_true rfl
set_option maxRecDepth 100000 in
set_option maxHeartbeats 12800000 in
theorem law_make (l : List Off) (x : Off) (ao : Option Addr) (cap : Nat) (w : World) (h : RepO w ao cap l) : Calls Try.prog 3 #[.slice ao l.length cap, .agg x.enc.toArray] w fun e w' => e = .returned (.bool true) ∧ Ext w w' := by
  have hX0 : Ext w (w.alloc (.cells x.enc.toArray 26)) := (Ext.refl w).alloc _
  have d0 : (w.alloc (.cells x.enc.toArray 26)).cell? ⟨w.heap.size, 0, none⟩ = some (.int .i64 x.s) := by simp [Off.enc]
  have d1 : (w.alloc (.cells x.enc.toArray 26)).cell? ⟨w.heap.size, 1, none⟩ = some (.int .i64 x.a) := by simp [Off.enc]
  have d2 : (w.alloc (.cells x.enc.toArray 26)).cell? ⟨w.heap.size, 2, none⟩ = some (.int .i64 x.b) := by simp [Off.enc]
  have d3 : (w.alloc (.cells x.enc.toArray 26)).cell? ⟨w.heap.size, 3, none⟩ = some (.int .i64 x.u) := by simp [Off.enc]
  have HD : Hid (∀ W, Ext (w.alloc (.cells x.enc.toArray 26)) W → W.cell? ⟨w.heap.size, 0, none⟩ = some (.int .i64 x.s) ∧ W.cell? ⟨w.heap.size, 1, none⟩ = some (.int .i64 x.a) ∧ W.cell? ⟨w.heap.size, 2, none⟩ = some (.int .i64 x.b) ∧ W.cell? ⟨w.heap.size, 3, none⟩ = some (.int .i64 x.u)) := Lib.hid fun W hE => ⟨hE.cell d0, hE.cell d1, hE.cell d2, hE.cell d3⟩
  have HX0 := Lib.hid hX0
  have HR := Lib.hid (h.ext hX0)
  have HX := Lib.hid (Ext.refl (w.alloc (.cells x.enc.toArray 26)))
  clear hX0 d0 d1 d2 d3 h
  go_enter Try.func3, Try.ntmps3
  go_wp2_with fail
  generalize (w.alloc (.cells x.enc.toArray 26)) = w0 at *
  refine (sane_any _).mono ?_
  rintro e v1 ⟨rfl, hE1⟩
  have HR := Lib.hid (HR.out.ext hE1)
  have HX := Lib.hid (HX.out.trans hE1)
  clear hE1
  go_wp2_with fail
  by_cases hl : l.length ≤ 40
  · have hb : l.length ≤ 100000 := by omega
    obtain ⟨r, hr⟩ : ∃ r, makeO l x = r := ⟨_, rfl⟩
    obtain ⟨q, hq⟩ : ∃ q, checkO l = q := ⟨_, rfl⟩
    have HQ := Lib.hid hq
    have HM := Lib.hid hr
    have hf := decide_eq_true hl
    clear hq hr hl
    have HB := Lib.hid hb
    clear hb
    refine (fw_as hf HR.out).mono ?_
    rintro e v2 ⟨rfl, hE2⟩
    have HR := Lib.hid (HR.out.ext hE2)
    have HX := Lib.hid (HX.out.trans hE2)
    clear hE2
    obtain ⟨d0, d1, d2, d3⟩ := HD.out v2 HX.out
    go_wp2_with fail
    clear d0 d1 d2 d3
    refine (mk_as HM.out HR.out HB.out).mono ?_
    rintro e v3 ⟨a1, c1, rfl, hR1, hE3⟩
    have HR := Lib.hid (HR.out.ext hE3)
    have HX := Lib.hid (HX.out.trans hE3)
    have H1 := Lib.hid hR1
    clear hE3
    obtain ⟨d0, d1, d2, d3⟩ := HD.out v3 HX.out
    go_wp2_with fail
    clear d0 d1 d2 d3
    refine (rm_as HM.out HR.out HB.out).mono ?_
    rintro e v4 ⟨a2, c2, rfl, hR2, hE4⟩
    have HR := Lib.hid (HR.out.ext hE4)
    have H1 := Lib.hid (H1.out.ext hE4)
    have HX := Lib.hid (HX.out.trans hE4)
    have H2 := Lib.hid hR2
    clear hE4
    go_wp2_with fail
    refine (ck_as HQ.out HR.out).mono ?_
    rintro e v5 ⟨rfl, hE5⟩
    have HR := Lib.hid (HR.out.ext hE5)
    have H1 := Lib.hid (H1.out.ext hE5)
    have H2 := Lib.hid (H2.out.ext hE5)
    have HX := Lib.hid (HX.out.trans hE5)
    clear hE5
    go_wp2_with fail
    refine (rc_as HQ.out HR.out).mono ?_
    rintro e v6 ⟨rfl, hE6⟩
    have HR := Lib.hid (HR.out.ext hE6)
    have H1 := Lib.hid (H1.out.ext hE6)
    have H2 := Lib.hid (H2.out.ext hE6)
    have HX := Lib.hid (HX.out.trans hE6)
    clear hE6
    go_wp2_with fail
    refine (sm_as (same_self _) H1.out H2.out).mono ?_
    rintro e v7 ⟨rfl, hE7⟩
    have HR := Lib.hid (HR.out.ext hE7)
    have H1 := Lib.hid (H1.out.ext hE7)
    have H2 := Lib.hid (H2.out.ext hE7)
    have HX := Lib.hid (HX.out.trans hE7)
    clear hE7
    go_wp2_with fail
    go_ret
    exact ⟨rfl, HX0.out.trans HX.out⟩
  · have hf := decide_eq_false hl
    clear hl
    refine (fw_as hf HR.out).mono ?_
    rintro e v2 ⟨rfl, hE2⟩
    have HR := Lib.hid (HR.out.ext hE2)
    have HX := Lib.hid (HX.out.trans hE2)
    clear hE2
    go_wp2_with fail
    go_ret
    exact ⟨rfl, HX0.out.trans HX.out⟩
set_option maxRecDepth 100000 in
set_option maxHeartbeats 12800000 in
theorem law_expire (l : List Off) (now n : Int) (ao : Option Addr) (cap : Nat) (w : World) (h : RepO w ao cap l) : Calls Try.prog 4 #[.slice ao l.length cap, .int .i64 now, .int .i64 n] w fun e w' => e = .returned (.bool true) ∧ Ext w w' := by
  have HX0 := Lib.hid (Ext.refl w)
  have HR := Lib.hid h
  have HX := Lib.hid (Ext.refl w)
  clear h
  go_enter Try.func4, Try.ntmps4
  go_wp2_with fail
  refine (sane_any _).mono ?_
  rintro e v1 ⟨rfl, hE1⟩
  have HR := Lib.hid (HR.out.ext hE1)
  have HX := Lib.hid (HX.out.trans hE1)
  clear hE1
  go_wp2_with fail
  by_cases hl : l.length ≤ 40
  · have hb : l.length ≤ 100000 := by omega
    obtain ⟨r, hr⟩ : ∃ r, expO l now = r := ⟨_, rfl⟩
    obtain ⟨q, hq⟩ : ∃ q, heldO l n = q := ⟨_, rfl⟩
    have HQ := Lib.hid hq
    have HM := Lib.hid hr
    have hf := decide_eq_true hl
    clear hq hr hl
    have HB := Lib.hid hb
    clear hb
    refine (fw_as hf HR.out).mono ?_
    rintro e v2 ⟨rfl, hE2⟩
    have HR := Lib.hid (HR.out.ext hE2)
    have HX := Lib.hid (HX.out.trans hE2)
    clear hE2
    go_wp2_with fail
    refine (ex_as HM.out HR.out HB.out).mono ?_
    rintro e v3 ⟨a1, c1, b1, g1, rfl, hR1, hS1, hE3⟩
    have HR := Lib.hid (HR.out.ext hE3)
    have HX := Lib.hid (HX.out.trans hE3)
    have H1 := Lib.hid hR1
    have K1 := Lib.hid hS1
    clear hE3
    go_wp2_with fail
    refine (rx_as HM.out HR.out HB.out).mono ?_
    rintro e v4 ⟨a2, c2, b2, g2, rfl, hR2, hS2, hE4⟩
    have HR := Lib.hid (HR.out.ext hE4)
    have H1 := Lib.hid (H1.out.ext hE4)
    have K1 := Lib.hid (K1.out.ext hE4)
    have HX := Lib.hid (HX.out.trans hE4)
    have H2 := Lib.hid hR2
    have K2 := Lib.hid hS2
    clear hE4
    go_wp2_with fail
    refine (sm_as (same_self _) H1.out H2.out).mono ?_
    rintro e v5 ⟨rfl, hE5⟩
    have HR := Lib.hid (HR.out.ext hE5)
    have H1 := Lib.hid (H1.out.ext hE5)
    have K1 := Lib.hid (K1.out.ext hE5)
    have H2 := Lib.hid (H2.out.ext hE5)
    have K2 := Lib.hid (K2.out.ext hE5)
    have HX := Lib.hid (HX.out.trans hE5)
    clear hE5
    go_wp2_with fail
    refine (sm_as (same_self _) K1.out K2.out).mono ?_
    rintro e v6 ⟨rfl, hE6⟩
    have HR := Lib.hid (HR.out.ext hE6)
    have H1 := Lib.hid (H1.out.ext hE6)
    have K1 := Lib.hid (K1.out.ext hE6)
    have H2 := Lib.hid (H2.out.ext hE6)
    have K2 := Lib.hid (K2.out.ext hE6)
    have HX := Lib.hid (HX.out.trans hE6)
    clear hE6
    go_wp2_with fail
    refine (hd_as HQ.out HR.out).mono ?_
    rintro e v7 ⟨rfl, hE7⟩
    have HR := Lib.hid (HR.out.ext hE7)
    have H1 := Lib.hid (H1.out.ext hE7)
    have K1 := Lib.hid (K1.out.ext hE7)
    have H2 := Lib.hid (H2.out.ext hE7)
    have K2 := Lib.hid (K2.out.ext hE7)
    have HX := Lib.hid (HX.out.trans hE7)
    clear hE7
    go_wp2_with fail
    refine (rh_as HQ.out HR.out).mono ?_
    rintro e v8 ⟨rfl, hE8⟩
    have HR := Lib.hid (HR.out.ext hE8)
    have H1 := Lib.hid (H1.out.ext hE8)
    have K1 := Lib.hid (K1.out.ext hE8)
    have H2 := Lib.hid (H2.out.ext hE8)
    have K2 := Lib.hid (K2.out.ext hE8)
    have HX := Lib.hid (HX.out.trans hE8)
    clear hE8
    go_wp2_with fail
    refine (hd_as (heldO_neg l) HR.out).mono ?_
    rintro e v9 ⟨rfl, hE9⟩
    have HR := Lib.hid (HR.out.ext hE9)
    have H1 := Lib.hid (H1.out.ext hE9)
    have K1 := Lib.hid (K1.out.ext hE9)
    have H2 := Lib.hid (H2.out.ext hE9)
    have K2 := Lib.hid (K2.out.ext hE9)
    have HX := Lib.hid (HX.out.trans hE9)
    clear hE9
    go_wp2_with fail
    go_ret
    exact ⟨rfl, HX0.out.trans HX.out⟩
  · have hf := decide_eq_false hl
    clear hl
    refine (fw_as hf HR.out).mono ?_
    rintro e v2 ⟨rfl, hE2⟩
    have HR := Lib.hid (HR.out.ext hE2)
    have HX := Lib.hid (HX.out.trans hE2)
    clear hE2
    go_wp2_with fail
    go_ret
    exact ⟨rfl, HX0.out.trans HX.out⟩
end Go.Proofs.Ytbnaoefmjmlfbaa
