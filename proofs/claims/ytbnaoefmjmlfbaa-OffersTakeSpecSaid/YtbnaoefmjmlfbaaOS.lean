/- Offers: sane, the examples of the chapter. -/
import Derived.Test.YtbnaoefmjmlfbaaOF
namespace Go.Sz
open Go.RowKit
abbrev oA : Off := ⟨4, 5, 7, 20⟩
abbrev oB : Off := ⟨4, 5, 7, 30⟩
theorem sn1 : makeO [] oA = ([oA], 0) := by decide
theorem sn2 : makeO [oA] oB = ([], 310) := by decide
theorem sn3 : expO [oA] 19 = ([oA], []) := by decide
theorem sn4 : expO [oA] 20 = ([], [oA]) := by decide
theorem sn5 : takeO [oA] 4 5 7 19 = ([], 0) := by decide
theorem sn6 : takeO [oA] 4 5 7 20 = ([], 310) := by decide
theorem sn7 : takeO [] 0 0 0 0 = ([], 310) := by decide
theorem sn8 : checkO [⟨0, 0, 0, 0⟩] = 310 := by decide
theorem sn9 : checkO [oA] = 0 := by decide
theorem sn10 : heldO [oA] 5 = 1 := by decide
theorem sn11 : heldO [oA] 7 = 1 := by decide
theorem sn12 : heldO [oA] 6 = 0 := by decide
theorem sn13 : heldO [] 5 = 0 := by decide
theorem sn14 : decide ([oA] = [oA]) = true := by decide
theorem one_rep (W : World) (x : Off) (t : TypeId) (B : Nat) (hB : B = W.heap.size) : RepO (W.alloc (.cells x.enc.toArray t)) (some ⟨B, 0, none⟩) 1 [x] := by subst hB; exact sl_new W x.enc 4 t rfl
end Go.Sz
namespace Go.Proofs.Ytbnaoefmjmlfbaa
open Go.RowKit Go.Sz
theorem mk_as {l : List Off} {x : Off} {r : List Off × Int} (hr : makeO l x = r) {ao : Option Addr} {cap : Nat} {w : World} (h : RepO w ao cap l) (hb : l.length ≤ 100000) : Calls Try.prog 12 #[.slice ao l.length cap, .agg x.enc.toArray] w (RetLE r w) := hr ▸ make_any l x ao cap w h hb
theorem tk_as {l : List Off} {s a b now : Int} {r : List Off × Int} (hr : takeO l s a b now = r) {ao : Option Addr} {cap : Nat} {w : World} (h : RepO w ao cap l) (hb : l.length ≤ 100000) : Calls Try.prog 21 #[.slice ao l.length cap, .int .i64 s, .agg #[.int .i64 a, .int .i64 b], .int .i64 now] w (RetLE r w) := hr ▸ take_any l s a b now ao cap w h hb
theorem ex_as {l : List Off} {now : Int} {r : List Off × List Off} (hr : expO l now = r) {ao : Option Addr} {cap : Nat} {w : World} (h : RepO w ao cap l) (hb : l.length ≤ 100000) : Calls Try.prog 17 #[.slice ao l.length cap, .int .i64 now] w (RetLL r w) := hr ▸ expire_any l now ao cap w h hb
theorem ck_as {l : List Off} {r : Int} (hr : checkO l = r) {ao : Option Addr} {cap : Nat} {w : World} (h : RepO w ao cap l) : Calls Try.prog 14 #[.slice ao l.length cap] w fun e w' => e = .returned (.int .i64 r) ∧ Ext w w' := hr ▸ check_any l ao cap w h
theorem sm_as {l l' : List Off} {r : Bool} (hr : decide (l = l') = r) {ao ao' : Option Addr} {cap cap' : Nat} {w : World} (h : RepO w ao cap l) (h' : RepO w ao' cap' l') : Calls Try.prog 16 #[.slice ao l.length cap, .slice ao' l'.length cap'] w fun e w' => e = .returned (.bool r) ∧ Ext w w' := hr ▸ same_any l l' ao ao' cap cap' w h h'
theorem hd_as {l : List Off} {n r : Int} (hr : heldO l n = r) {ao : Option Addr} {cap : Nat} {w : World} (h : RepO w ao cap l) : Calls Try.prog 19 #[.slice ao l.length cap, .int .i64 n] w fun e w' => e = .returned (.int .i64 r) ∧ Ext w w' := hr ▸ held_any l n ao cap w h
set_option maxRecDepth 100000 in
set_option maxHeartbeats 12800000 in
theorem sane_any (w : World) : Calls Try.prog 10 #[] w fun e w' => e = .returned (.bool true) ∧ Ext w w' := by
  have hX0 : Ext w (w.alloc (.cells #[.int .i64 4, .int .i64 5, .int .i64 7, .int .i64 20] 26)) := (Ext.refl w).alloc _
  have d0 : (w.alloc (.cells #[.int .i64 4, .int .i64 5, .int .i64 7, .int .i64 20] 26)).cell? ⟨w.heap.size, 0, none⟩ = some (.int .i64 4) := by simp
  have d1 : (w.alloc (.cells #[.int .i64 4, .int .i64 5, .int .i64 7, .int .i64 20] 26)).cell? ⟨w.heap.size, 1, none⟩ = some (.int .i64 5) := by simp
  have d2 : (w.alloc (.cells #[.int .i64 4, .int .i64 5, .int .i64 7, .int .i64 20] 26)).cell? ⟨w.heap.size, 2, none⟩ = some (.int .i64 7) := by simp
  have d3 : (w.alloc (.cells #[.int .i64 4, .int .i64 5, .int .i64 7, .int .i64 20] 26)).cell? ⟨w.heap.size, 3, none⟩ = some (.int .i64 20) := by simp
  have HD : Hid (∀ W, Ext (w.alloc (.cells #[.int .i64 4, .int .i64 5, .int .i64 7, .int .i64 20] 26)) W → W.cell? ⟨w.heap.size, 0, none⟩ = some (.int .i64 4) ∧ W.cell? ⟨w.heap.size, 1, none⟩ = some (.int .i64 5) ∧ W.cell? ⟨w.heap.size, 2, none⟩ = some (.int .i64 7) ∧ W.cell? ⟨w.heap.size, 3, none⟩ = some (.int .i64 20)) := Lib.hid fun W hE => ⟨hE.cell d0, hE.cell d1, hE.cell d2, hE.cell d3⟩
  have HX0 := Lib.hid hX0
  clear hX0 d0 d1 d2 d3
  go_enter Try.func10, Try.ntmps10
  go_wp2_with fail
  generalize (w.alloc (.cells #[.int .i64 4, .int .i64 5, .int .i64 7, .int .i64 20] 26)) = w0 at *
  refine (mk_as sn1 (RepO.empty _) (by decide)).mono ?_
  rintro e w1 ⟨a1, c1, rfl, hR1, hE1⟩
  have HR1 : Hid (RepO w1 a1 c1 [oA]) := Lib.hid hR1
  have HE1 := Lib.hid hE1
  clear hR1 hE1
  obtain ⟨d0, d1, d2, d3⟩ := HD.out w1 HE1.out
  go_wp2_with fail
  have hA1 : Ext w1 (w1.alloc (.cells #[.int .i64 4, .int .i64 5, .int .i64 7, .int .i64 30] 26)) := (Ext.refl w1).alloc _
  generalize (w1.alloc (.cells #[.int .i64 4, .int .i64 5, .int .i64 7, .int .i64 30] 26)) = w1a at *
  have HT1 := Lib.hid (HE1.out.trans hA1)
  have HR1 : Hid (RepO w1a a1 c1 [oA]) := Lib.hid (HR1.out.ext hA1)
  clear hA1 d0 d1 d2 d3
  refine (mk_as sn2 (HR1.out) (by decide)).mono ?_
  rintro e w2 ⟨a2, c2, rfl, hR2, hE2⟩
  have HT2 := Lib.hid (HT1.out.trans hE2)
  have HR2 : Hid (RepO w2 a1 c1 [oA]) := Lib.hid (HR1.out.ext hE2)
  clear hE2
  go_wp2_with fail
  refine (ex_as sn3 (HR2.out) (by decide)).mono ?_
  rintro e w3 ⟨a3, c3, b3, g3, rfl, hR3, hS3, hE3⟩
  have HP3 := Lib.hid hR3
  have HQ3 := Lib.hid hS3
  have HT3 := Lib.hid (HT2.out.trans hE3)
  have HR3 : Hid (RepO w3 a1 c1 [oA]) := Lib.hid (HR2.out.ext hE3)
  clear hE3
  go_wp2_with fail
  refine (ex_as sn4 (HR3.out) (by decide)).mono ?_
  rintro e w4 ⟨a4, c4, b4, g4, rfl, hR4, hS4, hE4⟩
  have HP4 := Lib.hid hR4
  have HQ4 := Lib.hid hS4
  have HT4 := Lib.hid (HT3.out.trans hE4)
  have HR4 : Hid (RepO w4 a1 c1 [oA]) := Lib.hid (HR3.out.ext hE4)
  have HP3 := Lib.hid (HP3.out.ext hE4)
  clear hE4
  obtain ⟨d0, d1, d2, d3⟩ := HD.out w4 HT4.out
  go_wp2_with fail
  clear d0 d1 d2 d3
  refine (tk_as sn5 (HR4.out) (by decide)).mono ?_
  rintro e w5 ⟨a5, c5, rfl, hR5, hE5⟩
  have HT5 := Lib.hid (HT4.out.trans hE5)
  have HR5 : Hid (RepO w5 a1 c1 [oA]) := Lib.hid (HR4.out.ext hE5)
  have HP3 := Lib.hid (HP3.out.ext hE5)
  have HQ4 := Lib.hid (HQ4.out.ext hE5)
  clear hE5
  obtain ⟨d0, d1, d2, d3⟩ := HD.out w5 HT5.out
  go_wp2_with fail
  clear d0 d1 d2 d3
  refine (tk_as sn6 (HR5.out) (by decide)).mono ?_
  rintro e w6 ⟨a6, c6, rfl, hR6, hE6⟩
  have HT6 := Lib.hid (HT5.out.trans hE6)
  have HR6 : Hid (RepO w6 a1 c1 [oA]) := Lib.hid (HR5.out.ext hE6)
  have HP3 := Lib.hid (HP3.out.ext hE6)
  have HQ4 := Lib.hid (HQ4.out.ext hE6)
  clear hE6
  go_wp2_with fail
  refine (tk_as sn7 (RepO.empty _) (by decide)).mono ?_
  rintro e w7 ⟨a7, c7, rfl, hR7, hE7⟩
  have HT7 := Lib.hid (HT6.out.trans hE7)
  have HR7 : Hid (RepO w7 a1 c1 [oA]) := Lib.hid (HR6.out.ext hE7)
  have HP3 := Lib.hid (HP3.out.ext hE7)
  have HQ4 := Lib.hid (HQ4.out.ext hE7)
  clear hE7
  go_wp2_with fail
  refine (ck_as sn8 (one_rep w7 ⟨0, 0, 0, 0⟩ _ _ rfl)).mono ?_
  rintro e w8 ⟨rfl, hE8⟩
  have hB8 : Ext w7 w8 := ((Ext.refl w7).alloc _).trans hE8
  have HT8 := Lib.hid (HT7.out.trans hB8)
  have HR8 : Hid (RepO w8 a1 c1 [oA]) := Lib.hid (HR7.out.ext hB8)
  have HP3 := Lib.hid (HP3.out.ext hB8)
  have HQ4 := Lib.hid (HQ4.out.ext hB8)
  clear hE8 hB8
  go_wp2_with fail
  refine (ck_as sn9 HR8.out).mono ?_
  rintro e w9 ⟨rfl, hE9⟩
  have HT9 := Lib.hid (HT8.out.trans hE9)
  have HR9 : Hid (RepO w9 a1 c1 [oA]) := Lib.hid (HR8.out.ext hE9)
  have HP3 := Lib.hid (HP3.out.ext hE9)
  have HQ4 := Lib.hid (HQ4.out.ext hE9)
  clear hE9
  go_wp2_with fail
  refine (sm_as sn14 HP3.out HR9.out).mono ?_
  rintro e w10 ⟨rfl, hE10⟩
  have HT10 := Lib.hid (HT9.out.trans hE10)
  have HR10 : Hid (RepO w10 a1 c1 [oA]) := Lib.hid (HR9.out.ext hE10)
  have HQ4 := Lib.hid (HQ4.out.ext hE10)
  clear hE10
  go_wp2_with fail
  refine (sm_as sn14 HQ4.out HR10.out).mono ?_
  rintro e w11 ⟨rfl, hE11⟩
  have HT11 := Lib.hid (HT10.out.trans hE11)
  have HR11 : Hid (RepO w11 a1 c1 [oA]) := Lib.hid (HR10.out.ext hE11)
  clear hE11
  go_wp2_with fail
  refine (hd_as sn10 HR11.out).mono ?_
  rintro e w12 ⟨rfl, hE12⟩
  have HT12 := Lib.hid (HT11.out.trans hE12)
  have HR12 : Hid (RepO w12 a1 c1 [oA]) := Lib.hid (HR11.out.ext hE12)
  clear hE12
  go_wp2_with fail
  refine (hd_as sn11 HR12.out).mono ?_
  rintro e w13 ⟨rfl, hE13⟩
  have HT13 := Lib.hid (HT12.out.trans hE13)
  have HR13 : Hid (RepO w13 a1 c1 [oA]) := Lib.hid (HR12.out.ext hE13)
  clear hE13
  go_wp2_with fail
  refine (hd_as sn12 HR13.out).mono ?_
  rintro e w14 ⟨rfl, hE14⟩
  have HT14 := Lib.hid (HT13.out.trans hE14)
  have HR14 : Hid (RepO w14 a1 c1 [oA]) := Lib.hid (HR13.out.ext hE14)
  clear hE14
  go_wp2_with fail
  refine (hd_as sn13 (RepO.empty _)).mono ?_
  rintro e w15 ⟨rfl, hE15⟩
  have HT15 := Lib.hid (HT14.out.trans hE15)
  have HR15 : Hid (RepO w15 a1 c1 [oA]) := Lib.hid (HR14.out.ext hE15)
  clear hE15
  go_wp2_with fail
  go_ret
  exact ⟨rfl, HX0.out.trans HT15.out⟩
end Go.Proofs.Ytbnaoefmjmlfbaa
