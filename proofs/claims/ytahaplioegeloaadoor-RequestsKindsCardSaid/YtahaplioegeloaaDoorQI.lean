/- Requests: the law Kinds. -/
import Derived.Test.YtahaplioegeloaaDoorQH
namespace Go.Sz
open Go.RowKit Go.Proofs.YtahaplioegeloaaDoor
theorem formB_zero : formB 0 0 = false := by decide
/-- what a request of a kind needs -/
def needB (kd g h y : Int) (ch : List Bd) : Prop := (kd = 1 ∧ 1 ≤ ch.length ∧ ch.length ≤ 8 ∧ g = 0 ∧ h = 0 ∧ 0 ≤ y ∧ y ≤ 1048576) ∨ (kd = 2 ∧ ch.length = 0 ∧ formB g h = true ∧ y = 0) ∨ (kd = 3 ∧ ch.length = 1 ∧ formB g h = true ∧ (ch.getD 0 b0).1 ≠ g ∧ y = 0) ∨ ((kd = 4 ∨ kd = 5) ∧ ch.length = 1 ∧ g = 0 ∧ h = 0 ∧ y = 0)
theorem lenB_iff (lo hi : Int) (l : List Bd) : lenB lo hi l = true ↔ lo ≤ (l.length : Int) ∧ (l.length : Int) ≤ hi := by
  unfold lenB
  simp only [Bool.and_eq_true, decide_eq_true_eq]
theorem giveB_t (l : List Bd) (g h : Int) : giveB true l g h = true ↔ formB g h = true ∧ (l.length = 0 ∨ (l.getD 0 b0).1 ≠ g) := by
  unfold giveB
  rw [if_pos rfl, Bool.and_eq_true, Bool.or_eq_true, beq_iff_eq, bne_iff_ne]
theorem giveB_f (l : List Bd) (g h : Int) : giveB false l g h = true ↔ g = 0 ∧ h = 0 := by
  unfold giveB
  rw [if_neg (by simp), Bool.and_eq_true, beq_iff_eq, beq_iff_eq]
theorem keyB_t (y : Int) : keyB true y = true ↔ 0 ≤ y ∧ y ≤ 1048576 := by
  unfold keyB
  rw [if_pos rfl, Bool.and_eq_true, decide_eq_true_eq, decide_eq_true_eq]
theorem keyB_f (y : Int) : keyB false y = true ↔ y = 0 := by
  unfold keyB
  rw [if_neg (by simp), beq_iff_eq]
theorem vq {c n s t : Int} (hh : headQ ⟨c, n, s, 0, t, [], 0, 0, 0⟩ = true) {ch : List Bd} (hg : goodL ch ch.length = true) (kd g h y : Int) : validQ ⟨c, n, s, kd, t, ch, g, h, y⟩ = true ↔ needB kd g h y ch := by
  have hh' : headQ ⟨c, n, s, kd, t, ch, g, h, y⟩ = true := hh
  unfold validQ bodyB kindQ
  rw [hh']
  dsimp only
  rw [hg]
  simp only [Bool.and_eq_true, decide_eq_true_eq, lenB_iff, true_and, and_true]
  unfold needB
  by_cases k1 : kd = 1
  · subst k1
    rw [show ((1 : Int) == 2 || (1 : Int) == 3) = false from rfl, show ((1 : Int) == 1) = true from rfl, show leastQ 1 = 1 from rfl, show mostQ 1 = 8 from rfl, giveB_f, keyB_t]
    cases formB g h <;> simp only [eq_self, Bool.false_eq_true, false_and, and_false, true_and, false_or] <;> omega
  by_cases k2 : kd = 2
  · subst k2
    rw [show ((2 : Int) == 2 || (2 : Int) == 3) = true from rfl, show ((2 : Int) == 1) = false from rfl, show leastQ 2 = 0 from rfl, show mostQ 2 = 0 from rfl, giveB_t, keyB_f]
    cases formB g h <;> simp only [eq_self, Bool.false_eq_true, false_and, and_false, true_and, false_or, false_iff] <;> omega
  by_cases k3 : kd = 3
  · subst k3
    rw [show ((3 : Int) == 2 || (3 : Int) == 3) = true from rfl, show ((3 : Int) == 1) = false from rfl, show leastQ 3 = 1 from rfl, show mostQ 3 = 1 from rfl, giveB_t, keyB_f]
    cases formB g h <;> simp only [eq_self, Bool.false_eq_true, false_and, and_false, true_and, false_or, false_iff] <;> omega
  have e2 : (kd == 2 || kd == 3) = false := by rw [Bool.or_eq_false_iff, beq_eq_false_iff_ne, beq_eq_false_iff_ne]; exact ⟨k2, k3⟩
  have e1 : (kd == 1) = false := by rw [beq_eq_false_iff_ne]; exact k1
  have e3 : leastQ kd = 1 := by unfold leastQ; rw [if_neg k2]
  have e4 : mostQ kd = 1 := by unfold mostQ; rw [if_neg k1, if_neg k2]
  rw [e2, e1, e3, e4, giveB_f, keyB_f]
  cases formB g h <;> simp only [eq_self, Bool.false_eq_true, false_and, and_false, true_and, false_or] <;> omega
theorem resQ_if {b : Bool} {p : Prop} [Decidable p] (h : b = true ↔ p) : resQ b = if p then 0 else 290 := by
  unfold resQ
  by_cases hp : p
  · rw [if_pos hp, if_pos (h.2 hp)]
  · rw [if_neg hp, if_neg (fun hb => hp (h.1 hb))]
theorem vq1x {c n s t : Int} (hh : headQ ⟨c, n, s, 0, t, [], 0, 0, 0⟩ = true) {ch : List Bd} (hg : goodL ch ch.length = true) {y : Int} (h1 : 1 ≤ ch.length) (h8 : ch.length ≤ 8) (hy : 0 ≤ y) (hy1 : y ≤ 1048576) (kd : Int) : checkQ ⟨c, n, s, kd, t, ch, 0, 0, y⟩ = if kd = 1 ∨ (ch.length = 1 ∧ (kd = 4 ∨ kd = 5) ∧ y = 0) then 0 else 290 := by
  refine resQ_if ((vq hh hg kd 0 0 y).trans ?_)
  have hf := formB_zero
  unfold needB
  rw [hf]
  simp only [eq_self, Bool.false_eq_true, false_and, and_false, true_and, false_or]
  omega
theorem vq2x {c n s t : Int} (hh : headQ ⟨c, n, s, 0, t, [], 0, 0, 0⟩ = true) {g h : Int} (hf : formB g h = true) (kd : Int) : checkQ ⟨c, n, s, kd, t, [], g, h, 0⟩ = if kd = 2 then 0 else 290 := by
  refine resQ_if ((vq hh (ch := []) (by rfl) kd g h 0).trans ?_)
  unfold needB
  rw [hf, List.length_nil]
  simp only [eq_self, true_and, and_true]
  omega
theorem vq3x {c n s t : Int} (hh : headQ ⟨c, n, s, 0, t, [], 0, 0, 0⟩ = true) {ch : List Bd} (hg : goodL ch ch.length = true) {g h : Int} (hn : ch.length = 1) (hf : formB g h = true) (hne : (ch.getD 0 b0).1 ≠ g) (kd : Int) : checkQ ⟨c, n, s, kd, t, ch, g, h, 0⟩ = if kd = 3 then 0 else 290 := by
  have hz : ¬ (g = 0 ∧ h = 0) := fun ⟨h1, h2⟩ => by rw [h1, h2, formB_zero] at hf; cases hf
  refine resQ_if ((vq hh hg kd g h 0).trans ?_)
  unfold needB
  rw [hf]
  simp only [eq_self, true_and, and_true]
  omega
theorem vq4x {c n s t : Int} (hh : headQ ⟨c, n, s, 0, t, [], 0, 0, 0⟩ = true) {ch : List Bd} (hg : goodL ch ch.length = true) (hn : ch.length = 1) (kd : Int) : checkQ ⟨c, n, s, kd, t, ch, 0, 0, 0⟩ = if kd = 1 ∨ kd = 4 ∨ kd = 5 then 0 else 290 := by
  refine resQ_if ((vq hh hg kd 0 0 0).trans ?_)
  have hf := formB_zero
  unfold needB
  rw [hf]
  simp only [eq_self, Bool.false_eq_true, false_and, and_false, true_and, and_true, false_or]
  omega
theorem vq0x {c n s t : Int} (hh : headQ ⟨c, n, s, 0, t, [], 0, 0, 0⟩ = true) {ch : List Bd} (hg : goodL ch ch.length = true) {kd y : Int} (hk : kd = 2 ∨ kd = 3) : checkQ ⟨c, n, s, kd, t, ch, 0, 0, y⟩ = 290 := by
  have hf := formB_zero
  refine (resQ_if (p := False) ((vq hh hg kd 0 0 y).trans ?_)).trans (if_neg id)
  unfold needB
  rw [hf]
  simp only [eq_self, Bool.false_eq_true, false_and, and_false, true_and, false_or, iff_false]
  omega
theorem vqzx {c n s t : Int} (hh : headQ ⟨c, n, s, 0, t, [], 0, 0, 0⟩ = true) {kd g h y : Int} (hk : kd ≠ 2) : checkQ ⟨c, n, s, kd, t, [], g, h, y⟩ = 290 := by
  refine (resQ_if (p := False) ((vq hh (ch := []) (by rfl) kd g h y).trans ?_)).trans (if_neg id)
  unfold needB
  rw [List.length_nil]
  cases formB g h <;> simp only [eq_self, Bool.false_eq_true, false_and, and_false, true_and, false_or, iff_false] <;> omega
theorem headQ_any {c n s k t : Int} {ch : List Bd} {g h y : Int} (hv : validQ ⟨c, n, s, k, t, ch, g, h, y⟩ = true) : headQ ⟨c, n, s, 0, t, [], 0, 0, 0⟩ = true ∧ goodL ch ch.length = true ∧ 1 ≤ k ∧ k ≤ 5 := by
  unfold validQ kindQ bodyB at hv
  simp only [Bool.and_eq_true, decide_eq_true_eq] at hv
  exact ⟨hv.1.1, hv.2.1.1.2, hv.1.2.1, hv.1.2.2⟩
theorem BoxQ.cb {w : World} {B : Nat} {r : Rq} {ao : Option Addr} {cap : Nat} (h : BoxQ w B r ao cap) : CB w B (r.cells ao cap) := by
  refine ⟨fun i v hv => ?_, h.fz⟩
  unfold Rq.cells at hv
  match i, hv with
  | 0, hv => cases hv; exact h.c0
  | 1, hv => cases hv; exact h.c1
  | 2, hv => cases hv; exact h.c2
  | 3, hv => cases hv; exact h.c3
  | 4, hv => cases hv; exact h.c4
  | 5, hv => cases hv; exact h.c5
  | 6, hv => cases hv; exact h.c6
  | 7, hv => cases hv; exact h.c7
  | 8, hv => cases hv; exact h.c8
  | k + 9, hv => simp at hv
theorem BoxQ.of_cb {w : World} {B : Nat} {r : Rq} {ao : Option Addr} {cap : Nat} (h : CB w B (r.cells ao cap)) : BoxQ w B r ao cap :=
  ⟨h.at_ 0 _ rfl, h.at_ 1 _ rfl, h.at_ 2 _ rfl, h.at_ 3 _ rfl, h.at_ 4 _ rfl, h.at_ 5 _ rfl, h.at_ 6 _ rfl, h.at_ 7 _ rfl, h.at_ 8 _ rfl, h.fz⟩
end Go.Sz
namespace Go.Proofs.YtahaplioegeloaaDoor
open Go.RowKit Go.Sz
end Go.Proofs.YtahaplioegeloaaDoor
namespace Go.Proofs.YtahaplioegeloaaDoor
open Go.RowKit Go.Sz
set_option maxRecDepth 100000 in
set_option maxHeartbeats 12800000 in
theorem lawq_kinds2 (r : Rq) (ao : Option Addr) (cap : Nat) (kind : Int) (w : World) (hr : RepB w ao cap r.ch) (ht : r.ok) (hl : r.ch.length ≤ 20) (hv : validQ r = true) (hK : r.k = 2) (hk : Kinds w) : Calls Tryd.prog 8 #[.agg (r.cells ao cap).toArray, .int .i64 kind] w fun e w' => e = .returned (.bool true) ∧ Ext w w' := by
  obtain ⟨c, n, s, k, t, ch, g, h, y⟩ := r
  change k = 2 at hK
  subst hK
  dsimp only at hl
  obtain ⟨hh, hgd, -, -⟩ := headQ_any hv
  have hv0 := (vq hh hgd _ _ _ _).1 hv
  unfold needB at hv0
  rcases hv0 with ⟨h0, -⟩ | ⟨-, hn0, hfm, rfl⟩ | ⟨h0, -⟩ | ⟨h0, -⟩
  · exact absurd h0 (by decide)
  rotate_left
  · exact absurd h0 (by decide)
  · exact absurd h0 (by decide)
  obtain rfl := List.eq_nil_of_length_eq_zero hn0
  clear hn0
  show Calls Tryd.prog 8 #[.agg #[.int .i64 c, .int .i64 n, .int .i64 s, .int .i64 2, .int .i64 t, .slice ao 0 cap, .int .i64 g, .int .i64 h, .int .i64 0], .int .i64 kind] w _
  have hX : Ext w (w.alloc (.cells #[.int .i64 c, .int .i64 n, .int .i64 s, .int .i64 2, .int .i64 t, .slice ao 0 cap, .int .i64 g, .int .i64 h, .int .i64 0] 26)) := (Ext.refl w).alloc _
  have HD : Hid (BoxQ (w.alloc (.cells #[.int .i64 c, .int .i64 n, .int .i64 s, .int .i64 2, .int .i64 t, .slice ao 0 cap, .int .i64 g, .int .i64 h, .int .i64 0] 26)) (w.heap.size) ⟨c, n, s, 2, t, [], g, h, 0⟩ ao cap) := Lib.hid (BoxQ.new w ⟨c, n, s, 2, t, [], g, h, 0⟩ ao cap 26 (w.heap.size) (by simp))
  have HR : Hid (RepB (w.alloc (.cells #[.int .i64 c, .int .i64 n, .int .i64 s, .int .i64 2, .int .i64 t, .slice ao 0 cap, .int .i64 g, .int .i64 h, .int .i64 0] 26)) ao cap []) := Lib.hid (RepB.ext hr hX)
  have HT := Lib.hid ht
  clear hr ht
  have HK := Lib.hid (hk.ext hX)
  have HX := Lib.hid hX
  clear hk hX
  go_enter Tryd.func8, Tryd.ntmps8
  go_wp2_with fail
  generalize (w.alloc (.cells #[.int .i64 c, .int .i64 n, .int .i64 s, .int .i64 2, .int .i64 t, .slice ao 0 cap, .int .i64 g, .int .i64 h, .int .i64 0] 26)) = w0 at *
  have he := eqB g h 0 0
  have hgv : (g == 0 && h == 0) = false := by
    by_cases h1 : g = 0
    · subst h1
      by_cases h2 : h = 0
      · subst h2; rw [formB_zero] at hfm; cases hfm
      · simp [h2]
    · simp [h1]
  rw [hgv] at he
  have HEQ := Lib.hid he
  clear he hgv
  have HH := Lib.hid hh
  have HGD := Lib.hid hgd
  have HFM := Lib.hid hfm
  have HC : Hid (checkQ ⟨c, n, s, 2, t, [], g, h, 0⟩ = 0) := Lib.hid (by unfold checkQ; rw [hv]; rfl)
  have hf := decide_eq_true hl
  have HL : Hid (([] : List Bd).length ≤ 1000000) := Lib.hid (by decide)
  have HY : Hid (checkQ ⟨c, n, s, 2, t, [], 0, 0, 0⟩ = 290) := Lib.hid (vq0x hh hgd (by omega))
  have HZ : Hid (checkQ ⟨c, n, s, 2, t, [], g, h, 0⟩ = 0) := HC
  clear hv hl hh hgd hfm
  refine (saneQ_any _ HK.out).mono ?_
  rintro e v1 ⟨rfl, hE⟩
  have HD := Lib.hid (HD.out.ext hE)
  have HR := Lib.hid (HR.out.ext hE)
  have HK := Lib.hid (HK.out.ext hE)
  have HX := Lib.hid (HX.out.trans hE)
  clear hE
  obtain ⟨z0, z1, z2, z3, z4, z5, z6, z7, z8, -⟩ := HD.out
  try dsimp only at z0 z1 z2 z3 z4 z5 z6 z7 z8
  go_wp2_with fail
  clear z0 z1 z2 z3 z4 z5 z6 z7 z8
  refine (fw_as (r := ⟨c, n, s, 2, t, [], g, h, 0⟩) hf HR.out).mono ?_
  rintro e v2 ⟨rfl, hE⟩
  have HD := Lib.hid (HD.out.ext hE)
  have HR := Lib.hid (HR.out.ext hE)
  have HK := Lib.hid (HK.out.ext hE)
  have HX := Lib.hid (HX.out.trans hE)
  clear hE
  obtain ⟨z0, z1, z2, z3, z4, z5, z6, z7, z8, -⟩ := HD.out
  try dsimp only at z0 z1 z2 z3 z4 z5 z6 z7 z8
  go_wp2_with fail
  clear z0 z1 z2 z3 z4 z5 z6 z7 z8
  refine (ck_as (r := ⟨c, n, s, 2, t, [], g, h, 0⟩) HC.out HR.out HL.out HK.out).mono ?_
  rintro e v3 ⟨rfl, hE⟩
  have HD := Lib.hid (HD.out.ext hE)
  have HR := Lib.hid (HR.out.ext hE)
  have HK := Lib.hid (HK.out.ext hE)
  have HX := Lib.hid (HX.out.trans hE)
  clear hE
  by_cases hk2 : kind = 2
  · subst hk2
    have HXC : Hid (checkQ ⟨c, n, s, 2, t, [], g, h, 0⟩ = 0) := Lib.hid ((vq2x HH.out HFM.out _).trans (if_pos (by omega)))
    obtain ⟨z0, z1, z2, z3, z4, z5, z6, z7, z8, -⟩ := HD.out
    try dsimp only at z0 z1 z2 z3 z4 z5 z6 z7 z8
    have he := HEQ.out
    have hA : Ext v3 (v3.alloc (.cells #[.int .i64 c, .int .i64 n, .int .i64 s, .int .i64 2, .int .i64 t, .slice ao 0 cap, .int .i64 g, .int .i64 h, .int .i64 0] 26)) := (Ext.refl _).alloc _
    have hB : BoxQ (v3.alloc (.cells #[.int .i64 c, .int .i64 n, .int .i64 s, .int .i64 2, .int .i64 t, .slice ao 0 cap, .int .i64 g, .int .i64 h, .int .i64 0] 26)) v3.heap.size ⟨c, n, s, 2, t, [], g, h, 0⟩ ao cap := BoxQ.new _ ⟨c, n, s, 2, t, [], g, h, 0⟩ ao cap _ _ rfl
    obtain ⟨a0, a1, a2, a3, a4, a5, a6, a7, a8, -⟩ := HD.out.ext ((Ext.refl v3).alloc (.cells #[.int .i64 c, .int .i64 n, .int .i64 s, .int .i64 2, .int .i64 t, .slice ao 0 cap, .int .i64 g, .int .i64 h, .int .i64 0] 26))
    try dsimp only at a0 a1 a2 a3 a4 a5 a6 a7 a8
    have ne1 : ¬ w.heap.size = v3.heap.size := by have := HD.out.lt; omega
    have ne2 : ¬ v3.heap.size = w.heap.size := by have := HD.out.lt; omega
    obtain ⟨f0, f1, f2, f3, f4, f5, f6, f7, f8, -⟩ := HD.out.ext hA
    try dsimp only at f0 f1 f2 f3 f4 f5 f6 f7 f8
    go_wp2_with fail
    clear z0 z1 z2 z3 z4 z5 z6 z7 z8 f0 f1 f2 f3 f4 f5 f6 f7 f8 a0 a1 a2 a3 a4 a5 a6 a7 a8 he ne1 ne2
    generalize (v3.alloc (.cells #[.int .i64 c, .int .i64 n, .int .i64 s, .int .i64 2, .int .i64 t, .slice ao 0 cap, .int .i64 g, .int .i64 h, .int .i64 0] 26)) = x3 at *
    have HD := Lib.hid (HD.out.ext hA)
    have HR := Lib.hid (HR.out.ext hA)
    have HK := Lib.hid (HK.out.ext hA)
    have HX := Lib.hid (HX.out.trans hA)
    have HDX := Lib.hid hB
    clear hA hB
    refine (ck_as (r := ⟨c, n, s, 2, t, [], g, h, 0⟩) HXC.out HR.out HL.out HK.out).mono ?_
    rintro e v4 ⟨rfl, hE⟩
    have HD := Lib.hid (HD.out.ext hE)
    have HR := Lib.hid (HR.out.ext hE)
    have HK := Lib.hid (HK.out.ext hE)
    have HDX := Lib.hid (HDX.out.ext hE)
    have HX := Lib.hid (HX.out.trans hE)
    clear hE
    obtain ⟨z0, z1, z2, z3, z4, z5, z6, z7, z8, -⟩ := HD.out
    try dsimp only at z0 z1 z2 z3 z4 z5 z6 z7 z8
    have hA : Ext v4 (v4.alloc (.cells #[.int .i64 c, .int .i64 n, .int .i64 s, .int .i64 2, .int .i64 t, .slice ao 0 cap, .int .i64 0, .int .i64 0, .int .i64 0] 26)) := (Ext.refl _).alloc _
    have hB : BoxQ (v4.alloc (.cells #[.int .i64 c, .int .i64 n, .int .i64 s, .int .i64 2, .int .i64 t, .slice ao 0 cap, .int .i64 0, .int .i64 0, .int .i64 0] 26)) v4.heap.size ⟨c, n, s, 2, t, [], 0, 0, 0⟩ ao cap := BoxQ.new _ ⟨c, n, s, 2, t, [], 0, 0, 0⟩ ao cap _ _ rfl
    go_wp2_with fail
    clear z0 z1 z2 z3 z4 z5 z6 z7 z8
    generalize (v4.alloc (.cells #[.int .i64 c, .int .i64 n, .int .i64 s, .int .i64 2, .int .i64 t, .slice ao 0 cap, .int .i64 0, .int .i64 0, .int .i64 0] 26)) = x4 at *
    have HD := Lib.hid (HD.out.ext hA)
    have HR := Lib.hid (HR.out.ext hA)
    have HK := Lib.hid (HK.out.ext hA)
    have HDX := Lib.hid (HDX.out.ext hA)
    have HX := Lib.hid (HX.out.trans hA)
    have HDY := Lib.hid hB
    clear hA hB
    refine (ck_as (r := ⟨c, n, s, 2, t, [], 0, 0, 0⟩) HY.out HR.out HL.out HK.out).mono ?_
    rintro e v5 ⟨rfl, hE⟩
    have HD := Lib.hid (HD.out.ext hE)
    have HR := Lib.hid (HR.out.ext hE)
    have HK := Lib.hid (HK.out.ext hE)
    have HDX := Lib.hid (HDX.out.ext hE)
    have HDY := Lib.hid (HDY.out.ext hE)
    have HX := Lib.hid (HX.out.trans hE)
    clear hE
    obtain ⟨z0, z1, z2, z3, z4, z5, z6, z7, z8, -⟩ := HDY.out
    try dsimp only at z0 z1 z2 z3 z4 z5 z6 z7 z8
    go_wp2_with fail
    clear z0 z1 z2 z3 z4 z5 z6 z7 z8
    refine (ck_as (r := ⟨c, n, s, 2, t, [], 0, 0, 0⟩) HY.out HR.out HL.out HK.out).mono ?_
    rintro e v6 ⟨rfl, hE⟩
    have HD := Lib.hid (HD.out.ext hE)
    have HR := Lib.hid (HR.out.ext hE)
    have HK := Lib.hid (HK.out.ext hE)
    have HDX := Lib.hid (HDX.out.ext hE)
    have HDY := Lib.hid (HDY.out.ext hE)
    have HX := Lib.hid (HX.out.trans hE)
    clear hE
    obtain ⟨z0, z1, z2, z3, z4, z5, z6, z7, z8, -⟩ := HD.out
    try dsimp only at z0 z1 z2 z3 z4 z5 z6 z7 z8
    have hA : Ext v6 (v6.alloc (.cells #[.int .i64 c, .int .i64 n, .int .i64 s, .int .i64 2, .int .i64 t, .slice none 0 0, .int .i64 g, .int .i64 h, .int .i64 0] 26)) := (Ext.refl _).alloc _
    have hB : BoxQ (v6.alloc (.cells #[.int .i64 c, .int .i64 n, .int .i64 s, .int .i64 2, .int .i64 t, .slice none 0 0, .int .i64 g, .int .i64 h, .int .i64 0] 26)) v6.heap.size ⟨c, n, s, 2, t, [], g, h, 0⟩ none 0 := BoxQ.new _ ⟨c, n, s, 2, t, [], g, h, 0⟩ none 0 _ _ rfl
    go_wp2_with fail
    clear z0 z1 z2 z3 z4 z5 z6 z7 z8
    generalize (v6.alloc (.cells #[.int .i64 c, .int .i64 n, .int .i64 s, .int .i64 2, .int .i64 t, .slice none 0 0, .int .i64 g, .int .i64 h, .int .i64 0] 26)) = x6 at *
    have HD := Lib.hid (HD.out.ext hA)
    have HR := Lib.hid (HR.out.ext hA)
    have HK := Lib.hid (HK.out.ext hA)
    have HDX := Lib.hid (HDX.out.ext hA)
    have HDY := Lib.hid (HDY.out.ext hA)
    have HX := Lib.hid (HX.out.trans hA)
    have HDZ := Lib.hid hB
    clear hA hB
    obtain ⟨z0, z1, z2, z3, z4, z5, z6, z7, z8, -⟩ := HD.out
    try dsimp only at z0 z1 z2 z3 z4 z5 z6 z7 z8
    obtain ⟨f0, f1, f2, f3, f4, f5, f6, f7, f8, -⟩ := HDZ.out
    try dsimp only at f0 f1 f2 f3 f4 f5 f6 f7 f8
    have gz0 := grow_cell z0
    have gz1 := grow_cell z1
    have gz2 := grow_cell z2
    have gz3 := grow_cell z3
    have gz4 := grow_cell z4
    have gz5 := grow_cell z5
    have gz6 := grow_cell z6
    have gz7 := grow_cell z7
    have gz8 := grow_cell z8
    have gf0 := grow_cell f0
    have gf1 := grow_cell f1
    have gf2 := grow_cell f2
    have gf3 := grow_cell f3
    have gf4 := grow_cell f4
    have gf5 := grow_cell f5
    have gf6 := grow_cell f6
    have gf7 := grow_cell f7
    have gf8 := grow_cell f8
    refine wp_region_rel_all (fun i => if i = 1 then some (spV (.int .i64 0)) else none) (by kernel_rfl) (by kernel_rfl) ?_
    repeat (first
      | (refine wpRel_quick ?_ ?_ ?_ ?_
         · rfl
         · rfl
         · first | exact noEnter rfl | (intro f args W W'; go_simp)
         intro K hK
         go_big_quiet_op
         go_big_quiet_on)
      | (refine wpRel_skip ?_ ?_
         · rfl
         simp only [Act.put, List.setIfInBounds_toArray, List.set_cons_zero, List.set_cons_succ]))
    refine wpRel_rich _ rfl rfl (fun W hW => ?_) (fun v W3 hW3 hv => ?_)
    · have hc := ck_as (r := ⟨c, n, s, 2, t, [], g, h, 0⟩) (w := W) HZ.out (SL.empty _ _) (Nat.zero_le _) (HK.out.ext ((Ext.refl x6).drew.trans hW.1))
      go_simp
      refine Calls.mono hc ?_
      rintro e w' ⟨rfl, h⟩
      exact ⟨_, rfl, rfl, by first | exact h | (subst h; exact Ext.refl _)⟩
    obtain rfl := hv
    clear hW3
    simp only [Act.put, List.setIfInBounds_toArray, List.set_cons_zero, List.set_cons_succ]
    repeat (first
      | (refine wpRel_quick ?_ ?_ ?_ ?_
         · rfl
         · rfl
         · first | exact noEnter rfl | (intro f args W W'; go_simp)
         intro K hK
         go_big_quiet_op
         go_big_quiet_on)
      | (refine wpRel_skip ?_ ?_
         · rfl
         simp only [Act.put, List.setIfInBounds_toArray, List.set_cons_zero, List.set_cons_succ]))
    refine wpRel_nil ?_
    intro W3 hW3
    have HE3 := Lib.hid ((Ext.refl x6).drew.trans hW3.1)
    clear hW3
    go_wp2_with fail
    go_ret
    exact ⟨rfl, HX.out.trans HE3.out⟩
  by_cases hk4 : kind = 4
  · subst hk4
    have HXC : Hid (checkQ ⟨c, n, s, 4, t, [], g, h, 0⟩ = 290) := Lib.hid ((vq2x HH.out HFM.out _).trans (if_neg (by omega)))
    obtain ⟨z0, z1, z2, z3, z4, z5, z6, z7, z8, -⟩ := HD.out
    try dsimp only at z0 z1 z2 z3 z4 z5 z6 z7 z8
    have he := HEQ.out
    have hA : Ext v3 (v3.alloc (.cells #[.int .i64 c, .int .i64 n, .int .i64 s, .int .i64 4, .int .i64 t, .slice ao 0 cap, .int .i64 g, .int .i64 h, .int .i64 0] 26)) := (Ext.refl _).alloc _
    have hB : BoxQ (v3.alloc (.cells #[.int .i64 c, .int .i64 n, .int .i64 s, .int .i64 4, .int .i64 t, .slice ao 0 cap, .int .i64 g, .int .i64 h, .int .i64 0] 26)) v3.heap.size ⟨c, n, s, 4, t, [], g, h, 0⟩ ao cap := BoxQ.new _ ⟨c, n, s, 4, t, [], g, h, 0⟩ ao cap _ _ rfl
    obtain ⟨a0, a1, a2, a3, a4, a5, a6, a7, a8, -⟩ := HD.out.ext ((Ext.refl v3).alloc (.cells #[.int .i64 c, .int .i64 n, .int .i64 s, .int .i64 2, .int .i64 t, .slice ao 0 cap, .int .i64 g, .int .i64 h, .int .i64 0] 26))
    try dsimp only at a0 a1 a2 a3 a4 a5 a6 a7 a8
    have ne1 : ¬ w.heap.size = v3.heap.size := by have := HD.out.lt; omega
    have ne2 : ¬ v3.heap.size = w.heap.size := by have := HD.out.lt; omega
    obtain ⟨f0, f1, f2, f3, f4, f5, f6, f7, f8, -⟩ := HD.out.ext hA
    try dsimp only at f0 f1 f2 f3 f4 f5 f6 f7 f8
    go_wp2_with fail
    clear z0 z1 z2 z3 z4 z5 z6 z7 z8 f0 f1 f2 f3 f4 f5 f6 f7 f8 a0 a1 a2 a3 a4 a5 a6 a7 a8 he ne1 ne2
    generalize (v3.alloc (.cells #[.int .i64 c, .int .i64 n, .int .i64 s, .int .i64 4, .int .i64 t, .slice ao 0 cap, .int .i64 g, .int .i64 h, .int .i64 0] 26)) = x3 at *
    have HD := Lib.hid (HD.out.ext hA)
    have HR := Lib.hid (HR.out.ext hA)
    have HK := Lib.hid (HK.out.ext hA)
    have HX := Lib.hid (HX.out.trans hA)
    have HDX := Lib.hid hB
    clear hA hB
    refine (ck_as (r := ⟨c, n, s, 4, t, [], g, h, 0⟩) HXC.out HR.out HL.out HK.out).mono ?_
    rintro e v4 ⟨rfl, hE⟩
    have HD := Lib.hid (HD.out.ext hE)
    have HR := Lib.hid (HR.out.ext hE)
    have HK := Lib.hid (HK.out.ext hE)
    have HDX := Lib.hid (HDX.out.ext hE)
    have HX := Lib.hid (HX.out.trans hE)
    clear hE
    obtain ⟨z0, z1, z2, z3, z4, z5, z6, z7, z8, -⟩ := HD.out
    try dsimp only at z0 z1 z2 z3 z4 z5 z6 z7 z8
    have hA : Ext v4 (v4.alloc (.cells #[.int .i64 c, .int .i64 n, .int .i64 s, .int .i64 2, .int .i64 t, .slice ao 0 cap, .int .i64 0, .int .i64 0, .int .i64 0] 26)) := (Ext.refl _).alloc _
    have hB : BoxQ (v4.alloc (.cells #[.int .i64 c, .int .i64 n, .int .i64 s, .int .i64 2, .int .i64 t, .slice ao 0 cap, .int .i64 0, .int .i64 0, .int .i64 0] 26)) v4.heap.size ⟨c, n, s, 2, t, [], 0, 0, 0⟩ ao cap := BoxQ.new _ ⟨c, n, s, 2, t, [], 0, 0, 0⟩ ao cap _ _ rfl
    go_wp2_with fail
    clear z0 z1 z2 z3 z4 z5 z6 z7 z8
    generalize (v4.alloc (.cells #[.int .i64 c, .int .i64 n, .int .i64 s, .int .i64 2, .int .i64 t, .slice ao 0 cap, .int .i64 0, .int .i64 0, .int .i64 0] 26)) = x4 at *
    have HD := Lib.hid (HD.out.ext hA)
    have HR := Lib.hid (HR.out.ext hA)
    have HK := Lib.hid (HK.out.ext hA)
    have HDX := Lib.hid (HDX.out.ext hA)
    have HX := Lib.hid (HX.out.trans hA)
    have HDY := Lib.hid hB
    clear hA hB
    refine (ck_as (r := ⟨c, n, s, 2, t, [], 0, 0, 0⟩) HY.out HR.out HL.out HK.out).mono ?_
    rintro e v5 ⟨rfl, hE⟩
    have HD := Lib.hid (HD.out.ext hE)
    have HR := Lib.hid (HR.out.ext hE)
    have HK := Lib.hid (HK.out.ext hE)
    have HDX := Lib.hid (HDX.out.ext hE)
    have HDY := Lib.hid (HDY.out.ext hE)
    have HX := Lib.hid (HX.out.trans hE)
    clear hE
    obtain ⟨z0, z1, z2, z3, z4, z5, z6, z7, z8, -⟩ := HDY.out
    try dsimp only at z0 z1 z2 z3 z4 z5 z6 z7 z8
    go_wp2_with fail
    clear z0 z1 z2 z3 z4 z5 z6 z7 z8
    refine (ck_as (r := ⟨c, n, s, 2, t, [], 0, 0, 0⟩) HY.out HR.out HL.out HK.out).mono ?_
    rintro e v6 ⟨rfl, hE⟩
    have HD := Lib.hid (HD.out.ext hE)
    have HR := Lib.hid (HR.out.ext hE)
    have HK := Lib.hid (HK.out.ext hE)
    have HDX := Lib.hid (HDX.out.ext hE)
    have HDY := Lib.hid (HDY.out.ext hE)
    have HX := Lib.hid (HX.out.trans hE)
    clear hE
    obtain ⟨z0, z1, z2, z3, z4, z5, z6, z7, z8, -⟩ := HD.out
    try dsimp only at z0 z1 z2 z3 z4 z5 z6 z7 z8
    have hA : Ext v6 (v6.alloc (.cells #[.int .i64 c, .int .i64 n, .int .i64 s, .int .i64 2, .int .i64 t, .slice none 0 0, .int .i64 g, .int .i64 h, .int .i64 0] 26)) := (Ext.refl _).alloc _
    have hB : BoxQ (v6.alloc (.cells #[.int .i64 c, .int .i64 n, .int .i64 s, .int .i64 2, .int .i64 t, .slice none 0 0, .int .i64 g, .int .i64 h, .int .i64 0] 26)) v6.heap.size ⟨c, n, s, 2, t, [], g, h, 0⟩ none 0 := BoxQ.new _ ⟨c, n, s, 2, t, [], g, h, 0⟩ none 0 _ _ rfl
    go_wp2_with fail
    clear z0 z1 z2 z3 z4 z5 z6 z7 z8
    generalize (v6.alloc (.cells #[.int .i64 c, .int .i64 n, .int .i64 s, .int .i64 2, .int .i64 t, .slice none 0 0, .int .i64 g, .int .i64 h, .int .i64 0] 26)) = x6 at *
    have HD := Lib.hid (HD.out.ext hA)
    have HR := Lib.hid (HR.out.ext hA)
    have HK := Lib.hid (HK.out.ext hA)
    have HDX := Lib.hid (HDX.out.ext hA)
    have HDY := Lib.hid (HDY.out.ext hA)
    have HX := Lib.hid (HX.out.trans hA)
    have HDZ := Lib.hid hB
    clear hA hB
    obtain ⟨z0, z1, z2, z3, z4, z5, z6, z7, z8, -⟩ := HD.out
    try dsimp only at z0 z1 z2 z3 z4 z5 z6 z7 z8
    obtain ⟨f0, f1, f2, f3, f4, f5, f6, f7, f8, -⟩ := HDZ.out
    try dsimp only at f0 f1 f2 f3 f4 f5 f6 f7 f8
    have gz0 := grow_cell z0
    have gz1 := grow_cell z1
    have gz2 := grow_cell z2
    have gz3 := grow_cell z3
    have gz4 := grow_cell z4
    have gz5 := grow_cell z5
    have gz6 := grow_cell z6
    have gz7 := grow_cell z7
    have gz8 := grow_cell z8
    have gf0 := grow_cell f0
    have gf1 := grow_cell f1
    have gf2 := grow_cell f2
    have gf3 := grow_cell f3
    have gf4 := grow_cell f4
    have gf5 := grow_cell f5
    have gf6 := grow_cell f6
    have gf7 := grow_cell f7
    have gf8 := grow_cell f8
    refine wp_region_rel_all (fun i => if i = 1 then some (spV (.int .i64 0)) else none) (by kernel_rfl) (by kernel_rfl) ?_
    repeat (first
      | (refine wpRel_quick ?_ ?_ ?_ ?_
         · rfl
         · rfl
         · first | exact noEnter rfl | (intro f args W W'; go_simp)
         intro K hK
         go_big_quiet_op
         go_big_quiet_on)
      | (refine wpRel_skip ?_ ?_
         · rfl
         simp only [Act.put, List.setIfInBounds_toArray, List.set_cons_zero, List.set_cons_succ]))
    refine wpRel_rich _ rfl rfl (fun W hW => ?_) (fun v W3 hW3 hv => ?_)
    · have hc := ck_as (r := ⟨c, n, s, 2, t, [], g, h, 0⟩) (w := W) HZ.out (SL.empty _ _) (Nat.zero_le _) (HK.out.ext ((Ext.refl x6).drew.trans hW.1))
      go_simp
      refine Calls.mono hc ?_
      rintro e w' ⟨rfl, h⟩
      exact ⟨_, rfl, rfl, by first | exact h | (subst h; exact Ext.refl _)⟩
    obtain rfl := hv
    clear hW3
    simp only [Act.put, List.setIfInBounds_toArray, List.set_cons_zero, List.set_cons_succ]
    repeat (first
      | (refine wpRel_quick ?_ ?_ ?_ ?_
         · rfl
         · rfl
         · first | exact noEnter rfl | (intro f args W W'; go_simp)
         intro K hK
         go_big_quiet_op
         go_big_quiet_on)
      | (refine wpRel_skip ?_ ?_
         · rfl
         simp only [Act.put, List.setIfInBounds_toArray, List.set_cons_zero, List.set_cons_succ]))
    refine wpRel_nil ?_
    intro W3 hW3
    have HE3 := Lib.hid ((Ext.refl x6).drew.trans hW3.1)
    clear hW3
    go_wp2_with fail
    go_ret
    exact ⟨rfl, HX.out.trans HE3.out⟩
  by_cases hk5 : kind = 5
  · subst hk5
    have HXC : Hid (checkQ ⟨c, n, s, 5, t, [], g, h, 0⟩ = 290) := Lib.hid ((vq2x HH.out HFM.out _).trans (if_neg (by omega)))
    obtain ⟨z0, z1, z2, z3, z4, z5, z6, z7, z8, -⟩ := HD.out
    try dsimp only at z0 z1 z2 z3 z4 z5 z6 z7 z8
    have he := HEQ.out
    have hA : Ext v3 (v3.alloc (.cells #[.int .i64 c, .int .i64 n, .int .i64 s, .int .i64 5, .int .i64 t, .slice ao 0 cap, .int .i64 g, .int .i64 h, .int .i64 0] 26)) := (Ext.refl _).alloc _
    have hB : BoxQ (v3.alloc (.cells #[.int .i64 c, .int .i64 n, .int .i64 s, .int .i64 5, .int .i64 t, .slice ao 0 cap, .int .i64 g, .int .i64 h, .int .i64 0] 26)) v3.heap.size ⟨c, n, s, 5, t, [], g, h, 0⟩ ao cap := BoxQ.new _ ⟨c, n, s, 5, t, [], g, h, 0⟩ ao cap _ _ rfl
    obtain ⟨a0, a1, a2, a3, a4, a5, a6, a7, a8, -⟩ := HD.out.ext ((Ext.refl v3).alloc (.cells #[.int .i64 c, .int .i64 n, .int .i64 s, .int .i64 2, .int .i64 t, .slice ao 0 cap, .int .i64 g, .int .i64 h, .int .i64 0] 26))
    try dsimp only at a0 a1 a2 a3 a4 a5 a6 a7 a8
    have ne1 : ¬ w.heap.size = v3.heap.size := by have := HD.out.lt; omega
    have ne2 : ¬ v3.heap.size = w.heap.size := by have := HD.out.lt; omega
    obtain ⟨f0, f1, f2, f3, f4, f5, f6, f7, f8, -⟩ := HD.out.ext hA
    try dsimp only at f0 f1 f2 f3 f4 f5 f6 f7 f8
    go_wp2_with fail
    clear z0 z1 z2 z3 z4 z5 z6 z7 z8 f0 f1 f2 f3 f4 f5 f6 f7 f8 a0 a1 a2 a3 a4 a5 a6 a7 a8 he ne1 ne2
    generalize (v3.alloc (.cells #[.int .i64 c, .int .i64 n, .int .i64 s, .int .i64 5, .int .i64 t, .slice ao 0 cap, .int .i64 g, .int .i64 h, .int .i64 0] 26)) = x3 at *
    have HD := Lib.hid (HD.out.ext hA)
    have HR := Lib.hid (HR.out.ext hA)
    have HK := Lib.hid (HK.out.ext hA)
    have HX := Lib.hid (HX.out.trans hA)
    have HDX := Lib.hid hB
    clear hA hB
    refine (ck_as (r := ⟨c, n, s, 5, t, [], g, h, 0⟩) HXC.out HR.out HL.out HK.out).mono ?_
    rintro e v4 ⟨rfl, hE⟩
    have HD := Lib.hid (HD.out.ext hE)
    have HR := Lib.hid (HR.out.ext hE)
    have HK := Lib.hid (HK.out.ext hE)
    have HDX := Lib.hid (HDX.out.ext hE)
    have HX := Lib.hid (HX.out.trans hE)
    clear hE
    obtain ⟨z0, z1, z2, z3, z4, z5, z6, z7, z8, -⟩ := HD.out
    try dsimp only at z0 z1 z2 z3 z4 z5 z6 z7 z8
    have hA : Ext v4 (v4.alloc (.cells #[.int .i64 c, .int .i64 n, .int .i64 s, .int .i64 2, .int .i64 t, .slice ao 0 cap, .int .i64 0, .int .i64 0, .int .i64 0] 26)) := (Ext.refl _).alloc _
    have hB : BoxQ (v4.alloc (.cells #[.int .i64 c, .int .i64 n, .int .i64 s, .int .i64 2, .int .i64 t, .slice ao 0 cap, .int .i64 0, .int .i64 0, .int .i64 0] 26)) v4.heap.size ⟨c, n, s, 2, t, [], 0, 0, 0⟩ ao cap := BoxQ.new _ ⟨c, n, s, 2, t, [], 0, 0, 0⟩ ao cap _ _ rfl
    go_wp2_with fail
    clear z0 z1 z2 z3 z4 z5 z6 z7 z8
    generalize (v4.alloc (.cells #[.int .i64 c, .int .i64 n, .int .i64 s, .int .i64 2, .int .i64 t, .slice ao 0 cap, .int .i64 0, .int .i64 0, .int .i64 0] 26)) = x4 at *
    have HD := Lib.hid (HD.out.ext hA)
    have HR := Lib.hid (HR.out.ext hA)
    have HK := Lib.hid (HK.out.ext hA)
    have HDX := Lib.hid (HDX.out.ext hA)
    have HX := Lib.hid (HX.out.trans hA)
    have HDY := Lib.hid hB
    clear hA hB
    refine (ck_as (r := ⟨c, n, s, 2, t, [], 0, 0, 0⟩) HY.out HR.out HL.out HK.out).mono ?_
    rintro e v5 ⟨rfl, hE⟩
    have HD := Lib.hid (HD.out.ext hE)
    have HR := Lib.hid (HR.out.ext hE)
    have HK := Lib.hid (HK.out.ext hE)
    have HDX := Lib.hid (HDX.out.ext hE)
    have HDY := Lib.hid (HDY.out.ext hE)
    have HX := Lib.hid (HX.out.trans hE)
    clear hE
    obtain ⟨z0, z1, z2, z3, z4, z5, z6, z7, z8, -⟩ := HDY.out
    try dsimp only at z0 z1 z2 z3 z4 z5 z6 z7 z8
    go_wp2_with fail
    clear z0 z1 z2 z3 z4 z5 z6 z7 z8
    refine (ck_as (r := ⟨c, n, s, 2, t, [], 0, 0, 0⟩) HY.out HR.out HL.out HK.out).mono ?_
    rintro e v6 ⟨rfl, hE⟩
    have HD := Lib.hid (HD.out.ext hE)
    have HR := Lib.hid (HR.out.ext hE)
    have HK := Lib.hid (HK.out.ext hE)
    have HDX := Lib.hid (HDX.out.ext hE)
    have HDY := Lib.hid (HDY.out.ext hE)
    have HX := Lib.hid (HX.out.trans hE)
    clear hE
    obtain ⟨z0, z1, z2, z3, z4, z5, z6, z7, z8, -⟩ := HD.out
    try dsimp only at z0 z1 z2 z3 z4 z5 z6 z7 z8
    have hA : Ext v6 (v6.alloc (.cells #[.int .i64 c, .int .i64 n, .int .i64 s, .int .i64 2, .int .i64 t, .slice none 0 0, .int .i64 g, .int .i64 h, .int .i64 0] 26)) := (Ext.refl _).alloc _
    have hB : BoxQ (v6.alloc (.cells #[.int .i64 c, .int .i64 n, .int .i64 s, .int .i64 2, .int .i64 t, .slice none 0 0, .int .i64 g, .int .i64 h, .int .i64 0] 26)) v6.heap.size ⟨c, n, s, 2, t, [], g, h, 0⟩ none 0 := BoxQ.new _ ⟨c, n, s, 2, t, [], g, h, 0⟩ none 0 _ _ rfl
    go_wp2_with fail
    clear z0 z1 z2 z3 z4 z5 z6 z7 z8
    generalize (v6.alloc (.cells #[.int .i64 c, .int .i64 n, .int .i64 s, .int .i64 2, .int .i64 t, .slice none 0 0, .int .i64 g, .int .i64 h, .int .i64 0] 26)) = x6 at *
    have HD := Lib.hid (HD.out.ext hA)
    have HR := Lib.hid (HR.out.ext hA)
    have HK := Lib.hid (HK.out.ext hA)
    have HDX := Lib.hid (HDX.out.ext hA)
    have HDY := Lib.hid (HDY.out.ext hA)
    have HX := Lib.hid (HX.out.trans hA)
    have HDZ := Lib.hid hB
    clear hA hB
    obtain ⟨z0, z1, z2, z3, z4, z5, z6, z7, z8, -⟩ := HD.out
    try dsimp only at z0 z1 z2 z3 z4 z5 z6 z7 z8
    obtain ⟨f0, f1, f2, f3, f4, f5, f6, f7, f8, -⟩ := HDZ.out
    try dsimp only at f0 f1 f2 f3 f4 f5 f6 f7 f8
    have gz0 := grow_cell z0
    have gz1 := grow_cell z1
    have gz2 := grow_cell z2
    have gz3 := grow_cell z3
    have gz4 := grow_cell z4
    have gz5 := grow_cell z5
    have gz6 := grow_cell z6
    have gz7 := grow_cell z7
    have gz8 := grow_cell z8
    have gf0 := grow_cell f0
    have gf1 := grow_cell f1
    have gf2 := grow_cell f2
    have gf3 := grow_cell f3
    have gf4 := grow_cell f4
    have gf5 := grow_cell f5
    have gf6 := grow_cell f6
    have gf7 := grow_cell f7
    have gf8 := grow_cell f8
    refine wp_region_rel_all (fun i => if i = 1 then some (spV (.int .i64 0)) else none) (by kernel_rfl) (by kernel_rfl) ?_
    repeat (first
      | (refine wpRel_quick ?_ ?_ ?_ ?_
         · rfl
         · rfl
         · first | exact noEnter rfl | (intro f args W W'; go_simp)
         intro K hK
         go_big_quiet_op
         go_big_quiet_on)
      | (refine wpRel_skip ?_ ?_
         · rfl
         simp only [Act.put, List.setIfInBounds_toArray, List.set_cons_zero, List.set_cons_succ]))
    refine wpRel_rich _ rfl rfl (fun W hW => ?_) (fun v W3 hW3 hv => ?_)
    · have hc := ck_as (r := ⟨c, n, s, 2, t, [], g, h, 0⟩) (w := W) HZ.out (SL.empty _ _) (Nat.zero_le _) (HK.out.ext ((Ext.refl x6).drew.trans hW.1))
      go_simp
      refine Calls.mono hc ?_
      rintro e w' ⟨rfl, h⟩
      exact ⟨_, rfl, rfl, by first | exact h | (subst h; exact Ext.refl _)⟩
    obtain rfl := hv
    clear hW3
    simp only [Act.put, List.setIfInBounds_toArray, List.set_cons_zero, List.set_cons_succ]
    repeat (first
      | (refine wpRel_quick ?_ ?_ ?_ ?_
         · rfl
         · rfl
         · first | exact noEnter rfl | (intro f args W W'; go_simp)
         intro K hK
         go_big_quiet_op
         go_big_quiet_on)
      | (refine wpRel_skip ?_ ?_
         · rfl
         simp only [Act.put, List.setIfInBounds_toArray, List.set_cons_zero, List.set_cons_succ]))
    refine wpRel_nil ?_
    intro W3 hW3
    have HE3 := Lib.hid ((Ext.refl x6).drew.trans hW3.1)
    clear hW3
    go_wp2_with fail
    go_ret
    exact ⟨rfl, HX.out.trans HE3.out⟩
  have e2 : (kind == 2) = false := by simpa using hk2
  have e4 : (kind == 4) = false := by simpa using hk4
  have e5 : (kind == 5) = false := by simpa using hk5
  have HXC : Hid (checkQ ⟨c, n, s, kind, t, [], g, h, 0⟩ = 290) := Lib.hid ((vq2x HH.out HFM.out _).trans (if_neg (by omega)))
  obtain ⟨z0, z1, z2, z3, z4, z5, z6, z7, z8, -⟩ := HD.out
  try dsimp only at z0 z1 z2 z3 z4 z5 z6 z7 z8
  have he := HEQ.out
  have hA : Ext v3 (v3.alloc (.cells #[.int .i64 c, .int .i64 n, .int .i64 s, .int .i64 kind, .int .i64 t, .slice ao 0 cap, .int .i64 g, .int .i64 h, .int .i64 0] 26)) := (Ext.refl _).alloc _
  have hB : BoxQ (v3.alloc (.cells #[.int .i64 c, .int .i64 n, .int .i64 s, .int .i64 kind, .int .i64 t, .slice ao 0 cap, .int .i64 g, .int .i64 h, .int .i64 0] 26)) v3.heap.size ⟨c, n, s, kind, t, [], g, h, 0⟩ ao cap := BoxQ.new _ ⟨c, n, s, kind, t, [], g, h, 0⟩ ao cap _ _ rfl
  obtain ⟨a0, a1, a2, a3, a4, a5, a6, a7, a8, -⟩ := HD.out.ext ((Ext.refl v3).alloc (.cells #[.int .i64 c, .int .i64 n, .int .i64 s, .int .i64 2, .int .i64 t, .slice ao 0 cap, .int .i64 g, .int .i64 h, .int .i64 0] 26))
  try dsimp only at a0 a1 a2 a3 a4 a5 a6 a7 a8
  have ne1 : ¬ w.heap.size = v3.heap.size := by have := HD.out.lt; omega
  have ne2 : ¬ v3.heap.size = w.heap.size := by have := HD.out.lt; omega
  obtain ⟨f0, f1, f2, f3, f4, f5, f6, f7, f8, -⟩ := HD.out.ext hA
  try dsimp only at f0 f1 f2 f3 f4 f5 f6 f7 f8
  go_wp2_with fail
  clear z0 z1 z2 z3 z4 z5 z6 z7 z8 f0 f1 f2 f3 f4 f5 f6 f7 f8 a0 a1 a2 a3 a4 a5 a6 a7 a8 he ne1 ne2
  generalize (v3.alloc (.cells #[.int .i64 c, .int .i64 n, .int .i64 s, .int .i64 kind, .int .i64 t, .slice ao 0 cap, .int .i64 g, .int .i64 h, .int .i64 0] 26)) = x3 at *
  have HD := Lib.hid (HD.out.ext hA)
  have HR := Lib.hid (HR.out.ext hA)
  have HK := Lib.hid (HK.out.ext hA)
  have HX := Lib.hid (HX.out.trans hA)
  have HDX := Lib.hid hB
  clear hA hB
  refine (ck_as (r := ⟨c, n, s, kind, t, [], g, h, 0⟩) HXC.out HR.out HL.out HK.out).mono ?_
  rintro e v4 ⟨rfl, hE⟩
  have HD := Lib.hid (HD.out.ext hE)
  have HR := Lib.hid (HR.out.ext hE)
  have HK := Lib.hid (HK.out.ext hE)
  have HDX := Lib.hid (HDX.out.ext hE)
  have HX := Lib.hid (HX.out.trans hE)
  clear hE
  obtain ⟨z0, z1, z2, z3, z4, z5, z6, z7, z8, -⟩ := HD.out
  try dsimp only at z0 z1 z2 z3 z4 z5 z6 z7 z8
  have hA : Ext v4 (v4.alloc (.cells #[.int .i64 c, .int .i64 n, .int .i64 s, .int .i64 2, .int .i64 t, .slice ao 0 cap, .int .i64 0, .int .i64 0, .int .i64 0] 26)) := (Ext.refl _).alloc _
  have hB : BoxQ (v4.alloc (.cells #[.int .i64 c, .int .i64 n, .int .i64 s, .int .i64 2, .int .i64 t, .slice ao 0 cap, .int .i64 0, .int .i64 0, .int .i64 0] 26)) v4.heap.size ⟨c, n, s, 2, t, [], 0, 0, 0⟩ ao cap := BoxQ.new _ ⟨c, n, s, 2, t, [], 0, 0, 0⟩ ao cap _ _ rfl
  go_wp2_with fail
  clear z0 z1 z2 z3 z4 z5 z6 z7 z8
  generalize (v4.alloc (.cells #[.int .i64 c, .int .i64 n, .int .i64 s, .int .i64 2, .int .i64 t, .slice ao 0 cap, .int .i64 0, .int .i64 0, .int .i64 0] 26)) = x4 at *
  have HD := Lib.hid (HD.out.ext hA)
  have HR := Lib.hid (HR.out.ext hA)
  have HK := Lib.hid (HK.out.ext hA)
  have HDX := Lib.hid (HDX.out.ext hA)
  have HX := Lib.hid (HX.out.trans hA)
  have HDY := Lib.hid hB
  clear hA hB
  refine (ck_as (r := ⟨c, n, s, 2, t, [], 0, 0, 0⟩) HY.out HR.out HL.out HK.out).mono ?_
  rintro e v5 ⟨rfl, hE⟩
  have HD := Lib.hid (HD.out.ext hE)
  have HR := Lib.hid (HR.out.ext hE)
  have HK := Lib.hid (HK.out.ext hE)
  have HDX := Lib.hid (HDX.out.ext hE)
  have HDY := Lib.hid (HDY.out.ext hE)
  have HX := Lib.hid (HX.out.trans hE)
  clear hE
  obtain ⟨z0, z1, z2, z3, z4, z5, z6, z7, z8, -⟩ := HDY.out
  try dsimp only at z0 z1 z2 z3 z4 z5 z6 z7 z8
  go_wp2_with fail
  clear z0 z1 z2 z3 z4 z5 z6 z7 z8
  refine (ck_as (r := ⟨c, n, s, 2, t, [], 0, 0, 0⟩) HY.out HR.out HL.out HK.out).mono ?_
  rintro e v6 ⟨rfl, hE⟩
  have HD := Lib.hid (HD.out.ext hE)
  have HR := Lib.hid (HR.out.ext hE)
  have HK := Lib.hid (HK.out.ext hE)
  have HDX := Lib.hid (HDX.out.ext hE)
  have HDY := Lib.hid (HDY.out.ext hE)
  have HX := Lib.hid (HX.out.trans hE)
  clear hE
  obtain ⟨z0, z1, z2, z3, z4, z5, z6, z7, z8, -⟩ := HD.out
  try dsimp only at z0 z1 z2 z3 z4 z5 z6 z7 z8
  have hA : Ext v6 (v6.alloc (.cells #[.int .i64 c, .int .i64 n, .int .i64 s, .int .i64 2, .int .i64 t, .slice none 0 0, .int .i64 g, .int .i64 h, .int .i64 0] 26)) := (Ext.refl _).alloc _
  have hB : BoxQ (v6.alloc (.cells #[.int .i64 c, .int .i64 n, .int .i64 s, .int .i64 2, .int .i64 t, .slice none 0 0, .int .i64 g, .int .i64 h, .int .i64 0] 26)) v6.heap.size ⟨c, n, s, 2, t, [], g, h, 0⟩ none 0 := BoxQ.new _ ⟨c, n, s, 2, t, [], g, h, 0⟩ none 0 _ _ rfl
  go_wp2_with fail
  clear z0 z1 z2 z3 z4 z5 z6 z7 z8
  generalize (v6.alloc (.cells #[.int .i64 c, .int .i64 n, .int .i64 s, .int .i64 2, .int .i64 t, .slice none 0 0, .int .i64 g, .int .i64 h, .int .i64 0] 26)) = x6 at *
  have HD := Lib.hid (HD.out.ext hA)
  have HR := Lib.hid (HR.out.ext hA)
  have HK := Lib.hid (HK.out.ext hA)
  have HDX := Lib.hid (HDX.out.ext hA)
  have HDY := Lib.hid (HDY.out.ext hA)
  have HX := Lib.hid (HX.out.trans hA)
  have HDZ := Lib.hid hB
  clear hA hB
  obtain ⟨z0, z1, z2, z3, z4, z5, z6, z7, z8, -⟩ := HD.out
  try dsimp only at z0 z1 z2 z3 z4 z5 z6 z7 z8
  obtain ⟨f0, f1, f2, f3, f4, f5, f6, f7, f8, -⟩ := HDZ.out
  try dsimp only at f0 f1 f2 f3 f4 f5 f6 f7 f8
  have gz0 := grow_cell z0
  have gz1 := grow_cell z1
  have gz2 := grow_cell z2
  have gz3 := grow_cell z3
  have gz4 := grow_cell z4
  have gz5 := grow_cell z5
  have gz6 := grow_cell z6
  have gz7 := grow_cell z7
  have gz8 := grow_cell z8
  have gf0 := grow_cell f0
  have gf1 := grow_cell f1
  have gf2 := grow_cell f2
  have gf3 := grow_cell f3
  have gf4 := grow_cell f4
  have gf5 := grow_cell f5
  have gf6 := grow_cell f6
  have gf7 := grow_cell f7
  have gf8 := grow_cell f8
  refine wp_region_rel_all (fun i => if i = 1 then some (spV (.int .i64 0)) else none) (by kernel_rfl) (by kernel_rfl) ?_
  repeat (first
    | (refine wpRel_quick ?_ ?_ ?_ ?_
       · rfl
       · rfl
       · first | exact noEnter rfl | (intro f args W W'; go_simp)
       intro K hK
       go_big_quiet_op
       go_big_quiet_on)
    | (refine wpRel_skip ?_ ?_
       · rfl
       simp only [Act.put, List.setIfInBounds_toArray, List.set_cons_zero, List.set_cons_succ]))
  refine wpRel_rich _ rfl rfl (fun W hW => ?_) (fun v W3 hW3 hv => ?_)
  · have hc := ck_as (r := ⟨c, n, s, 2, t, [], g, h, 0⟩) (w := W) HZ.out (SL.empty _ _) (Nat.zero_le _) (HK.out.ext ((Ext.refl x6).drew.trans hW.1))
    go_simp
    refine Calls.mono hc ?_
    rintro e w' ⟨rfl, h⟩
    exact ⟨_, rfl, rfl, by first | exact h | (subst h; exact Ext.refl _)⟩
  obtain rfl := hv
  clear hW3
  simp only [Act.put, List.setIfInBounds_toArray, List.set_cons_zero, List.set_cons_succ]
  repeat (first
    | (refine wpRel_quick ?_ ?_ ?_ ?_
       · rfl
       · rfl
       · first | exact noEnter rfl | (intro f args W W'; go_simp)
       intro K hK
       go_big_quiet_op
       go_big_quiet_on)
    | (refine wpRel_skip ?_ ?_
       · rfl
       simp only [Act.put, List.setIfInBounds_toArray, List.set_cons_zero, List.set_cons_succ]))
  refine wpRel_nil ?_
  intro W3 hW3
  have HE3 := Lib.hid ((Ext.refl x6).drew.trans hW3.1)
  clear hW3
  go_wp2_with fail
  go_ret
  exact ⟨rfl, HX.out.trans HE3.out⟩
end Go.Proofs.YtahaplioegeloaaDoor
namespace Go.Proofs.YtahaplioegeloaaDoor
open Go.RowKit Go.Sz
set_option maxRecDepth 100000 in
set_option maxHeartbeats 12800000 in
theorem lawq_kinds3 (r : Rq) (ao : Option Addr) (cap : Nat) (kind : Int) (w : World) (hr : RepB w ao cap r.ch) (ht : r.ok) (hl : r.ch.length ≤ 20) (hv : validQ r = true) (hK : r.k = 3) (hk : Kinds w) : Calls Tryd.prog 8 #[.agg (r.cells ao cap).toArray, .int .i64 kind] w fun e w' => e = .returned (.bool true) ∧ Ext w w' := by
  obtain ⟨c, n, s, k, t, ch, g, h, y⟩ := r
  change k = 3 at hK
  subst hK
  dsimp only at hl
  obtain ⟨hh, hgd, -, -⟩ := headQ_any hv
  have hv0 := (vq hh hgd _ _ _ _).1 hv
  unfold needB at hv0
  rcases hv0 with ⟨h0, -⟩ | ⟨h0, -⟩ | ⟨-, hn1, hfm, hne, rfl⟩ | ⟨h0, -⟩
  · exact absurd h0 (by decide)
  · exact absurd h0 (by decide)
  rotate_left
  · exact absurd h0 (by decide)
  have HN1 := Lib.hid hn1
  clear hn1
  show Calls Tryd.prog 8 #[.agg #[.int .i64 c, .int .i64 n, .int .i64 s, .int .i64 3, .int .i64 t, .slice ao ch.length cap, .int .i64 g, .int .i64 h, .int .i64 0], .int .i64 kind] w _
  have hX : Ext w (w.alloc (.cells #[.int .i64 c, .int .i64 n, .int .i64 s, .int .i64 3, .int .i64 t, .slice ao ch.length cap, .int .i64 g, .int .i64 h, .int .i64 0] 26)) := (Ext.refl w).alloc _
  have HD : Hid (BoxQ (w.alloc (.cells #[.int .i64 c, .int .i64 n, .int .i64 s, .int .i64 3, .int .i64 t, .slice ao ch.length cap, .int .i64 g, .int .i64 h, .int .i64 0] 26)) (w.heap.size) ⟨c, n, s, 3, t, ch, g, h, 0⟩ ao cap) := Lib.hid (BoxQ.new w ⟨c, n, s, 3, t, ch, g, h, 0⟩ ao cap 26 (w.heap.size) (by simp))
  have HR : Hid (RepB (w.alloc (.cells #[.int .i64 c, .int .i64 n, .int .i64 s, .int .i64 3, .int .i64 t, .slice ao ch.length cap, .int .i64 g, .int .i64 h, .int .i64 0] 26)) ao cap ch) := Lib.hid (RepB.ext hr hX)
  have HT := Lib.hid ht
  clear hr ht
  have HK := Lib.hid (hk.ext hX)
  have HX := Lib.hid hX
  clear hk hX
  go_enter Tryd.func8, Tryd.ntmps8
  go_wp2_with fail
  generalize (w.alloc (.cells #[.int .i64 c, .int .i64 n, .int .i64 s, .int .i64 3, .int .i64 t, .slice ao ch.length cap, .int .i64 g, .int .i64 h, .int .i64 0] 26)) = w0 at *
  have he := eqB g h 0 0
  have hgv : (g == 0 && h == 0) = false := by
    by_cases h1 : g = 0
    · subst h1
      by_cases h2 : h = 0
      · subst h2; rw [formB_zero] at hfm; cases hfm
      · simp [h2]
    · simp [h1]
  rw [hgv] at he
  have HEQ := Lib.hid he
  clear he hgv
  have HH := Lib.hid hh
  have HGD := Lib.hid hgd
  have HFM := Lib.hid hfm
  have HC : Hid (checkQ ⟨c, n, s, 3, t, ch, g, h, 0⟩ = 0) := Lib.hid (by unfold checkQ; rw [hv]; rfl)
  have hf := decide_eq_true hl
  have HL : Hid ((ch).length ≤ 1000000) := Lib.hid (by omega)
  have HY : Hid (checkQ ⟨c, n, s, 3, t, ch, 0, 0, 0⟩ = 290) := Lib.hid (vq0x hh hgd (by omega))
  have HZ : Hid (checkQ ⟨c, n, s, 3, t, [], g, h, 0⟩ = 290) := Lib.hid (vqzx hh (by decide))
  clear hv hl hh hgd hfm
  refine (saneQ_any _ HK.out).mono ?_
  rintro e v1 ⟨rfl, hE⟩
  have HD := Lib.hid (HD.out.ext hE)
  have HR := Lib.hid (HR.out.ext hE)
  have HK := Lib.hid (HK.out.ext hE)
  have HX := Lib.hid (HX.out.trans hE)
  clear hE
  obtain ⟨z0, z1, z2, z3, z4, z5, z6, z7, z8, -⟩ := HD.out
  try dsimp only at z0 z1 z2 z3 z4 z5 z6 z7 z8
  go_wp2_with fail
  clear z0 z1 z2 z3 z4 z5 z6 z7 z8
  refine (fw_as (r := ⟨c, n, s, 3, t, ch, g, h, 0⟩) hf HR.out).mono ?_
  rintro e v2 ⟨rfl, hE⟩
  have HD := Lib.hid (HD.out.ext hE)
  have HR := Lib.hid (HR.out.ext hE)
  have HK := Lib.hid (HK.out.ext hE)
  have HX := Lib.hid (HX.out.trans hE)
  clear hE
  obtain ⟨z0, z1, z2, z3, z4, z5, z6, z7, z8, -⟩ := HD.out
  try dsimp only at z0 z1 z2 z3 z4 z5 z6 z7 z8
  go_wp2_with fail
  clear z0 z1 z2 z3 z4 z5 z6 z7 z8
  refine (ck_as (r := ⟨c, n, s, 3, t, ch, g, h, 0⟩) HC.out HR.out HL.out HK.out).mono ?_
  rintro e v3 ⟨rfl, hE⟩
  have HD := Lib.hid (HD.out.ext hE)
  have HR := Lib.hid (HR.out.ext hE)
  have HK := Lib.hid (HK.out.ext hE)
  have HX := Lib.hid (HX.out.trans hE)
  clear hE
  by_cases hk3 : kind = 3
  · subst hk3
    have hn1 := HN1.out
    have n1 : (((ch.length : Nat) : Int) == 1) = true := by rw [beq_iff_eq]; omega
    have n2 : (((ch.length : Nat) : Int) != 1) = false := by rw [bne_eq_false_iff_eq]; omega
    have HXC : Hid (checkQ ⟨c, n, s, 3, t, ch, g, h, 0⟩ = 0) := Lib.hid ((vq3x HH.out HGD.out hn1 HFM.out hne _).trans (if_pos (by omega)))
    clear hn1
    obtain ⟨z0, z1, z2, z3, z4, z5, z6, z7, z8, -⟩ := HD.out
    try dsimp only at z0 z1 z2 z3 z4 z5 z6 z7 z8
    have he := HEQ.out
    have hA : Ext v3 (v3.alloc (.cells #[.int .i64 c, .int .i64 n, .int .i64 s, .int .i64 3, .int .i64 t, .slice ao ch.length cap, .int .i64 g, .int .i64 h, .int .i64 0] 26)) := (Ext.refl _).alloc _
    have hB : BoxQ (v3.alloc (.cells #[.int .i64 c, .int .i64 n, .int .i64 s, .int .i64 3, .int .i64 t, .slice ao ch.length cap, .int .i64 g, .int .i64 h, .int .i64 0] 26)) v3.heap.size ⟨c, n, s, 3, t, ch, g, h, 0⟩ ao cap := BoxQ.new _ ⟨c, n, s, 3, t, ch, g, h, 0⟩ ao cap _ _ rfl
    obtain ⟨a0, a1, a2, a3, a4, a5, a6, a7, a8, -⟩ := HD.out.ext ((Ext.refl v3).alloc (.cells #[.int .i64 c, .int .i64 n, .int .i64 s, .int .i64 3, .int .i64 t, .slice ao ch.length cap, .int .i64 g, .int .i64 h, .int .i64 0] 26))
    try dsimp only at a0 a1 a2 a3 a4 a5 a6 a7 a8
    have ne1 : ¬ w.heap.size = v3.heap.size := by have := HD.out.lt; omega
    have ne2 : ¬ v3.heap.size = w.heap.size := by have := HD.out.lt; omega
    obtain ⟨f0, f1, f2, f3, f4, f5, f6, f7, f8, -⟩ := HD.out.ext hA
    try dsimp only at f0 f1 f2 f3 f4 f5 f6 f7 f8
    go_wp2_with fail
    clear z0 z1 z2 z3 z4 z5 z6 z7 z8 f0 f1 f2 f3 f4 f5 f6 f7 f8 a0 a1 a2 a3 a4 a5 a6 a7 a8 he ne1 ne2
    generalize (v3.alloc (.cells #[.int .i64 c, .int .i64 n, .int .i64 s, .int .i64 3, .int .i64 t, .slice ao ch.length cap, .int .i64 g, .int .i64 h, .int .i64 0] 26)) = x3 at *
    have HD := Lib.hid (HD.out.ext hA)
    have HR := Lib.hid (HR.out.ext hA)
    have HK := Lib.hid (HK.out.ext hA)
    have HX := Lib.hid (HX.out.trans hA)
    have HDX := Lib.hid hB
    clear hA hB
    refine (ck_as (r := ⟨c, n, s, 3, t, ch, g, h, 0⟩) HXC.out HR.out HL.out HK.out).mono ?_
    rintro e v4 ⟨rfl, hE⟩
    have HD := Lib.hid (HD.out.ext hE)
    have HR := Lib.hid (HR.out.ext hE)
    have HK := Lib.hid (HK.out.ext hE)
    have HDX := Lib.hid (HDX.out.ext hE)
    have HX := Lib.hid (HX.out.trans hE)
    clear hE
    obtain ⟨z0, z1, z2, z3, z4, z5, z6, z7, z8, -⟩ := HD.out
    try dsimp only at z0 z1 z2 z3 z4 z5 z6 z7 z8
    have hA : Ext v4 (v4.alloc (.cells #[.int .i64 c, .int .i64 n, .int .i64 s, .int .i64 3, .int .i64 t, .slice ao ch.length cap, .int .i64 0, .int .i64 0, .int .i64 0] 26)) := (Ext.refl _).alloc _
    have hB : BoxQ (v4.alloc (.cells #[.int .i64 c, .int .i64 n, .int .i64 s, .int .i64 3, .int .i64 t, .slice ao ch.length cap, .int .i64 0, .int .i64 0, .int .i64 0] 26)) v4.heap.size ⟨c, n, s, 3, t, ch, 0, 0, 0⟩ ao cap := BoxQ.new _ ⟨c, n, s, 3, t, ch, 0, 0, 0⟩ ao cap _ _ rfl
    go_wp2_with fail
    clear z0 z1 z2 z3 z4 z5 z6 z7 z8
    generalize (v4.alloc (.cells #[.int .i64 c, .int .i64 n, .int .i64 s, .int .i64 3, .int .i64 t, .slice ao ch.length cap, .int .i64 0, .int .i64 0, .int .i64 0] 26)) = x4 at *
    have HD := Lib.hid (HD.out.ext hA)
    have HR := Lib.hid (HR.out.ext hA)
    have HK := Lib.hid (HK.out.ext hA)
    have HDX := Lib.hid (HDX.out.ext hA)
    have HX := Lib.hid (HX.out.trans hA)
    have HDY := Lib.hid hB
    clear hA hB
    refine (ck_as (r := ⟨c, n, s, 3, t, ch, 0, 0, 0⟩) HY.out HR.out HL.out HK.out).mono ?_
    rintro e v5 ⟨rfl, hE⟩
    have HD := Lib.hid (HD.out.ext hE)
    have HR := Lib.hid (HR.out.ext hE)
    have HK := Lib.hid (HK.out.ext hE)
    have HDX := Lib.hid (HDX.out.ext hE)
    have HDY := Lib.hid (HDY.out.ext hE)
    have HX := Lib.hid (HX.out.trans hE)
    clear hE
    obtain ⟨z0, z1, z2, z3, z4, z5, z6, z7, z8, -⟩ := HDY.out
    try dsimp only at z0 z1 z2 z3 z4 z5 z6 z7 z8
    go_wp2_with fail
    clear z0 z1 z2 z3 z4 z5 z6 z7 z8
    refine (ck_as (r := ⟨c, n, s, 3, t, ch, 0, 0, 0⟩) HY.out HR.out HL.out HK.out).mono ?_
    rintro e v6 ⟨rfl, hE⟩
    have HD := Lib.hid (HD.out.ext hE)
    have HR := Lib.hid (HR.out.ext hE)
    have HK := Lib.hid (HK.out.ext hE)
    have HDX := Lib.hid (HDX.out.ext hE)
    have HDY := Lib.hid (HDY.out.ext hE)
    have HX := Lib.hid (HX.out.trans hE)
    clear hE
    obtain ⟨z0, z1, z2, z3, z4, z5, z6, z7, z8, -⟩ := HD.out
    try dsimp only at z0 z1 z2 z3 z4 z5 z6 z7 z8
    have hA : Ext v6 (v6.alloc (.cells #[.int .i64 c, .int .i64 n, .int .i64 s, .int .i64 3, .int .i64 t, .slice none 0 0, .int .i64 g, .int .i64 h, .int .i64 0] 26)) := (Ext.refl _).alloc _
    have hB : BoxQ (v6.alloc (.cells #[.int .i64 c, .int .i64 n, .int .i64 s, .int .i64 3, .int .i64 t, .slice none 0 0, .int .i64 g, .int .i64 h, .int .i64 0] 26)) v6.heap.size ⟨c, n, s, 3, t, [], g, h, 0⟩ none 0 := BoxQ.new _ ⟨c, n, s, 3, t, [], g, h, 0⟩ none 0 _ _ rfl
    go_wp2_with fail
    clear z0 z1 z2 z3 z4 z5 z6 z7 z8
    generalize (v6.alloc (.cells #[.int .i64 c, .int .i64 n, .int .i64 s, .int .i64 3, .int .i64 t, .slice none 0 0, .int .i64 g, .int .i64 h, .int .i64 0] 26)) = x6 at *
    have HD := Lib.hid (HD.out.ext hA)
    have HR := Lib.hid (HR.out.ext hA)
    have HK := Lib.hid (HK.out.ext hA)
    have HDX := Lib.hid (HDX.out.ext hA)
    have HDY := Lib.hid (HDY.out.ext hA)
    have HX := Lib.hid (HX.out.trans hA)
    have HDZ := Lib.hid hB
    clear hA hB
    obtain ⟨z0, z1, z2, z3, z4, z5, z6, z7, z8, -⟩ := HD.out
    try dsimp only at z0 z1 z2 z3 z4 z5 z6 z7 z8
    obtain ⟨f0, f1, f2, f3, f4, f5, f6, f7, f8, -⟩ := HDZ.out
    try dsimp only at f0 f1 f2 f3 f4 f5 f6 f7 f8
    have gz0 := grow_cell z0
    have gz1 := grow_cell z1
    have gz2 := grow_cell z2
    have gz3 := grow_cell z3
    have gz4 := grow_cell z4
    have gz5 := grow_cell z5
    have gz6 := grow_cell z6
    have gz7 := grow_cell z7
    have gz8 := grow_cell z8
    have gf0 := grow_cell f0
    have gf1 := grow_cell f1
    have gf2 := grow_cell f2
    have gf3 := grow_cell f3
    have gf4 := grow_cell f4
    have gf5 := grow_cell f5
    have gf6 := grow_cell f6
    have gf7 := grow_cell f7
    have gf8 := grow_cell f8
    refine wp_region_rel_all (fun i => if i = 1 then some (spV (.int .i64 290)) else none) (by kernel_rfl) (by kernel_rfl) ?_
    repeat (first
      | (refine wpRel_quick ?_ ?_ ?_ ?_
         · rfl
         · rfl
         · first | exact noEnter rfl | (intro f args W W'; go_simp)
         intro K hK
         go_big_quiet_op
         go_big_quiet_on)
      | (refine wpRel_skip ?_ ?_
         · rfl
         simp only [Act.put, List.setIfInBounds_toArray, List.set_cons_zero, List.set_cons_succ]))
    refine wpRel_rich _ rfl rfl (fun W hW => ?_) (fun v W3 hW3 hv => ?_)
    · have hc := ck_as (r := ⟨c, n, s, 3, t, [], g, h, 0⟩) (w := W) HZ.out (SL.empty _ _) (Nat.zero_le _) (HK.out.ext ((Ext.refl x6).drew.trans hW.1))
      go_simp
      refine Calls.mono hc ?_
      rintro e w' ⟨rfl, h⟩
      exact ⟨_, rfl, rfl, by first | exact h | (subst h; exact Ext.refl _)⟩
    obtain rfl := hv
    clear hW3
    simp only [Act.put, List.setIfInBounds_toArray, List.set_cons_zero, List.set_cons_succ]
    repeat (first
      | (refine wpRel_quick ?_ ?_ ?_ ?_
         · rfl
         · rfl
         · first | exact noEnter rfl | (intro f args W W'; go_simp)
         intro K hK
         go_big_quiet_op
         go_big_quiet_on)
      | (refine wpRel_skip ?_ ?_
         · rfl
         simp only [Act.put, List.setIfInBounds_toArray, List.set_cons_zero, List.set_cons_succ]))
    refine wpRel_nil ?_
    intro W3 hW3
    have HE3 := Lib.hid ((Ext.refl x6).drew.trans hW3.1)
    clear hW3
    go_wp2_with fail
    go_ret
    exact ⟨rfl, HX.out.trans HE3.out⟩
  by_cases hk4 : kind = 4
  · subst hk4
    have hn1 := HN1.out
    have n1 : (((ch.length : Nat) : Int) == 1) = true := by rw [beq_iff_eq]; omega
    have n2 : (((ch.length : Nat) : Int) != 1) = false := by rw [bne_eq_false_iff_eq]; omega
    have HXC : Hid (checkQ ⟨c, n, s, 4, t, ch, g, h, 0⟩ = 290) := Lib.hid ((vq3x HH.out HGD.out hn1 HFM.out hne _).trans (if_neg (by omega)))
    clear hn1
    obtain ⟨z0, z1, z2, z3, z4, z5, z6, z7, z8, -⟩ := HD.out
    try dsimp only at z0 z1 z2 z3 z4 z5 z6 z7 z8
    have he := HEQ.out
    have hA : Ext v3 (v3.alloc (.cells #[.int .i64 c, .int .i64 n, .int .i64 s, .int .i64 4, .int .i64 t, .slice ao ch.length cap, .int .i64 g, .int .i64 h, .int .i64 0] 26)) := (Ext.refl _).alloc _
    have hB : BoxQ (v3.alloc (.cells #[.int .i64 c, .int .i64 n, .int .i64 s, .int .i64 4, .int .i64 t, .slice ao ch.length cap, .int .i64 g, .int .i64 h, .int .i64 0] 26)) v3.heap.size ⟨c, n, s, 4, t, ch, g, h, 0⟩ ao cap := BoxQ.new _ ⟨c, n, s, 4, t, ch, g, h, 0⟩ ao cap _ _ rfl
    obtain ⟨a0, a1, a2, a3, a4, a5, a6, a7, a8, -⟩ := HD.out.ext ((Ext.refl v3).alloc (.cells #[.int .i64 c, .int .i64 n, .int .i64 s, .int .i64 3, .int .i64 t, .slice ao ch.length cap, .int .i64 g, .int .i64 h, .int .i64 0] 26))
    try dsimp only at a0 a1 a2 a3 a4 a5 a6 a7 a8
    have ne1 : ¬ w.heap.size = v3.heap.size := by have := HD.out.lt; omega
    have ne2 : ¬ v3.heap.size = w.heap.size := by have := HD.out.lt; omega
    obtain ⟨f0, f1, f2, f3, f4, f5, f6, f7, f8, -⟩ := HD.out.ext hA
    try dsimp only at f0 f1 f2 f3 f4 f5 f6 f7 f8
    go_wp2_with fail
    clear z0 z1 z2 z3 z4 z5 z6 z7 z8 f0 f1 f2 f3 f4 f5 f6 f7 f8 a0 a1 a2 a3 a4 a5 a6 a7 a8 he ne1 ne2
    generalize (v3.alloc (.cells #[.int .i64 c, .int .i64 n, .int .i64 s, .int .i64 4, .int .i64 t, .slice ao ch.length cap, .int .i64 g, .int .i64 h, .int .i64 0] 26)) = x3 at *
    have HD := Lib.hid (HD.out.ext hA)
    have HR := Lib.hid (HR.out.ext hA)
    have HK := Lib.hid (HK.out.ext hA)
    have HX := Lib.hid (HX.out.trans hA)
    have HDX := Lib.hid hB
    clear hA hB
    refine (ck_as (r := ⟨c, n, s, 4, t, ch, g, h, 0⟩) HXC.out HR.out HL.out HK.out).mono ?_
    rintro e v4 ⟨rfl, hE⟩
    have HD := Lib.hid (HD.out.ext hE)
    have HR := Lib.hid (HR.out.ext hE)
    have HK := Lib.hid (HK.out.ext hE)
    have HDX := Lib.hid (HDX.out.ext hE)
    have HX := Lib.hid (HX.out.trans hE)
    clear hE
    obtain ⟨z0, z1, z2, z3, z4, z5, z6, z7, z8, -⟩ := HD.out
    try dsimp only at z0 z1 z2 z3 z4 z5 z6 z7 z8
    have hA : Ext v4 (v4.alloc (.cells #[.int .i64 c, .int .i64 n, .int .i64 s, .int .i64 3, .int .i64 t, .slice ao ch.length cap, .int .i64 0, .int .i64 0, .int .i64 0] 26)) := (Ext.refl _).alloc _
    have hB : BoxQ (v4.alloc (.cells #[.int .i64 c, .int .i64 n, .int .i64 s, .int .i64 3, .int .i64 t, .slice ao ch.length cap, .int .i64 0, .int .i64 0, .int .i64 0] 26)) v4.heap.size ⟨c, n, s, 3, t, ch, 0, 0, 0⟩ ao cap := BoxQ.new _ ⟨c, n, s, 3, t, ch, 0, 0, 0⟩ ao cap _ _ rfl
    go_wp2_with fail
    clear z0 z1 z2 z3 z4 z5 z6 z7 z8
    generalize (v4.alloc (.cells #[.int .i64 c, .int .i64 n, .int .i64 s, .int .i64 3, .int .i64 t, .slice ao ch.length cap, .int .i64 0, .int .i64 0, .int .i64 0] 26)) = x4 at *
    have HD := Lib.hid (HD.out.ext hA)
    have HR := Lib.hid (HR.out.ext hA)
    have HK := Lib.hid (HK.out.ext hA)
    have HDX := Lib.hid (HDX.out.ext hA)
    have HX := Lib.hid (HX.out.trans hA)
    have HDY := Lib.hid hB
    clear hA hB
    refine (ck_as (r := ⟨c, n, s, 3, t, ch, 0, 0, 0⟩) HY.out HR.out HL.out HK.out).mono ?_
    rintro e v5 ⟨rfl, hE⟩
    have HD := Lib.hid (HD.out.ext hE)
    have HR := Lib.hid (HR.out.ext hE)
    have HK := Lib.hid (HK.out.ext hE)
    have HDX := Lib.hid (HDX.out.ext hE)
    have HDY := Lib.hid (HDY.out.ext hE)
    have HX := Lib.hid (HX.out.trans hE)
    clear hE
    obtain ⟨z0, z1, z2, z3, z4, z5, z6, z7, z8, -⟩ := HDY.out
    try dsimp only at z0 z1 z2 z3 z4 z5 z6 z7 z8
    go_wp2_with fail
    clear z0 z1 z2 z3 z4 z5 z6 z7 z8
    refine (ck_as (r := ⟨c, n, s, 3, t, ch, 0, 0, 0⟩) HY.out HR.out HL.out HK.out).mono ?_
    rintro e v6 ⟨rfl, hE⟩
    have HD := Lib.hid (HD.out.ext hE)
    have HR := Lib.hid (HR.out.ext hE)
    have HK := Lib.hid (HK.out.ext hE)
    have HDX := Lib.hid (HDX.out.ext hE)
    have HDY := Lib.hid (HDY.out.ext hE)
    have HX := Lib.hid (HX.out.trans hE)
    clear hE
    obtain ⟨z0, z1, z2, z3, z4, z5, z6, z7, z8, -⟩ := HD.out
    try dsimp only at z0 z1 z2 z3 z4 z5 z6 z7 z8
    have hA : Ext v6 (v6.alloc (.cells #[.int .i64 c, .int .i64 n, .int .i64 s, .int .i64 3, .int .i64 t, .slice none 0 0, .int .i64 g, .int .i64 h, .int .i64 0] 26)) := (Ext.refl _).alloc _
    have hB : BoxQ (v6.alloc (.cells #[.int .i64 c, .int .i64 n, .int .i64 s, .int .i64 3, .int .i64 t, .slice none 0 0, .int .i64 g, .int .i64 h, .int .i64 0] 26)) v6.heap.size ⟨c, n, s, 3, t, [], g, h, 0⟩ none 0 := BoxQ.new _ ⟨c, n, s, 3, t, [], g, h, 0⟩ none 0 _ _ rfl
    go_wp2_with fail
    clear z0 z1 z2 z3 z4 z5 z6 z7 z8
    generalize (v6.alloc (.cells #[.int .i64 c, .int .i64 n, .int .i64 s, .int .i64 3, .int .i64 t, .slice none 0 0, .int .i64 g, .int .i64 h, .int .i64 0] 26)) = x6 at *
    have HD := Lib.hid (HD.out.ext hA)
    have HR := Lib.hid (HR.out.ext hA)
    have HK := Lib.hid (HK.out.ext hA)
    have HDX := Lib.hid (HDX.out.ext hA)
    have HDY := Lib.hid (HDY.out.ext hA)
    have HX := Lib.hid (HX.out.trans hA)
    have HDZ := Lib.hid hB
    clear hA hB
    obtain ⟨z0, z1, z2, z3, z4, z5, z6, z7, z8, -⟩ := HD.out
    try dsimp only at z0 z1 z2 z3 z4 z5 z6 z7 z8
    obtain ⟨f0, f1, f2, f3, f4, f5, f6, f7, f8, -⟩ := HDZ.out
    try dsimp only at f0 f1 f2 f3 f4 f5 f6 f7 f8
    have gz0 := grow_cell z0
    have gz1 := grow_cell z1
    have gz2 := grow_cell z2
    have gz3 := grow_cell z3
    have gz4 := grow_cell z4
    have gz5 := grow_cell z5
    have gz6 := grow_cell z6
    have gz7 := grow_cell z7
    have gz8 := grow_cell z8
    have gf0 := grow_cell f0
    have gf1 := grow_cell f1
    have gf2 := grow_cell f2
    have gf3 := grow_cell f3
    have gf4 := grow_cell f4
    have gf5 := grow_cell f5
    have gf6 := grow_cell f6
    have gf7 := grow_cell f7
    have gf8 := grow_cell f8
    refine wp_region_rel_all (fun i => if i = 1 then some (spV (.int .i64 290)) else none) (by kernel_rfl) (by kernel_rfl) ?_
    repeat (first
      | (refine wpRel_quick ?_ ?_ ?_ ?_
         · rfl
         · rfl
         · first | exact noEnter rfl | (intro f args W W'; go_simp)
         intro K hK
         go_big_quiet_op
         go_big_quiet_on)
      | (refine wpRel_skip ?_ ?_
         · rfl
         simp only [Act.put, List.setIfInBounds_toArray, List.set_cons_zero, List.set_cons_succ]))
    refine wpRel_rich _ rfl rfl (fun W hW => ?_) (fun v W3 hW3 hv => ?_)
    · have hc := ck_as (r := ⟨c, n, s, 3, t, [], g, h, 0⟩) (w := W) HZ.out (SL.empty _ _) (Nat.zero_le _) (HK.out.ext ((Ext.refl x6).drew.trans hW.1))
      go_simp
      refine Calls.mono hc ?_
      rintro e w' ⟨rfl, h⟩
      exact ⟨_, rfl, rfl, by first | exact h | (subst h; exact Ext.refl _)⟩
    obtain rfl := hv
    clear hW3
    simp only [Act.put, List.setIfInBounds_toArray, List.set_cons_zero, List.set_cons_succ]
    repeat (first
      | (refine wpRel_quick ?_ ?_ ?_ ?_
         · rfl
         · rfl
         · first | exact noEnter rfl | (intro f args W W'; go_simp)
         intro K hK
         go_big_quiet_op
         go_big_quiet_on)
      | (refine wpRel_skip ?_ ?_
         · rfl
         simp only [Act.put, List.setIfInBounds_toArray, List.set_cons_zero, List.set_cons_succ]))
    refine wpRel_nil ?_
    intro W3 hW3
    have HE3 := Lib.hid ((Ext.refl x6).drew.trans hW3.1)
    clear hW3
    go_wp2_with fail
    go_ret
    exact ⟨rfl, HX.out.trans HE3.out⟩
  by_cases hk5 : kind = 5
  · subst hk5
    have hn1 := HN1.out
    have n1 : (((ch.length : Nat) : Int) == 1) = true := by rw [beq_iff_eq]; omega
    have n2 : (((ch.length : Nat) : Int) != 1) = false := by rw [bne_eq_false_iff_eq]; omega
    have HXC : Hid (checkQ ⟨c, n, s, 5, t, ch, g, h, 0⟩ = 290) := Lib.hid ((vq3x HH.out HGD.out hn1 HFM.out hne _).trans (if_neg (by omega)))
    clear hn1
    obtain ⟨z0, z1, z2, z3, z4, z5, z6, z7, z8, -⟩ := HD.out
    try dsimp only at z0 z1 z2 z3 z4 z5 z6 z7 z8
    have he := HEQ.out
    have hA : Ext v3 (v3.alloc (.cells #[.int .i64 c, .int .i64 n, .int .i64 s, .int .i64 5, .int .i64 t, .slice ao ch.length cap, .int .i64 g, .int .i64 h, .int .i64 0] 26)) := (Ext.refl _).alloc _
    have hB : BoxQ (v3.alloc (.cells #[.int .i64 c, .int .i64 n, .int .i64 s, .int .i64 5, .int .i64 t, .slice ao ch.length cap, .int .i64 g, .int .i64 h, .int .i64 0] 26)) v3.heap.size ⟨c, n, s, 5, t, ch, g, h, 0⟩ ao cap := BoxQ.new _ ⟨c, n, s, 5, t, ch, g, h, 0⟩ ao cap _ _ rfl
    obtain ⟨a0, a1, a2, a3, a4, a5, a6, a7, a8, -⟩ := HD.out.ext ((Ext.refl v3).alloc (.cells #[.int .i64 c, .int .i64 n, .int .i64 s, .int .i64 3, .int .i64 t, .slice ao ch.length cap, .int .i64 g, .int .i64 h, .int .i64 0] 26))
    try dsimp only at a0 a1 a2 a3 a4 a5 a6 a7 a8
    have ne1 : ¬ w.heap.size = v3.heap.size := by have := HD.out.lt; omega
    have ne2 : ¬ v3.heap.size = w.heap.size := by have := HD.out.lt; omega
    obtain ⟨f0, f1, f2, f3, f4, f5, f6, f7, f8, -⟩ := HD.out.ext hA
    try dsimp only at f0 f1 f2 f3 f4 f5 f6 f7 f8
    go_wp2_with fail
    clear z0 z1 z2 z3 z4 z5 z6 z7 z8 f0 f1 f2 f3 f4 f5 f6 f7 f8 a0 a1 a2 a3 a4 a5 a6 a7 a8 he ne1 ne2
    generalize (v3.alloc (.cells #[.int .i64 c, .int .i64 n, .int .i64 s, .int .i64 5, .int .i64 t, .slice ao ch.length cap, .int .i64 g, .int .i64 h, .int .i64 0] 26)) = x3 at *
    have HD := Lib.hid (HD.out.ext hA)
    have HR := Lib.hid (HR.out.ext hA)
    have HK := Lib.hid (HK.out.ext hA)
    have HX := Lib.hid (HX.out.trans hA)
    have HDX := Lib.hid hB
    clear hA hB
    refine (ck_as (r := ⟨c, n, s, 5, t, ch, g, h, 0⟩) HXC.out HR.out HL.out HK.out).mono ?_
    rintro e v4 ⟨rfl, hE⟩
    have HD := Lib.hid (HD.out.ext hE)
    have HR := Lib.hid (HR.out.ext hE)
    have HK := Lib.hid (HK.out.ext hE)
    have HDX := Lib.hid (HDX.out.ext hE)
    have HX := Lib.hid (HX.out.trans hE)
    clear hE
    obtain ⟨z0, z1, z2, z3, z4, z5, z6, z7, z8, -⟩ := HD.out
    try dsimp only at z0 z1 z2 z3 z4 z5 z6 z7 z8
    have hA : Ext v4 (v4.alloc (.cells #[.int .i64 c, .int .i64 n, .int .i64 s, .int .i64 3, .int .i64 t, .slice ao ch.length cap, .int .i64 0, .int .i64 0, .int .i64 0] 26)) := (Ext.refl _).alloc _
    have hB : BoxQ (v4.alloc (.cells #[.int .i64 c, .int .i64 n, .int .i64 s, .int .i64 3, .int .i64 t, .slice ao ch.length cap, .int .i64 0, .int .i64 0, .int .i64 0] 26)) v4.heap.size ⟨c, n, s, 3, t, ch, 0, 0, 0⟩ ao cap := BoxQ.new _ ⟨c, n, s, 3, t, ch, 0, 0, 0⟩ ao cap _ _ rfl
    go_wp2_with fail
    clear z0 z1 z2 z3 z4 z5 z6 z7 z8
    generalize (v4.alloc (.cells #[.int .i64 c, .int .i64 n, .int .i64 s, .int .i64 3, .int .i64 t, .slice ao ch.length cap, .int .i64 0, .int .i64 0, .int .i64 0] 26)) = x4 at *
    have HD := Lib.hid (HD.out.ext hA)
    have HR := Lib.hid (HR.out.ext hA)
    have HK := Lib.hid (HK.out.ext hA)
    have HDX := Lib.hid (HDX.out.ext hA)
    have HX := Lib.hid (HX.out.trans hA)
    have HDY := Lib.hid hB
    clear hA hB
    refine (ck_as (r := ⟨c, n, s, 3, t, ch, 0, 0, 0⟩) HY.out HR.out HL.out HK.out).mono ?_
    rintro e v5 ⟨rfl, hE⟩
    have HD := Lib.hid (HD.out.ext hE)
    have HR := Lib.hid (HR.out.ext hE)
    have HK := Lib.hid (HK.out.ext hE)
    have HDX := Lib.hid (HDX.out.ext hE)
    have HDY := Lib.hid (HDY.out.ext hE)
    have HX := Lib.hid (HX.out.trans hE)
    clear hE
    obtain ⟨z0, z1, z2, z3, z4, z5, z6, z7, z8, -⟩ := HDY.out
    try dsimp only at z0 z1 z2 z3 z4 z5 z6 z7 z8
    go_wp2_with fail
    clear z0 z1 z2 z3 z4 z5 z6 z7 z8
    refine (ck_as (r := ⟨c, n, s, 3, t, ch, 0, 0, 0⟩) HY.out HR.out HL.out HK.out).mono ?_
    rintro e v6 ⟨rfl, hE⟩
    have HD := Lib.hid (HD.out.ext hE)
    have HR := Lib.hid (HR.out.ext hE)
    have HK := Lib.hid (HK.out.ext hE)
    have HDX := Lib.hid (HDX.out.ext hE)
    have HDY := Lib.hid (HDY.out.ext hE)
    have HX := Lib.hid (HX.out.trans hE)
    clear hE
    obtain ⟨z0, z1, z2, z3, z4, z5, z6, z7, z8, -⟩ := HD.out
    try dsimp only at z0 z1 z2 z3 z4 z5 z6 z7 z8
    have hA : Ext v6 (v6.alloc (.cells #[.int .i64 c, .int .i64 n, .int .i64 s, .int .i64 3, .int .i64 t, .slice none 0 0, .int .i64 g, .int .i64 h, .int .i64 0] 26)) := (Ext.refl _).alloc _
    have hB : BoxQ (v6.alloc (.cells #[.int .i64 c, .int .i64 n, .int .i64 s, .int .i64 3, .int .i64 t, .slice none 0 0, .int .i64 g, .int .i64 h, .int .i64 0] 26)) v6.heap.size ⟨c, n, s, 3, t, [], g, h, 0⟩ none 0 := BoxQ.new _ ⟨c, n, s, 3, t, [], g, h, 0⟩ none 0 _ _ rfl
    go_wp2_with fail
    clear z0 z1 z2 z3 z4 z5 z6 z7 z8
    generalize (v6.alloc (.cells #[.int .i64 c, .int .i64 n, .int .i64 s, .int .i64 3, .int .i64 t, .slice none 0 0, .int .i64 g, .int .i64 h, .int .i64 0] 26)) = x6 at *
    have HD := Lib.hid (HD.out.ext hA)
    have HR := Lib.hid (HR.out.ext hA)
    have HK := Lib.hid (HK.out.ext hA)
    have HDX := Lib.hid (HDX.out.ext hA)
    have HDY := Lib.hid (HDY.out.ext hA)
    have HX := Lib.hid (HX.out.trans hA)
    have HDZ := Lib.hid hB
    clear hA hB
    obtain ⟨z0, z1, z2, z3, z4, z5, z6, z7, z8, -⟩ := HD.out
    try dsimp only at z0 z1 z2 z3 z4 z5 z6 z7 z8
    obtain ⟨f0, f1, f2, f3, f4, f5, f6, f7, f8, -⟩ := HDZ.out
    try dsimp only at f0 f1 f2 f3 f4 f5 f6 f7 f8
    have gz0 := grow_cell z0
    have gz1 := grow_cell z1
    have gz2 := grow_cell z2
    have gz3 := grow_cell z3
    have gz4 := grow_cell z4
    have gz5 := grow_cell z5
    have gz6 := grow_cell z6
    have gz7 := grow_cell z7
    have gz8 := grow_cell z8
    have gf0 := grow_cell f0
    have gf1 := grow_cell f1
    have gf2 := grow_cell f2
    have gf3 := grow_cell f3
    have gf4 := grow_cell f4
    have gf5 := grow_cell f5
    have gf6 := grow_cell f6
    have gf7 := grow_cell f7
    have gf8 := grow_cell f8
    refine wp_region_rel_all (fun i => if i = 1 then some (spV (.int .i64 290)) else none) (by kernel_rfl) (by kernel_rfl) ?_
    repeat (first
      | (refine wpRel_quick ?_ ?_ ?_ ?_
         · rfl
         · rfl
         · first | exact noEnter rfl | (intro f args W W'; go_simp)
         intro K hK
         go_big_quiet_op
         go_big_quiet_on)
      | (refine wpRel_skip ?_ ?_
         · rfl
         simp only [Act.put, List.setIfInBounds_toArray, List.set_cons_zero, List.set_cons_succ]))
    refine wpRel_rich _ rfl rfl (fun W hW => ?_) (fun v W3 hW3 hv => ?_)
    · have hc := ck_as (r := ⟨c, n, s, 3, t, [], g, h, 0⟩) (w := W) HZ.out (SL.empty _ _) (Nat.zero_le _) (HK.out.ext ((Ext.refl x6).drew.trans hW.1))
      go_simp
      refine Calls.mono hc ?_
      rintro e w' ⟨rfl, h⟩
      exact ⟨_, rfl, rfl, by first | exact h | (subst h; exact Ext.refl _)⟩
    obtain rfl := hv
    clear hW3
    simp only [Act.put, List.setIfInBounds_toArray, List.set_cons_zero, List.set_cons_succ]
    repeat (first
      | (refine wpRel_quick ?_ ?_ ?_ ?_
         · rfl
         · rfl
         · first | exact noEnter rfl | (intro f args W W'; go_simp)
         intro K hK
         go_big_quiet_op
         go_big_quiet_on)
      | (refine wpRel_skip ?_ ?_
         · rfl
         simp only [Act.put, List.setIfInBounds_toArray, List.set_cons_zero, List.set_cons_succ]))
    refine wpRel_nil ?_
    intro W3 hW3
    have HE3 := Lib.hid ((Ext.refl x6).drew.trans hW3.1)
    clear hW3
    go_wp2_with fail
    go_ret
    exact ⟨rfl, HX.out.trans HE3.out⟩
  have hn1 := HN1.out
  have e3 : (kind == 3) = false := by simpa using hk3
  have e4 : (kind == 4) = false := by simpa using hk4
  have e5 : (kind == 5) = false := by simpa using hk5
  have n1 : (((ch.length : Nat) : Int) == 1) = true := by rw [beq_iff_eq]; omega
  have n2 : (((ch.length : Nat) : Int) != 1) = false := by rw [bne_eq_false_iff_eq]; omega
  have HXC : Hid (checkQ ⟨c, n, s, kind, t, ch, g, h, 0⟩ = 290) := Lib.hid ((vq3x HH.out HGD.out hn1 HFM.out hne _).trans (if_neg (by omega)))
  clear hn1
  obtain ⟨z0, z1, z2, z3, z4, z5, z6, z7, z8, -⟩ := HD.out
  try dsimp only at z0 z1 z2 z3 z4 z5 z6 z7 z8
  have he := HEQ.out
  have hA : Ext v3 (v3.alloc (.cells #[.int .i64 c, .int .i64 n, .int .i64 s, .int .i64 kind, .int .i64 t, .slice ao ch.length cap, .int .i64 g, .int .i64 h, .int .i64 0] 26)) := (Ext.refl _).alloc _
  have hB : BoxQ (v3.alloc (.cells #[.int .i64 c, .int .i64 n, .int .i64 s, .int .i64 kind, .int .i64 t, .slice ao ch.length cap, .int .i64 g, .int .i64 h, .int .i64 0] 26)) v3.heap.size ⟨c, n, s, kind, t, ch, g, h, 0⟩ ao cap := BoxQ.new _ ⟨c, n, s, kind, t, ch, g, h, 0⟩ ao cap _ _ rfl
  obtain ⟨a0, a1, a2, a3, a4, a5, a6, a7, a8, -⟩ := HD.out.ext ((Ext.refl v3).alloc (.cells #[.int .i64 c, .int .i64 n, .int .i64 s, .int .i64 3, .int .i64 t, .slice ao ch.length cap, .int .i64 g, .int .i64 h, .int .i64 0] 26))
  try dsimp only at a0 a1 a2 a3 a4 a5 a6 a7 a8
  have ne1 : ¬ w.heap.size = v3.heap.size := by have := HD.out.lt; omega
  have ne2 : ¬ v3.heap.size = w.heap.size := by have := HD.out.lt; omega
  obtain ⟨f0, f1, f2, f3, f4, f5, f6, f7, f8, -⟩ := HD.out.ext hA
  try dsimp only at f0 f1 f2 f3 f4 f5 f6 f7 f8
  go_wp2_with fail
  clear z0 z1 z2 z3 z4 z5 z6 z7 z8 f0 f1 f2 f3 f4 f5 f6 f7 f8 a0 a1 a2 a3 a4 a5 a6 a7 a8 he ne1 ne2
  generalize (v3.alloc (.cells #[.int .i64 c, .int .i64 n, .int .i64 s, .int .i64 kind, .int .i64 t, .slice ao ch.length cap, .int .i64 g, .int .i64 h, .int .i64 0] 26)) = x3 at *
  have HD := Lib.hid (HD.out.ext hA)
  have HR := Lib.hid (HR.out.ext hA)
  have HK := Lib.hid (HK.out.ext hA)
  have HX := Lib.hid (HX.out.trans hA)
  have HDX := Lib.hid hB
  clear hA hB
  refine (ck_as (r := ⟨c, n, s, kind, t, ch, g, h, 0⟩) HXC.out HR.out HL.out HK.out).mono ?_
  rintro e v4 ⟨rfl, hE⟩
  have HD := Lib.hid (HD.out.ext hE)
  have HR := Lib.hid (HR.out.ext hE)
  have HK := Lib.hid (HK.out.ext hE)
  have HDX := Lib.hid (HDX.out.ext hE)
  have HX := Lib.hid (HX.out.trans hE)
  clear hE
  obtain ⟨z0, z1, z2, z3, z4, z5, z6, z7, z8, -⟩ := HD.out
  try dsimp only at z0 z1 z2 z3 z4 z5 z6 z7 z8
  have hA : Ext v4 (v4.alloc (.cells #[.int .i64 c, .int .i64 n, .int .i64 s, .int .i64 3, .int .i64 t, .slice ao ch.length cap, .int .i64 0, .int .i64 0, .int .i64 0] 26)) := (Ext.refl _).alloc _
  have hB : BoxQ (v4.alloc (.cells #[.int .i64 c, .int .i64 n, .int .i64 s, .int .i64 3, .int .i64 t, .slice ao ch.length cap, .int .i64 0, .int .i64 0, .int .i64 0] 26)) v4.heap.size ⟨c, n, s, 3, t, ch, 0, 0, 0⟩ ao cap := BoxQ.new _ ⟨c, n, s, 3, t, ch, 0, 0, 0⟩ ao cap _ _ rfl
  go_wp2_with fail
  clear z0 z1 z2 z3 z4 z5 z6 z7 z8
  generalize (v4.alloc (.cells #[.int .i64 c, .int .i64 n, .int .i64 s, .int .i64 3, .int .i64 t, .slice ao ch.length cap, .int .i64 0, .int .i64 0, .int .i64 0] 26)) = x4 at *
  have HD := Lib.hid (HD.out.ext hA)
  have HR := Lib.hid (HR.out.ext hA)
  have HK := Lib.hid (HK.out.ext hA)
  have HDX := Lib.hid (HDX.out.ext hA)
  have HX := Lib.hid (HX.out.trans hA)
  have HDY := Lib.hid hB
  clear hA hB
  refine (ck_as (r := ⟨c, n, s, 3, t, ch, 0, 0, 0⟩) HY.out HR.out HL.out HK.out).mono ?_
  rintro e v5 ⟨rfl, hE⟩
  have HD := Lib.hid (HD.out.ext hE)
  have HR := Lib.hid (HR.out.ext hE)
  have HK := Lib.hid (HK.out.ext hE)
  have HDX := Lib.hid (HDX.out.ext hE)
  have HDY := Lib.hid (HDY.out.ext hE)
  have HX := Lib.hid (HX.out.trans hE)
  clear hE
  obtain ⟨z0, z1, z2, z3, z4, z5, z6, z7, z8, -⟩ := HDY.out
  try dsimp only at z0 z1 z2 z3 z4 z5 z6 z7 z8
  go_wp2_with fail
  clear z0 z1 z2 z3 z4 z5 z6 z7 z8
  refine (ck_as (r := ⟨c, n, s, 3, t, ch, 0, 0, 0⟩) HY.out HR.out HL.out HK.out).mono ?_
  rintro e v6 ⟨rfl, hE⟩
  have HD := Lib.hid (HD.out.ext hE)
  have HR := Lib.hid (HR.out.ext hE)
  have HK := Lib.hid (HK.out.ext hE)
  have HDX := Lib.hid (HDX.out.ext hE)
  have HDY := Lib.hid (HDY.out.ext hE)
  have HX := Lib.hid (HX.out.trans hE)
  clear hE
  obtain ⟨z0, z1, z2, z3, z4, z5, z6, z7, z8, -⟩ := HD.out
  try dsimp only at z0 z1 z2 z3 z4 z5 z6 z7 z8
  have hA : Ext v6 (v6.alloc (.cells #[.int .i64 c, .int .i64 n, .int .i64 s, .int .i64 3, .int .i64 t, .slice none 0 0, .int .i64 g, .int .i64 h, .int .i64 0] 26)) := (Ext.refl _).alloc _
  have hB : BoxQ (v6.alloc (.cells #[.int .i64 c, .int .i64 n, .int .i64 s, .int .i64 3, .int .i64 t, .slice none 0 0, .int .i64 g, .int .i64 h, .int .i64 0] 26)) v6.heap.size ⟨c, n, s, 3, t, [], g, h, 0⟩ none 0 := BoxQ.new _ ⟨c, n, s, 3, t, [], g, h, 0⟩ none 0 _ _ rfl
  go_wp2_with fail
  clear z0 z1 z2 z3 z4 z5 z6 z7 z8
  generalize (v6.alloc (.cells #[.int .i64 c, .int .i64 n, .int .i64 s, .int .i64 3, .int .i64 t, .slice none 0 0, .int .i64 g, .int .i64 h, .int .i64 0] 26)) = x6 at *
  have HD := Lib.hid (HD.out.ext hA)
  have HR := Lib.hid (HR.out.ext hA)
  have HK := Lib.hid (HK.out.ext hA)
  have HDX := Lib.hid (HDX.out.ext hA)
  have HDY := Lib.hid (HDY.out.ext hA)
  have HX := Lib.hid (HX.out.trans hA)
  have HDZ := Lib.hid hB
  clear hA hB
  obtain ⟨z0, z1, z2, z3, z4, z5, z6, z7, z8, -⟩ := HD.out
  try dsimp only at z0 z1 z2 z3 z4 z5 z6 z7 z8
  obtain ⟨f0, f1, f2, f3, f4, f5, f6, f7, f8, -⟩ := HDZ.out
  try dsimp only at f0 f1 f2 f3 f4 f5 f6 f7 f8
  have gz0 := grow_cell z0
  have gz1 := grow_cell z1
  have gz2 := grow_cell z2
  have gz3 := grow_cell z3
  have gz4 := grow_cell z4
  have gz5 := grow_cell z5
  have gz6 := grow_cell z6
  have gz7 := grow_cell z7
  have gz8 := grow_cell z8
  have gf0 := grow_cell f0
  have gf1 := grow_cell f1
  have gf2 := grow_cell f2
  have gf3 := grow_cell f3
  have gf4 := grow_cell f4
  have gf5 := grow_cell f5
  have gf6 := grow_cell f6
  have gf7 := grow_cell f7
  have gf8 := grow_cell f8
  refine wp_region_rel_all (fun i => if i = 1 then some (spV (.int .i64 290)) else none) (by kernel_rfl) (by kernel_rfl) ?_
  repeat (first
    | (refine wpRel_quick ?_ ?_ ?_ ?_
       · rfl
       · rfl
       · first | exact noEnter rfl | (intro f args W W'; go_simp)
       intro K hK
       go_big_quiet_op
       go_big_quiet_on)
    | (refine wpRel_skip ?_ ?_
       · rfl
       simp only [Act.put, List.setIfInBounds_toArray, List.set_cons_zero, List.set_cons_succ]))
  refine wpRel_rich _ rfl rfl (fun W hW => ?_) (fun v W3 hW3 hv => ?_)
  · have hc := ck_as (r := ⟨c, n, s, 3, t, [], g, h, 0⟩) (w := W) HZ.out (SL.empty _ _) (Nat.zero_le _) (HK.out.ext ((Ext.refl x6).drew.trans hW.1))
    go_simp
    refine Calls.mono hc ?_
    rintro e w' ⟨rfl, h⟩
    exact ⟨_, rfl, rfl, by first | exact h | (subst h; exact Ext.refl _)⟩
  obtain rfl := hv
  clear hW3
  simp only [Act.put, List.setIfInBounds_toArray, List.set_cons_zero, List.set_cons_succ]
  repeat (first
    | (refine wpRel_quick ?_ ?_ ?_ ?_
       · rfl
       · rfl
       · first | exact noEnter rfl | (intro f args W W'; go_simp)
       intro K hK
       go_big_quiet_op
       go_big_quiet_on)
    | (refine wpRel_skip ?_ ?_
       · rfl
       simp only [Act.put, List.setIfInBounds_toArray, List.set_cons_zero, List.set_cons_succ]))
  refine wpRel_nil ?_
  intro W3 hW3
  have HE3 := Lib.hid ((Ext.refl x6).drew.trans hW3.1)
  clear hW3
  go_wp2_with fail
  go_ret
  exact ⟨rfl, HX.out.trans HE3.out⟩
end Go.Proofs.YtahaplioegeloaaDoor
namespace Go.Proofs.YtahaplioegeloaaDoor
open Go.RowKit Go.Sz
set_option maxRecDepth 100000 in
set_option maxHeartbeats 12800000 in
theorem lawq_kinds4 (r : Rq) (ao : Option Addr) (cap : Nat) (kind : Int) (w : World) (hr : RepB w ao cap r.ch) (ht : r.ok) (hl : r.ch.length ≤ 20) (hv : validQ r = true) (hK : r.k = 4) (hk : Kinds w) : Calls Tryd.prog 8 #[.agg (r.cells ao cap).toArray, .int .i64 kind] w fun e w' => e = .returned (.bool true) ∧ Ext w w' := by
  obtain ⟨c, n, s, k, t, ch, g, h, y⟩ := r
  change k = 4 at hK
  subst hK
  dsimp only at hl
  obtain ⟨hh, hgd, -, -⟩ := headQ_any hv
  have hv0 := (vq hh hgd _ _ _ _).1 hv
  unfold needB at hv0
  rcases hv0 with ⟨h0, -⟩ | ⟨h0, -⟩ | ⟨h0, -⟩ | ⟨-, hn1, rfl, rfl, rfl⟩
  · exact absurd h0 (by decide)
  · exact absurd h0 (by decide)
  · exact absurd h0 (by decide)
  have HN1 := Lib.hid hn1
  clear hn1
  show Calls Tryd.prog 8 #[.agg #[.int .i64 c, .int .i64 n, .int .i64 s, .int .i64 4, .int .i64 t, .slice ao ch.length cap, .int .i64 0, .int .i64 0, .int .i64 0], .int .i64 kind] w _
  have hX : Ext w (w.alloc (.cells #[.int .i64 c, .int .i64 n, .int .i64 s, .int .i64 4, .int .i64 t, .slice ao ch.length cap, .int .i64 0, .int .i64 0, .int .i64 0] 26)) := (Ext.refl w).alloc _
  have HD : Hid (BoxQ (w.alloc (.cells #[.int .i64 c, .int .i64 n, .int .i64 s, .int .i64 4, .int .i64 t, .slice ao ch.length cap, .int .i64 0, .int .i64 0, .int .i64 0] 26)) (w.heap.size) ⟨c, n, s, 4, t, ch, 0, 0, 0⟩ ao cap) := Lib.hid (BoxQ.new w ⟨c, n, s, 4, t, ch, 0, 0, 0⟩ ao cap 26 (w.heap.size) (by simp))
  have HR : Hid (RepB (w.alloc (.cells #[.int .i64 c, .int .i64 n, .int .i64 s, .int .i64 4, .int .i64 t, .slice ao ch.length cap, .int .i64 0, .int .i64 0, .int .i64 0] 26)) ao cap ch) := Lib.hid (RepB.ext hr hX)
  have HT := Lib.hid ht
  clear hr ht
  have HK := Lib.hid (hk.ext hX)
  have HX := Lib.hid hX
  clear hk hX
  go_enter Tryd.func8, Tryd.ntmps8
  go_wp2_with fail
  generalize (w.alloc (.cells #[.int .i64 c, .int .i64 n, .int .i64 s, .int .i64 4, .int .i64 t, .slice ao ch.length cap, .int .i64 0, .int .i64 0, .int .i64 0] 26)) = w0 at *
  have he := eqB 0 0 0 0
  have HEQ := Lib.hid he
  clear he
  have HH := Lib.hid hh
  have HGD := Lib.hid hgd
  have HC : Hid (checkQ ⟨c, n, s, 4, t, ch, 0, 0, 0⟩ = 0) := Lib.hid (by unfold checkQ; rw [hv]; rfl)
  have hf := decide_eq_true hl
  have HL : Hid ((ch).length ≤ 1000000) := Lib.hid (by omega)
  have HY : Hid (checkQ ⟨c, n, s, 4, t, ch, 0, 0, 0⟩ = 0) := HC
  have HZ : Hid (checkQ ⟨c, n, s, 4, t, [], 0, 0, 0⟩ = 290) := Lib.hid (vqzx hh (by decide))
  clear hv hl hh hgd
  refine (saneQ_any _ HK.out).mono ?_
  rintro e v1 ⟨rfl, hE⟩
  have HD := Lib.hid (HD.out.ext hE)
  have HR := Lib.hid (HR.out.ext hE)
  have HK := Lib.hid (HK.out.ext hE)
  have HX := Lib.hid (HX.out.trans hE)
  clear hE
  obtain ⟨z0, z1, z2, z3, z4, z5, z6, z7, z8, -⟩ := HD.out
  try dsimp only at z0 z1 z2 z3 z4 z5 z6 z7 z8
  go_wp2_with fail
  clear z0 z1 z2 z3 z4 z5 z6 z7 z8
  refine (fw_as (r := ⟨c, n, s, 4, t, ch, 0, 0, 0⟩) hf HR.out).mono ?_
  rintro e v2 ⟨rfl, hE⟩
  have HD := Lib.hid (HD.out.ext hE)
  have HR := Lib.hid (HR.out.ext hE)
  have HK := Lib.hid (HK.out.ext hE)
  have HX := Lib.hid (HX.out.trans hE)
  clear hE
  obtain ⟨z0, z1, z2, z3, z4, z5, z6, z7, z8, -⟩ := HD.out
  try dsimp only at z0 z1 z2 z3 z4 z5 z6 z7 z8
  go_wp2_with fail
  clear z0 z1 z2 z3 z4 z5 z6 z7 z8
  refine (ck_as (r := ⟨c, n, s, 4, t, ch, 0, 0, 0⟩) HC.out HR.out HL.out HK.out).mono ?_
  rintro e v3 ⟨rfl, hE⟩
  have HD := Lib.hid (HD.out.ext hE)
  have HR := Lib.hid (HR.out.ext hE)
  have HK := Lib.hid (HK.out.ext hE)
  have HX := Lib.hid (HX.out.trans hE)
  clear hE
  by_cases hk1 : kind = 1
  · subst hk1
    have hn1 := HN1.out
    have n1 : (((ch.length : Nat) : Int) == 1) = true := by rw [beq_iff_eq]; omega
    have n2 : (((ch.length : Nat) : Int) != 1) = false := by rw [bne_eq_false_iff_eq]; omega
    have HXC : Hid (checkQ ⟨c, n, s, 1, t, ch, 0, 0, 0⟩ = 0) := Lib.hid ((vq4x HH.out HGD.out hn1 _).trans (if_pos (by omega)))
    clear hn1
    obtain ⟨z0, z1, z2, z3, z4, z5, z6, z7, z8, -⟩ := HD.out
    try dsimp only at z0 z1 z2 z3 z4 z5 z6 z7 z8
    have he := HEQ.out
    have hA : Ext v3 (v3.alloc (.cells #[.int .i64 c, .int .i64 n, .int .i64 s, .int .i64 1, .int .i64 t, .slice ao ch.length cap, .int .i64 0, .int .i64 0, .int .i64 0] 26)) := (Ext.refl _).alloc _
    have hB : BoxQ (v3.alloc (.cells #[.int .i64 c, .int .i64 n, .int .i64 s, .int .i64 1, .int .i64 t, .slice ao ch.length cap, .int .i64 0, .int .i64 0, .int .i64 0] 26)) v3.heap.size ⟨c, n, s, 1, t, ch, 0, 0, 0⟩ ao cap := BoxQ.new _ ⟨c, n, s, 1, t, ch, 0, 0, 0⟩ ao cap _ _ rfl
    obtain ⟨a0, a1, a2, a3, a4, a5, a6, a7, a8, -⟩ := HD.out.ext ((Ext.refl v3).alloc (.cells #[.int .i64 c, .int .i64 n, .int .i64 s, .int .i64 4, .int .i64 t, .slice ao ch.length cap, .int .i64 0, .int .i64 0, .int .i64 0] 26))
    try dsimp only at a0 a1 a2 a3 a4 a5 a6 a7 a8
    have ne1 : ¬ w.heap.size = v3.heap.size := by have := HD.out.lt; omega
    have ne2 : ¬ v3.heap.size = w.heap.size := by have := HD.out.lt; omega
    obtain ⟨f0, f1, f2, f3, f4, f5, f6, f7, f8, -⟩ := HD.out.ext hA
    try dsimp only at f0 f1 f2 f3 f4 f5 f6 f7 f8
    go_wp2_with fail
    clear z0 z1 z2 z3 z4 z5 z6 z7 z8 f0 f1 f2 f3 f4 f5 f6 f7 f8 a0 a1 a2 a3 a4 a5 a6 a7 a8 he ne1 ne2
    generalize (v3.alloc (.cells #[.int .i64 c, .int .i64 n, .int .i64 s, .int .i64 1, .int .i64 t, .slice ao ch.length cap, .int .i64 0, .int .i64 0, .int .i64 0] 26)) = x3 at *
    have HD := Lib.hid (HD.out.ext hA)
    have HR := Lib.hid (HR.out.ext hA)
    have HK := Lib.hid (HK.out.ext hA)
    have HX := Lib.hid (HX.out.trans hA)
    have HDX := Lib.hid hB
    clear hA hB
    refine (ck_as (r := ⟨c, n, s, 1, t, ch, 0, 0, 0⟩) HXC.out HR.out HL.out HK.out).mono ?_
    rintro e v4 ⟨rfl, hE⟩
    have HD := Lib.hid (HD.out.ext hE)
    have HR := Lib.hid (HR.out.ext hE)
    have HK := Lib.hid (HK.out.ext hE)
    have HDX := Lib.hid (HDX.out.ext hE)
    have HX := Lib.hid (HX.out.trans hE)
    clear hE
    obtain ⟨z0, z1, z2, z3, z4, z5, z6, z7, z8, -⟩ := HD.out
    try dsimp only at z0 z1 z2 z3 z4 z5 z6 z7 z8
    have hA : Ext v4 (v4.alloc (.cells #[.int .i64 c, .int .i64 n, .int .i64 s, .int .i64 4, .int .i64 t, .slice ao ch.length cap, .int .i64 0, .int .i64 0, .int .i64 0] 26)) := (Ext.refl _).alloc _
    have hB : BoxQ (v4.alloc (.cells #[.int .i64 c, .int .i64 n, .int .i64 s, .int .i64 4, .int .i64 t, .slice ao ch.length cap, .int .i64 0, .int .i64 0, .int .i64 0] 26)) v4.heap.size ⟨c, n, s, 4, t, ch, 0, 0, 0⟩ ao cap := BoxQ.new _ ⟨c, n, s, 4, t, ch, 0, 0, 0⟩ ao cap _ _ rfl
    go_wp2_with fail
    clear z0 z1 z2 z3 z4 z5 z6 z7 z8
    generalize (v4.alloc (.cells #[.int .i64 c, .int .i64 n, .int .i64 s, .int .i64 4, .int .i64 t, .slice ao ch.length cap, .int .i64 0, .int .i64 0, .int .i64 0] 26)) = x4 at *
    have HD := Lib.hid (HD.out.ext hA)
    have HR := Lib.hid (HR.out.ext hA)
    have HK := Lib.hid (HK.out.ext hA)
    have HDX := Lib.hid (HDX.out.ext hA)
    have HX := Lib.hid (HX.out.trans hA)
    have HDY := Lib.hid hB
    clear hA hB
    refine (ck_as (r := ⟨c, n, s, 4, t, ch, 0, 0, 0⟩) HY.out HR.out HL.out HK.out).mono ?_
    rintro e v5 ⟨rfl, hE⟩
    have HD := Lib.hid (HD.out.ext hE)
    have HR := Lib.hid (HR.out.ext hE)
    have HK := Lib.hid (HK.out.ext hE)
    have HDX := Lib.hid (HDX.out.ext hE)
    have HDY := Lib.hid (HDY.out.ext hE)
    have HX := Lib.hid (HX.out.trans hE)
    clear hE
    obtain ⟨z0, z1, z2, z3, z4, z5, z6, z7, z8, -⟩ := HDY.out
    try dsimp only at z0 z1 z2 z3 z4 z5 z6 z7 z8
    go_wp2_with fail
    clear z0 z1 z2 z3 z4 z5 z6 z7 z8
    refine (ck_as (r := ⟨c, n, s, 4, t, ch, 0, 0, 0⟩) HY.out HR.out HL.out HK.out).mono ?_
    rintro e v6 ⟨rfl, hE⟩
    have HD := Lib.hid (HD.out.ext hE)
    have HR := Lib.hid (HR.out.ext hE)
    have HK := Lib.hid (HK.out.ext hE)
    have HDX := Lib.hid (HDX.out.ext hE)
    have HDY := Lib.hid (HDY.out.ext hE)
    have HX := Lib.hid (HX.out.trans hE)
    clear hE
    obtain ⟨z0, z1, z2, z3, z4, z5, z6, z7, z8, -⟩ := HD.out
    try dsimp only at z0 z1 z2 z3 z4 z5 z6 z7 z8
    have hA : Ext v6 (v6.alloc (.cells #[.int .i64 c, .int .i64 n, .int .i64 s, .int .i64 4, .int .i64 t, .slice none 0 0, .int .i64 0, .int .i64 0, .int .i64 0] 26)) := (Ext.refl _).alloc _
    have hB : BoxQ (v6.alloc (.cells #[.int .i64 c, .int .i64 n, .int .i64 s, .int .i64 4, .int .i64 t, .slice none 0 0, .int .i64 0, .int .i64 0, .int .i64 0] 26)) v6.heap.size ⟨c, n, s, 4, t, [], 0, 0, 0⟩ none 0 := BoxQ.new _ ⟨c, n, s, 4, t, [], 0, 0, 0⟩ none 0 _ _ rfl
    go_wp2_with fail
    clear z0 z1 z2 z3 z4 z5 z6 z7 z8
    generalize (v6.alloc (.cells #[.int .i64 c, .int .i64 n, .int .i64 s, .int .i64 4, .int .i64 t, .slice none 0 0, .int .i64 0, .int .i64 0, .int .i64 0] 26)) = x6 at *
    have HD := Lib.hid (HD.out.ext hA)
    have HR := Lib.hid (HR.out.ext hA)
    have HK := Lib.hid (HK.out.ext hA)
    have HDX := Lib.hid (HDX.out.ext hA)
    have HDY := Lib.hid (HDY.out.ext hA)
    have HX := Lib.hid (HX.out.trans hA)
    have HDZ := Lib.hid hB
    clear hA hB
    obtain ⟨z0, z1, z2, z3, z4, z5, z6, z7, z8, -⟩ := HD.out
    try dsimp only at z0 z1 z2 z3 z4 z5 z6 z7 z8
    obtain ⟨f0, f1, f2, f3, f4, f5, f6, f7, f8, -⟩ := HDZ.out
    try dsimp only at f0 f1 f2 f3 f4 f5 f6 f7 f8
    have gz0 := grow_cell z0
    have gz1 := grow_cell z1
    have gz2 := grow_cell z2
    have gz3 := grow_cell z3
    have gz4 := grow_cell z4
    have gz5 := grow_cell z5
    have gz6 := grow_cell z6
    have gz7 := grow_cell z7
    have gz8 := grow_cell z8
    have gf0 := grow_cell f0
    have gf1 := grow_cell f1
    have gf2 := grow_cell f2
    have gf3 := grow_cell f3
    have gf4 := grow_cell f4
    have gf5 := grow_cell f5
    have gf6 := grow_cell f6
    have gf7 := grow_cell f7
    have gf8 := grow_cell f8
    refine wp_region_rel_all (fun i => if i = 1 then some (spV (.int .i64 290)) else none) (by kernel_rfl) (by kernel_rfl) ?_
    repeat (first
      | (refine wpRel_quick ?_ ?_ ?_ ?_
         · rfl
         · rfl
         · first | exact noEnter rfl | (intro f args W W'; go_simp)
         intro K hK
         go_big_quiet_op
         go_big_quiet_on)
      | (refine wpRel_skip ?_ ?_
         · rfl
         simp only [Act.put, List.setIfInBounds_toArray, List.set_cons_zero, List.set_cons_succ]))
    refine wpRel_rich _ rfl rfl (fun W hW => ?_) (fun v W3 hW3 hv => ?_)
    · have hc := ck_as (r := ⟨c, n, s, 4, t, [], 0, 0, 0⟩) (w := W) HZ.out (SL.empty _ _) (Nat.zero_le _) (HK.out.ext ((Ext.refl x6).drew.trans hW.1))
      go_simp
      refine Calls.mono hc ?_
      rintro e w' ⟨rfl, h⟩
      exact ⟨_, rfl, rfl, by first | exact h | (subst h; exact Ext.refl _)⟩
    obtain rfl := hv
    clear hW3
    simp only [Act.put, List.setIfInBounds_toArray, List.set_cons_zero, List.set_cons_succ]
    repeat (first
      | (refine wpRel_quick ?_ ?_ ?_ ?_
         · rfl
         · rfl
         · first | exact noEnter rfl | (intro f args W W'; go_simp)
         intro K hK
         go_big_quiet_op
         go_big_quiet_on)
      | (refine wpRel_skip ?_ ?_
         · rfl
         simp only [Act.put, List.setIfInBounds_toArray, List.set_cons_zero, List.set_cons_succ]))
    refine wpRel_nil ?_
    intro W3 hW3
    have HE3 := Lib.hid ((Ext.refl x6).drew.trans hW3.1)
    clear hW3
    go_wp2_with fail
    go_ret
    exact ⟨rfl, HX.out.trans HE3.out⟩
  by_cases hk4 : kind = 4
  · subst hk4
    have hn1 := HN1.out
    have n1 : (((ch.length : Nat) : Int) == 1) = true := by rw [beq_iff_eq]; omega
    have n2 : (((ch.length : Nat) : Int) != 1) = false := by rw [bne_eq_false_iff_eq]; omega
    have HXC : Hid (checkQ ⟨c, n, s, 4, t, ch, 0, 0, 0⟩ = 0) := Lib.hid ((vq4x HH.out HGD.out hn1 _).trans (if_pos (by omega)))
    clear hn1
    obtain ⟨z0, z1, z2, z3, z4, z5, z6, z7, z8, -⟩ := HD.out
    try dsimp only at z0 z1 z2 z3 z4 z5 z6 z7 z8
    have he := HEQ.out
    have hA : Ext v3 (v3.alloc (.cells #[.int .i64 c, .int .i64 n, .int .i64 s, .int .i64 4, .int .i64 t, .slice ao ch.length cap, .int .i64 0, .int .i64 0, .int .i64 0] 26)) := (Ext.refl _).alloc _
    have hB : BoxQ (v3.alloc (.cells #[.int .i64 c, .int .i64 n, .int .i64 s, .int .i64 4, .int .i64 t, .slice ao ch.length cap, .int .i64 0, .int .i64 0, .int .i64 0] 26)) v3.heap.size ⟨c, n, s, 4, t, ch, 0, 0, 0⟩ ao cap := BoxQ.new _ ⟨c, n, s, 4, t, ch, 0, 0, 0⟩ ao cap _ _ rfl
    obtain ⟨a0, a1, a2, a3, a4, a5, a6, a7, a8, -⟩ := HD.out.ext ((Ext.refl v3).alloc (.cells #[.int .i64 c, .int .i64 n, .int .i64 s, .int .i64 4, .int .i64 t, .slice ao ch.length cap, .int .i64 0, .int .i64 0, .int .i64 0] 26))
    try dsimp only at a0 a1 a2 a3 a4 a5 a6 a7 a8
    have ne1 : ¬ w.heap.size = v3.heap.size := by have := HD.out.lt; omega
    have ne2 : ¬ v3.heap.size = w.heap.size := by have := HD.out.lt; omega
    obtain ⟨f0, f1, f2, f3, f4, f5, f6, f7, f8, -⟩ := HD.out.ext hA
    try dsimp only at f0 f1 f2 f3 f4 f5 f6 f7 f8
    go_wp2_with fail
    clear z0 z1 z2 z3 z4 z5 z6 z7 z8 f0 f1 f2 f3 f4 f5 f6 f7 f8 a0 a1 a2 a3 a4 a5 a6 a7 a8 he ne1 ne2
    generalize (v3.alloc (.cells #[.int .i64 c, .int .i64 n, .int .i64 s, .int .i64 4, .int .i64 t, .slice ao ch.length cap, .int .i64 0, .int .i64 0, .int .i64 0] 26)) = x3 at *
    have HD := Lib.hid (HD.out.ext hA)
    have HR := Lib.hid (HR.out.ext hA)
    have HK := Lib.hid (HK.out.ext hA)
    have HX := Lib.hid (HX.out.trans hA)
    have HDX := Lib.hid hB
    clear hA hB
    refine (ck_as (r := ⟨c, n, s, 4, t, ch, 0, 0, 0⟩) HXC.out HR.out HL.out HK.out).mono ?_
    rintro e v4 ⟨rfl, hE⟩
    have HD := Lib.hid (HD.out.ext hE)
    have HR := Lib.hid (HR.out.ext hE)
    have HK := Lib.hid (HK.out.ext hE)
    have HDX := Lib.hid (HDX.out.ext hE)
    have HX := Lib.hid (HX.out.trans hE)
    clear hE
    obtain ⟨z0, z1, z2, z3, z4, z5, z6, z7, z8, -⟩ := HD.out
    try dsimp only at z0 z1 z2 z3 z4 z5 z6 z7 z8
    have hA : Ext v4 (v4.alloc (.cells #[.int .i64 c, .int .i64 n, .int .i64 s, .int .i64 4, .int .i64 t, .slice ao ch.length cap, .int .i64 0, .int .i64 0, .int .i64 0] 26)) := (Ext.refl _).alloc _
    have hB : BoxQ (v4.alloc (.cells #[.int .i64 c, .int .i64 n, .int .i64 s, .int .i64 4, .int .i64 t, .slice ao ch.length cap, .int .i64 0, .int .i64 0, .int .i64 0] 26)) v4.heap.size ⟨c, n, s, 4, t, ch, 0, 0, 0⟩ ao cap := BoxQ.new _ ⟨c, n, s, 4, t, ch, 0, 0, 0⟩ ao cap _ _ rfl
    go_wp2_with fail
    clear z0 z1 z2 z3 z4 z5 z6 z7 z8
    generalize (v4.alloc (.cells #[.int .i64 c, .int .i64 n, .int .i64 s, .int .i64 4, .int .i64 t, .slice ao ch.length cap, .int .i64 0, .int .i64 0, .int .i64 0] 26)) = x4 at *
    have HD := Lib.hid (HD.out.ext hA)
    have HR := Lib.hid (HR.out.ext hA)
    have HK := Lib.hid (HK.out.ext hA)
    have HDX := Lib.hid (HDX.out.ext hA)
    have HX := Lib.hid (HX.out.trans hA)
    have HDY := Lib.hid hB
    clear hA hB
    refine (ck_as (r := ⟨c, n, s, 4, t, ch, 0, 0, 0⟩) HY.out HR.out HL.out HK.out).mono ?_
    rintro e v5 ⟨rfl, hE⟩
    have HD := Lib.hid (HD.out.ext hE)
    have HR := Lib.hid (HR.out.ext hE)
    have HK := Lib.hid (HK.out.ext hE)
    have HDX := Lib.hid (HDX.out.ext hE)
    have HDY := Lib.hid (HDY.out.ext hE)
    have HX := Lib.hid (HX.out.trans hE)
    clear hE
    obtain ⟨z0, z1, z2, z3, z4, z5, z6, z7, z8, -⟩ := HDY.out
    try dsimp only at z0 z1 z2 z3 z4 z5 z6 z7 z8
    go_wp2_with fail
    clear z0 z1 z2 z3 z4 z5 z6 z7 z8
    refine (ck_as (r := ⟨c, n, s, 4, t, ch, 0, 0, 0⟩) HY.out HR.out HL.out HK.out).mono ?_
    rintro e v6 ⟨rfl, hE⟩
    have HD := Lib.hid (HD.out.ext hE)
    have HR := Lib.hid (HR.out.ext hE)
    have HK := Lib.hid (HK.out.ext hE)
    have HDX := Lib.hid (HDX.out.ext hE)
    have HDY := Lib.hid (HDY.out.ext hE)
    have HX := Lib.hid (HX.out.trans hE)
    clear hE
    obtain ⟨z0, z1, z2, z3, z4, z5, z6, z7, z8, -⟩ := HD.out
    try dsimp only at z0 z1 z2 z3 z4 z5 z6 z7 z8
    have hA : Ext v6 (v6.alloc (.cells #[.int .i64 c, .int .i64 n, .int .i64 s, .int .i64 4, .int .i64 t, .slice none 0 0, .int .i64 0, .int .i64 0, .int .i64 0] 26)) := (Ext.refl _).alloc _
    have hB : BoxQ (v6.alloc (.cells #[.int .i64 c, .int .i64 n, .int .i64 s, .int .i64 4, .int .i64 t, .slice none 0 0, .int .i64 0, .int .i64 0, .int .i64 0] 26)) v6.heap.size ⟨c, n, s, 4, t, [], 0, 0, 0⟩ none 0 := BoxQ.new _ ⟨c, n, s, 4, t, [], 0, 0, 0⟩ none 0 _ _ rfl
    go_wp2_with fail
    clear z0 z1 z2 z3 z4 z5 z6 z7 z8
    generalize (v6.alloc (.cells #[.int .i64 c, .int .i64 n, .int .i64 s, .int .i64 4, .int .i64 t, .slice none 0 0, .int .i64 0, .int .i64 0, .int .i64 0] 26)) = x6 at *
    have HD := Lib.hid (HD.out.ext hA)
    have HR := Lib.hid (HR.out.ext hA)
    have HK := Lib.hid (HK.out.ext hA)
    have HDX := Lib.hid (HDX.out.ext hA)
    have HDY := Lib.hid (HDY.out.ext hA)
    have HX := Lib.hid (HX.out.trans hA)
    have HDZ := Lib.hid hB
    clear hA hB
    obtain ⟨z0, z1, z2, z3, z4, z5, z6, z7, z8, -⟩ := HD.out
    try dsimp only at z0 z1 z2 z3 z4 z5 z6 z7 z8
    obtain ⟨f0, f1, f2, f3, f4, f5, f6, f7, f8, -⟩ := HDZ.out
    try dsimp only at f0 f1 f2 f3 f4 f5 f6 f7 f8
    have gz0 := grow_cell z0
    have gz1 := grow_cell z1
    have gz2 := grow_cell z2
    have gz3 := grow_cell z3
    have gz4 := grow_cell z4
    have gz5 := grow_cell z5
    have gz6 := grow_cell z6
    have gz7 := grow_cell z7
    have gz8 := grow_cell z8
    have gf0 := grow_cell f0
    have gf1 := grow_cell f1
    have gf2 := grow_cell f2
    have gf3 := grow_cell f3
    have gf4 := grow_cell f4
    have gf5 := grow_cell f5
    have gf6 := grow_cell f6
    have gf7 := grow_cell f7
    have gf8 := grow_cell f8
    refine wp_region_rel_all (fun i => if i = 1 then some (spV (.int .i64 290)) else none) (by kernel_rfl) (by kernel_rfl) ?_
    repeat (first
      | (refine wpRel_quick ?_ ?_ ?_ ?_
         · rfl
         · rfl
         · first | exact noEnter rfl | (intro f args W W'; go_simp)
         intro K hK
         go_big_quiet_op
         go_big_quiet_on)
      | (refine wpRel_skip ?_ ?_
         · rfl
         simp only [Act.put, List.setIfInBounds_toArray, List.set_cons_zero, List.set_cons_succ]))
    refine wpRel_rich _ rfl rfl (fun W hW => ?_) (fun v W3 hW3 hv => ?_)
    · have hc := ck_as (r := ⟨c, n, s, 4, t, [], 0, 0, 0⟩) (w := W) HZ.out (SL.empty _ _) (Nat.zero_le _) (HK.out.ext ((Ext.refl x6).drew.trans hW.1))
      go_simp
      refine Calls.mono hc ?_
      rintro e w' ⟨rfl, h⟩
      exact ⟨_, rfl, rfl, by first | exact h | (subst h; exact Ext.refl _)⟩
    obtain rfl := hv
    clear hW3
    simp only [Act.put, List.setIfInBounds_toArray, List.set_cons_zero, List.set_cons_succ]
    repeat (first
      | (refine wpRel_quick ?_ ?_ ?_ ?_
         · rfl
         · rfl
         · first | exact noEnter rfl | (intro f args W W'; go_simp)
         intro K hK
         go_big_quiet_op
         go_big_quiet_on)
      | (refine wpRel_skip ?_ ?_
         · rfl
         simp only [Act.put, List.setIfInBounds_toArray, List.set_cons_zero, List.set_cons_succ]))
    refine wpRel_nil ?_
    intro W3 hW3
    have HE3 := Lib.hid ((Ext.refl x6).drew.trans hW3.1)
    clear hW3
    go_wp2_with fail
    go_ret
    exact ⟨rfl, HX.out.trans HE3.out⟩
  by_cases hk5 : kind = 5
  · subst hk5
    have hn1 := HN1.out
    have n1 : (((ch.length : Nat) : Int) == 1) = true := by rw [beq_iff_eq]; omega
    have n2 : (((ch.length : Nat) : Int) != 1) = false := by rw [bne_eq_false_iff_eq]; omega
    have HXC : Hid (checkQ ⟨c, n, s, 5, t, ch, 0, 0, 0⟩ = 0) := Lib.hid ((vq4x HH.out HGD.out hn1 _).trans (if_pos (by omega)))
    clear hn1
    obtain ⟨z0, z1, z2, z3, z4, z5, z6, z7, z8, -⟩ := HD.out
    try dsimp only at z0 z1 z2 z3 z4 z5 z6 z7 z8
    have he := HEQ.out
    have hA : Ext v3 (v3.alloc (.cells #[.int .i64 c, .int .i64 n, .int .i64 s, .int .i64 5, .int .i64 t, .slice ao ch.length cap, .int .i64 0, .int .i64 0, .int .i64 0] 26)) := (Ext.refl _).alloc _
    have hB : BoxQ (v3.alloc (.cells #[.int .i64 c, .int .i64 n, .int .i64 s, .int .i64 5, .int .i64 t, .slice ao ch.length cap, .int .i64 0, .int .i64 0, .int .i64 0] 26)) v3.heap.size ⟨c, n, s, 5, t, ch, 0, 0, 0⟩ ao cap := BoxQ.new _ ⟨c, n, s, 5, t, ch, 0, 0, 0⟩ ao cap _ _ rfl
    obtain ⟨a0, a1, a2, a3, a4, a5, a6, a7, a8, -⟩ := HD.out.ext ((Ext.refl v3).alloc (.cells #[.int .i64 c, .int .i64 n, .int .i64 s, .int .i64 4, .int .i64 t, .slice ao ch.length cap, .int .i64 0, .int .i64 0, .int .i64 0] 26))
    try dsimp only at a0 a1 a2 a3 a4 a5 a6 a7 a8
    have ne1 : ¬ w.heap.size = v3.heap.size := by have := HD.out.lt; omega
    have ne2 : ¬ v3.heap.size = w.heap.size := by have := HD.out.lt; omega
    obtain ⟨f0, f1, f2, f3, f4, f5, f6, f7, f8, -⟩ := HD.out.ext hA
    try dsimp only at f0 f1 f2 f3 f4 f5 f6 f7 f8
    go_wp2_with fail
    clear z0 z1 z2 z3 z4 z5 z6 z7 z8 f0 f1 f2 f3 f4 f5 f6 f7 f8 a0 a1 a2 a3 a4 a5 a6 a7 a8 he ne1 ne2
    generalize (v3.alloc (.cells #[.int .i64 c, .int .i64 n, .int .i64 s, .int .i64 5, .int .i64 t, .slice ao ch.length cap, .int .i64 0, .int .i64 0, .int .i64 0] 26)) = x3 at *
    have HD := Lib.hid (HD.out.ext hA)
    have HR := Lib.hid (HR.out.ext hA)
    have HK := Lib.hid (HK.out.ext hA)
    have HX := Lib.hid (HX.out.trans hA)
    have HDX := Lib.hid hB
    clear hA hB
    refine (ck_as (r := ⟨c, n, s, 5, t, ch, 0, 0, 0⟩) HXC.out HR.out HL.out HK.out).mono ?_
    rintro e v4 ⟨rfl, hE⟩
    have HD := Lib.hid (HD.out.ext hE)
    have HR := Lib.hid (HR.out.ext hE)
    have HK := Lib.hid (HK.out.ext hE)
    have HDX := Lib.hid (HDX.out.ext hE)
    have HX := Lib.hid (HX.out.trans hE)
    clear hE
    obtain ⟨z0, z1, z2, z3, z4, z5, z6, z7, z8, -⟩ := HD.out
    try dsimp only at z0 z1 z2 z3 z4 z5 z6 z7 z8
    have hA : Ext v4 (v4.alloc (.cells #[.int .i64 c, .int .i64 n, .int .i64 s, .int .i64 4, .int .i64 t, .slice ao ch.length cap, .int .i64 0, .int .i64 0, .int .i64 0] 26)) := (Ext.refl _).alloc _
    have hB : BoxQ (v4.alloc (.cells #[.int .i64 c, .int .i64 n, .int .i64 s, .int .i64 4, .int .i64 t, .slice ao ch.length cap, .int .i64 0, .int .i64 0, .int .i64 0] 26)) v4.heap.size ⟨c, n, s, 4, t, ch, 0, 0, 0⟩ ao cap := BoxQ.new _ ⟨c, n, s, 4, t, ch, 0, 0, 0⟩ ao cap _ _ rfl
    go_wp2_with fail
    clear z0 z1 z2 z3 z4 z5 z6 z7 z8
    generalize (v4.alloc (.cells #[.int .i64 c, .int .i64 n, .int .i64 s, .int .i64 4, .int .i64 t, .slice ao ch.length cap, .int .i64 0, .int .i64 0, .int .i64 0] 26)) = x4 at *
    have HD := Lib.hid (HD.out.ext hA)
    have HR := Lib.hid (HR.out.ext hA)
    have HK := Lib.hid (HK.out.ext hA)
    have HDX := Lib.hid (HDX.out.ext hA)
    have HX := Lib.hid (HX.out.trans hA)
    have HDY := Lib.hid hB
    clear hA hB
    refine (ck_as (r := ⟨c, n, s, 4, t, ch, 0, 0, 0⟩) HY.out HR.out HL.out HK.out).mono ?_
    rintro e v5 ⟨rfl, hE⟩
    have HD := Lib.hid (HD.out.ext hE)
    have HR := Lib.hid (HR.out.ext hE)
    have HK := Lib.hid (HK.out.ext hE)
    have HDX := Lib.hid (HDX.out.ext hE)
    have HDY := Lib.hid (HDY.out.ext hE)
    have HX := Lib.hid (HX.out.trans hE)
    clear hE
    obtain ⟨z0, z1, z2, z3, z4, z5, z6, z7, z8, -⟩ := HDY.out
    try dsimp only at z0 z1 z2 z3 z4 z5 z6 z7 z8
    go_wp2_with fail
    clear z0 z1 z2 z3 z4 z5 z6 z7 z8
    refine (ck_as (r := ⟨c, n, s, 4, t, ch, 0, 0, 0⟩) HY.out HR.out HL.out HK.out).mono ?_
    rintro e v6 ⟨rfl, hE⟩
    have HD := Lib.hid (HD.out.ext hE)
    have HR := Lib.hid (HR.out.ext hE)
    have HK := Lib.hid (HK.out.ext hE)
    have HDX := Lib.hid (HDX.out.ext hE)
    have HDY := Lib.hid (HDY.out.ext hE)
    have HX := Lib.hid (HX.out.trans hE)
    clear hE
    obtain ⟨z0, z1, z2, z3, z4, z5, z6, z7, z8, -⟩ := HD.out
    try dsimp only at z0 z1 z2 z3 z4 z5 z6 z7 z8
    have hA : Ext v6 (v6.alloc (.cells #[.int .i64 c, .int .i64 n, .int .i64 s, .int .i64 4, .int .i64 t, .slice none 0 0, .int .i64 0, .int .i64 0, .int .i64 0] 26)) := (Ext.refl _).alloc _
    have hB : BoxQ (v6.alloc (.cells #[.int .i64 c, .int .i64 n, .int .i64 s, .int .i64 4, .int .i64 t, .slice none 0 0, .int .i64 0, .int .i64 0, .int .i64 0] 26)) v6.heap.size ⟨c, n, s, 4, t, [], 0, 0, 0⟩ none 0 := BoxQ.new _ ⟨c, n, s, 4, t, [], 0, 0, 0⟩ none 0 _ _ rfl
    go_wp2_with fail
    clear z0 z1 z2 z3 z4 z5 z6 z7 z8
    generalize (v6.alloc (.cells #[.int .i64 c, .int .i64 n, .int .i64 s, .int .i64 4, .int .i64 t, .slice none 0 0, .int .i64 0, .int .i64 0, .int .i64 0] 26)) = x6 at *
    have HD := Lib.hid (HD.out.ext hA)
    have HR := Lib.hid (HR.out.ext hA)
    have HK := Lib.hid (HK.out.ext hA)
    have HDX := Lib.hid (HDX.out.ext hA)
    have HDY := Lib.hid (HDY.out.ext hA)
    have HX := Lib.hid (HX.out.trans hA)
    have HDZ := Lib.hid hB
    clear hA hB
    obtain ⟨z0, z1, z2, z3, z4, z5, z6, z7, z8, -⟩ := HD.out
    try dsimp only at z0 z1 z2 z3 z4 z5 z6 z7 z8
    obtain ⟨f0, f1, f2, f3, f4, f5, f6, f7, f8, -⟩ := HDZ.out
    try dsimp only at f0 f1 f2 f3 f4 f5 f6 f7 f8
    have gz0 := grow_cell z0
    have gz1 := grow_cell z1
    have gz2 := grow_cell z2
    have gz3 := grow_cell z3
    have gz4 := grow_cell z4
    have gz5 := grow_cell z5
    have gz6 := grow_cell z6
    have gz7 := grow_cell z7
    have gz8 := grow_cell z8
    have gf0 := grow_cell f0
    have gf1 := grow_cell f1
    have gf2 := grow_cell f2
    have gf3 := grow_cell f3
    have gf4 := grow_cell f4
    have gf5 := grow_cell f5
    have gf6 := grow_cell f6
    have gf7 := grow_cell f7
    have gf8 := grow_cell f8
    refine wp_region_rel_all (fun i => if i = 1 then some (spV (.int .i64 290)) else none) (by kernel_rfl) (by kernel_rfl) ?_
    repeat (first
      | (refine wpRel_quick ?_ ?_ ?_ ?_
         · rfl
         · rfl
         · first | exact noEnter rfl | (intro f args W W'; go_simp)
         intro K hK
         go_big_quiet_op
         go_big_quiet_on)
      | (refine wpRel_skip ?_ ?_
         · rfl
         simp only [Act.put, List.setIfInBounds_toArray, List.set_cons_zero, List.set_cons_succ]))
    refine wpRel_rich _ rfl rfl (fun W hW => ?_) (fun v W3 hW3 hv => ?_)
    · have hc := ck_as (r := ⟨c, n, s, 4, t, [], 0, 0, 0⟩) (w := W) HZ.out (SL.empty _ _) (Nat.zero_le _) (HK.out.ext ((Ext.refl x6).drew.trans hW.1))
      go_simp
      refine Calls.mono hc ?_
      rintro e w' ⟨rfl, h⟩
      exact ⟨_, rfl, rfl, by first | exact h | (subst h; exact Ext.refl _)⟩
    obtain rfl := hv
    clear hW3
    simp only [Act.put, List.setIfInBounds_toArray, List.set_cons_zero, List.set_cons_succ]
    repeat (first
      | (refine wpRel_quick ?_ ?_ ?_ ?_
         · rfl
         · rfl
         · first | exact noEnter rfl | (intro f args W W'; go_simp)
         intro K hK
         go_big_quiet_op
         go_big_quiet_on)
      | (refine wpRel_skip ?_ ?_
         · rfl
         simp only [Act.put, List.setIfInBounds_toArray, List.set_cons_zero, List.set_cons_succ]))
    refine wpRel_nil ?_
    intro W3 hW3
    have HE3 := Lib.hid ((Ext.refl x6).drew.trans hW3.1)
    clear hW3
    go_wp2_with fail
    go_ret
    exact ⟨rfl, HX.out.trans HE3.out⟩
  have hn1 := HN1.out
  have e1 : (kind == 1) = false := by simpa using hk1
  have e4 : (kind == 4) = false := by simpa using hk4
  have e5 : (kind == 5) = false := by simpa using hk5
  have n1 : (((ch.length : Nat) : Int) == 1) = true := by rw [beq_iff_eq]; omega
  have n2 : (((ch.length : Nat) : Int) != 1) = false := by rw [bne_eq_false_iff_eq]; omega
  have HXC : Hid (checkQ ⟨c, n, s, kind, t, ch, 0, 0, 0⟩ = 290) := Lib.hid ((vq4x HH.out HGD.out hn1 _).trans (if_neg (by omega)))
  clear hn1
  obtain ⟨z0, z1, z2, z3, z4, z5, z6, z7, z8, -⟩ := HD.out
  try dsimp only at z0 z1 z2 z3 z4 z5 z6 z7 z8
  have he := HEQ.out
  have hA : Ext v3 (v3.alloc (.cells #[.int .i64 c, .int .i64 n, .int .i64 s, .int .i64 kind, .int .i64 t, .slice ao ch.length cap, .int .i64 0, .int .i64 0, .int .i64 0] 26)) := (Ext.refl _).alloc _
  have hB : BoxQ (v3.alloc (.cells #[.int .i64 c, .int .i64 n, .int .i64 s, .int .i64 kind, .int .i64 t, .slice ao ch.length cap, .int .i64 0, .int .i64 0, .int .i64 0] 26)) v3.heap.size ⟨c, n, s, kind, t, ch, 0, 0, 0⟩ ao cap := BoxQ.new _ ⟨c, n, s, kind, t, ch, 0, 0, 0⟩ ao cap _ _ rfl
  obtain ⟨a0, a1, a2, a3, a4, a5, a6, a7, a8, -⟩ := HD.out.ext ((Ext.refl v3).alloc (.cells #[.int .i64 c, .int .i64 n, .int .i64 s, .int .i64 4, .int .i64 t, .slice ao ch.length cap, .int .i64 0, .int .i64 0, .int .i64 0] 26))
  try dsimp only at a0 a1 a2 a3 a4 a5 a6 a7 a8
  have ne1 : ¬ w.heap.size = v3.heap.size := by have := HD.out.lt; omega
  have ne2 : ¬ v3.heap.size = w.heap.size := by have := HD.out.lt; omega
  obtain ⟨f0, f1, f2, f3, f4, f5, f6, f7, f8, -⟩ := HD.out.ext hA
  try dsimp only at f0 f1 f2 f3 f4 f5 f6 f7 f8
  go_wp2_with fail
  clear z0 z1 z2 z3 z4 z5 z6 z7 z8 f0 f1 f2 f3 f4 f5 f6 f7 f8 a0 a1 a2 a3 a4 a5 a6 a7 a8 he ne1 ne2
  generalize (v3.alloc (.cells #[.int .i64 c, .int .i64 n, .int .i64 s, .int .i64 kind, .int .i64 t, .slice ao ch.length cap, .int .i64 0, .int .i64 0, .int .i64 0] 26)) = x3 at *
  have HD := Lib.hid (HD.out.ext hA)
  have HR := Lib.hid (HR.out.ext hA)
  have HK := Lib.hid (HK.out.ext hA)
  have HX := Lib.hid (HX.out.trans hA)
  have HDX := Lib.hid hB
  clear hA hB
  refine (ck_as (r := ⟨c, n, s, kind, t, ch, 0, 0, 0⟩) HXC.out HR.out HL.out HK.out).mono ?_
  rintro e v4 ⟨rfl, hE⟩
  have HD := Lib.hid (HD.out.ext hE)
  have HR := Lib.hid (HR.out.ext hE)
  have HK := Lib.hid (HK.out.ext hE)
  have HDX := Lib.hid (HDX.out.ext hE)
  have HX := Lib.hid (HX.out.trans hE)
  clear hE
  obtain ⟨z0, z1, z2, z3, z4, z5, z6, z7, z8, -⟩ := HD.out
  try dsimp only at z0 z1 z2 z3 z4 z5 z6 z7 z8
  have hA : Ext v4 (v4.alloc (.cells #[.int .i64 c, .int .i64 n, .int .i64 s, .int .i64 4, .int .i64 t, .slice ao ch.length cap, .int .i64 0, .int .i64 0, .int .i64 0] 26)) := (Ext.refl _).alloc _
  have hB : BoxQ (v4.alloc (.cells #[.int .i64 c, .int .i64 n, .int .i64 s, .int .i64 4, .int .i64 t, .slice ao ch.length cap, .int .i64 0, .int .i64 0, .int .i64 0] 26)) v4.heap.size ⟨c, n, s, 4, t, ch, 0, 0, 0⟩ ao cap := BoxQ.new _ ⟨c, n, s, 4, t, ch, 0, 0, 0⟩ ao cap _ _ rfl
  go_wp2_with fail
  clear z0 z1 z2 z3 z4 z5 z6 z7 z8
  generalize (v4.alloc (.cells #[.int .i64 c, .int .i64 n, .int .i64 s, .int .i64 4, .int .i64 t, .slice ao ch.length cap, .int .i64 0, .int .i64 0, .int .i64 0] 26)) = x4 at *
  have HD := Lib.hid (HD.out.ext hA)
  have HR := Lib.hid (HR.out.ext hA)
  have HK := Lib.hid (HK.out.ext hA)
  have HDX := Lib.hid (HDX.out.ext hA)
  have HX := Lib.hid (HX.out.trans hA)
  have HDY := Lib.hid hB
  clear hA hB
  refine (ck_as (r := ⟨c, n, s, 4, t, ch, 0, 0, 0⟩) HY.out HR.out HL.out HK.out).mono ?_
  rintro e v5 ⟨rfl, hE⟩
  have HD := Lib.hid (HD.out.ext hE)
  have HR := Lib.hid (HR.out.ext hE)
  have HK := Lib.hid (HK.out.ext hE)
  have HDX := Lib.hid (HDX.out.ext hE)
  have HDY := Lib.hid (HDY.out.ext hE)
  have HX := Lib.hid (HX.out.trans hE)
  clear hE
  obtain ⟨z0, z1, z2, z3, z4, z5, z6, z7, z8, -⟩ := HDY.out
  try dsimp only at z0 z1 z2 z3 z4 z5 z6 z7 z8
  go_wp2_with fail
  clear z0 z1 z2 z3 z4 z5 z6 z7 z8
  refine (ck_as (r := ⟨c, n, s, 4, t, ch, 0, 0, 0⟩) HY.out HR.out HL.out HK.out).mono ?_
  rintro e v6 ⟨rfl, hE⟩
  have HD := Lib.hid (HD.out.ext hE)
  have HR := Lib.hid (HR.out.ext hE)
  have HK := Lib.hid (HK.out.ext hE)
  have HDX := Lib.hid (HDX.out.ext hE)
  have HDY := Lib.hid (HDY.out.ext hE)
  have HX := Lib.hid (HX.out.trans hE)
  clear hE
  obtain ⟨z0, z1, z2, z3, z4, z5, z6, z7, z8, -⟩ := HD.out
  try dsimp only at z0 z1 z2 z3 z4 z5 z6 z7 z8
  have hA : Ext v6 (v6.alloc (.cells #[.int .i64 c, .int .i64 n, .int .i64 s, .int .i64 4, .int .i64 t, .slice none 0 0, .int .i64 0, .int .i64 0, .int .i64 0] 26)) := (Ext.refl _).alloc _
  have hB : BoxQ (v6.alloc (.cells #[.int .i64 c, .int .i64 n, .int .i64 s, .int .i64 4, .int .i64 t, .slice none 0 0, .int .i64 0, .int .i64 0, .int .i64 0] 26)) v6.heap.size ⟨c, n, s, 4, t, [], 0, 0, 0⟩ none 0 := BoxQ.new _ ⟨c, n, s, 4, t, [], 0, 0, 0⟩ none 0 _ _ rfl
  go_wp2_with fail
  clear z0 z1 z2 z3 z4 z5 z6 z7 z8
  generalize (v6.alloc (.cells #[.int .i64 c, .int .i64 n, .int .i64 s, .int .i64 4, .int .i64 t, .slice none 0 0, .int .i64 0, .int .i64 0, .int .i64 0] 26)) = x6 at *
  have HD := Lib.hid (HD.out.ext hA)
  have HR := Lib.hid (HR.out.ext hA)
  have HK := Lib.hid (HK.out.ext hA)
  have HDX := Lib.hid (HDX.out.ext hA)
  have HDY := Lib.hid (HDY.out.ext hA)
  have HX := Lib.hid (HX.out.trans hA)
  have HDZ := Lib.hid hB
  clear hA hB
  obtain ⟨z0, z1, z2, z3, z4, z5, z6, z7, z8, -⟩ := HD.out
  try dsimp only at z0 z1 z2 z3 z4 z5 z6 z7 z8
  obtain ⟨f0, f1, f2, f3, f4, f5, f6, f7, f8, -⟩ := HDZ.out
  try dsimp only at f0 f1 f2 f3 f4 f5 f6 f7 f8
  have gz0 := grow_cell z0
  have gz1 := grow_cell z1
  have gz2 := grow_cell z2
  have gz3 := grow_cell z3
  have gz4 := grow_cell z4
  have gz5 := grow_cell z5
  have gz6 := grow_cell z6
  have gz7 := grow_cell z7
  have gz8 := grow_cell z8
  have gf0 := grow_cell f0
  have gf1 := grow_cell f1
  have gf2 := grow_cell f2
  have gf3 := grow_cell f3
  have gf4 := grow_cell f4
  have gf5 := grow_cell f5
  have gf6 := grow_cell f6
  have gf7 := grow_cell f7
  have gf8 := grow_cell f8
  refine wp_region_rel_all (fun i => if i = 1 then some (spV (.int .i64 290)) else none) (by kernel_rfl) (by kernel_rfl) ?_
  repeat (first
    | (refine wpRel_quick ?_ ?_ ?_ ?_
       · rfl
       · rfl
       · first | exact noEnter rfl | (intro f args W W'; go_simp)
       intro K hK
       go_big_quiet_op
       go_big_quiet_on)
    | (refine wpRel_skip ?_ ?_
       · rfl
       simp only [Act.put, List.setIfInBounds_toArray, List.set_cons_zero, List.set_cons_succ]))
  refine wpRel_rich _ rfl rfl (fun W hW => ?_) (fun v W3 hW3 hv => ?_)
  · have hc := ck_as (r := ⟨c, n, s, 4, t, [], 0, 0, 0⟩) (w := W) HZ.out (SL.empty _ _) (Nat.zero_le _) (HK.out.ext ((Ext.refl x6).drew.trans hW.1))
    go_simp
    refine Calls.mono hc ?_
    rintro e w' ⟨rfl, h⟩
    exact ⟨_, rfl, rfl, by first | exact h | (subst h; exact Ext.refl _)⟩
  obtain rfl := hv
  clear hW3
  simp only [Act.put, List.setIfInBounds_toArray, List.set_cons_zero, List.set_cons_succ]
  repeat (first
    | (refine wpRel_quick ?_ ?_ ?_ ?_
       · rfl
       · rfl
       · first | exact noEnter rfl | (intro f args W W'; go_simp)
       intro K hK
       go_big_quiet_op
       go_big_quiet_on)
    | (refine wpRel_skip ?_ ?_
       · rfl
       simp only [Act.put, List.setIfInBounds_toArray, List.set_cons_zero, List.set_cons_succ]))
  refine wpRel_nil ?_
  intro W3 hW3
  have HE3 := Lib.hid ((Ext.refl x6).drew.trans hW3.1)
  clear hW3
  go_wp2_with fail
  go_ret
  exact ⟨rfl, HX.out.trans HE3.out⟩
end Go.Proofs.YtahaplioegeloaaDoor
namespace Go.Proofs.YtahaplioegeloaaDoor
open Go.RowKit Go.Sz
set_option maxRecDepth 100000 in
set_option maxHeartbeats 12800000 in
theorem lawq_kinds5 (r : Rq) (ao : Option Addr) (cap : Nat) (kind : Int) (w : World) (hr : RepB w ao cap r.ch) (ht : r.ok) (hl : r.ch.length ≤ 20) (hv : validQ r = true) (hK : r.k = 5) (hk : Kinds w) : Calls Tryd.prog 8 #[.agg (r.cells ao cap).toArray, .int .i64 kind] w fun e w' => e = .returned (.bool true) ∧ Ext w w' := by
  obtain ⟨c, n, s, k, t, ch, g, h, y⟩ := r
  change k = 5 at hK
  subst hK
  dsimp only at hl
  obtain ⟨hh, hgd, -, -⟩ := headQ_any hv
  have hv0 := (vq hh hgd _ _ _ _).1 hv
  unfold needB at hv0
  rcases hv0 with ⟨h0, -⟩ | ⟨h0, -⟩ | ⟨h0, -⟩ | ⟨-, hn1, rfl, rfl, rfl⟩
  · exact absurd h0 (by decide)
  · exact absurd h0 (by decide)
  · exact absurd h0 (by decide)
  have HN1 := Lib.hid hn1
  clear hn1
  show Calls Tryd.prog 8 #[.agg #[.int .i64 c, .int .i64 n, .int .i64 s, .int .i64 5, .int .i64 t, .slice ao ch.length cap, .int .i64 0, .int .i64 0, .int .i64 0], .int .i64 kind] w _
  have hX : Ext w (w.alloc (.cells #[.int .i64 c, .int .i64 n, .int .i64 s, .int .i64 5, .int .i64 t, .slice ao ch.length cap, .int .i64 0, .int .i64 0, .int .i64 0] 26)) := (Ext.refl w).alloc _
  have HD : Hid (BoxQ (w.alloc (.cells #[.int .i64 c, .int .i64 n, .int .i64 s, .int .i64 5, .int .i64 t, .slice ao ch.length cap, .int .i64 0, .int .i64 0, .int .i64 0] 26)) (w.heap.size) ⟨c, n, s, 5, t, ch, 0, 0, 0⟩ ao cap) := Lib.hid (BoxQ.new w ⟨c, n, s, 5, t, ch, 0, 0, 0⟩ ao cap 26 (w.heap.size) (by simp))
  have HR : Hid (RepB (w.alloc (.cells #[.int .i64 c, .int .i64 n, .int .i64 s, .int .i64 5, .int .i64 t, .slice ao ch.length cap, .int .i64 0, .int .i64 0, .int .i64 0] 26)) ao cap ch) := Lib.hid (RepB.ext hr hX)
  have HT := Lib.hid ht
  clear hr ht
  have HK := Lib.hid (hk.ext hX)
  have HX := Lib.hid hX
  clear hk hX
  go_enter Tryd.func8, Tryd.ntmps8
  go_wp2_with fail
  generalize (w.alloc (.cells #[.int .i64 c, .int .i64 n, .int .i64 s, .int .i64 5, .int .i64 t, .slice ao ch.length cap, .int .i64 0, .int .i64 0, .int .i64 0] 26)) = w0 at *
  have he := eqB 0 0 0 0
  have HEQ := Lib.hid he
  clear he
  have HH := Lib.hid hh
  have HGD := Lib.hid hgd
  have HC : Hid (checkQ ⟨c, n, s, 5, t, ch, 0, 0, 0⟩ = 0) := Lib.hid (by unfold checkQ; rw [hv]; rfl)
  have hf := decide_eq_true hl
  have HL : Hid ((ch).length ≤ 1000000) := Lib.hid (by omega)
  have HY : Hid (checkQ ⟨c, n, s, 5, t, ch, 0, 0, 0⟩ = 0) := HC
  have HZ : Hid (checkQ ⟨c, n, s, 5, t, [], 0, 0, 0⟩ = 290) := Lib.hid (vqzx hh (by decide))
  clear hv hl hh hgd
  refine (saneQ_any _ HK.out).mono ?_
  rintro e v1 ⟨rfl, hE⟩
  have HD := Lib.hid (HD.out.ext hE)
  have HR := Lib.hid (HR.out.ext hE)
  have HK := Lib.hid (HK.out.ext hE)
  have HX := Lib.hid (HX.out.trans hE)
  clear hE
  obtain ⟨z0, z1, z2, z3, z4, z5, z6, z7, z8, -⟩ := HD.out
  try dsimp only at z0 z1 z2 z3 z4 z5 z6 z7 z8
  go_wp2_with fail
  clear z0 z1 z2 z3 z4 z5 z6 z7 z8
  refine (fw_as (r := ⟨c, n, s, 5, t, ch, 0, 0, 0⟩) hf HR.out).mono ?_
  rintro e v2 ⟨rfl, hE⟩
  have HD := Lib.hid (HD.out.ext hE)
  have HR := Lib.hid (HR.out.ext hE)
  have HK := Lib.hid (HK.out.ext hE)
  have HX := Lib.hid (HX.out.trans hE)
  clear hE
  obtain ⟨z0, z1, z2, z3, z4, z5, z6, z7, z8, -⟩ := HD.out
  try dsimp only at z0 z1 z2 z3 z4 z5 z6 z7 z8
  go_wp2_with fail
  clear z0 z1 z2 z3 z4 z5 z6 z7 z8
  refine (ck_as (r := ⟨c, n, s, 5, t, ch, 0, 0, 0⟩) HC.out HR.out HL.out HK.out).mono ?_
  rintro e v3 ⟨rfl, hE⟩
  have HD := Lib.hid (HD.out.ext hE)
  have HR := Lib.hid (HR.out.ext hE)
  have HK := Lib.hid (HK.out.ext hE)
  have HX := Lib.hid (HX.out.trans hE)
  clear hE
  by_cases hk1 : kind = 1
  · subst hk1
    have hn1 := HN1.out
    have n1 : (((ch.length : Nat) : Int) == 1) = true := by rw [beq_iff_eq]; omega
    have n2 : (((ch.length : Nat) : Int) != 1) = false := by rw [bne_eq_false_iff_eq]; omega
    have HXC : Hid (checkQ ⟨c, n, s, 1, t, ch, 0, 0, 0⟩ = 0) := Lib.hid ((vq4x HH.out HGD.out hn1 _).trans (if_pos (by omega)))
    clear hn1
    obtain ⟨z0, z1, z2, z3, z4, z5, z6, z7, z8, -⟩ := HD.out
    try dsimp only at z0 z1 z2 z3 z4 z5 z6 z7 z8
    have he := HEQ.out
    have hA : Ext v3 (v3.alloc (.cells #[.int .i64 c, .int .i64 n, .int .i64 s, .int .i64 1, .int .i64 t, .slice ao ch.length cap, .int .i64 0, .int .i64 0, .int .i64 0] 26)) := (Ext.refl _).alloc _
    have hB : BoxQ (v3.alloc (.cells #[.int .i64 c, .int .i64 n, .int .i64 s, .int .i64 1, .int .i64 t, .slice ao ch.length cap, .int .i64 0, .int .i64 0, .int .i64 0] 26)) v3.heap.size ⟨c, n, s, 1, t, ch, 0, 0, 0⟩ ao cap := BoxQ.new _ ⟨c, n, s, 1, t, ch, 0, 0, 0⟩ ao cap _ _ rfl
    obtain ⟨a0, a1, a2, a3, a4, a5, a6, a7, a8, -⟩ := HD.out.ext ((Ext.refl v3).alloc (.cells #[.int .i64 c, .int .i64 n, .int .i64 s, .int .i64 5, .int .i64 t, .slice ao ch.length cap, .int .i64 0, .int .i64 0, .int .i64 0] 26))
    try dsimp only at a0 a1 a2 a3 a4 a5 a6 a7 a8
    have ne1 : ¬ w.heap.size = v3.heap.size := by have := HD.out.lt; omega
    have ne2 : ¬ v3.heap.size = w.heap.size := by have := HD.out.lt; omega
    obtain ⟨f0, f1, f2, f3, f4, f5, f6, f7, f8, -⟩ := HD.out.ext hA
    try dsimp only at f0 f1 f2 f3 f4 f5 f6 f7 f8
    go_wp2_with fail
    clear z0 z1 z2 z3 z4 z5 z6 z7 z8 f0 f1 f2 f3 f4 f5 f6 f7 f8 a0 a1 a2 a3 a4 a5 a6 a7 a8 he ne1 ne2
    generalize (v3.alloc (.cells #[.int .i64 c, .int .i64 n, .int .i64 s, .int .i64 1, .int .i64 t, .slice ao ch.length cap, .int .i64 0, .int .i64 0, .int .i64 0] 26)) = x3 at *
    have HD := Lib.hid (HD.out.ext hA)
    have HR := Lib.hid (HR.out.ext hA)
    have HK := Lib.hid (HK.out.ext hA)
    have HX := Lib.hid (HX.out.trans hA)
    have HDX := Lib.hid hB
    clear hA hB
    refine (ck_as (r := ⟨c, n, s, 1, t, ch, 0, 0, 0⟩) HXC.out HR.out HL.out HK.out).mono ?_
    rintro e v4 ⟨rfl, hE⟩
    have HD := Lib.hid (HD.out.ext hE)
    have HR := Lib.hid (HR.out.ext hE)
    have HK := Lib.hid (HK.out.ext hE)
    have HDX := Lib.hid (HDX.out.ext hE)
    have HX := Lib.hid (HX.out.trans hE)
    clear hE
    obtain ⟨z0, z1, z2, z3, z4, z5, z6, z7, z8, -⟩ := HD.out
    try dsimp only at z0 z1 z2 z3 z4 z5 z6 z7 z8
    have hA : Ext v4 (v4.alloc (.cells #[.int .i64 c, .int .i64 n, .int .i64 s, .int .i64 5, .int .i64 t, .slice ao ch.length cap, .int .i64 0, .int .i64 0, .int .i64 0] 26)) := (Ext.refl _).alloc _
    have hB : BoxQ (v4.alloc (.cells #[.int .i64 c, .int .i64 n, .int .i64 s, .int .i64 5, .int .i64 t, .slice ao ch.length cap, .int .i64 0, .int .i64 0, .int .i64 0] 26)) v4.heap.size ⟨c, n, s, 5, t, ch, 0, 0, 0⟩ ao cap := BoxQ.new _ ⟨c, n, s, 5, t, ch, 0, 0, 0⟩ ao cap _ _ rfl
    go_wp2_with fail
    clear z0 z1 z2 z3 z4 z5 z6 z7 z8
    generalize (v4.alloc (.cells #[.int .i64 c, .int .i64 n, .int .i64 s, .int .i64 5, .int .i64 t, .slice ao ch.length cap, .int .i64 0, .int .i64 0, .int .i64 0] 26)) = x4 at *
    have HD := Lib.hid (HD.out.ext hA)
    have HR := Lib.hid (HR.out.ext hA)
    have HK := Lib.hid (HK.out.ext hA)
    have HDX := Lib.hid (HDX.out.ext hA)
    have HX := Lib.hid (HX.out.trans hA)
    have HDY := Lib.hid hB
    clear hA hB
    refine (ck_as (r := ⟨c, n, s, 5, t, ch, 0, 0, 0⟩) HY.out HR.out HL.out HK.out).mono ?_
    rintro e v5 ⟨rfl, hE⟩
    have HD := Lib.hid (HD.out.ext hE)
    have HR := Lib.hid (HR.out.ext hE)
    have HK := Lib.hid (HK.out.ext hE)
    have HDX := Lib.hid (HDX.out.ext hE)
    have HDY := Lib.hid (HDY.out.ext hE)
    have HX := Lib.hid (HX.out.trans hE)
    clear hE
    obtain ⟨z0, z1, z2, z3, z4, z5, z6, z7, z8, -⟩ := HDY.out
    try dsimp only at z0 z1 z2 z3 z4 z5 z6 z7 z8
    go_wp2_with fail
    clear z0 z1 z2 z3 z4 z5 z6 z7 z8
    refine (ck_as (r := ⟨c, n, s, 5, t, ch, 0, 0, 0⟩) HY.out HR.out HL.out HK.out).mono ?_
    rintro e v6 ⟨rfl, hE⟩
    have HD := Lib.hid (HD.out.ext hE)
    have HR := Lib.hid (HR.out.ext hE)
    have HK := Lib.hid (HK.out.ext hE)
    have HDX := Lib.hid (HDX.out.ext hE)
    have HDY := Lib.hid (HDY.out.ext hE)
    have HX := Lib.hid (HX.out.trans hE)
    clear hE
    obtain ⟨z0, z1, z2, z3, z4, z5, z6, z7, z8, -⟩ := HD.out
    try dsimp only at z0 z1 z2 z3 z4 z5 z6 z7 z8
    have hA : Ext v6 (v6.alloc (.cells #[.int .i64 c, .int .i64 n, .int .i64 s, .int .i64 5, .int .i64 t, .slice none 0 0, .int .i64 0, .int .i64 0, .int .i64 0] 26)) := (Ext.refl _).alloc _
    have hB : BoxQ (v6.alloc (.cells #[.int .i64 c, .int .i64 n, .int .i64 s, .int .i64 5, .int .i64 t, .slice none 0 0, .int .i64 0, .int .i64 0, .int .i64 0] 26)) v6.heap.size ⟨c, n, s, 5, t, [], 0, 0, 0⟩ none 0 := BoxQ.new _ ⟨c, n, s, 5, t, [], 0, 0, 0⟩ none 0 _ _ rfl
    go_wp2_with fail
    clear z0 z1 z2 z3 z4 z5 z6 z7 z8
    generalize (v6.alloc (.cells #[.int .i64 c, .int .i64 n, .int .i64 s, .int .i64 5, .int .i64 t, .slice none 0 0, .int .i64 0, .int .i64 0, .int .i64 0] 26)) = x6 at *
    have HD := Lib.hid (HD.out.ext hA)
    have HR := Lib.hid (HR.out.ext hA)
    have HK := Lib.hid (HK.out.ext hA)
    have HDX := Lib.hid (HDX.out.ext hA)
    have HDY := Lib.hid (HDY.out.ext hA)
    have HX := Lib.hid (HX.out.trans hA)
    have HDZ := Lib.hid hB
    clear hA hB
    obtain ⟨z0, z1, z2, z3, z4, z5, z6, z7, z8, -⟩ := HD.out
    try dsimp only at z0 z1 z2 z3 z4 z5 z6 z7 z8
    obtain ⟨f0, f1, f2, f3, f4, f5, f6, f7, f8, -⟩ := HDZ.out
    try dsimp only at f0 f1 f2 f3 f4 f5 f6 f7 f8
    have gz0 := grow_cell z0
    have gz1 := grow_cell z1
    have gz2 := grow_cell z2
    have gz3 := grow_cell z3
    have gz4 := grow_cell z4
    have gz5 := grow_cell z5
    have gz6 := grow_cell z6
    have gz7 := grow_cell z7
    have gz8 := grow_cell z8
    have gf0 := grow_cell f0
    have gf1 := grow_cell f1
    have gf2 := grow_cell f2
    have gf3 := grow_cell f3
    have gf4 := grow_cell f4
    have gf5 := grow_cell f5
    have gf6 := grow_cell f6
    have gf7 := grow_cell f7
    have gf8 := grow_cell f8
    refine wp_region_rel_all (fun i => if i = 1 then some (spV (.int .i64 290)) else none) (by kernel_rfl) (by kernel_rfl) ?_
    repeat (first
      | (refine wpRel_quick ?_ ?_ ?_ ?_
         · rfl
         · rfl
         · first | exact noEnter rfl | (intro f args W W'; go_simp)
         intro K hK
         go_big_quiet_op
         go_big_quiet_on)
      | (refine wpRel_skip ?_ ?_
         · rfl
         simp only [Act.put, List.setIfInBounds_toArray, List.set_cons_zero, List.set_cons_succ]))
    refine wpRel_rich _ rfl rfl (fun W hW => ?_) (fun v W3 hW3 hv => ?_)
    · have hc := ck_as (r := ⟨c, n, s, 5, t, [], 0, 0, 0⟩) (w := W) HZ.out (SL.empty _ _) (Nat.zero_le _) (HK.out.ext ((Ext.refl x6).drew.trans hW.1))
      go_simp
      refine Calls.mono hc ?_
      rintro e w' ⟨rfl, h⟩
      exact ⟨_, rfl, rfl, by first | exact h | (subst h; exact Ext.refl _)⟩
    obtain rfl := hv
    clear hW3
    simp only [Act.put, List.setIfInBounds_toArray, List.set_cons_zero, List.set_cons_succ]
    repeat (first
      | (refine wpRel_quick ?_ ?_ ?_ ?_
         · rfl
         · rfl
         · first | exact noEnter rfl | (intro f args W W'; go_simp)
         intro K hK
         go_big_quiet_op
         go_big_quiet_on)
      | (refine wpRel_skip ?_ ?_
         · rfl
         simp only [Act.put, List.setIfInBounds_toArray, List.set_cons_zero, List.set_cons_succ]))
    refine wpRel_nil ?_
    intro W3 hW3
    have HE3 := Lib.hid ((Ext.refl x6).drew.trans hW3.1)
    clear hW3
    go_wp2_with fail
    go_ret
    exact ⟨rfl, HX.out.trans HE3.out⟩
  by_cases hk4 : kind = 4
  · subst hk4
    have hn1 := HN1.out
    have n1 : (((ch.length : Nat) : Int) == 1) = true := by rw [beq_iff_eq]; omega
    have n2 : (((ch.length : Nat) : Int) != 1) = false := by rw [bne_eq_false_iff_eq]; omega
    have HXC : Hid (checkQ ⟨c, n, s, 4, t, ch, 0, 0, 0⟩ = 0) := Lib.hid ((vq4x HH.out HGD.out hn1 _).trans (if_pos (by omega)))
    clear hn1
    obtain ⟨z0, z1, z2, z3, z4, z5, z6, z7, z8, -⟩ := HD.out
    try dsimp only at z0 z1 z2 z3 z4 z5 z6 z7 z8
    have he := HEQ.out
    have hA : Ext v3 (v3.alloc (.cells #[.int .i64 c, .int .i64 n, .int .i64 s, .int .i64 4, .int .i64 t, .slice ao ch.length cap, .int .i64 0, .int .i64 0, .int .i64 0] 26)) := (Ext.refl _).alloc _
    have hB : BoxQ (v3.alloc (.cells #[.int .i64 c, .int .i64 n, .int .i64 s, .int .i64 4, .int .i64 t, .slice ao ch.length cap, .int .i64 0, .int .i64 0, .int .i64 0] 26)) v3.heap.size ⟨c, n, s, 4, t, ch, 0, 0, 0⟩ ao cap := BoxQ.new _ ⟨c, n, s, 4, t, ch, 0, 0, 0⟩ ao cap _ _ rfl
    obtain ⟨a0, a1, a2, a3, a4, a5, a6, a7, a8, -⟩ := HD.out.ext ((Ext.refl v3).alloc (.cells #[.int .i64 c, .int .i64 n, .int .i64 s, .int .i64 5, .int .i64 t, .slice ao ch.length cap, .int .i64 0, .int .i64 0, .int .i64 0] 26))
    try dsimp only at a0 a1 a2 a3 a4 a5 a6 a7 a8
    have ne1 : ¬ w.heap.size = v3.heap.size := by have := HD.out.lt; omega
    have ne2 : ¬ v3.heap.size = w.heap.size := by have := HD.out.lt; omega
    obtain ⟨f0, f1, f2, f3, f4, f5, f6, f7, f8, -⟩ := HD.out.ext hA
    try dsimp only at f0 f1 f2 f3 f4 f5 f6 f7 f8
    go_wp2_with fail
    clear z0 z1 z2 z3 z4 z5 z6 z7 z8 f0 f1 f2 f3 f4 f5 f6 f7 f8 a0 a1 a2 a3 a4 a5 a6 a7 a8 he ne1 ne2
    generalize (v3.alloc (.cells #[.int .i64 c, .int .i64 n, .int .i64 s, .int .i64 4, .int .i64 t, .slice ao ch.length cap, .int .i64 0, .int .i64 0, .int .i64 0] 26)) = x3 at *
    have HD := Lib.hid (HD.out.ext hA)
    have HR := Lib.hid (HR.out.ext hA)
    have HK := Lib.hid (HK.out.ext hA)
    have HX := Lib.hid (HX.out.trans hA)
    have HDX := Lib.hid hB
    clear hA hB
    refine (ck_as (r := ⟨c, n, s, 4, t, ch, 0, 0, 0⟩) HXC.out HR.out HL.out HK.out).mono ?_
    rintro e v4 ⟨rfl, hE⟩
    have HD := Lib.hid (HD.out.ext hE)
    have HR := Lib.hid (HR.out.ext hE)
    have HK := Lib.hid (HK.out.ext hE)
    have HDX := Lib.hid (HDX.out.ext hE)
    have HX := Lib.hid (HX.out.trans hE)
    clear hE
    obtain ⟨z0, z1, z2, z3, z4, z5, z6, z7, z8, -⟩ := HD.out
    try dsimp only at z0 z1 z2 z3 z4 z5 z6 z7 z8
    have hA : Ext v4 (v4.alloc (.cells #[.int .i64 c, .int .i64 n, .int .i64 s, .int .i64 5, .int .i64 t, .slice ao ch.length cap, .int .i64 0, .int .i64 0, .int .i64 0] 26)) := (Ext.refl _).alloc _
    have hB : BoxQ (v4.alloc (.cells #[.int .i64 c, .int .i64 n, .int .i64 s, .int .i64 5, .int .i64 t, .slice ao ch.length cap, .int .i64 0, .int .i64 0, .int .i64 0] 26)) v4.heap.size ⟨c, n, s, 5, t, ch, 0, 0, 0⟩ ao cap := BoxQ.new _ ⟨c, n, s, 5, t, ch, 0, 0, 0⟩ ao cap _ _ rfl
    go_wp2_with fail
    clear z0 z1 z2 z3 z4 z5 z6 z7 z8
    generalize (v4.alloc (.cells #[.int .i64 c, .int .i64 n, .int .i64 s, .int .i64 5, .int .i64 t, .slice ao ch.length cap, .int .i64 0, .int .i64 0, .int .i64 0] 26)) = x4 at *
    have HD := Lib.hid (HD.out.ext hA)
    have HR := Lib.hid (HR.out.ext hA)
    have HK := Lib.hid (HK.out.ext hA)
    have HDX := Lib.hid (HDX.out.ext hA)
    have HX := Lib.hid (HX.out.trans hA)
    have HDY := Lib.hid hB
    clear hA hB
    refine (ck_as (r := ⟨c, n, s, 5, t, ch, 0, 0, 0⟩) HY.out HR.out HL.out HK.out).mono ?_
    rintro e v5 ⟨rfl, hE⟩
    have HD := Lib.hid (HD.out.ext hE)
    have HR := Lib.hid (HR.out.ext hE)
    have HK := Lib.hid (HK.out.ext hE)
    have HDX := Lib.hid (HDX.out.ext hE)
    have HDY := Lib.hid (HDY.out.ext hE)
    have HX := Lib.hid (HX.out.trans hE)
    clear hE
    obtain ⟨z0, z1, z2, z3, z4, z5, z6, z7, z8, -⟩ := HDY.out
    try dsimp only at z0 z1 z2 z3 z4 z5 z6 z7 z8
    go_wp2_with fail
    clear z0 z1 z2 z3 z4 z5 z6 z7 z8
    refine (ck_as (r := ⟨c, n, s, 5, t, ch, 0, 0, 0⟩) HY.out HR.out HL.out HK.out).mono ?_
    rintro e v6 ⟨rfl, hE⟩
    have HD := Lib.hid (HD.out.ext hE)
    have HR := Lib.hid (HR.out.ext hE)
    have HK := Lib.hid (HK.out.ext hE)
    have HDX := Lib.hid (HDX.out.ext hE)
    have HDY := Lib.hid (HDY.out.ext hE)
    have HX := Lib.hid (HX.out.trans hE)
    clear hE
    obtain ⟨z0, z1, z2, z3, z4, z5, z6, z7, z8, -⟩ := HD.out
    try dsimp only at z0 z1 z2 z3 z4 z5 z6 z7 z8
    have hA : Ext v6 (v6.alloc (.cells #[.int .i64 c, .int .i64 n, .int .i64 s, .int .i64 5, .int .i64 t, .slice none 0 0, .int .i64 0, .int .i64 0, .int .i64 0] 26)) := (Ext.refl _).alloc _
    have hB : BoxQ (v6.alloc (.cells #[.int .i64 c, .int .i64 n, .int .i64 s, .int .i64 5, .int .i64 t, .slice none 0 0, .int .i64 0, .int .i64 0, .int .i64 0] 26)) v6.heap.size ⟨c, n, s, 5, t, [], 0, 0, 0⟩ none 0 := BoxQ.new _ ⟨c, n, s, 5, t, [], 0, 0, 0⟩ none 0 _ _ rfl
    go_wp2_with fail
    clear z0 z1 z2 z3 z4 z5 z6 z7 z8
    generalize (v6.alloc (.cells #[.int .i64 c, .int .i64 n, .int .i64 s, .int .i64 5, .int .i64 t, .slice none 0 0, .int .i64 0, .int .i64 0, .int .i64 0] 26)) = x6 at *
    have HD := Lib.hid (HD.out.ext hA)
    have HR := Lib.hid (HR.out.ext hA)
    have HK := Lib.hid (HK.out.ext hA)
    have HDX := Lib.hid (HDX.out.ext hA)
    have HDY := Lib.hid (HDY.out.ext hA)
    have HX := Lib.hid (HX.out.trans hA)
    have HDZ := Lib.hid hB
    clear hA hB
    obtain ⟨z0, z1, z2, z3, z4, z5, z6, z7, z8, -⟩ := HD.out
    try dsimp only at z0 z1 z2 z3 z4 z5 z6 z7 z8
    obtain ⟨f0, f1, f2, f3, f4, f5, f6, f7, f8, -⟩ := HDZ.out
    try dsimp only at f0 f1 f2 f3 f4 f5 f6 f7 f8
    have gz0 := grow_cell z0
    have gz1 := grow_cell z1
    have gz2 := grow_cell z2
    have gz3 := grow_cell z3
    have gz4 := grow_cell z4
    have gz5 := grow_cell z5
    have gz6 := grow_cell z6
    have gz7 := grow_cell z7
    have gz8 := grow_cell z8
    have gf0 := grow_cell f0
    have gf1 := grow_cell f1
    have gf2 := grow_cell f2
    have gf3 := grow_cell f3
    have gf4 := grow_cell f4
    have gf5 := grow_cell f5
    have gf6 := grow_cell f6
    have gf7 := grow_cell f7
    have gf8 := grow_cell f8
    refine wp_region_rel_all (fun i => if i = 1 then some (spV (.int .i64 290)) else none) (by kernel_rfl) (by kernel_rfl) ?_
    repeat (first
      | (refine wpRel_quick ?_ ?_ ?_ ?_
         · rfl
         · rfl
         · first | exact noEnter rfl | (intro f args W W'; go_simp)
         intro K hK
         go_big_quiet_op
         go_big_quiet_on)
      | (refine wpRel_skip ?_ ?_
         · rfl
         simp only [Act.put, List.setIfInBounds_toArray, List.set_cons_zero, List.set_cons_succ]))
    refine wpRel_rich _ rfl rfl (fun W hW => ?_) (fun v W3 hW3 hv => ?_)
    · have hc := ck_as (r := ⟨c, n, s, 5, t, [], 0, 0, 0⟩) (w := W) HZ.out (SL.empty _ _) (Nat.zero_le _) (HK.out.ext ((Ext.refl x6).drew.trans hW.1))
      go_simp
      refine Calls.mono hc ?_
      rintro e w' ⟨rfl, h⟩
      exact ⟨_, rfl, rfl, by first | exact h | (subst h; exact Ext.refl _)⟩
    obtain rfl := hv
    clear hW3
    simp only [Act.put, List.setIfInBounds_toArray, List.set_cons_zero, List.set_cons_succ]
    repeat (first
      | (refine wpRel_quick ?_ ?_ ?_ ?_
         · rfl
         · rfl
         · first | exact noEnter rfl | (intro f args W W'; go_simp)
         intro K hK
         go_big_quiet_op
         go_big_quiet_on)
      | (refine wpRel_skip ?_ ?_
         · rfl
         simp only [Act.put, List.setIfInBounds_toArray, List.set_cons_zero, List.set_cons_succ]))
    refine wpRel_nil ?_
    intro W3 hW3
    have HE3 := Lib.hid ((Ext.refl x6).drew.trans hW3.1)
    clear hW3
    go_wp2_with fail
    go_ret
    exact ⟨rfl, HX.out.trans HE3.out⟩
  by_cases hk5 : kind = 5
  · subst hk5
    have hn1 := HN1.out
    have n1 : (((ch.length : Nat) : Int) == 1) = true := by rw [beq_iff_eq]; omega
    have n2 : (((ch.length : Nat) : Int) != 1) = false := by rw [bne_eq_false_iff_eq]; omega
    have HXC : Hid (checkQ ⟨c, n, s, 5, t, ch, 0, 0, 0⟩ = 0) := Lib.hid ((vq4x HH.out HGD.out hn1 _).trans (if_pos (by omega)))
    clear hn1
    obtain ⟨z0, z1, z2, z3, z4, z5, z6, z7, z8, -⟩ := HD.out
    try dsimp only at z0 z1 z2 z3 z4 z5 z6 z7 z8
    have he := HEQ.out
    have hA : Ext v3 (v3.alloc (.cells #[.int .i64 c, .int .i64 n, .int .i64 s, .int .i64 5, .int .i64 t, .slice ao ch.length cap, .int .i64 0, .int .i64 0, .int .i64 0] 26)) := (Ext.refl _).alloc _
    have hB : BoxQ (v3.alloc (.cells #[.int .i64 c, .int .i64 n, .int .i64 s, .int .i64 5, .int .i64 t, .slice ao ch.length cap, .int .i64 0, .int .i64 0, .int .i64 0] 26)) v3.heap.size ⟨c, n, s, 5, t, ch, 0, 0, 0⟩ ao cap := BoxQ.new _ ⟨c, n, s, 5, t, ch, 0, 0, 0⟩ ao cap _ _ rfl
    obtain ⟨a0, a1, a2, a3, a4, a5, a6, a7, a8, -⟩ := HD.out.ext ((Ext.refl v3).alloc (.cells #[.int .i64 c, .int .i64 n, .int .i64 s, .int .i64 5, .int .i64 t, .slice ao ch.length cap, .int .i64 0, .int .i64 0, .int .i64 0] 26))
    try dsimp only at a0 a1 a2 a3 a4 a5 a6 a7 a8
    have ne1 : ¬ w.heap.size = v3.heap.size := by have := HD.out.lt; omega
    have ne2 : ¬ v3.heap.size = w.heap.size := by have := HD.out.lt; omega
    obtain ⟨f0, f1, f2, f3, f4, f5, f6, f7, f8, -⟩ := HD.out.ext hA
    try dsimp only at f0 f1 f2 f3 f4 f5 f6 f7 f8
    go_wp2_with fail
    clear z0 z1 z2 z3 z4 z5 z6 z7 z8 f0 f1 f2 f3 f4 f5 f6 f7 f8 a0 a1 a2 a3 a4 a5 a6 a7 a8 he ne1 ne2
    generalize (v3.alloc (.cells #[.int .i64 c, .int .i64 n, .int .i64 s, .int .i64 5, .int .i64 t, .slice ao ch.length cap, .int .i64 0, .int .i64 0, .int .i64 0] 26)) = x3 at *
    have HD := Lib.hid (HD.out.ext hA)
    have HR := Lib.hid (HR.out.ext hA)
    have HK := Lib.hid (HK.out.ext hA)
    have HX := Lib.hid (HX.out.trans hA)
    have HDX := Lib.hid hB
    clear hA hB
    refine (ck_as (r := ⟨c, n, s, 5, t, ch, 0, 0, 0⟩) HXC.out HR.out HL.out HK.out).mono ?_
    rintro e v4 ⟨rfl, hE⟩
    have HD := Lib.hid (HD.out.ext hE)
    have HR := Lib.hid (HR.out.ext hE)
    have HK := Lib.hid (HK.out.ext hE)
    have HDX := Lib.hid (HDX.out.ext hE)
    have HX := Lib.hid (HX.out.trans hE)
    clear hE
    obtain ⟨z0, z1, z2, z3, z4, z5, z6, z7, z8, -⟩ := HD.out
    try dsimp only at z0 z1 z2 z3 z4 z5 z6 z7 z8
    have hA : Ext v4 (v4.alloc (.cells #[.int .i64 c, .int .i64 n, .int .i64 s, .int .i64 5, .int .i64 t, .slice ao ch.length cap, .int .i64 0, .int .i64 0, .int .i64 0] 26)) := (Ext.refl _).alloc _
    have hB : BoxQ (v4.alloc (.cells #[.int .i64 c, .int .i64 n, .int .i64 s, .int .i64 5, .int .i64 t, .slice ao ch.length cap, .int .i64 0, .int .i64 0, .int .i64 0] 26)) v4.heap.size ⟨c, n, s, 5, t, ch, 0, 0, 0⟩ ao cap := BoxQ.new _ ⟨c, n, s, 5, t, ch, 0, 0, 0⟩ ao cap _ _ rfl
    go_wp2_with fail
    clear z0 z1 z2 z3 z4 z5 z6 z7 z8
    generalize (v4.alloc (.cells #[.int .i64 c, .int .i64 n, .int .i64 s, .int .i64 5, .int .i64 t, .slice ao ch.length cap, .int .i64 0, .int .i64 0, .int .i64 0] 26)) = x4 at *
    have HD := Lib.hid (HD.out.ext hA)
    have HR := Lib.hid (HR.out.ext hA)
    have HK := Lib.hid (HK.out.ext hA)
    have HDX := Lib.hid (HDX.out.ext hA)
    have HX := Lib.hid (HX.out.trans hA)
    have HDY := Lib.hid hB
    clear hA hB
    refine (ck_as (r := ⟨c, n, s, 5, t, ch, 0, 0, 0⟩) HY.out HR.out HL.out HK.out).mono ?_
    rintro e v5 ⟨rfl, hE⟩
    have HD := Lib.hid (HD.out.ext hE)
    have HR := Lib.hid (HR.out.ext hE)
    have HK := Lib.hid (HK.out.ext hE)
    have HDX := Lib.hid (HDX.out.ext hE)
    have HDY := Lib.hid (HDY.out.ext hE)
    have HX := Lib.hid (HX.out.trans hE)
    clear hE
    obtain ⟨z0, z1, z2, z3, z4, z5, z6, z7, z8, -⟩ := HDY.out
    try dsimp only at z0 z1 z2 z3 z4 z5 z6 z7 z8
    go_wp2_with fail
    clear z0 z1 z2 z3 z4 z5 z6 z7 z8
    refine (ck_as (r := ⟨c, n, s, 5, t, ch, 0, 0, 0⟩) HY.out HR.out HL.out HK.out).mono ?_
    rintro e v6 ⟨rfl, hE⟩
    have HD := Lib.hid (HD.out.ext hE)
    have HR := Lib.hid (HR.out.ext hE)
    have HK := Lib.hid (HK.out.ext hE)
    have HDX := Lib.hid (HDX.out.ext hE)
    have HDY := Lib.hid (HDY.out.ext hE)
    have HX := Lib.hid (HX.out.trans hE)
    clear hE
    obtain ⟨z0, z1, z2, z3, z4, z5, z6, z7, z8, -⟩ := HD.out
    try dsimp only at z0 z1 z2 z3 z4 z5 z6 z7 z8
    have hA : Ext v6 (v6.alloc (.cells #[.int .i64 c, .int .i64 n, .int .i64 s, .int .i64 5, .int .i64 t, .slice none 0 0, .int .i64 0, .int .i64 0, .int .i64 0] 26)) := (Ext.refl _).alloc _
    have hB : BoxQ (v6.alloc (.cells #[.int .i64 c, .int .i64 n, .int .i64 s, .int .i64 5, .int .i64 t, .slice none 0 0, .int .i64 0, .int .i64 0, .int .i64 0] 26)) v6.heap.size ⟨c, n, s, 5, t, [], 0, 0, 0⟩ none 0 := BoxQ.new _ ⟨c, n, s, 5, t, [], 0, 0, 0⟩ none 0 _ _ rfl
    go_wp2_with fail
    clear z0 z1 z2 z3 z4 z5 z6 z7 z8
    generalize (v6.alloc (.cells #[.int .i64 c, .int .i64 n, .int .i64 s, .int .i64 5, .int .i64 t, .slice none 0 0, .int .i64 0, .int .i64 0, .int .i64 0] 26)) = x6 at *
    have HD := Lib.hid (HD.out.ext hA)
    have HR := Lib.hid (HR.out.ext hA)
    have HK := Lib.hid (HK.out.ext hA)
    have HDX := Lib.hid (HDX.out.ext hA)
    have HDY := Lib.hid (HDY.out.ext hA)
    have HX := Lib.hid (HX.out.trans hA)
    have HDZ := Lib.hid hB
    clear hA hB
    obtain ⟨z0, z1, z2, z3, z4, z5, z6, z7, z8, -⟩ := HD.out
    try dsimp only at z0 z1 z2 z3 z4 z5 z6 z7 z8
    obtain ⟨f0, f1, f2, f3, f4, f5, f6, f7, f8, -⟩ := HDZ.out
    try dsimp only at f0 f1 f2 f3 f4 f5 f6 f7 f8
    have gz0 := grow_cell z0
    have gz1 := grow_cell z1
    have gz2 := grow_cell z2
    have gz3 := grow_cell z3
    have gz4 := grow_cell z4
    have gz5 := grow_cell z5
    have gz6 := grow_cell z6
    have gz7 := grow_cell z7
    have gz8 := grow_cell z8
    have gf0 := grow_cell f0
    have gf1 := grow_cell f1
    have gf2 := grow_cell f2
    have gf3 := grow_cell f3
    have gf4 := grow_cell f4
    have gf5 := grow_cell f5
    have gf6 := grow_cell f6
    have gf7 := grow_cell f7
    have gf8 := grow_cell f8
    refine wp_region_rel_all (fun i => if i = 1 then some (spV (.int .i64 290)) else none) (by kernel_rfl) (by kernel_rfl) ?_
    repeat (first
      | (refine wpRel_quick ?_ ?_ ?_ ?_
         · rfl
         · rfl
         · first | exact noEnter rfl | (intro f args W W'; go_simp)
         intro K hK
         go_big_quiet_op
         go_big_quiet_on)
      | (refine wpRel_skip ?_ ?_
         · rfl
         simp only [Act.put, List.setIfInBounds_toArray, List.set_cons_zero, List.set_cons_succ]))
    refine wpRel_rich _ rfl rfl (fun W hW => ?_) (fun v W3 hW3 hv => ?_)
    · have hc := ck_as (r := ⟨c, n, s, 5, t, [], 0, 0, 0⟩) (w := W) HZ.out (SL.empty _ _) (Nat.zero_le _) (HK.out.ext ((Ext.refl x6).drew.trans hW.1))
      go_simp
      refine Calls.mono hc ?_
      rintro e w' ⟨rfl, h⟩
      exact ⟨_, rfl, rfl, by first | exact h | (subst h; exact Ext.refl _)⟩
    obtain rfl := hv
    clear hW3
    simp only [Act.put, List.setIfInBounds_toArray, List.set_cons_zero, List.set_cons_succ]
    repeat (first
      | (refine wpRel_quick ?_ ?_ ?_ ?_
         · rfl
         · rfl
         · first | exact noEnter rfl | (intro f args W W'; go_simp)
         intro K hK
         go_big_quiet_op
         go_big_quiet_on)
      | (refine wpRel_skip ?_ ?_
         · rfl
         simp only [Act.put, List.setIfInBounds_toArray, List.set_cons_zero, List.set_cons_succ]))
    refine wpRel_nil ?_
    intro W3 hW3
    have HE3 := Lib.hid ((Ext.refl x6).drew.trans hW3.1)
    clear hW3
    go_wp2_with fail
    go_ret
    exact ⟨rfl, HX.out.trans HE3.out⟩
  have hn1 := HN1.out
  have e1 : (kind == 1) = false := by simpa using hk1
  have e4 : (kind == 4) = false := by simpa using hk4
  have e5 : (kind == 5) = false := by simpa using hk5
  have n1 : (((ch.length : Nat) : Int) == 1) = true := by rw [beq_iff_eq]; omega
  have n2 : (((ch.length : Nat) : Int) != 1) = false := by rw [bne_eq_false_iff_eq]; omega
  have HXC : Hid (checkQ ⟨c, n, s, kind, t, ch, 0, 0, 0⟩ = 290) := Lib.hid ((vq4x HH.out HGD.out hn1 _).trans (if_neg (by omega)))
  clear hn1
  obtain ⟨z0, z1, z2, z3, z4, z5, z6, z7, z8, -⟩ := HD.out
  try dsimp only at z0 z1 z2 z3 z4 z5 z6 z7 z8
  have he := HEQ.out
  have hA : Ext v3 (v3.alloc (.cells #[.int .i64 c, .int .i64 n, .int .i64 s, .int .i64 kind, .int .i64 t, .slice ao ch.length cap, .int .i64 0, .int .i64 0, .int .i64 0] 26)) := (Ext.refl _).alloc _
  have hB : BoxQ (v3.alloc (.cells #[.int .i64 c, .int .i64 n, .int .i64 s, .int .i64 kind, .int .i64 t, .slice ao ch.length cap, .int .i64 0, .int .i64 0, .int .i64 0] 26)) v3.heap.size ⟨c, n, s, kind, t, ch, 0, 0, 0⟩ ao cap := BoxQ.new _ ⟨c, n, s, kind, t, ch, 0, 0, 0⟩ ao cap _ _ rfl
  obtain ⟨a0, a1, a2, a3, a4, a5, a6, a7, a8, -⟩ := HD.out.ext ((Ext.refl v3).alloc (.cells #[.int .i64 c, .int .i64 n, .int .i64 s, .int .i64 5, .int .i64 t, .slice ao ch.length cap, .int .i64 0, .int .i64 0, .int .i64 0] 26))
  try dsimp only at a0 a1 a2 a3 a4 a5 a6 a7 a8
  have ne1 : ¬ w.heap.size = v3.heap.size := by have := HD.out.lt; omega
  have ne2 : ¬ v3.heap.size = w.heap.size := by have := HD.out.lt; omega
  obtain ⟨f0, f1, f2, f3, f4, f5, f6, f7, f8, -⟩ := HD.out.ext hA
  try dsimp only at f0 f1 f2 f3 f4 f5 f6 f7 f8
  go_wp2_with fail
  clear z0 z1 z2 z3 z4 z5 z6 z7 z8 f0 f1 f2 f3 f4 f5 f6 f7 f8 a0 a1 a2 a3 a4 a5 a6 a7 a8 he ne1 ne2
  generalize (v3.alloc (.cells #[.int .i64 c, .int .i64 n, .int .i64 s, .int .i64 kind, .int .i64 t, .slice ao ch.length cap, .int .i64 0, .int .i64 0, .int .i64 0] 26)) = x3 at *
  have HD := Lib.hid (HD.out.ext hA)
  have HR := Lib.hid (HR.out.ext hA)
  have HK := Lib.hid (HK.out.ext hA)
  have HX := Lib.hid (HX.out.trans hA)
  have HDX := Lib.hid hB
  clear hA hB
  refine (ck_as (r := ⟨c, n, s, kind, t, ch, 0, 0, 0⟩) HXC.out HR.out HL.out HK.out).mono ?_
  rintro e v4 ⟨rfl, hE⟩
  have HD := Lib.hid (HD.out.ext hE)
  have HR := Lib.hid (HR.out.ext hE)
  have HK := Lib.hid (HK.out.ext hE)
  have HDX := Lib.hid (HDX.out.ext hE)
  have HX := Lib.hid (HX.out.trans hE)
  clear hE
  obtain ⟨z0, z1, z2, z3, z4, z5, z6, z7, z8, -⟩ := HD.out
  try dsimp only at z0 z1 z2 z3 z4 z5 z6 z7 z8
  have hA : Ext v4 (v4.alloc (.cells #[.int .i64 c, .int .i64 n, .int .i64 s, .int .i64 5, .int .i64 t, .slice ao ch.length cap, .int .i64 0, .int .i64 0, .int .i64 0] 26)) := (Ext.refl _).alloc _
  have hB : BoxQ (v4.alloc (.cells #[.int .i64 c, .int .i64 n, .int .i64 s, .int .i64 5, .int .i64 t, .slice ao ch.length cap, .int .i64 0, .int .i64 0, .int .i64 0] 26)) v4.heap.size ⟨c, n, s, 5, t, ch, 0, 0, 0⟩ ao cap := BoxQ.new _ ⟨c, n, s, 5, t, ch, 0, 0, 0⟩ ao cap _ _ rfl
  go_wp2_with fail
  clear z0 z1 z2 z3 z4 z5 z6 z7 z8
  generalize (v4.alloc (.cells #[.int .i64 c, .int .i64 n, .int .i64 s, .int .i64 5, .int .i64 t, .slice ao ch.length cap, .int .i64 0, .int .i64 0, .int .i64 0] 26)) = x4 at *
  have HD := Lib.hid (HD.out.ext hA)
  have HR := Lib.hid (HR.out.ext hA)
  have HK := Lib.hid (HK.out.ext hA)
  have HDX := Lib.hid (HDX.out.ext hA)
  have HX := Lib.hid (HX.out.trans hA)
  have HDY := Lib.hid hB
  clear hA hB
  refine (ck_as (r := ⟨c, n, s, 5, t, ch, 0, 0, 0⟩) HY.out HR.out HL.out HK.out).mono ?_
  rintro e v5 ⟨rfl, hE⟩
  have HD := Lib.hid (HD.out.ext hE)
  have HR := Lib.hid (HR.out.ext hE)
  have HK := Lib.hid (HK.out.ext hE)
  have HDX := Lib.hid (HDX.out.ext hE)
  have HDY := Lib.hid (HDY.out.ext hE)
  have HX := Lib.hid (HX.out.trans hE)
  clear hE
  obtain ⟨z0, z1, z2, z3, z4, z5, z6, z7, z8, -⟩ := HDY.out
  try dsimp only at z0 z1 z2 z3 z4 z5 z6 z7 z8
  go_wp2_with fail
  clear z0 z1 z2 z3 z4 z5 z6 z7 z8
  refine (ck_as (r := ⟨c, n, s, 5, t, ch, 0, 0, 0⟩) HY.out HR.out HL.out HK.out).mono ?_
  rintro e v6 ⟨rfl, hE⟩
  have HD := Lib.hid (HD.out.ext hE)
  have HR := Lib.hid (HR.out.ext hE)
  have HK := Lib.hid (HK.out.ext hE)
  have HDX := Lib.hid (HDX.out.ext hE)
  have HDY := Lib.hid (HDY.out.ext hE)
  have HX := Lib.hid (HX.out.trans hE)
  clear hE
  obtain ⟨z0, z1, z2, z3, z4, z5, z6, z7, z8, -⟩ := HD.out
  try dsimp only at z0 z1 z2 z3 z4 z5 z6 z7 z8
  have hA : Ext v6 (v6.alloc (.cells #[.int .i64 c, .int .i64 n, .int .i64 s, .int .i64 5, .int .i64 t, .slice none 0 0, .int .i64 0, .int .i64 0, .int .i64 0] 26)) := (Ext.refl _).alloc _
  have hB : BoxQ (v6.alloc (.cells #[.int .i64 c, .int .i64 n, .int .i64 s, .int .i64 5, .int .i64 t, .slice none 0 0, .int .i64 0, .int .i64 0, .int .i64 0] 26)) v6.heap.size ⟨c, n, s, 5, t, [], 0, 0, 0⟩ none 0 := BoxQ.new _ ⟨c, n, s, 5, t, [], 0, 0, 0⟩ none 0 _ _ rfl
  go_wp2_with fail
  clear z0 z1 z2 z3 z4 z5 z6 z7 z8
  generalize (v6.alloc (.cells #[.int .i64 c, .int .i64 n, .int .i64 s, .int .i64 5, .int .i64 t, .slice none 0 0, .int .i64 0, .int .i64 0, .int .i64 0] 26)) = x6 at *
  have HD := Lib.hid (HD.out.ext hA)
  have HR := Lib.hid (HR.out.ext hA)
  have HK := Lib.hid (HK.out.ext hA)
  have HDX := Lib.hid (HDX.out.ext hA)
  have HDY := Lib.hid (HDY.out.ext hA)
  have HX := Lib.hid (HX.out.trans hA)
  have HDZ := Lib.hid hB
  clear hA hB
  obtain ⟨z0, z1, z2, z3, z4, z5, z6, z7, z8, -⟩ := HD.out
  try dsimp only at z0 z1 z2 z3 z4 z5 z6 z7 z8
  obtain ⟨f0, f1, f2, f3, f4, f5, f6, f7, f8, -⟩ := HDZ.out
  try dsimp only at f0 f1 f2 f3 f4 f5 f6 f7 f8
  have gz0 := grow_cell z0
  have gz1 := grow_cell z1
  have gz2 := grow_cell z2
  have gz3 := grow_cell z3
  have gz4 := grow_cell z4
  have gz5 := grow_cell z5
  have gz6 := grow_cell z6
  have gz7 := grow_cell z7
  have gz8 := grow_cell z8
  have gf0 := grow_cell f0
  have gf1 := grow_cell f1
  have gf2 := grow_cell f2
  have gf3 := grow_cell f3
  have gf4 := grow_cell f4
  have gf5 := grow_cell f5
  have gf6 := grow_cell f6
  have gf7 := grow_cell f7
  have gf8 := grow_cell f8
  refine wp_region_rel_all (fun i => if i = 1 then some (spV (.int .i64 290)) else none) (by kernel_rfl) (by kernel_rfl) ?_
  repeat (first
    | (refine wpRel_quick ?_ ?_ ?_ ?_
       · rfl
       · rfl
       · first | exact noEnter rfl | (intro f args W W'; go_simp)
       intro K hK
       go_big_quiet_op
       go_big_quiet_on)
    | (refine wpRel_skip ?_ ?_
       · rfl
       simp only [Act.put, List.setIfInBounds_toArray, List.set_cons_zero, List.set_cons_succ]))
  refine wpRel_rich _ rfl rfl (fun W hW => ?_) (fun v W3 hW3 hv => ?_)
  · have hc := ck_as (r := ⟨c, n, s, 5, t, [], 0, 0, 0⟩) (w := W) HZ.out (SL.empty _ _) (Nat.zero_le _) (HK.out.ext ((Ext.refl x6).drew.trans hW.1))
    go_simp
    refine Calls.mono hc ?_
    rintro e w' ⟨rfl, h⟩
    exact ⟨_, rfl, rfl, by first | exact h | (subst h; exact Ext.refl _)⟩
  obtain rfl := hv
  clear hW3
  simp only [Act.put, List.setIfInBounds_toArray, List.set_cons_zero, List.set_cons_succ]
  repeat (first
    | (refine wpRel_quick ?_ ?_ ?_ ?_
       · rfl
       · rfl
       · first | exact noEnter rfl | (intro f args W W'; go_simp)
       intro K hK
       go_big_quiet_op
       go_big_quiet_on)
    | (refine wpRel_skip ?_ ?_
       · rfl
       simp only [Act.put, List.setIfInBounds_toArray, List.set_cons_zero, List.set_cons_succ]))
  refine wpRel_nil ?_
  intro W3 hW3
  have HE3 := Lib.hid ((Ext.refl x6).drew.trans hW3.1)
  clear hW3
  go_wp2_with fail
  go_ret
  exact ⟨rfl, HX.out.trans HE3.out⟩
end Go.Proofs.YtahaplioegeloaaDoor
