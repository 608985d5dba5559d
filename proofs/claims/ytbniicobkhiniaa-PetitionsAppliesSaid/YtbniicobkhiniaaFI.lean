/- Petitions: Scoped and Fact of the reference. -/
import Derived.Test.YtbniicobkhiniaaFH
namespace Go.Sz
open Go.RowKit
/-- do a kind, an object and a value fit together -/
def scoP (k o v : Int) : Bool := decide (0 ≤ o) && decide (o < objP k) && (v == -1 || (decide (1 ≤ v) && decide (v ≤ mostP k)))
theorem objP_pos {k : Int} (h : 0 < objP k) : 0 ≤ k ∧ k < 13 := by
  unfold objP at h
  split at h
  · omega
  · split at h
    · omega
    · split at h
      · omega
      · split at h
        · omega
        · omega
theorem fitP_sco (k s o v : Int) : fitP k s o v = (decide (0 ≤ s) && decide (s < 20000) && scoP k o v) := by
  rw [Bool.eq_iff_iff]
  unfold fitP scoP
  simp only [Bool.and_eq_true, Bool.or_eq_true, beq_iff_eq, decide_eq_true_eq]
  constructor
  · rintro ⟨⟨⟨⟨⟨⟨h1, h2⟩, h3⟩, h4⟩, h5⟩, h6⟩, h7⟩
    exact ⟨⟨h3, h4⟩, ⟨h5, h6⟩, h7⟩
  · rintro ⟨⟨h3, h4⟩, ⟨h5, h6⟩, h7⟩
    have := objP_pos (k := k) (by omega)
    exact ⟨⟨⟨⟨⟨⟨this.1, this.2⟩, h3⟩, h4⟩, h5⟩, h6⟩, h7⟩
theorem scoP_other {k o v : Int} (h : k ≠ 6 ∧ k ≠ 11 ∧ k ≠ 7 ∧ k ≠ 9 ∧ k ≠ 8 ∧ k ≠ 10) : scoP k o v = false := by
  unfold scoP objP
  rw [if_neg (by omega), if_neg (by omega), if_neg (by omega), if_neg (by omega)]
  by_cases h0 : 0 ≤ o
  · rw [decide_eq_false (show ¬ o < 0 by omega)]; simp
  · rw [decide_eq_false h0]; rfl
end Go.Sz
namespace Go.Proofs.Ytbniicobkhiniaa
open Go.RowKit Go.Sz
set_option maxRecDepth 100000 in
set_option maxHeartbeats 6400000 in
theorem scoped_any (k o v : Int) (w : World) : Calls Try.prog 27 #[.int .i64 k, .int .i64 o, .int .i64 v] w fun e w' => e = .returned (.bool (scoP k o v)) ∧ w = w' := by
  have hk : k = 6 ∨ k = 11 ∨ k = 7 ∨ k = 9 ∨ k = 8 ∨ k = 10 ∨ (k ≠ 6 ∧ k ≠ 11 ∧ k ≠ 7 ∧ k ≠ 9 ∧ k ≠ 8 ∧ k ≠ 10) := by omega
  rcases hk with rfl | rfl | rfl | rfl | rfl | rfl | ⟨h1, h2, h3, h4, h5, h6⟩
  case inr.inr.inr.inr.inr.inr =>
    have HO := Lib.hid (scoP_other (o := o) (v := v) ⟨h1, h2, h3, h4, h5, h6⟩)
    go_enter Try.func27, Try.ntmps27
    go_wp2_with fail
    all_goals
      go_ret
      refine ⟨ret_bool ?_, rfl⟩
      rw [HO.out]
      try first | rfl | simp_all
  all_goals
    go_enter Try.func27, Try.ntmps27
    go_wp2_with fail
    all_goals
      go_ret
      refine ⟨ret_bool ?_, rfl⟩
      rw [Bool.eq_iff_iff]
      simp_all [scoP, objP, mostP]
      try omega
set_option maxRecDepth 100000 in
set_option maxHeartbeats 6400000 in
theorem refFact_any (x : Ft) (w : World) : Calls Try.prog 12 #[.int .i64 x.k, .int .i64 x.s, .int .i64 x.o, .int .i64 x.v, .agg #[.int .i64 x.fr, .int .i64 x.to], .int .i64 x.kn, .int .i64 x.no] w (RetFact (factP x) w) := by
  obtain ⟨k, s, o, v, fr, to, kn, no⟩ := x
  dsimp only
  have hX0 : Ext w ((w.alloc (.cells #[.int .i64 fr, .int .i64 to] 23)).alloc (.cells #[.int .i64 0, .int .i64 0, .int .i64 0, .int .i64 0, .int .i64 0, .int .i64 0, .int .i64 0, .int .i64 0] 28)) := ((Ext.refl w).alloc _).alloc _
  have HX0 := Lib.hid hX0
  have HZ0 : Hid (CB ((w.alloc (.cells #[.int .i64 fr, .int .i64 to] 23)).alloc (.cells #[.int .i64 0, .int .i64 0, .int .i64 0, .int .i64 0, .int .i64 0, .int .i64 0, .int .i64 0, .int .i64 0] 28)) (w.heap.size + 1) f0.enc) := Lib.hid (by
    have := cb_new (w.alloc (.cells #[.int .i64 fr, .int .i64 to] 23)) f0.enc 28
    rwa [World.size_alloc] at this)
  have s0 : ((w.alloc (.cells #[.int .i64 fr, .int .i64 to] 23)).alloc (.cells #[.int .i64 0, .int .i64 0, .int .i64 0, .int .i64 0, .int .i64 0, .int .i64 0, .int .i64 0, .int .i64 0] 28)).cell? ⟨w.heap.size, 0, none⟩ = some (.int .i64 fr) := by simp
  have s1 : ((w.alloc (.cells #[.int .i64 fr, .int .i64 to] 23)).alloc (.cells #[.int .i64 0, .int .i64 0, .int .i64 0, .int .i64 0, .int .i64 0, .int .i64 0, .int .i64 0, .int .i64 0] 28)).cell? ⟨w.heap.size, 1, none⟩ = some (.int .i64 to) := by simp
  have HLT : Hid (w.heap.size + 1 < ((w.alloc (.cells #[.int .i64 fr, .int .i64 to] 23)).alloc (.cells #[.int .i64 0, .int .i64 0, .int .i64 0, .int .i64 0, .int .i64 0, .int .i64 0, .int .i64 0, .int .i64 0] 28)).heap.size) := Lib.hid (by simp)
  clear hX0
  have HFI := Lib.hid (fitP_sco k s o v)
  have HOK : Hid (fitP k s o v = true → factP ⟨k, s, o, v, fr, to, kn, no⟩ = if okF ⟨k, s, o, v, fr, to, kn, no⟩ = true then (⟨k, s, o, v, fr, to, kn, no⟩, 0) else (f0, 70)) := Lib.hid fun h => factP_fit h
  have HNO : Hid (fitP k s o v = false → factP ⟨k, s, o, v, fr, to, kn, no⟩ = (f0, 270)) := Lib.hid fun h => factP_unfit h
  obtain ⟨q, hq⟩ : ∃ q, scoP k o v = q := ⟨_, rfl⟩
  have HSC : Hid (∀ W, Calls Try.prog 27 #[.int .i64 k, .int .i64 o, .int .i64 v] W fun e w' => e = .returned (.bool q) ∧ W = w') := Lib.hid fun W => hq ▸ scoped_any k o v W
  rw [hq] at HFI
  clear hq
  have hcs : s < 0 ∨ (0 ≤ s ∧ 20000 ≤ s) ∨ (0 ≤ s ∧ s < 20000 ∧ q = false) ∨ (0 ≤ s ∧ s < 20000 ∧ q = true) := by cases q <;> simp <;> omega
  have z0 := HZ0.out.at_ 0 (.int .i64 0) rfl
  have z1 := HZ0.out.at_ 1 (.int .i64 0) rfl
  have z2 := HZ0.out.at_ 2 (.int .i64 0) rfl
  have z3 := HZ0.out.at_ 3 (.int .i64 0) rfl
  have z4 := HZ0.out.at_ 4 (.int .i64 0) rfl
  have z5 := HZ0.out.at_ 5 (.int .i64 0) rfl
  have z6 := HZ0.out.at_ 6 (.int .i64 0) rfl
  have z7 := HZ0.out.at_ 7 (.int .i64 0) rfl
  have zf := HZ0.out.fz
  rcases hcs with h1 | ⟨h1, h2⟩ | ⟨h1, h2, rfl⟩ | ⟨h1, h2, rfl⟩
  · have HUN := Lib.hid (HNO.out (by rw [HFI.out]; simp <;> omega))
    go_enter Try.func12, Try.ntmps12
    go_wp2_with fail
    refine bodyPost_ret (v := .tuple #[.agg f0.enc.toArray, .int .i64 270]) (by simp [results, Try.results12, go_sem, z0, z1, z2, z3, z4, z5, z6, z7]; try rfl) rfl ?_
    rw [HUN.out]
    exact ⟨rfl, HX0.out⟩
  · have HUN := Lib.hid (HNO.out (by rw [HFI.out]; simp <;> omega))
    go_enter Try.func12, Try.ntmps12
    go_wp2_with fail
    refine bodyPost_ret (v := .tuple #[.agg f0.enc.toArray, .int .i64 270]) (by simp [results, Try.results12, go_sem, z0, z1, z2, z3, z4, z5, z6, z7]; try rfl) rfl ?_
    rw [HUN.out]
    exact ⟨rfl, HX0.out⟩
  · have HUN := Lib.hid (HNO.out (by rw [HFI.out]; simp <;> omega))
    go_enter Try.func12, Try.ntmps12
    go_wp2_with (go_at_call 27; refine (HSC.out _).mono ?_; rintro e w1 ⟨rfl, hw1⟩; subst hw1)
    refine bodyPost_ret (v := .tuple #[.agg f0.enc.toArray, .int .i64 270]) (by simp [results, Try.results12, go_sem, z0, z1, z2, z3, z4, z5, z6, z7]; try rfl) rfl ?_
    rw [HUN.out]
    exact ⟨rfl, HX0.out⟩
  · have HUN := Lib.hid (HOK.out (by rw [HFI.out]; simp <;> omega))
    clear HOK HNO
    obtain ⟨ok, hok⟩ : ∃ q, okF ⟨k, s, o, v, fr, to, kn, no⟩ = q := ⟨_, rfl⟩
    rw [hok] at HUN
    have HCK : Hid (∀ (W : World) (b : Nat), b = W.heap.size → Calls Try.prog 28 #[.slice (some ⟨b, 0, none⟩) 1 1] (W.alloc (.cells #[.int .i64 k, .int .i64 s, .int .i64 o, .int .i64 v, .int .i64 fr, .int .i64 to, .int .i64 kn, .int .i64 no] 28)) fun e w' => e = .returned (.int .i64 (if ok = true then 0 else 70)) ∧ Ext (W.alloc (.cells #[.int .i64 k, .int .i64 s, .int .i64 o, .int .i64 v, .int .i64 fr, .int .i64 to, .int .i64 kn, .int .i64 no] 28)) w') := Lib.hid fun W b hb => by
      subst hb
      have := rcheckF_any [⟨k, s, o, v, fr, to, kn, no⟩] _ 1 (W.alloc (.cells #[.int .i64 k, .int .i64 s, .int .i64 o, .int .i64 v, .int .i64 fr, .int .i64 to, .int .i64 kn, .int .i64 no] 28)) (sl_new W (Ft.enc ⟨k, s, o, v, fr, to, kn, no⟩) 8 28 rfl)
      rw [check_one, hok] at this
      exact this
    clear hok
    cases ok with
    | false =>
      rw [if_neg (by simp)] at HUN HCK
      go_enter Try.func12, Try.ntmps12
      go_wp2_with (first | (go_at_call 27; refine (HSC.out _).mono ?_; rintro e w1 ⟨rfl, hw1⟩; subst hw1; generalize ((w.alloc (.cells #[.int .i64 fr, .int .i64 to] 23)).alloc (.cells #[.int .i64 0, .int .i64 0, .int .i64 0, .int .i64 0, .int .i64 0, .int .i64 0, .int .i64 0, .int .i64 0] 28)) = w2 at *) | (go_at_call 28; refine (HCK.out _ _ (by simp)).mono ?_; rintro e w3 ⟨rfl, hE3⟩; have HE3 := Lib.hid ((((Ext.refl w2).alloc (.cells #[.int .i64 k, .int .i64 s, .int .i64 o, .int .i64 v, .int .i64 fr, .int .i64 to, .int .i64 kn, .int .i64 no] 28)).alloc (.cells #[.int .i64 k, .int .i64 s, .int .i64 o, .int .i64 v, .int .i64 fr, .int .i64 to, .int .i64 kn, .int .i64 no] 28)).trans hE3); replace z0 := HE3.out.cell z0; replace z1 := HE3.out.cell z1; replace z2 := HE3.out.cell z2; replace z3 := HE3.out.cell z3; replace z4 := HE3.out.cell z4; replace z5 := HE3.out.cell z5; replace z6 := HE3.out.cell z6; replace z7 := HE3.out.cell z7; have a0 : w3.cell? ⟨w2.heap.size, 0, none⟩ = some (.int .i64 k) := hE3.cell (by simp); have a1 : w3.cell? ⟨w2.heap.size, 1, none⟩ = some (.int .i64 s) := hE3.cell (by simp); have a2 : w3.cell? ⟨w2.heap.size, 2, none⟩ = some (.int .i64 o) := hE3.cell (by simp); have a3 : w3.cell? ⟨w2.heap.size, 3, none⟩ = some (.int .i64 v) := hE3.cell (by simp); have a4 : w3.cell? ⟨w2.heap.size, 4, none⟩ = some (.int .i64 fr) := hE3.cell (by simp); have a5 : w3.cell? ⟨w2.heap.size, 5, none⟩ = some (.int .i64 to) := hE3.cell (by simp); have a6 : w3.cell? ⟨w2.heap.size, 6, none⟩ = some (.int .i64 kn) := hE3.cell (by simp); have a7 : w3.cell? ⟨w2.heap.size, 7, none⟩ = some (.int .i64 no) := hE3.cell (by simp); replace zf := (HZ0.out.ext HLT.out HE3.out).fz; clear hE3))
      rw [setCell_id z0, setCell_id z1, setCell_id z2, setCell_id z3, setCell_id z4, setCell_id z5, setCell_id z6, setCell_id z7]
      refine bodyPost_ret (v := .tuple #[.agg f0.enc.toArray, .int .i64 70]) (by simp [results, Try.results12, go_sem, z0, z1, z2, z3, z4, z5, z6, z7]; try rfl) rfl ?_
      rw [HUN.out]
      exact ⟨rfl, HX0.out.trans HE3.out⟩
    | true =>
      rw [if_pos rfl] at HUN HCK
      go_enter Try.func12, Try.ntmps12
      go_wp2_with (first | (go_at_call 27; refine (HSC.out _).mono ?_; rintro e w1 ⟨rfl, hw1⟩; subst hw1; generalize ((w.alloc (.cells #[.int .i64 fr, .int .i64 to] 23)).alloc (.cells #[.int .i64 0, .int .i64 0, .int .i64 0, .int .i64 0, .int .i64 0, .int .i64 0, .int .i64 0, .int .i64 0] 28)) = w2 at *) | (go_at_call 28; refine (HCK.out _ _ (by simp)).mono ?_; rintro e w3 ⟨rfl, hE3⟩; have HE3 := Lib.hid ((((Ext.refl w2).alloc (.cells #[.int .i64 k, .int .i64 s, .int .i64 o, .int .i64 v, .int .i64 fr, .int .i64 to, .int .i64 kn, .int .i64 no] 28)).alloc (.cells #[.int .i64 k, .int .i64 s, .int .i64 o, .int .i64 v, .int .i64 fr, .int .i64 to, .int .i64 kn, .int .i64 no] 28)).trans hE3); replace z0 := HE3.out.cell z0; replace z1 := HE3.out.cell z1; replace z2 := HE3.out.cell z2; replace z3 := HE3.out.cell z3; replace z4 := HE3.out.cell z4; replace z5 := HE3.out.cell z5; replace z6 := HE3.out.cell z6; replace z7 := HE3.out.cell z7; have a0 : w3.cell? ⟨w2.heap.size, 0, none⟩ = some (.int .i64 k) := hE3.cell (by simp); have a1 : w3.cell? ⟨w2.heap.size, 1, none⟩ = some (.int .i64 s) := hE3.cell (by simp); have a2 : w3.cell? ⟨w2.heap.size, 2, none⟩ = some (.int .i64 o) := hE3.cell (by simp); have a3 : w3.cell? ⟨w2.heap.size, 3, none⟩ = some (.int .i64 v) := hE3.cell (by simp); have a4 : w3.cell? ⟨w2.heap.size, 4, none⟩ = some (.int .i64 fr) := hE3.cell (by simp); have a5 : w3.cell? ⟨w2.heap.size, 5, none⟩ = some (.int .i64 to) := hE3.cell (by simp); have a6 : w3.cell? ⟨w2.heap.size, 6, none⟩ = some (.int .i64 kn) := hE3.cell (by simp); have a7 : w3.cell? ⟨w2.heap.size, 7, none⟩ = some (.int .i64 no) := hE3.cell (by simp); replace zf := (HZ0.out.ext HLT.out HE3.out).fz; clear hE3))
      refine bodyPost_ret (v := .tuple #[.agg (⟨k, s, o, v, fr, to, kn, no⟩ : Ft).enc.toArray, .int .i64 0]) (by simp [results, Try.results12, go_sem, z0, z1, z2, z3, z4, z5, z6, z7, Ft.enc]; try rfl) rfl ?_
      rw [HUN.out]
      refine ⟨rfl, ?_⟩
      repeat refine Below.setCell ?_ (by simp) _
      exact HX0.out.trans HE3.out
end Go.Proofs.Ytbniicobkhiniaa
