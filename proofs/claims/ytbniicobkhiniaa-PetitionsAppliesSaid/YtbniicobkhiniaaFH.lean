/- Petitions: the scopes; Fact. -/
import Derived.Test.YtbniicobkhiniaaFG
namespace Go.Sz
open Go.RowKit
/-- the table of scopes -/
def tabP : List Value := [.int .i64 0, .int .i64 0, .int .i64 0, .int .i64 0, .int .i64 0, .int .i64 0, .int .i64 0, .int .i64 0, .int .i64 0, .int .i64 0, .int .i64 0, .int .i64 0, .int .i64 8, .int .i64 1, .int .i64 4096, .int .i64 1099511627776, .int .i64 4000, .int .i64 1099511627776, .int .i64 4096, .int .i64 1099511627776, .int .i64 1, .int .i64 1099511627776, .int .i64 8, .int .i64 1, .int .i64 0, .int .i64 0]
theorem tabP_at {n : Nat} (h : n < 13) : tabP[n * 2]? = some (.int .i64 (objP n)) ∧ tabP[n * 2 + 1]? = some (.int .i64 (mostP n)) := by
  match n, h with
  | 0, _ => exact ⟨rfl, rfl⟩
  | 1, _ => exact ⟨rfl, rfl⟩
  | 2, _ => exact ⟨rfl, rfl⟩
  | 3, _ => exact ⟨rfl, rfl⟩
  | 4, _ => exact ⟨rfl, rfl⟩
  | 5, _ => exact ⟨rfl, rfl⟩
  | 6, _ => exact ⟨rfl, rfl⟩
  | 7, _ => exact ⟨rfl, rfl⟩
  | 8, _ => exact ⟨rfl, rfl⟩
  | 9, _ => exact ⟨rfl, rfl⟩
  | 10, _ => exact ⟨rfl, rfl⟩
  | 11, _ => exact ⟨rfl, rfl⟩
  | 12, _ => exact ⟨rfl, rfl⟩
theorem wpList_put8 {P : Program} {ops : Array Oper} {rest : List Oper} {o : Oper} {a : Act} {w : World} {Q : Exit → Act → World → Prop} (hgd : o.guard = none) (ty : TypeId) (x y : Operand) (ho : o.op = .store ty x y)
    (b p : Nat) (f : Ft) (hx : a.eval x = .pointer (some ⟨b, p, none⟩)) (hy : a.eval y = .agg #[.int .i64 f.k, .int .i64 f.s, .int .i64 f.o, .int .i64 f.v, .int .i64 f.fr, .int .i64 f.to, .int .i64 f.kn, .int .i64 f.no])
    (hc : ∀ j, j < 8 → ∃ v, w.cell? ⟨b, p + j, none⟩ = some v) (hf : ∀ i, w.frozen? ⟨b, i, none⟩ = false) (hi : (P.info? ty).map (·.size) = some 8)
    (h : ∀ W4, W4 = put8 w b p f → wpList P ops Q rest (a.put o.dst undef) W4) : wpList P ops Q (o :: rest) a w := by
  refine wpList_store_mid hgd ty x y ho b p #[.int .i64 f.k, .int .i64 f.s, .int .i64 f.o, .int .i64 f.v, .int .i64 f.fr, .int .i64 f.to, .int .i64 f.kn, .int .i64 f.no] hx hy (fun j hj => by
    obtain ⟨v, hv⟩ := hc j (by simpa using hj)
    exact ⟨by rw [hv]; rfl, hf _⟩) hi (by simp [Value.oneCell']) ?_
  have := h _ rfl
  rw [← setCells_put8] at this
  exact this
theorem put8_ext {w W : World} {B : Nat} (h : Ext w W) (hB : w.heap.size ≤ B) (p : Nat) (x : Ft) : Ext w (put8 W B p x) := by
  unfold put8 Ext
  repeat refine Below.setCell ?_ (by simpa) _
  exact h
/-- a block of one fact -/
theorem put8_at {W : World} {B : Nat} {x f : Ft} (h : CB W B x.enc) {j : Nat} (hj : j < 8) {u : Value} (hu : f.enc[j]? = some u) : (put8 W B 0 f).cell? ⟨B, j, none⟩ = some u := by
  refine (h.putF (p := 0) (by simp [Ft.enc]) f).at_ j u ?_
  have := set8_same (vs := x.enc) (p := 0) (by simp [Ft.enc]) f hj
  rw [Nat.zero_add] at this
  rw [this, hu]
theorem CB.has8 {W : World} {B : Nat} {x : Ft} (h : CB W B x.enc) (j : Nat) (hj : j < 8) : ∃ v, W.cell? ⟨B, 0 + j, none⟩ = some v :=
  ⟨x.enc[j]'(by simpa [Ft.enc] using hj), by rw [Nat.zero_add]; exact h.at_ j _ (List.getElem?_eq_getElem _)⟩
theorem factP_unfit {x : Ft} (h : fitP x.k x.s x.o x.v = false) : factP x = (f0, 270) := by unfold factP; rw [h]; rfl
theorem factP_fit {x : Ft} (h : fitP x.k x.s x.o x.v = true) : factP x = if okF x = true then (x, 0) else (f0, 70) := by unfold factP; rw [if_pos h]
/-- a fact and an error -/
def RetFact (r : Ft × Int) (w : World) (e : Ending) (w' : World) : Prop := e = .returned (.tuple #[.agg r.1.enc.toArray, .int .i64 r.2]) ∧ Ext w w'
end Go.Sz
namespace Go.Proofs.Ytbniicobkhiniaa
open Go.RowKit Go.Sz
set_option maxRecDepth 100000 in
set_option maxHeartbeats 6400000 in
theorem scopes_any (w : World) : Calls Try.prog 26 #[] w fun e w' => e = .returned (.agg tabP.toArray) ∧ Ext w w' := by
  go_enter Try.func26, Try.ntmps26
  go_wp2_with (refine wpList_store_row rfl 62 _ _ rfl w.heap.size tabP.toArray rfl rfl 62 _ (heap_alloc_new _ _) (by kernel_rfl) rfl (by kernel_rfl) ?_; have HH := Lib.hid (heap_alloc_new w (.cells tabP.toArray 62)); have HE := Lib.hid ((Ext.refl w).alloc (.cells tabP.toArray 62)); rw [alloc_row]; generalize (w.alloc (.cells tabP.toArray 62)) = w1 at *)
  refine bodyPost_ret (v := .agg tabP.toArray) (results_cell_row rfl _ _ w.heap.size 62 tabP.toArray (0, 0) _ rfl HH.out Try.underlying62 rfl (by kernel_rfl)) rfl ?_
  exact ⟨rfl, HE.out⟩
set_option maxRecDepth 100000 in
set_option maxHeartbeats 6400000 in
theorem fact_any (x : Ft) (w : World) : Calls Try.prog 11 #[.int .i64 x.k, .int .i64 x.s, .int .i64 x.o, .int .i64 x.v, .agg #[.int .i64 x.fr, .int .i64 x.to], .int .i64 x.kn, .int .i64 x.no] w (RetFact (factP x) w) := by
  obtain ⟨k, s, o, v, fr, to, kn, no⟩ := x
  dsimp only
  have hX0 : Ext w ((w.alloc (.cells #[.int .i64 fr, .int .i64 to] 23)).alloc (.cells #[.int .i64 0, .int .i64 0, .int .i64 0, .int .i64 0, .int .i64 0, .int .i64 0, .int .i64 0, .int .i64 0] 28)) := ((Ext.refl w).alloc _).alloc _
  have HX0 := Lib.hid hX0
  have HZ0 : Hid (CB ((w.alloc (.cells #[.int .i64 fr, .int .i64 to] 23)).alloc (.cells #[.int .i64 0, .int .i64 0, .int .i64 0, .int .i64 0, .int .i64 0, .int .i64 0, .int .i64 0, .int .i64 0] 28)) (w.heap.size + 1) f0.enc) := Lib.hid (by
    have := cb_new (w.alloc (.cells #[.int .i64 fr, .int .i64 to] 23)) f0.enc 28
    rwa [World.size_alloc] at this)
  have s0 : ((w.alloc (.cells #[.int .i64 fr, .int .i64 to] 23)).alloc (.cells #[.int .i64 0, .int .i64 0, .int .i64 0, .int .i64 0, .int .i64 0, .int .i64 0, .int .i64 0, .int .i64 0] 28)).cell? ⟨w.heap.size, 0, none⟩ = some (.int .i64 fr) := by simp
  have s1 : ((w.alloc (.cells #[.int .i64 fr, .int .i64 to] 23)).alloc (.cells #[.int .i64 0, .int .i64 0, .int .i64 0, .int .i64 0, .int .i64 0, .int .i64 0, .int .i64 0, .int .i64 0] 28)).cell? ⟨w.heap.size, 1, none⟩ = some (.int .i64 to) := by simp
  clear hX0
  by_cases hk : k < 0 ∨ 13 ≤ k
  · have HUN : Hid (factP ⟨k, s, o, v, fr, to, kn, no⟩ = (f0, 270)) := Lib.hid (factP_unfit (by unfold fitP; rcases hk with hk | hk <;> simp <;> omega))
    rcases hk with hk | hk
    all_goals
      go_enter Try.func11, Try.ntmps11
      go_wp2_with (first
        | (go_at_call 26; refine (scopes_any _).mono ?_; rintro e w1 ⟨rfl, hE1⟩; have HE1 := Lib.hid hE1; clear hE1)
        | (refine wpList_store_row rfl 62 _ _ rfl w1.heap.size tabP.toArray rfl rfl 62 _ (heap_alloc_new _ _) (by kernel_rfl) rfl (by kernel_rfl) ?_; rw [alloc_row]; have HX2 := Lib.hid ((HX0.out.trans HE1.out).alloc (.cells tabP.toArray 62)); have HCB := Lib.hid (cb_new w1 tabP 62); have HCZ := Lib.hid ((HZ0.out.ext (by simp) (HE1.out.alloc (.cells tabP.toArray 62)))); replace s0 := (HE1.out.alloc (.cells tabP.toArray 62)).cell s0; replace s1 := (HE1.out.alloc (.cells tabP.toArray 62)).cell s1; generalize (w1.alloc (.cells tabP.toArray 62)) = w2 at *; generalize w1.heap.size = B at *; have z0 := HCZ.out.at_ 0 (.int .i64 0) rfl; have z1 := HCZ.out.at_ 1 (.int .i64 0) rfl; have z2 := HCZ.out.at_ 2 (.int .i64 0) rfl; have z3 := HCZ.out.at_ 3 (.int .i64 0) rfl; have z4 := HCZ.out.at_ 4 (.int .i64 0) rfl; have z5 := HCZ.out.at_ 5 (.int .i64 0) rfl; have z6 := HCZ.out.at_ 6 (.int .i64 0) rfl; have z7 := HCZ.out.at_ 7 (.int .i64 0) rfl; have zf := HCZ.out.fz))
      rw [setCell_id z0, setCell_id z1, setCell_id z2, setCell_id z3, setCell_id z4, setCell_id z5, setCell_id z6, setCell_id z7]
      refine bodyPost_ret (v := .tuple #[.agg f0.enc.toArray, .int .i64 270]) (by simp [results, Try.results11, go_sem, z0, z1, z2, z3, z4, z5, z6, z7]; try rfl) rfl ?_
      rw [HUN.out]
      exact ⟨rfl, HX2.out⟩
  · obtain ⟨n, rfl, hn⟩ : ∃ n : Nat, k = (n : Int) ∧ n < 13 := ⟨k.toNat, by omega, by omega⟩
    clear hk
    have hn1 : (0 : Int) ≤ (n : Int) := by omega
    have hn2 : (n : Int) < 13 := by omega
    have HTB := Lib.hid (tabP_at hn)
    obtain ⟨ov, hov⟩ : ∃ ov, objP n = ov := ⟨_, rfl⟩
    obtain ⟨mv, hmv⟩ : ∃ mv, mostP n = mv := ⟨_, rfl⟩
    rw [hov, hmv] at HTB
    have HFI : Hid (fitP n s o v = (decide (0 ≤ s) && decide (s < 20000) && decide (0 ≤ o) && decide (o < ov) && (v == -1 || (decide (1 ≤ v) && decide (v ≤ mv))))) := Lib.hid (by unfold fitP; rw [hov, hmv, decide_eq_true hn1, decide_eq_true hn2]; rfl)
    have HOK : Hid (fitP n s o v = true → factP ⟨(n : Int), s, o, v, fr, to, kn, no⟩ = if okF ⟨(n : Int), s, o, v, fr, to, kn, no⟩ = true then (⟨(n : Int), s, o, v, fr, to, kn, no⟩, 0) else (f0, 70)) := Lib.hid fun h => factP_fit h
    have HNO : Hid (fitP n s o v = false → factP ⟨(n : Int), s, o, v, fr, to, kn, no⟩ = (f0, 270)) := Lib.hid fun h => factP_unfit h
    have hn3 : decide ((n : Int) < 0) = false := decide_eq_false (by omega)
    have hn4 : decide (13 ≤ (n : Int)) = false := decide_eq_false (by omega)
    have hn5 : decide ((n : Int) ≥ 13) = false := decide_eq_false (by omega)
    clear hov hmv hn
    have hcs : s < 0 ∨ (0 ≤ s ∧ 20000 ≤ s) ∨ (0 ≤ s ∧ s < 20000 ∧ o < 0) ∨ (0 ≤ s ∧ s < 20000 ∧ 0 ≤ o ∧ ov ≤ o) ∨ (0 ≤ s ∧ s < 20000 ∧ 0 ≤ o ∧ o < ov ∧ v ≠ -1 ∧ v < 1) ∨ (0 ≤ s ∧ s < 20000 ∧ 0 ≤ o ∧ o < ov ∧ v ≠ -1 ∧ 1 ≤ v ∧ mv < v) ∨ (0 ≤ s ∧ s < 20000 ∧ 0 ≤ o ∧ o < ov ∧ v ≠ -1 ∧ 1 ≤ v ∧ v ≤ mv) ∨ (0 ≤ s ∧ s < 20000 ∧ 0 ≤ o ∧ o < ov ∧ v = -1) := by omega
    have HCS := Lib.hid hcs
    clear hcs
    go_enter Try.func11, Try.ntmps11
    go_wp2_with (first
        | (go_at_call 26; refine (scopes_any _).mono ?_; rintro e w1 ⟨rfl, hE1⟩; have HE1 := Lib.hid hE1; clear hE1)
        | (refine wpList_store_row rfl 62 _ _ rfl w1.heap.size tabP.toArray rfl rfl 62 _ (heap_alloc_new _ _) (by kernel_rfl) rfl (by kernel_rfl) ?_; rw [alloc_row]; have HX2 := Lib.hid ((HX0.out.trans HE1.out).alloc (.cells tabP.toArray 62)); have HCB := Lib.hid (cb_new w1 tabP 62); have HCZ := Lib.hid ((HZ0.out.ext (by simp) (HE1.out.alloc (.cells tabP.toArray 62)))); replace s0 := (HE1.out.alloc (.cells tabP.toArray 62)).cell s0; replace s1 := (HE1.out.alloc (.cells tabP.toArray 62)).cell s1; generalize (w1.alloc (.cells tabP.toArray 62)) = w2 at *; have HLT := Lib.hid (show w.heap.size + 1 < w2.heap.size from (HCZ.out.lt (v := .int .i64 0) rfl)); have g0 := HCB.out.at_ (n * 2) _ HTB.out.1; have g1 := HCB.out.at_ (n * 2 + 1) _ HTB.out.2; generalize w1.heap.size = B at *; have z0 := HCZ.out.at_ 0 (.int .i64 0) rfl; have z1 := HCZ.out.at_ 1 (.int .i64 0) rfl; have z2 := HCZ.out.at_ 2 (.int .i64 0) rfl; have z3 := HCZ.out.at_ 3 (.int .i64 0) rfl; have z4 := HCZ.out.at_ 4 (.int .i64 0) rfl; have z5 := HCZ.out.at_ 5 (.int .i64 0) rfl; have z6 := HCZ.out.at_ 6 (.int .i64 0) rfl; have z7 := HCZ.out.at_ 7 (.int .i64 0) rfl; have zf := HCZ.out.fz; apply Hid.out))
    refine Lib.hid ?_
    rcases HCS.out with h1 | ⟨h1, h2⟩ | ⟨h1, h2, h3⟩ | ⟨h1, h2, h3, h4⟩ | ⟨h1, h2, h3, h4, h5, h6⟩ | ⟨h1, h2, h3, h4, h5, h6, h7⟩ | ⟨h1, h2, h3, h4, h5, h6, h7⟩ | ⟨h1, h2, h3, h4, rfl⟩
    · have HUN := Lib.hid (HNO.out (by rw [HFI.out]; simp <;> omega))
      have D1 : decide (s < 0) = true := decide_eq_true (by omega)
      have E1 : decide (0 > s) = true := decide_eq_true (by omega)
      go_wp2_with fail
      rw [setCell_id z0, setCell_id z1, setCell_id z2, setCell_id z3, setCell_id z4, setCell_id z5, setCell_id z6, setCell_id z7]
      refine bodyPost_ret (v := .tuple #[.agg f0.enc.toArray, .int .i64 270]) (by simp [results, Try.results11, go_sem, z0, z1, z2, z3, z4, z5, z6, z7]; try rfl) rfl ?_
      rw [HUN.out]
      exact ⟨rfl, HX2.out⟩
    · have HUN := Lib.hid (HNO.out (by rw [HFI.out]; simp <;> omega))
      have D1 : decide (s < 0) = false := decide_eq_false (by omega)
      have E1 : decide (0 > s) = false := decide_eq_false (by omega)
      have D2 : decide (s ≥ 20000) = true := decide_eq_true (by omega)
      have E2 : decide (20000 ≤ s) = true := decide_eq_true (by omega)
      go_wp2_with fail
      rw [setCell_id z0, setCell_id z1, setCell_id z2, setCell_id z3, setCell_id z4, setCell_id z5, setCell_id z6, setCell_id z7]
      refine bodyPost_ret (v := .tuple #[.agg f0.enc.toArray, .int .i64 270]) (by simp [results, Try.results11, go_sem, z0, z1, z2, z3, z4, z5, z6, z7]; try rfl) rfl ?_
      rw [HUN.out]
      exact ⟨rfl, HX2.out⟩
    · have HUN := Lib.hid (HNO.out (by rw [HFI.out]; simp <;> omega))
      have D1 : decide (s < 0) = false := decide_eq_false (by omega)
      have E1 : decide (0 > s) = false := decide_eq_false (by omega)
      have D2 : decide (s ≥ 20000) = false := decide_eq_false (by omega)
      have E2 : decide (20000 ≤ s) = false := decide_eq_false (by omega)
      have D3 : decide (o < 0) = true := decide_eq_true (by omega)
      have E3 : decide (0 > o) = true := decide_eq_true (by omega)
      go_wp2_with fail
      rw [setCell_id z0, setCell_id z1, setCell_id z2, setCell_id z3, setCell_id z4, setCell_id z5, setCell_id z6, setCell_id z7]
      refine bodyPost_ret (v := .tuple #[.agg f0.enc.toArray, .int .i64 270]) (by simp [results, Try.results11, go_sem, z0, z1, z2, z3, z4, z5, z6, z7]; try rfl) rfl ?_
      rw [HUN.out]
      exact ⟨rfl, HX2.out⟩
    · have HUN := Lib.hid (HNO.out (by rw [HFI.out]; simp <;> omega))
      have D1 : decide (s < 0) = false := decide_eq_false (by omega)
      have E1 : decide (0 > s) = false := decide_eq_false (by omega)
      have D2 : decide (s ≥ 20000) = false := decide_eq_false (by omega)
      have E2 : decide (20000 ≤ s) = false := decide_eq_false (by omega)
      have D3 : decide (o < 0) = false := decide_eq_false (by omega)
      have E3 : decide (0 > o) = false := decide_eq_false (by omega)
      have D4 : decide (o ≥ ov) = true := decide_eq_true (by omega)
      have E4 : decide (ov ≤ o) = true := decide_eq_true (by omega)
      go_wp2_with fail
      rw [setCell_id z0, setCell_id z1, setCell_id z2, setCell_id z3, setCell_id z4, setCell_id z5, setCell_id z6, setCell_id z7]
      refine bodyPost_ret (v := .tuple #[.agg f0.enc.toArray, .int .i64 270]) (by simp [results, Try.results11, go_sem, z0, z1, z2, z3, z4, z5, z6, z7]; try rfl) rfl ?_
      rw [HUN.out]
      exact ⟨rfl, HX2.out⟩
    · have HUN := Lib.hid (HNO.out (by rw [HFI.out]; simp <;> omega))
      have D1 : decide (s < 0) = false := decide_eq_false (by omega)
      have E1 : decide (0 > s) = false := decide_eq_false (by omega)
      have D2 : decide (s ≥ 20000) = false := decide_eq_false (by omega)
      have E2 : decide (20000 ≤ s) = false := decide_eq_false (by omega)
      have D3 : decide (o < 0) = false := decide_eq_false (by omega)
      have E3 : decide (0 > o) = false := decide_eq_false (by omega)
      have D4 : decide (o ≥ ov) = false := decide_eq_false (by omega)
      have E4 : decide (ov ≤ o) = false := decide_eq_false (by omega)
      have D5 : (v != -1) = true := by simp [h5]
      have D6 : decide (v < 1) = true := decide_eq_true (by omega)
      have E6 : decide (1 > v) = true := decide_eq_true (by omega)
      go_wp2_with fail
      rw [setCell_id z0, setCell_id z1, setCell_id z2, setCell_id z3, setCell_id z4, setCell_id z5, setCell_id z6, setCell_id z7]
      refine bodyPost_ret (v := .tuple #[.agg f0.enc.toArray, .int .i64 270]) (by simp [results, Try.results11, go_sem, z0, z1, z2, z3, z4, z5, z6, z7]; try rfl) rfl ?_
      rw [HUN.out]
      exact ⟨rfl, HX2.out⟩
    · have HUN := Lib.hid (HNO.out (by rw [HFI.out]; simp <;> omega))
      have D1 : decide (s < 0) = false := decide_eq_false (by omega)
      have E1 : decide (0 > s) = false := decide_eq_false (by omega)
      have D2 : decide (s ≥ 20000) = false := decide_eq_false (by omega)
      have E2 : decide (20000 ≤ s) = false := decide_eq_false (by omega)
      have D3 : decide (o < 0) = false := decide_eq_false (by omega)
      have E3 : decide (0 > o) = false := decide_eq_false (by omega)
      have D4 : decide (o ≥ ov) = false := decide_eq_false (by omega)
      have E4 : decide (ov ≤ o) = false := decide_eq_false (by omega)
      have D5 : (v != -1) = true := by simp [h5]
      have D6 : decide (v < 1) = false := decide_eq_false (by omega)
      have E6 : decide (1 > v) = false := decide_eq_false (by omega)
      have D7 : decide (v > mv) = true := decide_eq_true (by omega)
      have E7 : decide (mv < v) = true := decide_eq_true (by omega)
      go_wp2_with fail
      rw [setCell_id z0, setCell_id z1, setCell_id z2, setCell_id z3, setCell_id z4, setCell_id z5, setCell_id z6, setCell_id z7]
      refine bodyPost_ret (v := .tuple #[.agg f0.enc.toArray, .int .i64 270]) (by simp [results, Try.results11, go_sem, z0, z1, z2, z3, z4, z5, z6, z7]; try rfl) rfl ?_
      rw [HUN.out]
      exact ⟨rfl, HX2.out⟩
    · have HUN := Lib.hid (HOK.out (by rw [HFI.out]; simp <;> omega))
      clear HOK HNO
      have D1 : decide (s < 0) = false := decide_eq_false (by omega)
      have E1 : decide (0 > s) = false := decide_eq_false (by omega)
      have D2 : decide (s ≥ 20000) = false := decide_eq_false (by omega)
      have E2 : decide (20000 ≤ s) = false := decide_eq_false (by omega)
      have D3 : decide (o < 0) = false := decide_eq_false (by omega)
      have E3 : decide (0 > o) = false := decide_eq_false (by omega)
      have D4 : decide (o ≥ ov) = false := decide_eq_false (by omega)
      have E4 : decide (ov ≤ o) = false := decide_eq_false (by omega)
      have D5 : (v != -1) = true := by simp [h5]
      have D6 : decide (v < 1) = false := decide_eq_false (by omega)
      have E6 : decide (1 > v) = false := decide_eq_false (by omega)
      have D7 : decide (v > mv) = false := decide_eq_false (by omega)
      have E7 : decide (mv < v) = false := decide_eq_false (by omega)
      obtain ⟨ok, hok⟩ : ∃ q, okF ⟨(n : Int), s, o, v, fr, to, kn, no⟩ = q := ⟨_, rfl⟩
      rw [hok] at HUN
      have HCK : Hid (∀ (W : World) (b : Nat), b = W.heap.size → Calls Try.prog 22 #[.slice (some ⟨b, 0, none⟩) 1 1] (W.alloc (.cells #[.int .i64 n, .int .i64 s, .int .i64 o, .int .i64 v, .int .i64 fr, .int .i64 to, .int .i64 kn, .int .i64 no] 28)) fun e w' => e = .returned (.int .i64 (if ok = true then 0 else 70)) ∧ Ext (W.alloc (.cells #[.int .i64 n, .int .i64 s, .int .i64 o, .int .i64 v, .int .i64 fr, .int .i64 to, .int .i64 kn, .int .i64 no] 28)) w') := Lib.hid fun W b hb => by
        subst hb
        have := checkF_any [⟨(n : Int), s, o, v, fr, to, kn, no⟩] _ 1 (W.alloc (.cells #[.int .i64 n, .int .i64 s, .int .i64 o, .int .i64 v, .int .i64 fr, .int .i64 to, .int .i64 kn, .int .i64 no] 28)) (sl_new W (Ft.enc ⟨(n : Int), s, o, v, fr, to, kn, no⟩) 8 28 rfl)
        rw [check_one, hok] at this
        exact this
      clear hok
      cases ok with
      | false =>
        rw [if_neg (by simp)] at HUN HCK
        go_wp2_with (go_at_call 22; refine (HCK.out _ _ (by simp)).mono ?_; rintro e w3 ⟨rfl, hE3⟩; have HE3 := Lib.hid ((((Ext.refl w2).alloc (.cells #[.int .i64 n, .int .i64 s, .int .i64 o, .int .i64 v, .int .i64 fr, .int .i64 to, .int .i64 kn, .int .i64 no] 28)).alloc (.cells #[.int .i64 n, .int .i64 s, .int .i64 o, .int .i64 v, .int .i64 fr, .int .i64 to, .int .i64 kn, .int .i64 no] 28)).trans hE3); replace z0 := HE3.out.cell z0; replace z1 := HE3.out.cell z1; replace z2 := HE3.out.cell z2; replace z3 := HE3.out.cell z3; replace z4 := HE3.out.cell z4; replace z5 := HE3.out.cell z5; replace z6 := HE3.out.cell z6; replace z7 := HE3.out.cell z7; have a0 : w3.cell? ⟨w2.heap.size, 0, none⟩ = some (.int .i64 n) := hE3.cell (by simp); have a1 : w3.cell? ⟨w2.heap.size, 1, none⟩ = some (.int .i64 s) := hE3.cell (by simp); have a2 : w3.cell? ⟨w2.heap.size, 2, none⟩ = some (.int .i64 o) := hE3.cell (by simp); have a3 : w3.cell? ⟨w2.heap.size, 3, none⟩ = some (.int .i64 v) := hE3.cell (by simp); have a4 : w3.cell? ⟨w2.heap.size, 4, none⟩ = some (.int .i64 fr) := hE3.cell (by simp); have a5 : w3.cell? ⟨w2.heap.size, 5, none⟩ = some (.int .i64 to) := hE3.cell (by simp); have a6 : w3.cell? ⟨w2.heap.size, 6, none⟩ = some (.int .i64 kn) := hE3.cell (by simp); have a7 : w3.cell? ⟨w2.heap.size, 7, none⟩ = some (.int .i64 no) := hE3.cell (by simp); replace zf := (HCZ.out.ext (by have := HLT.out; omega) HE3.out).fz; clear hE3)
        rw [setCell_id z0, setCell_id z1, setCell_id z2, setCell_id z3, setCell_id z4, setCell_id z5, setCell_id z6, setCell_id z7]
        refine bodyPost_ret (v := .tuple #[.agg f0.enc.toArray, .int .i64 70]) (by simp [results, Try.results11, go_sem, z0, z1, z2, z3, z4, z5, z6, z7]; try rfl) rfl ?_
        rw [HUN.out]
        exact ⟨rfl, HX2.out.trans HE3.out⟩
      | true =>
        rw [if_pos rfl] at HUN HCK
        go_wp2_with (go_at_call 22; refine (HCK.out _ _ (by simp)).mono ?_; rintro e w3 ⟨rfl, hE3⟩; have HE3 := Lib.hid ((((Ext.refl w2).alloc (.cells #[.int .i64 n, .int .i64 s, .int .i64 o, .int .i64 v, .int .i64 fr, .int .i64 to, .int .i64 kn, .int .i64 no] 28)).alloc (.cells #[.int .i64 n, .int .i64 s, .int .i64 o, .int .i64 v, .int .i64 fr, .int .i64 to, .int .i64 kn, .int .i64 no] 28)).trans hE3); replace z0 := HE3.out.cell z0; replace z1 := HE3.out.cell z1; replace z2 := HE3.out.cell z2; replace z3 := HE3.out.cell z3; replace z4 := HE3.out.cell z4; replace z5 := HE3.out.cell z5; replace z6 := HE3.out.cell z6; replace z7 := HE3.out.cell z7; have a0 : w3.cell? ⟨w2.heap.size, 0, none⟩ = some (.int .i64 n) := hE3.cell (by simp); have a1 : w3.cell? ⟨w2.heap.size, 1, none⟩ = some (.int .i64 s) := hE3.cell (by simp); have a2 : w3.cell? ⟨w2.heap.size, 2, none⟩ = some (.int .i64 o) := hE3.cell (by simp); have a3 : w3.cell? ⟨w2.heap.size, 3, none⟩ = some (.int .i64 v) := hE3.cell (by simp); have a4 : w3.cell? ⟨w2.heap.size, 4, none⟩ = some (.int .i64 fr) := hE3.cell (by simp); have a5 : w3.cell? ⟨w2.heap.size, 5, none⟩ = some (.int .i64 to) := hE3.cell (by simp); have a6 : w3.cell? ⟨w2.heap.size, 6, none⟩ = some (.int .i64 kn) := hE3.cell (by simp); have a7 : w3.cell? ⟨w2.heap.size, 7, none⟩ = some (.int .i64 no) := hE3.cell (by simp); replace zf := (HCZ.out.ext (by have := HLT.out; omega) HE3.out).fz; clear hE3)
        refine bodyPost_ret (v := .tuple #[.agg (⟨(n : Int), s, o, v, fr, to, kn, no⟩ : Ft).enc.toArray, .int .i64 0]) (by simp [results, Try.results11, go_sem, z0, z1, z2, z3, z4, z5, z6, z7, Ft.enc]; try rfl) rfl ?_
        rw [HUN.out]
        refine ⟨rfl, ?_⟩
        repeat refine Below.setCell ?_ (by simp) _
        exact HX2.out.trans HE3.out
    · have HUN := Lib.hid (HOK.out (by rw [HFI.out]; simp <;> omega))
      clear HOK HNO
      have D1 : decide (s < 0) = false := decide_eq_false (by omega)
      have E1 : decide (0 > s) = false := decide_eq_false (by omega)
      have D2 : decide (s ≥ 20000) = false := decide_eq_false (by omega)
      have E2 : decide (20000 ≤ s) = false := decide_eq_false (by omega)
      have D3 : decide (o < 0) = false := decide_eq_false (by omega)
      have E3 : decide (0 > o) = false := decide_eq_false (by omega)
      have D4 : decide (o ≥ ov) = false := decide_eq_false (by omega)
      have E4 : decide (ov ≤ o) = false := decide_eq_false (by omega)
      obtain ⟨ok, hok⟩ : ∃ q, okF ⟨(n : Int), s, o, (-1), fr, to, kn, no⟩ = q := ⟨_, rfl⟩
      rw [hok] at HUN
      have HCK : Hid (∀ (W : World) (b : Nat), b = W.heap.size → Calls Try.prog 22 #[.slice (some ⟨b, 0, none⟩) 1 1] (W.alloc (.cells #[.int .i64 n, .int .i64 s, .int .i64 o, .int .i64 (-1), .int .i64 fr, .int .i64 to, .int .i64 kn, .int .i64 no] 28)) fun e w' => e = .returned (.int .i64 (if ok = true then 0 else 70)) ∧ Ext (W.alloc (.cells #[.int .i64 n, .int .i64 s, .int .i64 o, .int .i64 (-1), .int .i64 fr, .int .i64 to, .int .i64 kn, .int .i64 no] 28)) w') := Lib.hid fun W b hb => by
        subst hb
        have := checkF_any [⟨(n : Int), s, o, (-1), fr, to, kn, no⟩] _ 1 (W.alloc (.cells #[.int .i64 n, .int .i64 s, .int .i64 o, .int .i64 (-1), .int .i64 fr, .int .i64 to, .int .i64 kn, .int .i64 no] 28)) (sl_new W (Ft.enc ⟨(n : Int), s, o, (-1), fr, to, kn, no⟩) 8 28 rfl)
        rw [check_one, hok] at this
        exact this
      clear hok
      cases ok with
      | false =>
        rw [if_neg (by simp)] at HUN HCK
        go_wp2_with (go_at_call 22; refine (HCK.out _ _ (by simp)).mono ?_; rintro e w3 ⟨rfl, hE3⟩; have HE3 := Lib.hid ((((Ext.refl w2).alloc (.cells #[.int .i64 n, .int .i64 s, .int .i64 o, .int .i64 (-1), .int .i64 fr, .int .i64 to, .int .i64 kn, .int .i64 no] 28)).alloc (.cells #[.int .i64 n, .int .i64 s, .int .i64 o, .int .i64 (-1), .int .i64 fr, .int .i64 to, .int .i64 kn, .int .i64 no] 28)).trans hE3); replace z0 := HE3.out.cell z0; replace z1 := HE3.out.cell z1; replace z2 := HE3.out.cell z2; replace z3 := HE3.out.cell z3; replace z4 := HE3.out.cell z4; replace z5 := HE3.out.cell z5; replace z6 := HE3.out.cell z6; replace z7 := HE3.out.cell z7; have a0 : w3.cell? ⟨w2.heap.size, 0, none⟩ = some (.int .i64 n) := hE3.cell (by simp); have a1 : w3.cell? ⟨w2.heap.size, 1, none⟩ = some (.int .i64 s) := hE3.cell (by simp); have a2 : w3.cell? ⟨w2.heap.size, 2, none⟩ = some (.int .i64 o) := hE3.cell (by simp); have a3 : w3.cell? ⟨w2.heap.size, 3, none⟩ = some (.int .i64 (-1)) := hE3.cell (by simp); have a4 : w3.cell? ⟨w2.heap.size, 4, none⟩ = some (.int .i64 fr) := hE3.cell (by simp); have a5 : w3.cell? ⟨w2.heap.size, 5, none⟩ = some (.int .i64 to) := hE3.cell (by simp); have a6 : w3.cell? ⟨w2.heap.size, 6, none⟩ = some (.int .i64 kn) := hE3.cell (by simp); have a7 : w3.cell? ⟨w2.heap.size, 7, none⟩ = some (.int .i64 no) := hE3.cell (by simp); replace zf := (HCZ.out.ext (by have := HLT.out; omega) HE3.out).fz; clear hE3)
        rw [setCell_id z0, setCell_id z1, setCell_id z2, setCell_id z3, setCell_id z4, setCell_id z5, setCell_id z6, setCell_id z7]
        refine bodyPost_ret (v := .tuple #[.agg f0.enc.toArray, .int .i64 70]) (by simp [results, Try.results11, go_sem, z0, z1, z2, z3, z4, z5, z6, z7]; try rfl) rfl ?_
        rw [HUN.out]
        exact ⟨rfl, HX2.out.trans HE3.out⟩
      | true =>
        rw [if_pos rfl] at HUN HCK
        go_wp2_with (go_at_call 22; refine (HCK.out _ _ (by simp)).mono ?_; rintro e w3 ⟨rfl, hE3⟩; have HE3 := Lib.hid ((((Ext.refl w2).alloc (.cells #[.int .i64 n, .int .i64 s, .int .i64 o, .int .i64 (-1), .int .i64 fr, .int .i64 to, .int .i64 kn, .int .i64 no] 28)).alloc (.cells #[.int .i64 n, .int .i64 s, .int .i64 o, .int .i64 (-1), .int .i64 fr, .int .i64 to, .int .i64 kn, .int .i64 no] 28)).trans hE3); replace z0 := HE3.out.cell z0; replace z1 := HE3.out.cell z1; replace z2 := HE3.out.cell z2; replace z3 := HE3.out.cell z3; replace z4 := HE3.out.cell z4; replace z5 := HE3.out.cell z5; replace z6 := HE3.out.cell z6; replace z7 := HE3.out.cell z7; have a0 : w3.cell? ⟨w2.heap.size, 0, none⟩ = some (.int .i64 n) := hE3.cell (by simp); have a1 : w3.cell? ⟨w2.heap.size, 1, none⟩ = some (.int .i64 s) := hE3.cell (by simp); have a2 : w3.cell? ⟨w2.heap.size, 2, none⟩ = some (.int .i64 o) := hE3.cell (by simp); have a3 : w3.cell? ⟨w2.heap.size, 3, none⟩ = some (.int .i64 (-1)) := hE3.cell (by simp); have a4 : w3.cell? ⟨w2.heap.size, 4, none⟩ = some (.int .i64 fr) := hE3.cell (by simp); have a5 : w3.cell? ⟨w2.heap.size, 5, none⟩ = some (.int .i64 to) := hE3.cell (by simp); have a6 : w3.cell? ⟨w2.heap.size, 6, none⟩ = some (.int .i64 kn) := hE3.cell (by simp); have a7 : w3.cell? ⟨w2.heap.size, 7, none⟩ = some (.int .i64 no) := hE3.cell (by simp); replace zf := (HCZ.out.ext (by have := HLT.out; omega) HE3.out).fz; clear hE3)
        refine bodyPost_ret (v := .tuple #[.agg (⟨(n : Int), s, o, (-1), fr, to, kn, no⟩ : Ft).enc.toArray, .int .i64 0]) (by simp [results, Try.results11, go_sem, z0, z1, z2, z3, z4, z5, z6, z7, Ft.enc]; try rfl) rfl ?_
        rw [HUN.out]
        refine ⟨rfl, ?_⟩
        repeat refine Below.setCell ?_ (by simp) _
        exact HX2.out.trans HE3.out
end Go.Proofs.Ytbniicobkhiniaa
