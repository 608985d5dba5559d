import Derived.Test.YtahaplioegeloaaDoorC1
namespace Go.Proofs.YtahaplioegeloaaDoor
open Go.RowKit Go.Sz

theorem wf1 (n : Int) (s : ByteArray) (l : List V) : V.wf (.mk 1 n s l) = (decide (s.toList = []) && ((l.length : Int) == 0)) := by rw [formed_spec1, size_beq, isEmpty_len]
theorem wf2 (n : Int) (s : ByteArray) (l : List V) : V.wf (.mk 2 n s l) = ((n == 0) && ((l.length : Int) == 0)) := by rw [formed_spec2, isEmpty_len]
theorem wf3 (n : Int) (s : ByteArray) (l : List V) : V.wf (.mk 3 n s l) = ((n == 0) && decide (s.toList = []) && V.wfL l) := by rw [formed_spec3, size_beq]

set_option maxHeartbeats 1600000 in
theorem Formed_leaf (k n : Int) (s : ByteArray) (ao : Option Addr) (cap : Nat) (l : List V) (w : World) (h3 : ¬ k = 3) :
    Calls Tryd.prog 70 #[.agg #[.int .i64 k, .int .i64 n, .string s, .slice ao l.length cap]] w fun e w' => e = .returned (.bool (V.wf (.mk k n s l))) ∧ Ext w w' := by
  by_cases h1 : k = 1
  · subst h1
    have HX := Lib.hid (wf1 n s l)
    by_cases hs : s.toList = []
    all_goals
      first | (have hs' : s.toList.isEmpty = true := by simp [hs]) | (have hs' : s.toList.isEmpty = false := by simp [hs])
      by_cases hll : ((l.length : Int) == 0) = true
      all_goals
        (try simp only [Bool.not_eq_true] at hll)
        go_enter Tryd.func70, Tryd.ntmps70
        go_wp2_with fail
        go_ret
        exact ⟨by rw [HX.out]; simp [hs, hll], by repeat (first | exact Ext.refl _ | refine Ext.alloc ?_ _)⟩
  · by_cases h2 : k = 2
    · subst h2
      have HX := Lib.hid (wf2 n s l)
      by_cases hn0 : (n == 0) = true
      all_goals
        by_cases hll : ((l.length : Int) == 0) = true
        all_goals
          (try simp only [Bool.not_eq_true] at hll)
          (try simp only [Bool.not_eq_true] at hn0)
          go_enter Tryd.func70, Tryd.ntmps70
          go_wp2_with fail
          go_ret
          exact ⟨by rw [HX.out]; simp [hn0, hll], by repeat (first | exact Ext.refl _ | refine Ext.alloc ?_ _)⟩
    · have HX := Lib.hid (formed_specX k n s l h1 h2 h3)
      have e1 : (k == 1) = false := by simpa using h1
      have e2 : (k == 2) = false := by simpa using h2
      have e3 : (k == 3) = false := by simpa using h3
      clear h1 h2 h3
      go_enter Tryd.func70, Tryd.ntmps70
      go_wp2_with fail
      go_ret
      exact ⟨by rw [HX.out]; rfl, by repeat (first | exact Ext.refl _ | refine Ext.alloc ?_ _)⟩

set_option maxHeartbeats 3200000 in
theorem Formed_list (n : Int) (s : ByteArray) (ao : Option Addr) (cap : Nat) (l : List V) (w : World) (F : Nat → Prop) (rows : List (List Value))
    (hsl : SL w 4 ao cap rows) (hlen : rows.length = l.length) (hel : ∀ (i : Nat) (r : List Value) (x : V), rows[i]? = some r → l[i]? = some x → RepV w F r x)
    (ih : ∀ x ∈ l, ∀ (w : World) (cs : List Value), RepV w F cs x → Calls Tryd.prog 70 #[.agg cs.toArray] w fun e w' => e = .returned (.bool x.wf) ∧ Ext w w') :
    Calls Tryd.prog 70 #[.agg #[.int .i64 3, .int .i64 n, .string s, .slice ao l.length cap]] w fun e w' => e = .returned (.bool (V.wf (.mk 3 n s l))) ∧ Ext w w' := by
  have hmax := hsl.max
  have hle := hsl.le
  rw [hlen] at hle
  have HX := Lib.hid (wf3 n s l)
  have HL := Lib.hid hlen
  have HIH := Lib.hid ih
  have HEL := Lib.hid hel
  clear hlen ih hel
  go_enter Tryd.func70, Tryd.ntmps70
  go_wp2_with fail
  go_loopw [3] (fun i wr => ∃ k : Nat, k ≤ l.length ∧ i = .int .i64 k ∧ Ext (w.alloc (Obj.cells #[.int .i64 3, .int .i64 n, .string s, .slice ao l.length cap] 59)) wr ∧ V.wfL (l.take k) = true) (fun i _ => l.length - (intOf i).toNat)
  case atStart => exact ⟨0, by omega, rfl, Ext.refl _, rfl⟩
  case round =>
    obtain ⟨k, hk, rfl, hB1, hok⟩ := hrel
    have HK := Lib.hid hok
    clear hok
    have hB : Ext w wr := ((Ext.refl w).alloc _).trans hB1
    have m1 : wr.cell? ⟨w.heap.size, 1, none⟩ = some (.int .i64 n) := hB1.cell (by simp)
    have m2 : wr.cell? ⟨w.heap.size, 2, none⟩ = some (.string s) := hB1.cell (by simp)
    have m3 : wr.cell? ⟨w.heap.size, 3, none⟩ = some (.slice ao l.length cap) := hB1.cell (by simp)
    by_cases hlt : k < l.length
    · obtain ⟨b, o, rfl, bl⟩ := hsl.at (by omega) k (by have := HL.out; omega)
      obtain ⟨xk, xn, xs, xl, xa, xc, hxe, hR, q0, q1, q2, q3⟩ := rep_cells hsl HL.out HEL.out hB hlt
      have hwf := Lib.hid (V.wfL_take_succ hlt)
      have HB := Lib.hid (V.wfL_false hlt)
      have HC : Hid (∀ w, RepV w F [.int .i64 xk, .int .i64 xn, .string xs, .slice xa xl.length xc] (.mk xk xn xs xl) → Calls Tryd.prog 70 #[.agg #[.int .i64 xk, .int .i64 xn, .string xs, .slice xa xl.length xc]] w fun e w' => e = .returned (.bool l[k].wf) ∧ Ext w w') := fun w hr =>
        HIH.out _ (List.getElem_mem hlt) w _ (by rw [hxe]; exact hr)
      clear hxe
      obtain ⟨b', hb'⟩ : ∃ b' : Bool, b' = l[k].wf := ⟨_, rfl⟩
      rw [← hb'] at HC hwf
      have HW := Lib.hid hb'
      clear hb'
      cases b' with
      | true =>
        go_wp2_with (go_at_call 70; refine (HC.out _ hR).mono ?_; rintro e w' ⟨rfl, hE⟩)
        go_roundw
        case rel => exact ⟨k + 1, by omega, by go_num, hB1.trans hE, by rw [hwf.out, HK.out]; rfl⟩
        case measure => simp [intOf]; omega
      | false =>
        go_wp2_with (go_at_call 70; refine (HC.out _ hR).mono ?_; rintro e w' ⟨rfl, hE⟩)
        go_ret
        exact ⟨by rw [HX.out, HB.out HW.out.symm, Bool.and_false]; rfl, hB.trans hE⟩
    · have hl : V.wfL l = true := by
        have h := HK.out
        rwa [List.take_of_length_le (by omega)] at h
      have HL2 := Lib.hid hl
      clear hl
      by_cases hs : s.toList = []
      all_goals
        first | (have hs' : s.toList.isEmpty = true := by simp [hs]) | (have hs' : s.toList.isEmpty = false := by simp [hs])
        by_cases hn0 : (n == 0) = true
        all_goals
          (try simp only [Bool.not_eq_true] at hn0)
          go_wp2_with fail
          go_ret
          exact ⟨by rw [HX.out, HL2.out]; simp [hs, hn0], hB⟩

theorem Formed_any (N : Nat) : ∀ v : V, v.ht ≤ N → ∀ (w : World) (F : Nat → Prop) (cs : List Value), RepV w F cs v →
    Calls Tryd.prog 70 #[.agg cs.toArray] w fun e w' => e = .returned (.bool v.wf) ∧ Ext w w' := by
  induction N with
  | zero => intro v hv; cases v; simp [V.ht] at hv
  | succ N ih =>
    intro v hv w F cs hR
    cases v with
    | mk k n s l =>
      obtain ⟨ao, cap, rows, rfl, hk, hn, hs, hsl, hF, hlen, hel⟩ := hR.open
      by_cases h3 : k = 3
      · subst h3
        exact Formed_list n s ao cap l w F rows hsl hlen hel fun x hx w cs hr => ih x (by have := V.htL_mem hx; simp only [V.ht] at hv; omega) w F cs hr
      · exact Formed_leaf _ _ _ _ _ _ _ h3

theorem depL_take_le {l : List V} {k N : Nat} (h : ∀ x ∈ l, x.dep ≤ N) : V.depL (l.take k) ≤ N := V.depL_le fun x hx => h x (List.mem_of_mem_take hx)

set_option maxHeartbeats 3200000 in
theorem Depth_list (n : Int) (s : ByteArray) (ao : Option Addr) (cap : Nat) (l : List V) (w : World) (F : Nat → Prop) (rows : List (List Value))
    (hsl : SL w 4 ao cap rows) (hlen : rows.length = l.length) (hel : ∀ (i : Nat) (r : List Value) (x : V), rows[i]? = some r → l[i]? = some x → RepV w F r x)
    (hd : ∀ x ∈ l, x.dep ≤ 1000000)
    (ih : ∀ x ∈ l, ∀ (w : World) (cs : List Value), RepV w F cs x → Calls Tryd.prog 71 #[.agg cs.toArray] w fun e w' => e = .returned (.int .i64 x.dep) ∧ Ext w w') :
    Calls Tryd.prog 71 #[.agg #[.int .i64 3, .int .i64 n, .string s, .slice ao l.length cap]] w fun e w' => e = .returned (.int .i64 (V.dep (.mk 3 n s l))) ∧ Ext w w' := by
  have hmax := hsl.max
  have hle := hsl.le
  rw [hlen] at hle
  have HX := Lib.hid (show ((V.dep (.mk 3 n s l) : Nat) : Int) = V.depL l + 1 from by simp [V.dep])
  have HL := Lib.hid hlen
  have HIH := Lib.hid ih
  have HEL := Lib.hid hel
  have HD := Lib.hid hd
  clear hlen ih hel hd
  go_enter Tryd.func71, Tryd.ntmps71
  go_wp2_with fail
  go_loopw [3, 4] (fun d i wr => ∃ k : Nat, k ≤ l.length ∧ i = .int .i64 k ∧ d = .int .i64 (V.depL (l.take k)) ∧ Ext (w.alloc (Obj.cells #[.int .i64 3, .int .i64 n, .string s, .slice ao l.length cap] 59)) wr) (fun _ i _ => l.length - (intOf i).toNat)
  case atStart => exact ⟨0, by omega, rfl, rfl, Ext.refl _⟩
  case round =>
    obtain ⟨k, hk, rfl, rfl, hB1⟩ := hrel
    have hB : Ext w wr := ((Ext.refl w).alloc _).trans hB1
    have m3 : wr.cell? ⟨w.heap.size, 3, none⟩ = some (.slice ao l.length cap) := hB1.cell (by simp)
    have hd0 : V.depL (l.take k) ≤ 1000000 := depL_take_le HD.out
    by_cases hlt : k < l.length
    · obtain ⟨b, o, rfl, bl⟩ := hsl.at (by omega) k (by have := HL.out; omega)
      obtain ⟨xk, xn, xs, xl, xa, xc, hxe, hR, q0, q1, q2, q3⟩ := rep_cells hsl HL.out HEL.out hB hlt
      have hdp := Lib.hid (V.depL_take_succ hlt)
      have hd1 := HD.out _ (List.getElem_mem hlt)
      have HC : Hid (∀ w, RepV w F [.int .i64 xk, .int .i64 xn, .string xs, .slice xa xl.length xc] (.mk xk xn xs xl) → Calls Tryd.prog 71 #[.agg #[.int .i64 xk, .int .i64 xn, .string xs, .slice xa xl.length xc]] w fun e w' => e = .returned (.int .i64 l[k].dep) ∧ Ext w w') := fun w hr =>
        HIH.out _ (List.getElem_mem hlt) w _ (by rw [hxe]; exact hr)
      clear hxe
      obtain ⟨d, hdd⟩ : ∃ d : Nat, d = l[k].dep := ⟨_, rfl⟩
      rw [← hdd] at HC hdp hd1
      clear hdd
      go_wp2_with (go_at_call 71; refine (HC.out _ hR).mono ?_; rintro e w' ⟨rfl, hE⟩)
      go_roundw
      case rel => exact ⟨k + 1, by omega, by go_num, by rw [hdp.out]; congr 1; split <;> omega, hB1.trans hE⟩
      case measure => simp [intOf]; omega
    · have hl : l.take k = l := List.take_of_length_le (by omega)
      have HL2 := Lib.hid hl
      clear hl
      go_wp2_with fail
      go_ret
      exact ⟨by rw [HX.out, ← HL2.out]; simp [HL2.out], hB⟩

theorem Depth_leaf (k n : Int) (s : ByteArray) (ao : Option Addr) (cap : Nat) (l : List V) (w : World) (h3 : ¬ k = 3) :
    Calls Tryd.prog 71 #[.agg #[.int .i64 k, .int .i64 n, .string s, .slice ao l.length cap]] w fun e w' => e = .returned (.int .i64 (V.dep (.mk k n s l))) ∧ Ext w w' := by
  have HX := Lib.hid (show ((V.dep (.mk k n s l) : Nat) : Int) = 0 from by simp [V.dep, h3])
  have e3 : (k != 3) = true := by simpa using h3
  clear h3
  go_enter Tryd.func71, Tryd.ntmps71
  go_wp2_with fail
  go_ret
  exact ⟨by rw [HX.out]; rfl, by repeat (first | exact Ext.refl _ | refine Ext.alloc ?_ _)⟩

theorem Depth_any (N : Nat) (hN : N ≤ 1000000) : ∀ v : V, v.ht ≤ N → ∀ (w : World) (F : Nat → Prop) (cs : List Value), RepV w F cs v →
    Calls Tryd.prog 71 #[.agg cs.toArray] w fun e w' => e = .returned (.int .i64 v.dep) ∧ Ext w w' := by
  induction N with
  | zero => intro v hv; cases v; simp [V.ht] at hv
  | succ N ih =>
    intro v hv w F cs hR
    cases v with
    | mk k n s l =>
      obtain ⟨ao, cap, rows, rfl, hk, hn, hs, hsl, hF, hlen, hel⟩ := hR.open
      by_cases h3 : k = 3
      · subst h3
        have hm : ∀ x ∈ l, x.ht ≤ N := fun x hx => by have := V.htL_mem hx; simp only [V.ht] at hv; omega
        exact Depth_list n s ao cap l w F rows hsl hlen hel (fun x hx => by have := V.dep_le_ht _ x (Nat.le_refl _); have := hm x hx; omega) fun x hx w cs hr => ih (by omega) x (hm x hx) w F cs hr
      · exact Depth_leaf _ _ _ _ _ _ _ h3

end Go.Proofs.YtahaplioegeloaaDoor
