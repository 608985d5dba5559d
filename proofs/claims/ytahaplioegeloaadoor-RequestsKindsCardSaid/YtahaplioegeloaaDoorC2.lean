import Derived.Test.YtahaplioegeloaaDoorC1
namespace Go.Proofs.YtahaplioegeloaaDoor
open Go.RowKit Go.Sz

theorem formedR3g (s : ByteArray) (l : List V) (h : s.toList = []) : formedR (.mk 3 0 s l) = .returned (.tuple #[.int .i64 (if V.wfL l then (V.depL l + 1 : Int) else 0), .bool (V.wfL l)]) := by
  simp only [formedR, formed_spec3, size_beq, h, V.dep]; simp

set_option maxHeartbeats 3200000 in
theorem formed_list (s : ByteArray) (ao : Option Addr) (cap : Nat) (l : List V) (w : World) (F : Nat → Prop) (rows : List (List Value)) (hs : s.toList = [])
    (hsl : SL w 4 ao cap rows) (hlen : rows.length = l.length) (hel : ∀ (i : Nat) (r : List Value) (x : V), rows[i]? = some r → l[i]? = some x → RepV w F r x)
    (hd : V.depL l ≤ 1000000)
    (ih : ∀ x ∈ l, ∀ (w : World) (cs : List Value), RepV w F cs x → Calls Tryd.prog 64 #[.agg cs.toArray] w fun e w' => e = formedR x ∧ Ext w w') :
    Calls Tryd.prog 64 #[.agg #[.int .i64 3, .int .i64 0, .string s, .slice ao l.length cap]] w fun e w' => e = formedR (.mk 3 0 s l) ∧ Ext w w' := by
  have hmax := hsl.max
  have hle := hsl.le
  rw [hlen] at hle
  have HX := Lib.hid (formedR3g s l hs)
  have HL := Lib.hid hlen
  have HIH := Lib.hid ih
  have HEL := Lib.hid hel
  have HD := Lib.hid hd
  clear hlen ih hel hd
  by_cases hll : ((l.length : Int) == 0) = true
  all_goals
    (try simp only [Bool.not_eq_true] at hll)
    go_enter Tryd.func64, Tryd.ntmps64
    go_wp2_with fail
    clear hll hs
    go_loopw [2, 57] (fun d i wr => ∃ k : Nat, k ≤ l.length ∧ i = .int .i64 k ∧ d = .int .i64 (V.depL (l.take k)) ∧ V.depL (l.take k) ≤ 1000000 ∧ Ext w wr ∧ V.wfL (l.take k) = true) (fun _ i _ => l.length - (intOf i).toNat)
    case atStart => exact ⟨0, by omega, rfl, rfl, by simp [V.depL], by repeat (first | exact Ext.refl _ | refine Ext.alloc ?_ _), rfl⟩
    case round =>
      obtain ⟨k, hk, rfl, rfl, hdk, hB, hok⟩ := hrel
      have HK := Lib.hid hok
      clear hok
      by_cases hlt : k < l.length
      · obtain ⟨b, o, rfl, bl⟩ := hsl.at (by omega) k (by have := HL.out; omega)
        obtain ⟨xk, xn, xs, xl, xa, xc, hxe, hR, q0, q1, q2, q3⟩ := rep_cells hsl HL.out HEL.out hB hlt
        have HXE := Lib.hid hxe
        clear hxe
        have hwf := Lib.hid (V.wfL_take_succ hlt)
        have hdp := Lib.hid (V.depL_take_succ hlt)
        have hd1 : V.depL (l.take (k + 1)) ≤ 1000000 := Nat.le_trans (V.depL_le fun x hx => by
          have : x ∈ l := List.mem_of_mem_take hx
          have h2 : ∀ (m : List V), x ∈ m → x.dep ≤ V.depL m := by
            intro m hm
            induction m with
            | nil => cases hm
            | cons y ys ih => simp only [V.depL]; rcases List.mem_cons.1 hm with rfl | h
                              · omega
                              · have := ih h; omega
          exact h2 l this) HD.out
        have hbad := V.wfL_false hlt
        have HB := Lib.hid hbad
        clear hbad
        have hx0 : (0 : Int) ≤ (V.depL (l.take k) : Int) := by omega
        by_cases hw : l[k].wf = true
        · have HC : Hid (∀ w, RepV w F [.int .i64 xk, .int .i64 xn, .string xs, .slice xa xl.length xc] (.mk xk xn xs xl) → Calls Tryd.prog 64 #[.agg #[.int .i64 xk, .int .i64 xn, .string xs, .slice xa xl.length xc]] w fun e w' => e = .returned (.tuple #[.int .i64 l[k].dep, .bool true]) ∧ Ext w w') := fun w hr => by
            have := HIH.out _ (List.getElem_mem hlt) w _ (by rw [HXE.out]; exact hr)
            simpa only [formedR, hw, if_true] using this
          have hdl : (l[k].dep : Int) ≤ 1000000 := by have := hdp.out; omega
          have HW := Lib.hid hw
          clear hw
          obtain ⟨d, hd⟩ : ∃ d : Nat, d = l[k].dep := ⟨_, rfl⟩
          rw [← hd] at HC hdl hdp
          clear hd
          go_wp2_with (go_at_call 64; refine (HC.out _ (hR.ext (Ext.alloc (Ext.refl _) _))).mono ?_; rintro e w' ⟨rfl, hE⟩)
          go_roundw
          case rel => exact ⟨k + 1, by omega, by go_num, by rw [hdp.out]; congr 1; split <;> omega, hd1, (hB.alloc _).trans hE, by rw [hwf.out, HK.out, HW.out]; rfl⟩
          case measure => simp [intOf]; omega
        · simp only [Bool.not_eq_true] at hw
          have HC : Hid (∀ w, RepV w F [.int .i64 xk, .int .i64 xn, .string xs, .slice xa xl.length xc] (.mk xk xn xs xl) → Calls Tryd.prog 64 #[.agg #[.int .i64 xk, .int .i64 xn, .string xs, .slice xa xl.length xc]] w fun e w' => e = .returned (.tuple #[.int .i64 0, .bool false]) ∧ Ext w w') := fun w hr => by
            have := HIH.out _ (List.getElem_mem hlt) w _ (by rw [HXE.out]; exact hr)
            simpa only [formedR, hw, Bool.false_eq_true, if_false] using this
          have HW := Lib.hid (HB.out hw)
          clear hw
          go_wp2_with (go_at_call 64; refine (HC.out _ (hR.ext (Ext.alloc (Ext.refl _) _))).mono ?_; rintro e w' ⟨rfl, hE⟩)
          go_ret2
          exact ⟨by rw [HX.out, HW.out]; rfl, (hB.alloc _).trans hE⟩
      · go_wp2_with (fail)
        go_ret2
        have : l.take k = l := List.take_of_length_le (by omega)
        rw [this] at HK
        exact ⟨by rw [HX.out, HK.out, this]; rfl, hB⟩


theorem formed_any (N : Nat) (hN : N ≤ 1000000) : ∀ v : V, v.ht ≤ N → ∀ (w : World) (F : Nat → Prop) (cs : List Value), RepV w F cs v →
    Calls Tryd.prog 64 #[.agg cs.toArray] w fun e w' => e = formedR v ∧ Ext w w' := by
  induction N with
  | zero => intro v hv; cases v; simp [V.ht] at hv
  | succ N ih =>
    intro v hv w F cs hR
    have hht := V.dep_le_ht _ v hv
    cases v with
    | mk k n s l =>
      obtain ⟨ao, cap, rows, rfl, hk, hn, hs, hsl, hF, hlen, hel⟩ := hR.open
      by_cases h1 : k = 1
      · subst h1; exact formed_1 _ _ _ _ _ _
      by_cases h2 : k = 2
      · subst h2; exact formed_2 _ _ _ _ _ _
      by_cases h3 : k = 3
      · subst h3
        by_cases hb : ((n == 0) && decide (s.toList = [])) = false
        · exact formed_3bad _ _ _ _ _ _ hb
        · simp only [Bool.not_eq_false, Bool.and_eq_true, beq_iff_eq, decide_eq_true_eq] at hb
          obtain ⟨rfl, hb⟩ := hb
          refine formed_list s ao cap l w F rows hb hsl hlen hel ?_ ?_
          · simp only [V.dep, V.ht] at hht hv; simp at hht; omega
          · intro x hx w cs hr
            exact ih (by omega) x (by have := V.htL_mem hx; simp only [V.ht] at hv; omega) w F cs hr
      · exact formed_out _ _ _ _ _ _ _ (by omega)

def checkV (v : V) : Int := if v.wf then (if v.dep ≤ 16 then 0 else 2) else 1

set_option maxHeartbeats 800000 in
theorem check_any (v : V) (hv : v.ht ≤ 1000000) (w : World) (F : Nat → Prop) (cs : List Value) (hR : RepV w F cs v) :
    Calls Tryd.prog 49 #[.agg cs.toArray] w fun e w' => e = .returned (.int .i64 (checkV v)) ∧ Ext w w' := by
  have hd : v.dep ≤ 1000000 := Nat.le_trans (V.dep_le_ht _ v hv) hv
  cases v with
  | mk k n s l =>
    obtain ⟨ao, cap, rows, rfl, hk, hn, hs, hsl, hF, hlen, hel⟩ := hR.open
    have HC : Hid (∀ w', Ext w w' → Calls Tryd.prog 64 #[.agg #[.int .i64 k, .int .i64 n, .string s, .slice ao l.length cap]] w' fun e w'' => e = formedR (.mk k n s l) ∧ Ext w' w'') :=
      fun w' hE => formed_any _ (Nat.le_refl _) _ hv w' F _ (hR.ext hE)
    clear hR hel hsl hF hlen hk hn hs hv
    by_cases hw : (V.mk k n s l).wf = true
    · have hx : checkV (.mk k n s l) = if (V.mk k n s l).dep ≤ 16 then 0 else 2 := by simp [checkV, hw]
      have HX := Lib.hid hx
      have hc : ∀ w', Ext w w' → Calls Tryd.prog 64 #[.agg #[.int .i64 k, .int .i64 n, .string s, .slice ao l.length cap]] w' fun e w'' => e = .returned (.tuple #[.int .i64 (V.mk k n s l).dep, .bool true]) ∧ Ext w' w'' :=
        fun w' hE => by simpa only [formedR, hw, if_true] using HC.out w' hE
      have HC2 := Lib.hid hc
      clear hx hw HC hc
      obtain ⟨d, hdd⟩ : ∃ d : Nat, d = (V.mk k n s l).dep := ⟨_, rfl⟩
      rw [← hdd] at HC2 HX hd
      clear hdd
      go_enter Tryd.func49, Tryd.ntmps49
      go_wp2_with (go_at_call 64; refine (HC2.out _ (Ext.alloc (Ext.refl _) _)).mono ?_; rintro e w' ⟨rfl, hE⟩)
      · go_ret
        exact ⟨by rw [HX.out, if_neg (by omega)]; rfl, (Ext.alloc (Ext.refl _) _).trans hE⟩
      · go_ret
        exact ⟨by rw [HX.out, if_pos (by omega)]; rfl, (Ext.alloc (Ext.refl _) _).trans hE⟩
    · have hx : checkV (.mk k n s l) = 1 := by simp [checkV, hw]
      have HX := Lib.hid hx
      have hc : ∀ w', Ext w w' → Calls Tryd.prog 64 #[.agg #[.int .i64 k, .int .i64 n, .string s, .slice ao l.length cap]] w' fun e w'' => e = .returned (.tuple #[.int .i64 0, .bool false]) ∧ Ext w' w'' :=
        fun w' hE => by
          have := HC.out w' hE
          simp only [Bool.not_eq_true] at hw
          simpa only [formedR, hw, Bool.false_eq_true, if_false] using this
      have HC2 := Lib.hid hc
      clear hx hw HC hc
      go_enter Tryd.func49, Tryd.ntmps49
      go_wp2_with (go_at_call 64; refine (HC2.out _ (Ext.alloc (Ext.refl _) _)).mono ?_; rintro e w' ⟨rfl, hE⟩)
      go_ret
      exact ⟨by rw [HX.out]; rfl, (Ext.alloc (Ext.refl _) _).trans hE⟩

end Go.Proofs.YtahaplioegeloaaDoor
