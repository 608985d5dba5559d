/- The law NetworkLost, walked: it answers true. -/
import Derived.Test.YtdlahgmbilkdcaaNLa
import Derived.Test.YtdlahgmbilkdcaaRG2
namespace Go.Sz
open Go.RowKit
theorem okN_parts {n : Nw} : okN n = true ↔ n.q.length ≤ 4096 ∧ (∀ p ∈ n.q, okP p = true) ∧ okA n.a = true := by
  simp only [okN, Bool.and_eq_true, decide_eq_true_eq, List.all_eq_true, and_assoc]
theorem okN_snoc {n : Nw} {p : Pk} (h : okN n = true) (hp : okP p = true) (hl : n.q.length < 4096) : okN ⟨n.q ++ [p], n.a⟩ = true := by
  rw [okN_parts] at *
  refine ⟨by simp; omega, fun x hx => ?_, h.2.2⟩
  rcases List.mem_append.1 hx with hx | hx
  · exact h.2.1 x hx
  · simp at hx; subst hx; exact hp
theorem okN_cut {n : Nw} (k : Nat) (h : okN n = true) : okN (cutQ n k) = true := by
  rw [okN_parts] at *
  refine ⟨by simp [cutQ]; omega, fun x hx => ?_, h.2.2⟩
  simp only [cutQ] at hx
  rcases List.mem_append.1 hx with hx | hx
  · exact h.2.1 x (List.mem_of_mem_take hx)
  · exact h.2.1 x (List.mem_of_mem_drop hx)
theorem askN_ok {n : Nw} {k : Nat} (h : okN n = true) (hk : k < n.q.length) : askN n k = 0 := by
  unfold askN; rw [if_pos h, if_pos ⟨by omega, by omega⟩]
theorem sendN_ok {n : Nw} {p : Pk} (h : okN n = true) (hp : okP p = true) (hl : n.q.length < 4096) : sendN n p = (⟨n.q ++ [p], n.a⟩, 0) := by
  unfold sendN; rw [if_pos h, if_pos hp, if_neg (by omega)]
theorem okP_get {n : Nw} {k : Nat} (h : okN n = true) (hk : k < n.q.length) : okP n.q[k] = true := (okN_parts.1 h).2.1 _ (List.getElem_mem hk)
theorem loseN_ok {n : Nw} {k : Nat} (h : okN n = true) (hk : k < n.q.length) : loseN n k = (cutQ n k, 0) := by
  unfold loseN; rw [askN_ok h hk]; rfl
theorem repeatN_ok {n : Nw} {k : Nat} (h : okN n = true) (hk : k < n.q.length) (hl : n.q.length < 4096) : repeatN n k = (⟨n.q ++ [n.q[k]], n.a⟩, 0) := by
  unfold repeatN; rw [askN_ok h hk, if_pos rfl]
  have : n.q.getD (k : Int).toNat ⟨0, 0, []⟩ = n.q[k] := by simp [List.getD, hk]
  rw [this]
  exact sendN_ok h (okP_get h hk) hl
theorem deliverN_ok {n : Nw} {k : Nat} (h : okN n = true) (hk : k < n.q.length) : deliverN n k = (if hasL n.a (min n.q[k].f n.q[k].t) (max n.q[k].f n.q[k].t) = true then ⟨0, 0, []⟩ else n.q[k], cutQ n k, 0) := by
  have : n.q.getD (k : Int).toNat ⟨0, 0, []⟩ = n.q[k] := by simp [List.getD, hk]
  unfold deliverN; rw [askN_ok h hk, if_pos rfl, this]; rfl
theorem cut_snoc {n : Nw} {p : Pk} {k : Nat} (hk : k < n.q.length) : cutQ ⟨n.q ++ [p], n.a⟩ k = ⟨(cutQ n k).q ++ [p], (cutQ n k).a⟩ := by
  unfold cutQ
  simp only [Nw.mk.injEq, and_true]
  rw [List.take_append_of_le_length (by omega), List.drop_append_of_le_length (by omega), List.append_assoc]
end Go.Sz
namespace Go.Proofs.Ytdlahgmbilkdcaa
open Go.RowKit Go.Sz

set_option maxRecDepth 100000 in
set_option maxHeartbeats 6400000 in
theorem law_lost (n : Nw) (m : Int) (cs : List Value) (w : World) (h : RepN w cs n) (hm : 0 ≤ m ∧ m ≤ 18446744073709551615) : Calls Try.prog 8 #[.agg cs.toArray, .int .u64 m] w fun e w' => e = .returned (.bool true) ∧ Ext w w' := by
  have HN := Lib.hid h
  have hs1 := h.sizes
  obtain ⟨a0, c0, b0, d0, rfl⟩ := h.open
  clear h
  go_enter Try.func8, Try.ntmps8
  go_wp2_with fail
  have hX0 := (Ext.refl w).alloc (.cells #[.slice a0 n.q.length c0, .slice b0 n.a.length d0] 25)
  have hbn := Box2.new w (.slice a0 n.q.length c0) (.slice b0 n.a.length d0) 25
  generalize (w.alloc (.cells #[.slice a0 n.q.length c0, .slice b0 n.a.length d0] 25)) = u0 at *
  have hhN := HN.out.ext hX0
  clear HN
  have HN := Lib.hid hhN
  have HX := Lib.hid hX0
  have Hn := Lib.hid hbn
  clear hhN hX0 hbn
  refine (sane_any _).mono ?_
  rintro e v1 ⟨rfl, hE1⟩
  have yn0 := (Hn.out.ext hE1).c0
  have yn1 := (Hn.out.ext hE1).c1
  go_wp2_with fail
  have hA1 : Ext v1 v1 := (Ext.refl v1)
  have hX1 := hE1.trans hA1
  have hhHN := HN.out.ext hX1
  have hhHn := Hn.out.ext hX1
  clear HN Hn
  have hXX := HX.out.trans hX1
  clear HX
  clear hA1 hX1 hE1 yn0 yn1
  have HX := Lib.hid hXX
  clear hXX
  have HN := Lib.hid hhHN
  clear hhHN
  have Hn := Lib.hid hhHn
  clear hhHn
  refine (few_any n _ _ HN.out).mono ?_
  rintro e v2 ⟨rfl, hE2⟩
  have HF : Hid ((decide (n.q.length ≤ 40) && decide (n.a.length ≤ 40)) = true → n.q.length ≤ 40) := Lib.hid fun h => by simp at h; exact h.1
  generalize (decide (n.q.length ≤ 40) && decide (n.a.length ≤ 40)) = few at *
  cases few with
  | false =>
    go_wp2_with fail
    go_ret
    exact ⟨rfl, HX.out.trans hE2⟩
  | true =>
    have HL40 := Lib.hid (HF.out rfl)
    clear HF
    have yn0 := (Hn.out.ext hE2).c0
    have yn1 := (Hn.out.ext hE2).c1
    go_wp2_with fail
    have hA2 : Ext v2 v2 := (Ext.refl v2)
    have hX2 := hE2.trans hA2
    have hhHN := HN.out.ext hX2
    have hhHn := Hn.out.ext hX2
    clear HN Hn
    have hXX := HX.out.trans hX2
    clear HX
    clear hA2 hX2 hE2 yn0 yn1
    have HX := Lib.hid hXX
    clear hXX
    have HN := Lib.hid hhHN
    clear hhHN
    have Hn := Lib.hid hhHn
    clear hhHn
    refine (check_any n _ _ HN.out).mono ?_
    rintro e v3 ⟨rfl, hE3⟩
    have HCK : Hid (checkN n = if okN n = true then 0 else 480) := Lib.hid rfl
    generalize checkN n = ck at *
    cases hok : okN n with
    | false =>
      have hck : ck = 480 := by rw [HCK.out, hok]; rfl
      subst hck
      go_wp2_with fail
      go_ret
      exact ⟨rfl, HX.out.trans hE3⟩
    | true =>
      have hck : ck = 0 := by rw [HCK.out, hok]; rfl
      subst hck
      have HOK := Lib.hid hok
      clear hok HCK
      by_cases hl0 : n.q.length = 0
      · have q0 : ((n.q.length : Int) == 0) = true := by rw [beq_iff_eq]; omega
        have HL0 := Lib.hid hl0
        clear hl0
        obtain ⟨n0, n1, _⟩ := Hn.out.ext hE3
        go_wp2_with fail
        go_ret
        exact ⟨rfl, HX.out.trans hE3⟩
      have q0 : ((n.q.length : Int) == 0) = false := by rw [beq_eq_false_iff_ne]; omega
      have q1 : (0 : Int) < (n.q.length : Int) := by omega
      have q2 : IntKind.u64.wrap (n.q.length : Int) = (n.q.length : Int) := u64_small _ (by omega) hs1
      obtain ⟨k, hmk⟩ : ∃ k : Nat, m % (n.q.length : Int) = (k : Int) := ⟨(m % (n.q.length : Int)).toNat, by have := Int.emod_nonneg m (show (n.q.length : Int) ≠ 0 by omega); omega⟩
      have hkl : k < n.q.length := by have := Int.emod_lt_of_pos m q1; omega
      have q3 : wrap64 (k : Int) = (k : Int) := by unfold wrap64; omega
      have hk0 : (0 : Int) ≤ (k : Int) := by omega
      have hk1 : (k : Int) < (n.q.length : Int) := by omega
      have HKL := Lib.hid hkl
      clear hl0
      obtain ⟨rows, hq, -, -, -⟩ := (HN.out.ext hE3).parts
      obtain ⟨bq, oq, rfl, -⟩ := hq.sl.at (by omega) 0 (by rw [hq.len]; omega)
      have HQ' := Lib.hid hq
      clear hkl hq
      have yn0 := (Hn.out.ext hE3).c0
      have yn1 := (Hn.out.ext hE3).c1
      go_wp2_with fail
      have hA3 : Ext v3 v3 := (Ext.refl v3)
      have hX3 := hE3.trans hA3
      have hhHN := HN.out.ext hX3
      have hhHn := Hn.out.ext hX3
      clear HN Hn
      have hXX := HX.out.trans hX3
      clear HX
      clear hA3 hX3 hE3 yn0 yn1
      have HX := Lib.hid hXX
      clear hXX
      have HN := Lib.hid hhHN
      clear hhHN
      have Hn := Lib.hid hhHn
      clear hhHn
      have HQ := HQ'
      clear HQ'
      clear q2 q3 hmk
      refine (deliver_any n k _ _ HN.out).mono ?_
      rintro e v4 ⟨cp4, cs4, rfl, hP4, hN4, hE4⟩
      rw [deliverN_ok HOK.out HKL.out] at hP4 hN4 ⊢
      dsimp only at hP4 hN4
      obtain ⟨pp4, hP4⟩ : ∃ x, RepP v4 cp4 x := ⟨_, hP4⟩
      have HP4 := Lib.hid hP4
      obtain ⟨p4, q4, hcp⟩ := hP4.open
      subst hcp
      clear hP4
      have HN4 := Lib.hid hN4
      obtain ⟨a4, c4, b4, d4, hcs⟩ := hN4.open
      subst hcs
      clear hN4
      clear HP4
      have yn0 := fun ob0 ob1 => (((Ext.refl v4).alloc ob0).alloc ob1).cell (Hn.out.ext hE4).c0
      have yn1 := fun ob0 ob1 => (((Ext.refl v4).alloc ob0).alloc ob1).cell (Hn.out.ext hE4).c1
      go_wp2_with fail
      have hA4 : Ext v4 ((v4.alloc (.cells #[.int .i64 pp4.f, .int .i64 pp4.t, .slice p4 pp4.d.length q4] 28)).alloc (.cells #[.slice a4 (cutQ n k).q.length c4, .slice b4 (cutQ n k).a.length d4] 25)) := (((Ext.refl v4).alloc (.cells #[.int .i64 pp4.f, .int .i64 pp4.t, .slice p4 pp4.d.length q4] 28)).alloc (.cells #[.slice a4 (cutQ n k).q.length c4, .slice b4 (cutQ n k).a.length d4] 25))
      have hX4 := hE4.trans hA4
      have hba := (Box2.new' (v4.alloc (.cells #[.int .i64 pp4.f, .int .i64 pp4.t, .slice p4 pp4.d.length q4] 28)) (.slice a4 (cutQ n k).q.length c4) (.slice b4 (cutQ n k).a.length d4) 25 (v4.heap.size + 1) (by simp))
      have hhHN := HN.out.ext hX4
      have hhHn := Hn.out.ext hX4
      have hhHQ := HQ.out.ext hX4
      clear HN Hn HQ
      have hhHN4 := HN4.out.ext hA4
      clear HN4
      have hXX := HX.out.trans hX4
      clear HX
      clear hA4 hX4 hE4 yn0 yn1
      generalize ((v4.alloc (.cells #[.int .i64 pp4.f, .int .i64 pp4.t, .slice p4 pp4.d.length q4] 28)).alloc (.cells #[.slice a4 (cutQ n k).q.length c4, .slice b4 (cutQ n k).a.length d4] 25)) = u4 at *
      have HX := Lib.hid hXX
      clear hXX
      have HN := Lib.hid hhHN
      clear hhHN
      have Hn := Lib.hid hhHn
      clear hhHn
      have HQ := Lib.hid hhHQ
      clear hhHQ
      have HN4 := Lib.hid hhHN4
      clear hhHN4
      have Ha := Lib.hid hba
      clear hba
      refine (lose_any n k _ _ HN.out).mono ?_
      rintro e v5 ⟨cs5, rfl, hN5, hE5⟩
      rw [loseN_ok HOK.out HKL.out] at hN5 ⊢
      dsimp only at hN5
      have HN5 := Lib.hid hN5
      obtain ⟨a5, c5, b5, d5, hcs⟩ := hN5.open
      subst hcs
      clear hN5
      have yn0 := fun ob0 => ((Ext.refl v5).alloc ob0).cell (Hn.out.ext hE5).c0
      have yn1 := fun ob0 => ((Ext.refl v5).alloc ob0).cell (Hn.out.ext hE5).c1
      go_wp2_with fail
      have hA5 : Ext v5 (v5.alloc (.cells #[.slice a5 (cutQ n k).q.length c5, .slice b5 (cutQ n k).a.length d5] 25)) := ((Ext.refl v5).alloc (.cells #[.slice a5 (cutQ n k).q.length c5, .slice b5 (cutQ n k).a.length d5] 25))
      have hX5 := hE5.trans hA5
      have hbb := (Box2.new' v5 (.slice a5 (cutQ n k).q.length c5) (.slice b5 (cutQ n k).a.length d5) 25 (v5.heap.size) (by simp))
      have hhHN := HN.out.ext hX5
      have hhHn := Hn.out.ext hX5
      have hhHQ := HQ.out.ext hX5
      have hhHN4 := HN4.out.ext hX5
      have hhHa := Ha.out.ext hX5
      clear HN Hn HQ HN4 Ha
      have hhHN5 := HN5.out.ext hA5
      clear HN5
      have hXX := HX.out.trans hX5
      clear HX
      clear hA5 hX5 hE5 yn0 yn1
      generalize (v5.alloc (.cells #[.slice a5 (cutQ n k).q.length c5, .slice b5 (cutQ n k).a.length d5] 25)) = u5 at *
      have HX := Lib.hid hXX
      clear hXX
      have HN := Lib.hid hhHN
      clear hhHN
      have Hn := Lib.hid hhHn
      clear hhHn
      have HQ := Lib.hid hhHQ
      clear hhHQ
      have HN4 := Lib.hid hhHN4
      clear hhHN4
      have Ha := Lib.hid hhHa
      clear hhHa
      have HN5 := Lib.hid hhHN5
      clear hhHN5
      have Hb := Lib.hid hbb
      clear hbb
      refine (repeat_any n k _ _ HN.out).mono ?_
      rintro e v6 ⟨cs6, rfl, hN6, hE6⟩
      rw [repeatN_ok HOK.out HKL.out (by have := HL40.out; omega)] at hN6 ⊢
      dsimp only at hN6
      have HN6 := Lib.hid hN6
      obtain ⟨a6, c6, b6, d6, hcs⟩ := hN6.open
      subst hcs
      clear hN6
      have HOK6 := Lib.hid (okN_snoc HOK.out (okP_get HOK.out HKL.out) (by have := HL40.out; omega))
      generalize hn6 : (⟨n.q ++ [n.q[k]'HKL.out], n.a⟩ : Nw) = n6 at *
      have HN6E := Lib.hid hn6
      clear hn6
      have HKL6 : Hid (k < n6.q.length) := Lib.hid (by rw [← HN6E.out]; have := HKL.out; simp; omega)
      go_wp2_with fail
      have hA6 : Ext v6 (v6.alloc (.cells #[.slice a6 n6.q.length c6, .slice b6 n6.a.length d6] 25)) := ((Ext.refl v6).alloc (.cells #[.slice a6 n6.q.length c6, .slice b6 n6.a.length d6] 25))
      have hX6 := hE6.trans hA6
      have hbc := (Box2.new' v6 (.slice a6 n6.q.length c6) (.slice b6 n6.a.length d6) 25 (v6.heap.size) (by simp))
      have hhHN := HN.out.ext hX6
      have hhHn := Hn.out.ext hX6
      have hhHQ := HQ.out.ext hX6
      have hhHN4 := HN4.out.ext hX6
      have hhHa := Ha.out.ext hX6
      have hhHN5 := HN5.out.ext hX6
      have hhHb := Hb.out.ext hX6
      clear HN Hn HQ HN4 Ha HN5 Hb
      have hhHN6 := HN6.out.ext hA6
      clear HN6
      have hXX := HX.out.trans hX6
      clear HX
      clear hA6 hX6 hE6
      generalize (v6.alloc (.cells #[.slice a6 n6.q.length c6, .slice b6 n6.a.length d6] 25)) = u6 at *
      have HX := Lib.hid hXX
      clear hXX
      have HN := Lib.hid hhHN
      clear hhHN
      have Hn := Lib.hid hhHn
      clear hhHn
      have HQ := Lib.hid hhHQ
      clear hhHQ
      have HN4 := Lib.hid hhHN4
      clear hhHN4
      have Ha := Lib.hid hhHa
      clear hhHa
      have HN5 := Lib.hid hhHN5
      clear hhHN5
      have Hb := Lib.hid hhHb
      clear hhHb
      have HN6 := Lib.hid hhHN6
      clear hhHN6
      have Hc := Lib.hid hbc
      clear hbc
      refine (lose_any n6 k _ _ HN6.out).mono ?_
      rintro e v7 ⟨cs7, rfl, hN7, hE7⟩
      rw [loseN_ok HOK6.out HKL6.out] at hN7 ⊢
      dsimp only at hN7
      have hsame : cutQ n6 k = ⟨(cutQ n k).q ++ [n.q[k]'HKL.out], (cutQ n k).a⟩ := by rw [← HN6E.out]; exact cut_snoc HKL.out
      rw [hsame] at hN7 ⊢
      clear hsame
      have HN7 := Lib.hid hN7
      obtain ⟨a7, c7, b7, d7, hcs⟩ := hN7.open
      subst hcs
      clear hN7
      have HS9 := Lib.hid (sendN_ok (okN_cut k HOK.out) (okP_get HOK.out HKL.out) (by have := HL40.out; have := HKL.out; simp [cutQ]; omega))
      generalize hn9 : (⟨(cutQ n k).q ++ [n.q[k]'HKL.out], (cutQ n k).a⟩ : Nw) = n9 at *
      clear hn9
      have yn0 := fun ob0 => ((Ext.refl v7).alloc ob0).cell (Hn.out.ext hE7).c0
      have yn1 := fun ob0 => ((Ext.refl v7).alloc ob0).cell (Hn.out.ext hE7).c1
      have yb0 := fun ob0 => ((Ext.refl v7).alloc ob0).cell (Hb.out.ext hE7).c0
      have yb1 := fun ob0 => ((Ext.refl v7).alloc ob0).cell (Hb.out.ext hE7).c1
      go_wp2_with fail
      have hA7 : Ext v7 (v7.alloc (.cells #[.slice a7 n9.q.length c7, .slice b7 n9.a.length d7] 25)) := ((Ext.refl v7).alloc (.cells #[.slice a7 n9.q.length c7, .slice b7 n9.a.length d7] 25))
      have hX7 := hE7.trans hA7
      have hbd := (Box2.new' v7 (.slice a7 n9.q.length c7) (.slice b7 n9.a.length d7) 25 (v7.heap.size) (by simp))
      have hhHN := HN.out.ext hX7
      have hhHn := Hn.out.ext hX7
      have hhHQ := HQ.out.ext hX7
      have hhHN4 := HN4.out.ext hX7
      have hhHa := Ha.out.ext hX7
      have hhHN5 := HN5.out.ext hX7
      have hhHb := Hb.out.ext hX7
      have hhHN6 := HN6.out.ext hX7
      have hhHc := Hc.out.ext hX7
      clear HN Hn HQ HN4 Ha HN5 Hb HN6 Hc
      have hhHN7 := HN7.out.ext hA7
      clear HN7
      have hXX := HX.out.trans hX7
      clear HX
      clear hA7 hX7 hE7 yn0 yn1 yb0 yb1
      generalize (v7.alloc (.cells #[.slice a7 n9.q.length c7, .slice b7 n9.a.length d7] 25)) = u7 at *
      have HX := Lib.hid hXX
      clear hXX
      have HN := Lib.hid hhHN
      clear hhHN
      have Hn := Lib.hid hhHn
      clear hhHn
      have HQ := Lib.hid hhHQ
      clear hhHQ
      have HN4 := Lib.hid hhHN4
      clear hhHN4
      have Ha := Lib.hid hhHa
      clear hhHa
      have HN5 := Lib.hid hhHN5
      clear hhHN5
      have Hb := Lib.hid hhHb
      clear hhHb
      have HN6 := Lib.hid hhHN6
      clear hhHN6
      have Hc := Lib.hid hhHc
      clear hhHc
      have HN7 := Lib.hid hhHN7
      clear hhHN7
      have Hd := Lib.hid hbd
      clear hbd
      obtain ⟨f, t, d, co, cap2, hqk, hP, z0, z1, z2⟩ := q_cells HQ.out (Ext.refl _) HKL.out
      have HPK : Hid (RepP u7 [.int .i64 f, .int .i64 t, .slice co d.length cap2] (n.q[k]'HKL.out)) := Lib.hid hP
      clear hqk hP
      obtain ⟨n0, n1, _⟩ := Hn.out
      obtain ⟨x0, x1, _⟩ := Hb.out
      have gn0 : ∀ X, (u7.drew.grow X).cell? ⟨w.heap.size, 0, none⟩ = some (.slice (some ⟨bq, oq, none⟩) n.q.length c0) := fun X => ((Ext.refl u7).drew.trans (ext_grow _ X)).cell n0
      have gn1 : ∀ X, (u7.drew.grow X).cell? ⟨w.heap.size, 1, none⟩ = some (.slice b0 n.a.length d0) := fun X => ((Ext.refl u7).drew.trans (ext_grow _ X)).cell n1
      have gx0 : ∀ X, (u7.drew.grow X).cell? ⟨v5.heap.size, 0, none⟩ = some (.slice a5 (cutQ n k).q.length c5) := fun X => ((Ext.refl u7).drew.trans (ext_grow _ X)).cell x0
      have gx1 : ∀ X, (u7.drew.grow X).cell? ⟨v5.heap.size, 1, none⟩ = some (.slice b5 (cutQ n k).a.length d5) := fun X => ((Ext.refl u7).drew.trans (ext_grow _ X)).cell x1
      have gz0 : ∀ X, (u7.drew.grow X).cell? ⟨bq, oq + k * 3, none⟩ = some (.int .i64 f) := fun X => ((Ext.refl u7).drew.trans (ext_grow _ X)).cell z0
      have gz1 : ∀ X, (u7.drew.grow X).cell? ⟨bq, oq + k * 3 + 1, none⟩ = some (.int .i64 t) := fun X => ((Ext.refl u7).drew.trans (ext_grow _ X)).cell z1
      have gz2 : ∀ X, (u7.drew.grow X).cell? ⟨bq, oq + k * 3 + 2, none⟩ = some (.slice co d.length cap2) := fun X => ((Ext.refl u7).drew.trans (ext_grow _ X)).cell z2
      clear n0 n1 x0 x1 z0 z1 z2
      refine wp_region_noPanic ?_
      refine wp_region_rel2 (fun j => if j = 6 then some (spRetN (n9, 0)) else if j = 10 then some (spVar2 u7.heap.size 25) else none) 11 2 [9] (by kernel_rfl) (by kernel_rfl) (fun i hi => by simp at hi; subst hi; rfl) (fun _ _ _ _ _ h => h) ?_
      simp only [List.take_succ_cons, List.take_zero]
      repeat (first
        | (refine wpRel_quick ?_ ?_ ?_ ?_
           · rfl
           · rfl
           · first | exact noEnter rfl | (intro f args W W'; go_simp)
           intro K hK
           go_big_quiet_op
           go_big_quiet_on)
        | (refine wpRel_skip ?_ ?_
           · rfl
           simp only [Act.put, List.setIfInBounds_toArray, List.set_cons_zero, List.set_cons_succ]))
      refine wpRel_rich _ rfl rfl (fun W hW => ?_) (fun v W8 hW8 hv => ?_)
      · have hx : Ext u7 W := (Ext.refl u7).drew.trans hW.1
        have hc := send_any (cutQ n k) (n.q[k]'HKL.out) _ _ W (HN5.out.ext hx) (HPK.out.ext hx)
        rw [HS9.out] at hc
        go_simp
        refine Calls.mono hc ?_
        rintro e w8 ⟨cs8, rfl, hN8, hE8⟩
        exact ⟨_, rfl, ⟨cs8, rfl, hN8⟩, hE8⟩
      obtain ⟨cs8, rfl, hN8⟩ := hv
      obtain ⟨a8, c8, b8, d8, rfl⟩ := hN8.open
      simp only [Act.put, List.setIfInBounds_toArray, List.set_cons_zero, List.set_cons_succ]
      repeat (first
        | (refine wpRel_quick ?_ ?_ ?_ ?_
           · rfl
           · rfl
           · first | exact noEnter rfl | (intro f args W W'; go_simp)
           intro K hK
           go_big_quiet_op
           go_big_quiet_on)
        | (refine wpRel_skip ?_ ?_
           · rfl
           simp only [Act.put, List.setIfInBounds_toArray, List.set_cons_zero, List.set_cons_succ]))
      refine wpRel_rich _ rfl rfl (fun W hW => ?_) (fun v W9 hW9 hv => ?_)
      · go_simp
        exact ⟨⟨_, rfl, hW.1.size, World.alloc_heap_new W _⟩, (Ext.refl _).alloc _⟩
      obtain ⟨g15, rfl, hg15, _⟩ := hv
      simp only [Act.put, List.setIfInBounds_toArray, List.set_cons_zero, List.set_cons_succ]
      refine wpRel_nil ?_
      intro W8' hW8'
      obtain ⟨cs8', hcs, hN8'⟩ := hW8'.2 6 trivial _ _ rfl rfl
      obtain ⟨g15', hg, _, hbx⟩ := hW8'.2 10 trivial _ _ rfl rfl
      cases hg
      replace hbx : Boxed2 W8' g15 25 (.slice none 0 0) (.slice none 0 0) := hbx
      have hN8 : RepN W8' [.slice a8 n9.q.length c8, .slice b8 n9.a.length d8] n9 := by
        simp only [Value.tuple.injEq, Array.mk.injEq, List.cons.injEq, Value.agg.injEq, and_true] at hcs
        rw [hcs]
        exact hN8'
      have hE8 : Ext u7 W8' := (Ext.refl u7).drew.trans hW8'.1
      clear hcs hN8' hW8' hW8 hW9
      replace hg15 : u7.heap.size ≤ g15 := hg15
      have HN8 := Lib.hid (hN8.setN hbx.box (.slice a8 n9.q.length c8) (.slice b8 n9.a.length d8))
      clear hN8
      obtain ⟨k0, k1, kz⟩ := hbx.box
      refine wpAny_ready (rs := [11]) (by kernel_rfl) (by simp) ?_
      refine AllReady.cons rfl (fun K hK => ?_) AllReady.nil
      go_simp
      refine hK _ _ ?_
      clear hK K
      refine wpAny_ready (rs := [12]) (by kernel_rfl) (by simp) ?_
      refine AllReady.cons rfl (fun K hK => ?_) AllReady.nil
      go_simp
      refine hK _ _ ?_
      clear hK K
      refine wpAny_done (by kernel_rfl) ?_ _
      refine NoPanic.normal ?_
      have hX8 := (hE8.setCell (p := ⟨g15, 0, none⟩) hg15 (.slice a8 n9.q.length c8)).setCell (p := ⟨g15, 1, none⟩) hg15 (.slice b8 n9.a.length d8)
      have hbx2 := ((hbx.set 0 (.slice a8 n9.q.length c8)).set 1 (.slice b8 n9.a.length d8)).box
      simp only [if_true, if_false, Nat.one_ne_zero, Nat.zero_ne_one] at hbx2
      have hhHN4 := HN4.out.ext hX8
      clear HN4
      have HN4 := Lib.hid hhHN4
      clear hhHN4
      have hhHN5 := HN5.out.ext hX8
      clear HN5
      have HN5 := Lib.hid hhHN5
      clear hhHN5
      have hhHN7 := HN7.out.ext hX8
      clear HN7
      have HN7 := Lib.hid hhHN7
      clear hhHN7
      have hhHn := Hn.out.ext hX8
      clear Hn
      have Hn := Lib.hid hhHn
      clear hhHn
      have hhHa := Ha.out.ext hX8
      clear Ha
      have Ha := Lib.hid hhHa
      clear hhHa
      have hhHb := Hb.out.ext hX8
      clear Hb
      have Hb := Lib.hid hhHb
      clear hhHb
      have hhHc := Hc.out.ext hX8
      clear Hc
      have Hc := Lib.hid hhHc
      clear hhHc
      have hhHd := Hd.out.ext hX8
      clear Hd
      have Hd := Lib.hid hhHd
      clear hhHd
      have hhX := HX.out.trans hX8
      clear HX
      have HX := Lib.hid hhX
      clear hhX
      have Hx := Lib.hid hbx2
      clear hbx2 hbx k0 k1 kz hX8 hE8
      generalize ((W8'.setCell ⟨g15, 0, none⟩ (.slice a8 n9.q.length c8)).setCell ⟨g15, 1, none⟩ (.slice b8 n9.a.length d8)) = u8 at *
      obtain ⟨ya0, ya1, _⟩ := Ha.out
      obtain ⟨yb0, yb1, _⟩ := Hb.out
      go_wp2_with fail
      clear ya0 ya1 yb0 yb1
      refine (same_true (cutQ n k) _ _ _ HN4.out HN5.out).mono ?_
      rintro e v9 ⟨rfl, hE9⟩
      have yd0 := (Hd.out.ext hE9).c0
      have yd1 := (Hd.out.ext hE9).c1
      have yx0 := (Hx.out.ext hE9).c0
      have yx1 := (Hx.out.ext hE9).c1
      go_wp2_with fail
      have hA9 : Ext v9 v9 := (Ext.refl v9)
      have hX9 := hE9.trans hA9
      have hhHN4 := HN4.out.ext hX9
      have hhHN5 := HN5.out.ext hX9
      have hhHN7 := HN7.out.ext hX9
      have hhHN8 := HN8.out.ext hX9
      have hhHn := Hn.out.ext hX9
      have hhHa := Ha.out.ext hX9
      have hhHb := Hb.out.ext hX9
      have hhHc := Hc.out.ext hX9
      have hhHd := Hd.out.ext hX9
      have hhHx := Hx.out.ext hX9
      clear HN4 HN5 HN7 HN8 Hn Ha Hb Hc Hd Hx
      have hXX := HX.out.trans hX9
      clear HX
      clear hA9 hX9 hE9 yd0 yd1 yx0 yx1
      have HX := Lib.hid hXX
      clear hXX
      have HN4 := Lib.hid hhHN4
      clear hhHN4
      have HN5 := Lib.hid hhHN5
      clear hhHN5
      have HN7 := Lib.hid hhHN7
      clear hhHN7
      have HN8 := Lib.hid hhHN8
      clear hhHN8
      have Hn := Lib.hid hhHn
      clear hhHn
      have Ha := Lib.hid hhHa
      clear hhHa
      have Hb := Lib.hid hhHb
      clear hhHb
      have Hc := Lib.hid hhHc
      clear hhHc
      have Hd := Lib.hid hhHd
      clear hhHd
      have Hx := Lib.hid hhHx
      clear hhHx
      refine (same_true n9 _ _ _ HN7.out HN8.out).mono ?_
      rintro e v10 ⟨rfl, hE10⟩
      obtain ⟨xc0, xc1, _⟩ := Hc.out.ext hE10
      obtain ⟨xn0, xn1, _⟩ := Hn.out.ext hE10
      have hlq : ((n6.q.length : Int) == (n.q.length : Int) + 1) = true := by rw [← HN6E.out, beq_iff_eq]; simp
      have hl40 := HL40.out
      go_wp2_with fail
      go_ret
      exact ⟨rfl, HX.out.trans hE10⟩
end Go.Proofs.Ytdlahgmbilkdcaa
