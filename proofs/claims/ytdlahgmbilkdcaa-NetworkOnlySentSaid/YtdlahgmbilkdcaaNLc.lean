/- The law NetworkCuts, walked: it answers true. -/
import Derived.Test.YtdlahgmbilkdcaaNQ
namespace Go.Proofs.Ytdlahgmbilkdcaa
open Go.RowKit Go.Sz

set_option maxRecDepth 100000 in
set_option maxHeartbeats 12800000 in
theorem law_cuts (n : Nw) (x y m : Int) (cs : List Value) (w : World) (h : RepN w cs n) (hm : 0 ≤ m ∧ m ≤ 18446744073709551615) : Calls Try.prog 5 #[.agg cs.toArray, .int .i64 x, .int .i64 y, .int .u64 m] w fun e w' => e = .returned (.bool true) ∧ Ext w w' := by
  have HN := Lib.hid h
  have hs1 := h.sizes
  obtain ⟨a0, c0, b0, d0, rfl⟩ := h.open
  clear h
  have HM := Lib.hid hm
  clear hm
  go_enter Try.func5, Try.ntmps5
  go_wp2_with fail
  have hX0 := (Ext.refl w).alloc (.cells #[.slice a0 n.q.length c0, .slice b0 n.a.length d0] 25)
  have hbn := Box2.new w (.slice a0 n.q.length c0) (.slice b0 n.a.length d0) 25
  generalize (w.alloc (.cells #[.slice a0 n.q.length c0, .slice b0 n.a.length d0] 25)) = u0 at *
  have hhN := HN.out.ext hX0
  clear HN
  have HN := Lib.hid hhN
  have HX := Lib.hid hX0
  have Hn := Lib.hid hbn
  clear hhN hX0 hbn
  refine (sane_any _).mono ?_
  rintro e v1 ⟨rfl, hE1⟩
  have yn0 := (Hn.out.ext hE1).c0
  have yn1 := (Hn.out.ext hE1).c1
  go_wp2_with fail
  have hA1 : Ext v1 v1 := (Ext.refl v1)
  have hX1 := hE1.trans hA1
  have hhHN := HN.out.ext hX1
  have hhHn := Hn.out.ext hX1
  clear HN Hn
  have hXX := HX.out.trans hX1
  clear HX
  clear hA1 hX1 hE1 yn0 yn1
  have HX := Lib.hid hXX
  clear hXX
  have HN := Lib.hid hhHN
  clear hhHN
  have Hn := Lib.hid hhHn
  clear hhHn
  refine (few_any n _ _ HN.out).mono ?_
  rintro e v2 ⟨rfl, hE2⟩
  generalize (decide (n.q.length ≤ 40) && decide (n.a.length ≤ 40)) = few at *
  cases few with
  | false =>
    go_wp2_with fail
    go_ret
    exact ⟨rfl, HX.out.trans hE2⟩
  | true =>
    have yn0 := (Hn.out.ext hE2).c0
    have yn1 := (Hn.out.ext hE2).c1
    go_wp2_with fail
    have hA2 : Ext v2 v2 := (Ext.refl v2)
    have hX2 := hE2.trans hA2
    have hhHN := HN.out.ext hX2
    have hhHn := Hn.out.ext hX2
    clear HN Hn
    have hXX := HX.out.trans hX2
    clear HX
    clear hA2 hX2 hE2 yn0 yn1
    have HX := Lib.hid hXX
    clear hXX
    have HN := Lib.hid hhHN
    clear hhHN
    have Hn := Lib.hid hhHn
    clear hhHn
    refine (check_any n _ _ HN.out).mono ?_
    rintro e v3 ⟨rfl, hE3⟩
    have HCK : Hid (checkN n = if okN n = true then 0 else 480) := Lib.hid rfl
    generalize checkN n = ck at *
    cases hok : okN n with
    | false =>
      have hck : ck = 480 := by rw [HCK.out, hok]; rfl
      subst hck
      go_wp2_with fail
      go_ret
      exact ⟨rfl, HX.out.trans hE3⟩
    | true =>
      have hck : ck = 0 := by rw [HCK.out, hok]; rfl
      subst hck
      have HOK := Lib.hid hok
      clear hok HCK
      have yn0 := (Hn.out.ext hE3).c0
      have yn1 := (Hn.out.ext hE3).c1
      go_wp2_with fail
      have hA3 : Ext v3 v3 := (Ext.refl v3)
      have hX3 := hE3.trans hA3
      have hhHN := HN.out.ext hX3
      have hhHn := Hn.out.ext hX3
      clear HN Hn
      have hXX := HX.out.trans hX3
      clear HX
      clear hA3 hX3 hE3 yn0 yn1
      have HX := Lib.hid hXX
      clear hXX
      have HN := Lib.hid hhHN
      clear hhHN
      have Hn := Lib.hid hhHn
      clear hhHn
      refine (cut_any n x y true _ _ HN.out).mono ?_
      rintro e v4 ⟨cs4, rfl, hN4, hE4⟩
      cases hl : okL (min x y) (max x y) with
      | false =>
        rw [cutN_bad HOK.out hl] at hN4 ⊢
        dsimp only at hN4
        obtain ⟨a4, c4, b4, d4, hcs⟩ := hN4.open
        subst hcs
        clear hN4 hl
        go_wp2_with fail
        go_ret
        exact ⟨rfl, HX.out.trans (hE4.alloc _)⟩
      | true =>
        have HL := Lib.hid hl
        rw [cutN_ok HOK.out hl] at hN4 ⊢
        dsimp only at hN4
        clear hl
        have HOKX := Lib.hid (okN_cutL HOK.out (min x y) (max x y) true)
        have HOKK := Lib.hid (okN_cutL HOK.out (min x y) (max x y) false)
        have HF := Lib.hid fun (k : Nat) (hk : k < n.q.length) => cuts_facts n.a x y n.q[k] (okP_get HOK.out hk) HL.out
        have HQX : Hid ((⟨n.q, cutL n.a (min x y) (max x y) true⟩ : Nw).q = n.q) := Lib.hid rfl
        have HQK : Hid ((⟨n.q, cutL n.a (min x y) (max x y) false⟩ : Nw).q = n.q) := Lib.hid rfl
        have HAX : Hid ((⟨n.q, cutL n.a (min x y) (max x y) true⟩ : Nw).a = cutL n.a (min x y) (max x y) true) := Lib.hid rfl
        have HAK : Hid ((⟨n.q, cutL n.a (min x y) (max x y) false⟩ : Nw).a = cutL n.a (min x y) (max x y) false) := Lib.hid rfl
        have HLEN := Lib.hid (cutL_len (a := n.a) HL.out)
        have HY := Lib.hid (show cutN n y x true = (⟨n.q, cutL n.a (min x y) (max x y) true⟩, 0) by rw [cutN_ok HOK.out (by rw [Int.min_comm y x, Int.max_comm y x]; exact HL.out), Int.min_comm y x, Int.max_comm y x])
        have HZ := Lib.hid (show cutN ⟨n.q, cutL n.a (min x y) (max x y) true⟩ x y true = (⟨n.q, cutL n.a (min x y) (max x y) true⟩, 0) by rw [cutN_ok HOKX.out HL.out]; dsimp only; rw [cutL_cutL])
        have HM5 := Lib.hid (show cutN ⟨n.q, cutL n.a (min x y) (max x y) true⟩ y x false = (⟨n.q, cutL n.a (min x y) (max x y) false⟩, 0) by rw [cutN_ok HOKX.out (by rw [Int.min_comm y x, Int.max_comm y x]; exact HL.out), Int.min_comm y x, Int.max_comm y x]; dsimp only; rw [cutL_cutL])
        have HK6 := Lib.hid (show cutN n x y false = (⟨n.q, cutL n.a (min x y) (max x y) false⟩, 0) by rw [cutN_ok HOK.out HL.out])
        generalize hX : (⟨n.q, cutL n.a (min x y) (max x y) true⟩ : Nw) = nx at *
        generalize hK : (⟨n.q, cutL n.a (min x y) (max x y) false⟩ : Nw) = nk at *
        clear hX hK
        have HX4 := Lib.hid hN4
        obtain ⟨a4, c4, b4, d4, hcs⟩ := hN4.open
        subst hcs
        clear hN4
        have yn0 := fun ob0 => ((Ext.refl v4).alloc ob0).cell (Hn.out.ext hE4).c0
        have yn1 := fun ob0 => ((Ext.refl v4).alloc ob0).cell (Hn.out.ext hE4).c1
        go_wp2_with fail
        have hA4 : Ext v4 (v4.alloc (.cells #[.slice a4 nx.q.length c4, .slice b4 nx.a.length d4] 25)) := ((Ext.refl v4).alloc (.cells #[.slice a4 nx.q.length c4, .slice b4 nx.a.length d4] 25))
        have hX4 := hE4.trans hA4
        have hbx := (Box2.new' v4 (.slice a4 nx.q.length c4) (.slice b4 nx.a.length d4) 25 (v4.heap.size) (by simp))
        have hhHN := HN.out.ext hX4
        have hhHn := Hn.out.ext hX4
        clear HN Hn
        have hhHX4 := HX4.out.ext hA4
        clear HX4
        have hXX := HX.out.trans hX4
        clear HX
        clear hA4 hX4 hE4 yn0 yn1
        generalize (v4.alloc (.cells #[.slice a4 nx.q.length c4, .slice b4 nx.a.length d4] 25)) = u4 at *
        have HX := Lib.hid hXX
        clear hXX
        have HN := Lib.hid hhHN
        clear hhHN
        have Hn := Lib.hid hhHn
        clear hhHn
        have HX4 := Lib.hid hhHX4
        clear hhHX4
        have Hx := Lib.hid hbx
        clear hbx
        refine (cut_any n y x true _ _ HN.out).mono ?_
        rintro e v5 ⟨cs5, rfl, hN5, hE5⟩
        rw [HY.out] at hN5 ⊢
        dsimp only at hN5
        have HY5 := Lib.hid hN5
        obtain ⟨a5, c5, b5, d5, hcs⟩ := hN5.open
        subst hcs
        clear hN5
        have yx0 := fun ob0 => ((Ext.refl v5).alloc ob0).cell (Hx.out.ext hE5).c0
        have yx1 := fun ob0 => ((Ext.refl v5).alloc ob0).cell (Hx.out.ext hE5).c1
        go_wp2_with fail
        have hA5 : Ext v5 (v5.alloc (.cells #[.slice a5 nx.q.length c5, .slice b5 nx.a.length d5] 25)) := ((Ext.refl v5).alloc (.cells #[.slice a5 nx.q.length c5, .slice b5 nx.a.length d5] 25))
        have hX5 := hE5.trans hA5
        have hby := (Box2.new' v5 (.slice a5 nx.q.length c5) (.slice b5 nx.a.length d5) 25 (v5.heap.size) (by simp))
        have hhHN := HN.out.ext hX5
        have hhHn := Hn.out.ext hX5
        have hhHX4 := HX4.out.ext hX5
        have hhHx := Hx.out.ext hX5
        clear HN Hn HX4 Hx
        have hhHY5 := HY5.out.ext hA5
        clear HY5
        have hXX := HX.out.trans hX5
        clear HX
        clear hA5 hX5 hE5 yx0 yx1
        generalize (v5.alloc (.cells #[.slice a5 nx.q.length c5, .slice b5 nx.a.length d5] 25)) = u5 at *
        have HX := Lib.hid hXX
        clear hXX
        have HN := Lib.hid hhHN
        clear hhHN
        have Hn := Lib.hid hhHn
        clear hhHn
        have HX4 := Lib.hid hhHX4
        clear hhHX4
        have Hx := Lib.hid hhHx
        clear hhHx
        have HY5 := Lib.hid hhHY5
        clear hhHY5
        have Hy := Lib.hid hby
        clear hby
        refine (cut_any nx x y true _ _ HX4.out).mono ?_
        rintro e v6 ⟨cs6, rfl, hN6, hE6⟩
        rw [HZ.out] at hN6 ⊢
        dsimp only at hN6
        have HZ6 := Lib.hid hN6
        obtain ⟨a6, c6, b6, d6, hcs⟩ := hN6.open
        subst hcs
        clear hN6
        have yx0 := fun ob0 => ((Ext.refl v6).alloc ob0).cell (Hx.out.ext hE6).c0
        have yx1 := fun ob0 => ((Ext.refl v6).alloc ob0).cell (Hx.out.ext hE6).c1
        go_wp2_with fail
        have hA6 : Ext v6 (v6.alloc (.cells #[.slice a6 nx.q.length c6, .slice b6 nx.a.length d6] 25)) := ((Ext.refl v6).alloc (.cells #[.slice a6 nx.q.length c6, .slice b6 nx.a.length d6] 25))
        have hX6 := hE6.trans hA6
        have hbz := (Box2.new' v6 (.slice a6 nx.q.length c6) (.slice b6 nx.a.length d6) 25 (v6.heap.size) (by simp))
        have hhHN := HN.out.ext hX6
        have hhHn := Hn.out.ext hX6
        have hhHX4 := HX4.out.ext hX6
        have hhHx := Hx.out.ext hX6
        have hhHY5 := HY5.out.ext hX6
        have hhHy := Hy.out.ext hX6
        clear HN Hn HX4 Hx HY5 Hy
        have hhHZ6 := HZ6.out.ext hA6
        clear HZ6
        have hXX := HX.out.trans hX6
        clear HX
        clear hA6 hX6 hE6 yx0 yx1
        generalize (v6.alloc (.cells #[.slice a6 nx.q.length c6, .slice b6 nx.a.length d6] 25)) = u6 at *
        have HX := Lib.hid hXX
        clear hXX
        have HN := Lib.hid hhHN
        clear hhHN
        have Hn := Lib.hid hhHn
        clear hhHn
        have HX4 := Lib.hid hhHX4
        clear hhHX4
        have Hx := Lib.hid hhHx
        clear hhHx
        have HY5 := Lib.hid hhHY5
        clear hhHY5
        have Hy := Lib.hid hhHy
        clear hhHy
        have HZ6 := Lib.hid hhHZ6
        clear hhHZ6
        have Hz := Lib.hid hbz
        clear hbz
        refine (cut_any nx y x false _ _ HX4.out).mono ?_
        rintro e v7 ⟨cs7, rfl, hN7, hE7⟩
        rw [HM5.out] at hN7 ⊢
        dsimp only at hN7
        have HM7 := Lib.hid hN7
        obtain ⟨a7, c7, b7, d7, hcs⟩ := hN7.open
        subst hcs
        clear hN7
        have yn0 := fun ob0 => ((Ext.refl v7).alloc ob0).cell (Hn.out.ext hE7).c0
        have yn1 := fun ob0 => ((Ext.refl v7).alloc ob0).cell (Hn.out.ext hE7).c1
        go_wp2_with fail
        have hA7 : Ext v7 (v7.alloc (.cells #[.slice a7 nk.q.length c7, .slice b7 nk.a.length d7] 25)) := ((Ext.refl v7).alloc (.cells #[.slice a7 nk.q.length c7, .slice b7 nk.a.length d7] 25))
        have hX7 := hE7.trans hA7
        have hbm := (Box2.new' v7 (.slice a7 nk.q.length c7) (.slice b7 nk.a.length d7) 25 (v7.heap.size) (by simp))
        have hhHN := HN.out.ext hX7
        have hhHn := Hn.out.ext hX7
        have hhHX4 := HX4.out.ext hX7
        have hhHx := Hx.out.ext hX7
        have hhHY5 := HY5.out.ext hX7
        have hhHy := Hy.out.ext hX7
        have hhHZ6 := HZ6.out.ext hX7
        have hhHz := Hz.out.ext hX7
        clear HN Hn HX4 Hx HY5 Hy HZ6 Hz
        have hhHM7 := HM7.out.ext hA7
        clear HM7
        have hXX := HX.out.trans hX7
        clear HX
        clear hA7 hX7 hE7 yn0 yn1
        generalize (v7.alloc (.cells #[.slice a7 nk.q.length c7, .slice b7 nk.a.length d7] 25)) = u7 at *
        have HX := Lib.hid hXX
        clear hXX
        have HN := Lib.hid hhHN
        clear hhHN
        have Hn := Lib.hid hhHn
        clear hhHn
        have HX4 := Lib.hid hhHX4
        clear hhHX4
        have Hx := Lib.hid hhHx
        clear hhHx
        have HY5 := Lib.hid hhHY5
        clear hhHY5
        have Hy := Lib.hid hhHy
        clear hhHy
        have HZ6 := Lib.hid hhHZ6
        clear hhHZ6
        have Hz := Lib.hid hhHz
        clear hhHz
        have HM7 := Lib.hid hhHM7
        clear hhHM7
        have Hm := Lib.hid hbm
        clear hbm
        refine (cut_any n x y false _ _ HN.out).mono ?_
        rintro e v8 ⟨cs8, rfl, hN8, hE8⟩
        rw [HK6.out] at hN8 ⊢
        dsimp only at hN8
        have HK8 := Lib.hid hN8
        obtain ⟨a8, c8, b8, d8, hcs⟩ := hN8.open
        subst hcs
        clear hN8
        have yx0 := fun ob0 => ((Ext.refl v8).alloc ob0).cell (Hx.out.ext hE8).c0
        have yx1 := fun ob0 => ((Ext.refl v8).alloc ob0).cell (Hx.out.ext hE8).c1
        have yy0 := fun ob0 => ((Ext.refl v8).alloc ob0).cell (Hy.out.ext hE8).c0
        have yy1 := fun ob0 => ((Ext.refl v8).alloc ob0).cell (Hy.out.ext hE8).c1
        go_wp2_with fail
        have hA8 : Ext v8 (v8.alloc (.cells #[.slice a8 nk.q.length c8, .slice b8 nk.a.length d8] 25)) := ((Ext.refl v8).alloc (.cells #[.slice a8 nk.q.length c8, .slice b8 nk.a.length d8] 25))
        have hX8 := hE8.trans hA8
        have hbk := (Box2.new' v8 (.slice a8 nk.q.length c8) (.slice b8 nk.a.length d8) 25 (v8.heap.size) (by simp))
        have hhHN := HN.out.ext hX8
        have hhHn := Hn.out.ext hX8
        have hhHX4 := HX4.out.ext hX8
        have hhHx := Hx.out.ext hX8
        have hhHY5 := HY5.out.ext hX8
        have hhHy := Hy.out.ext hX8
        have hhHZ6 := HZ6.out.ext hX8
        have hhHz := Hz.out.ext hX8
        have hhHM7 := HM7.out.ext hX8
        have hhHm := Hm.out.ext hX8
        clear HN Hn HX4 Hx HY5 Hy HZ6 Hz HM7 Hm
        have hhHK8 := HK8.out.ext hA8
        clear HK8
        have hXX := HX.out.trans hX8
        clear HX
        clear hA8 hX8 hE8 yx0 yx1 yy0 yy1
        generalize (v8.alloc (.cells #[.slice a8 nk.q.length c8, .slice b8 nk.a.length d8] 25)) = u8 at *
        have HX := Lib.hid hXX
        clear hXX
        have HN := Lib.hid hhHN
        clear hhHN
        have Hn := Lib.hid hhHn
        clear hhHn
        have HX4 := Lib.hid hhHX4
        clear hhHX4
        have Hx := Lib.hid hhHx
        clear hhHx
        have HY5 := Lib.hid hhHY5
        clear hhHY5
        have Hy := Lib.hid hhHy
        clear hhHy
        have HZ6 := Lib.hid hhHZ6
        clear hhHZ6
        have Hz := Lib.hid hhHz
        clear hhHz
        have HM7 := Lib.hid hhHM7
        clear hhHM7
        have Hm := Lib.hid hhHm
        clear hhHm
        have HK8 := Lib.hid hhHK8
        clear hhHK8
        have Hk := Lib.hid hbk
        clear hbk
        refine (same_true nx _ _ _ HX4.out HY5.out).mono ?_
        rintro e v9 ⟨rfl, hE9⟩
        have yx0 := (Hx.out.ext hE9).c0
        have yx1 := (Hx.out.ext hE9).c1
        have yz0 := (Hz.out.ext hE9).c0
        have yz1 := (Hz.out.ext hE9).c1
        go_wp2_with fail
        have hA9 : Ext v9 v9 := (Ext.refl v9)
        have hX9 := hE9.trans hA9
        have hhHN := HN.out.ext hX9
        have hhHn := Hn.out.ext hX9
        have hhHX4 := HX4.out.ext hX9
        have hhHx := Hx.out.ext hX9
        have hhHY5 := HY5.out.ext hX9
        have hhHy := Hy.out.ext hX9
        have hhHZ6 := HZ6.out.ext hX9
        have hhHz := Hz.out.ext hX9
        have hhHM7 := HM7.out.ext hX9
        have hhHm := Hm.out.ext hX9
        have hhHK8 := HK8.out.ext hX9
        have hhHk := Hk.out.ext hX9
        clear HN Hn HX4 Hx HY5 Hy HZ6 Hz HM7 Hm HK8 Hk
        have hXX := HX.out.trans hX9
        clear HX
        clear hA9 hX9 hE9 yx0 yx1 yz0 yz1
        have HX := Lib.hid hXX
        clear hXX
        have HN := Lib.hid hhHN
        clear hhHN
        have Hn := Lib.hid hhHn
        clear hhHn
        have HX4 := Lib.hid hhHX4
        clear hhHX4
        have Hx := Lib.hid hhHx
        clear hhHx
        have HY5 := Lib.hid hhHY5
        clear hhHY5
        have Hy := Lib.hid hhHy
        clear hhHy
        have HZ6 := Lib.hid hhHZ6
        clear hhHZ6
        have Hz := Lib.hid hhHz
        clear hhHz
        have HM7 := Lib.hid hhHM7
        clear hhHM7
        have Hm := Lib.hid hhHm
        clear hhHm
        have HK8 := Lib.hid hhHK8
        clear hhHK8
        have Hk := Lib.hid hhHk
        clear hhHk
        refine (same_true nx _ _ _ HX4.out HZ6.out).mono ?_
        rintro e v10 ⟨rfl, hE10⟩
        have ym0 := (Hm.out.ext hE10).c0
        have ym1 := (Hm.out.ext hE10).c1
        have yk0 := (Hk.out.ext hE10).c0
        have yk1 := (Hk.out.ext hE10).c1
        go_wp2_with fail
        have hA10 : Ext v10 v10 := (Ext.refl v10)
        have hX10 := hE10.trans hA10
        have hhHN := HN.out.ext hX10
        have hhHn := Hn.out.ext hX10
        have hhHX4 := HX4.out.ext hX10
        have hhHx := Hx.out.ext hX10
        have hhHY5 := HY5.out.ext hX10
        have hhHy := Hy.out.ext hX10
        have hhHZ6 := HZ6.out.ext hX10
        have hhHz := Hz.out.ext hX10
        have hhHM7 := HM7.out.ext hX10
        have hhHm := Hm.out.ext hX10
        have hhHK8 := HK8.out.ext hX10
        have hhHk := Hk.out.ext hX10
        clear HN Hn HX4 Hx HY5 Hy HZ6 Hz HM7 Hm HK8 Hk
        have hXX := HX.out.trans hX10
        clear HX
        clear hA10 hX10 hE10 ym0 ym1 yk0 yk1
        have HX := Lib.hid hXX
        clear hXX
        have HN := Lib.hid hhHN
        clear hhHN
        have Hn := Lib.hid hhHn
        clear hhHn
        have HX4 := Lib.hid hhHX4
        clear hhHX4
        have Hx := Lib.hid hhHx
        clear hhHx
        have HY5 := Lib.hid hhHY5
        clear hhHY5
        have Hy := Lib.hid hhHy
        clear hhHy
        have HZ6 := Lib.hid hhHZ6
        clear hhHZ6
        have Hz := Lib.hid hhHz
        clear hhHz
        have HM7 := Lib.hid hhHM7
        clear hhHM7
        have Hm := Lib.hid hhHm
        clear hhHm
        have HK8 := Lib.hid hhHK8
        clear hhHK8
        have Hk := Lib.hid hhHk
        clear hhHk
        refine (same_true nk _ _ _ HM7.out HK8.out).mono ?_
        rintro e v11 ⟨rfl, hE11⟩
        obtain ⟨xx0, xx1, _⟩ := Hx.out.ext hE11
        obtain ⟨xk0, xk1, _⟩ := Hk.out.ext hE11
        obtain ⟨xn0, xn1, _⟩ := Hn.out.ext hE11
        have hsz : (nk.a.length : Int) + 1 ≤ 100 := by rw [HAK.out]; exact cutL_le HL.out
        have hlq : ((nx.a.length : Int) != (nk.a.length : Int) + 1) = false := by rw [bne_eq_false_iff_eq, HAX.out, HAK.out, HLEN.out]; simp
        have hwr : (nk.a.length : Int) + 1 = (nk.a.length : Int) + 1 := rfl
        clear hwr
        by_cases hl0 : n.q.length = 0
        · have q0 : ((n.q.length : Int) == 0) = true := by rw [beq_iff_eq]; omega
          have HL0 := Lib.hid hl0
          clear hl0
          go_wp2_with fail
          go_ret
          exact ⟨rfl, HX.out.trans hE11⟩
        have q0 : ((n.q.length : Int) == 0) = false := by rw [beq_eq_false_iff_ne]; omega
        have q1 : (0 : Int) < (n.q.length : Int) := by omega
        have q2 : IntKind.u64.wrap (n.q.length : Int) = (n.q.length : Int) := u64_small _ (by omega) hs1
        obtain ⟨k, hmk⟩ : ∃ k : Nat, m % (n.q.length : Int) = (k : Int) := ⟨(m % (n.q.length : Int)).toNat, by have := Int.emod_nonneg m (show (n.q.length : Int) ≠ 0 by omega); omega⟩
        have hkl : k < n.q.length := by have := Int.emod_lt_of_pos m q1; omega
        have q3 : wrap64 (k : Int) = (k : Int) := by unfold wrap64; omega
        have HKL := Lib.hid hkl
        clear hkl hl0
        obtain ⟨hm0, hm1⟩ := HM.out
        go_wp2_with fail
        obtain ⟨p, r, hd1, hd2, hcc⟩ := cuts_deliver HOK.out HL.out HKL.out HQX.out HAX.out HQK.out HAK.out
        have HD1 := Lib.hid hd1
        have HD2 := Lib.hid hd2
        have HCC := Lib.hid hcc
        clear hd1 hd2 hcc
        clear hlq q0 q1 q2 hsz xx0 xx1 xk0 xk1 xn0 xn1
        have hXX := HX.out.trans hE11
        clear HX
        have HX := Lib.hid hXX
        clear hXX
        have hhHX4 := HX4.out.ext hE11
        clear HX4
        have HX4 := Lib.hid hhHX4
        clear hhHX4
        have hhHK8 := HK8.out.ext hE11
        clear HK8
        have HK8 := Lib.hid hhHK8
        clear hhHK8
        have hhHk := Hk.out.ext hE11
        clear Hk
        have Hk := Lib.hid hhHk
        clear hhHk
        clear hE11
        refine (deliver_any nx k _ _ HX4.out).mono ?_
        rintro e v12 ⟨cp12, cs12, rfl, hP12, hN12, hE12⟩
        rw [HD1.out] at hP12 hN12 ⊢
        dsimp only at hP12 hN12
        have HP12 := Lib.hid hP12
        obtain ⟨p12, q12, hcp⟩ := hP12.open
        subst hcp
        clear hP12
        obtain ⟨a12, c12, b12, d12, hcs⟩ := hN12.open
        subst hcs
        clear hN12
        have yk0 := fun ob0 ob1 => (((Ext.refl v12).alloc ob0).alloc ob1).cell (Hk.out.ext hE12).c0
        have yk1 := fun ob0 ob1 => (((Ext.refl v12).alloc ob0).alloc ob1).cell (Hk.out.ext hE12).c1
        go_wp2_with fail
        have hA12 : Ext v12 ((v12.alloc (.cells #[.int .i64 p.f, .int .i64 p.t, .slice p12 p.d.length q12] 28)).alloc (.cells #[.slice a12 (cutQ nx k).q.length c12, .slice b12 (cutQ nx k).a.length d12] 25)) := (((Ext.refl v12).alloc (.cells #[.int .i64 p.f, .int .i64 p.t, .slice p12 p.d.length q12] 28)).alloc (.cells #[.slice a12 (cutQ nx k).q.length c12, .slice b12 (cutQ nx k).a.length d12] 25))
        have hX12 := hE12.trans hA12
        have hbp := ((Box3.new' v12 (.int .i64 p.f) (.int .i64 p.t) (.slice p12 p.d.length q12) 28 (v12.heap.size) (by simp)).ext ((Ext.refl _).alloc (.cells #[.slice a12 (cutQ nx k).q.length c12, .slice b12 (cutQ nx k).a.length d12] 25)))
        have hhHX4 := HX4.out.ext hX12
        have hhHK8 := HK8.out.ext hX12
        have hhHk := Hk.out.ext hX12
        clear HX4 HK8 Hk
        have hhHP12 := HP12.out.ext hA12
        clear HP12
        have hXX := HX.out.trans hX12
        clear HX
        clear hA12 hX12 hE12 yk0 yk1
        generalize ((v12.alloc (.cells #[.int .i64 p.f, .int .i64 p.t, .slice p12 p.d.length q12] 28)).alloc (.cells #[.slice a12 (cutQ nx k).q.length c12, .slice b12 (cutQ nx k).a.length d12] 25)) = u12 at *
        have HX := Lib.hid hXX
        clear hXX
        have HX4 := Lib.hid hhHX4
        clear hhHX4
        have HK8 := Lib.hid hhHK8
        clear hhHK8
        have Hk := Lib.hid hhHk
        clear hhHk
        have HP12 := Lib.hid hhHP12
        clear hhHP12
        have Hp := Lib.hid hbp
        clear hbp
        have hcc := HCC.out
        rcases hcc with ⟨e1, e2, e3, e4⟩ | ⟨e1, e2, e3, e4⟩ | ⟨e1, e2, e3, e4⟩ | ⟨e1, e2, e3, e4⟩ | ⟨e1, e2, e3⟩
        ·
          clear HCC hmk
          have gd0 : (r.f == x) = true := by rw [beq_iff_eq]; exact e2
          have gd1 : (r.t == y) = true := by rw [beq_iff_eq]; exact e3
          have E1 := Lib.hid e1
          clear e1 e2 e3 e4
          refine (deliver_any nk k _ _ HK8.out).mono ?_
          rintro e v13 ⟨cp13, cs13, rfl, hP13, hN13, hE13⟩
          rw [HD2.out] at hP13 hN13 ⊢
          dsimp only at hP13 hN13
          have HP13 := Lib.hid hP13
          obtain ⟨p13, q13, hcp⟩ := hP13.open
          subst hcp
          clear hP13
          obtain ⟨a13, c13, b13, d13, hcs⟩ := hN13.open
          subst hcs
          clear hN13
          have yp0 := fun ob0 ob1 => (((Ext.refl v13).alloc ob0).alloc ob1).cell (Hp.out.ext hE13).c0
          have yp1 := fun ob0 ob1 => (((Ext.refl v13).alloc ob0).alloc ob1).cell (Hp.out.ext hE13).c1
          have yp2 := fun ob0 ob1 => (((Ext.refl v13).alloc ob0).alloc ob1).cell (Hp.out.ext hE13).c2
          go_wp2_with fail
          have hA13 : Ext v13 ((v13.alloc (.cells #[.int .i64 r.f, .int .i64 r.t, .slice p13 r.d.length q13] 28)).alloc (.cells #[.slice a13 (cutQ nk k).q.length c13, .slice b13 (cutQ nk k).a.length d13] 25)) := (((Ext.refl v13).alloc (.cells #[.int .i64 r.f, .int .i64 r.t, .slice p13 r.d.length q13] 28)).alloc (.cells #[.slice a13 (cutQ nk k).q.length c13, .slice b13 (cutQ nk k).a.length d13] 25))
          have hX13 := hE13.trans hA13
          have hbr := ((Box3.new' v13 (.int .i64 r.f) (.int .i64 r.t) (.slice p13 r.d.length q13) 28 (v13.heap.size) (by simp)).ext ((Ext.refl _).alloc (.cells #[.slice a13 (cutQ nk k).q.length c13, .slice b13 (cutQ nk k).a.length d13] 25)))
          have hhHX4 := HX4.out.ext hX13
          have hhHK8 := HK8.out.ext hX13
          have hhHk := Hk.out.ext hX13
          have hhHP12 := HP12.out.ext hX13
          have hhHp := Hp.out.ext hX13
          clear HX4 HK8 Hk HP12 Hp
          have hhHP13 := HP13.out.ext hA13
          clear HP13
          have hXX := HX.out.trans hX13
          clear HX
          clear hA13 hX13 hE13 yp0 yp1 yp2
          generalize ((v13.alloc (.cells #[.int .i64 r.f, .int .i64 r.t, .slice p13 r.d.length q13] 28)).alloc (.cells #[.slice a13 (cutQ nk k).q.length c13, .slice b13 (cutQ nk k).a.length d13] 25)) = u13 at *
          have HX := Lib.hid hXX
          clear hXX
          have HX4 := Lib.hid hhHX4
          clear hhHX4
          have HK8 := Lib.hid hhHK8
          clear hhHK8
          have Hk := Lib.hid hhHk
          clear hhHk
          have HP12 := Lib.hid hhHP12
          clear hhHP12
          have Hp := Lib.hid hhHp
          clear hhHp
          have HP13 := Lib.hid hhHP13
          clear hhHP13
          have Hr := Lib.hid hbr
          clear hbr
          refine (samePacket_any p ⟨0, 0, []⟩ _ _ _ HP12.out (RepP.zero _)).mono ?_
          rintro e v14 ⟨rfl, hE14⟩
          have hsm : samePk p ⟨0, 0, []⟩ = true := by rw [samePk_iff]; exact E1.out
          rw [hsm]
          obtain ⟨xp0, xp1, xp2, _⟩ := Hp.out.ext hE14
          obtain ⟨xr0, xr1, xr2, _⟩ := Hr.out.ext hE14
          go_wp2_with fail
          go_ret
          exact ⟨rfl, HX.out.trans hE14⟩
        ·
          clear HCC hmk
          have gd0 : (r.f == x) = false := by rw [beq_eq_false_iff_ne]; exact (fun h => e4 (h.symm.trans e2))
          have gd1 : (r.f == y) = true := by rw [beq_iff_eq]; exact e2
          have gd2 : (r.t == x) = true := by rw [beq_iff_eq]; exact e3
          have E1 := Lib.hid e1
          clear e1 e2 e3 e4
          refine (deliver_any nk k _ _ HK8.out).mono ?_
          rintro e v13 ⟨cp13, cs13, rfl, hP13, hN13, hE13⟩
          rw [HD2.out] at hP13 hN13 ⊢
          dsimp only at hP13 hN13
          have HP13 := Lib.hid hP13
          obtain ⟨p13, q13, hcp⟩ := hP13.open
          subst hcp
          clear hP13
          obtain ⟨a13, c13, b13, d13, hcs⟩ := hN13.open
          subst hcs
          clear hN13
          have yp0 := fun ob0 ob1 => (((Ext.refl v13).alloc ob0).alloc ob1).cell (Hp.out.ext hE13).c0
          have yp1 := fun ob0 ob1 => (((Ext.refl v13).alloc ob0).alloc ob1).cell (Hp.out.ext hE13).c1
          have yp2 := fun ob0 ob1 => (((Ext.refl v13).alloc ob0).alloc ob1).cell (Hp.out.ext hE13).c2
          go_wp2_with fail
          have hA13 : Ext v13 ((v13.alloc (.cells #[.int .i64 r.f, .int .i64 r.t, .slice p13 r.d.length q13] 28)).alloc (.cells #[.slice a13 (cutQ nk k).q.length c13, .slice b13 (cutQ nk k).a.length d13] 25)) := (((Ext.refl v13).alloc (.cells #[.int .i64 r.f, .int .i64 r.t, .slice p13 r.d.length q13] 28)).alloc (.cells #[.slice a13 (cutQ nk k).q.length c13, .slice b13 (cutQ nk k).a.length d13] 25))
          have hX13 := hE13.trans hA13
          have hbr := ((Box3.new' v13 (.int .i64 r.f) (.int .i64 r.t) (.slice p13 r.d.length q13) 28 (v13.heap.size) (by simp)).ext ((Ext.refl _).alloc (.cells #[.slice a13 (cutQ nk k).q.length c13, .slice b13 (cutQ nk k).a.length d13] 25)))
          have hhHX4 := HX4.out.ext hX13
          have hhHK8 := HK8.out.ext hX13
          have hhHk := Hk.out.ext hX13
          have hhHP12 := HP12.out.ext hX13
          have hhHp := Hp.out.ext hX13
          clear HX4 HK8 Hk HP12 Hp
          have hhHP13 := HP13.out.ext hA13
          clear HP13
          have hXX := HX.out.trans hX13
          clear HX
          clear hA13 hX13 hE13 yp0 yp1 yp2
          generalize ((v13.alloc (.cells #[.int .i64 r.f, .int .i64 r.t, .slice p13 r.d.length q13] 28)).alloc (.cells #[.slice a13 (cutQ nk k).q.length c13, .slice b13 (cutQ nk k).a.length d13] 25)) = u13 at *
          have HX := Lib.hid hXX
          clear hXX
          have HX4 := Lib.hid hhHX4
          clear hhHX4
          have HK8 := Lib.hid hhHK8
          clear hhHK8
          have Hk := Lib.hid hhHk
          clear hhHk
          have HP12 := Lib.hid hhHP12
          clear hhHP12
          have Hp := Lib.hid hhHp
          clear hhHp
          have HP13 := Lib.hid hhHP13
          clear hhHP13
          have Hr := Lib.hid hbr
          clear hbr
          refine (samePacket_any p ⟨0, 0, []⟩ _ _ _ HP12.out (RepP.zero _)).mono ?_
          rintro e v14 ⟨rfl, hE14⟩
          have hsm : samePk p ⟨0, 0, []⟩ = true := by rw [samePk_iff]; exact E1.out
          rw [hsm]
          obtain ⟨xp0, xp1, xp2, _⟩ := Hp.out.ext hE14
          obtain ⟨xr0, xr1, xr2, _⟩ := Hr.out.ext hE14
          go_wp2_with fail
          go_ret
          exact ⟨rfl, HX.out.trans hE14⟩
        ·
          clear HCC hmk
          have e1 := e1.symm
          subst e1
          have gd0 : (p.f == x) = true := by rw [beq_iff_eq]; exact e2
          have gd1 : (p.t == y) = false := by rw [beq_eq_false_iff_ne]; exact e3
          have gd2 : (p.f == y) = false := by rw [beq_eq_false_iff_ne]; exact e4
          clear e2 e3 e4
          refine (deliver_any nk k _ _ HK8.out).mono ?_
          rintro e v13 ⟨cp13, cs13, rfl, hP13, hN13, hE13⟩
          rw [HD2.out] at hP13 hN13 ⊢
          dsimp only at hP13 hN13
          have HP13 := Lib.hid hP13
          obtain ⟨p13, q13, hcp⟩ := hP13.open
          subst hcp
          clear hP13
          obtain ⟨a13, c13, b13, d13, hcs⟩ := hN13.open
          subst hcs
          clear hN13
          have yp0 := fun ob0 ob1 => (((Ext.refl v13).alloc ob0).alloc ob1).cell (Hp.out.ext hE13).c0
          have yp1 := fun ob0 ob1 => (((Ext.refl v13).alloc ob0).alloc ob1).cell (Hp.out.ext hE13).c1
          have yp2 := fun ob0 ob1 => (((Ext.refl v13).alloc ob0).alloc ob1).cell (Hp.out.ext hE13).c2
          go_wp2_with fail
          have hA13 : Ext v13 ((v13.alloc (.cells #[.int .i64 p.f, .int .i64 p.t, .slice p13 p.d.length q13] 28)).alloc (.cells #[.slice a13 (cutQ nk k).q.length c13, .slice b13 (cutQ nk k).a.length d13] 25)) := (((Ext.refl v13).alloc (.cells #[.int .i64 p.f, .int .i64 p.t, .slice p13 p.d.length q13] 28)).alloc (.cells #[.slice a13 (cutQ nk k).q.length c13, .slice b13 (cutQ nk k).a.length d13] 25))
          have hX13 := hE13.trans hA13
          have hbr := ((Box3.new' v13 (.int .i64 p.f) (.int .i64 p.t) (.slice p13 p.d.length q13) 28 (v13.heap.size) (by simp)).ext ((Ext.refl _).alloc (.cells #[.slice a13 (cutQ nk k).q.length c13, .slice b13 (cutQ nk k).a.length d13] 25)))
          have hhHX4 := HX4.out.ext hX13
          have hhHK8 := HK8.out.ext hX13
          have hhHk := Hk.out.ext hX13
          have hhHP12 := HP12.out.ext hX13
          have hhHp := Hp.out.ext hX13
          clear HX4 HK8 Hk HP12 Hp
          have hhHP13 := HP13.out.ext hA13
          clear HP13
          have hXX := HX.out.trans hX13
          clear HX
          clear hA13 hX13 hE13 yp0 yp1 yp2
          generalize ((v13.alloc (.cells #[.int .i64 p.f, .int .i64 p.t, .slice p13 p.d.length q13] 28)).alloc (.cells #[.slice a13 (cutQ nk k).q.length c13, .slice b13 (cutQ nk k).a.length d13] 25)) = u13 at *
          have HX := Lib.hid hXX
          clear hXX
          have HX4 := Lib.hid hhHX4
          clear hhHX4
          have HK8 := Lib.hid hhHK8
          clear hhHK8
          have Hk := Lib.hid hhHk
          clear hhHk
          have HP12 := Lib.hid hhHP12
          clear hhHP12
          have Hp := Lib.hid hhHp
          clear hhHp
          have HP13 := Lib.hid hhHP13
          clear hhHP13
          have Hr := Lib.hid hbr
          clear hbr
          refine (samePacket_any p ⟨0, 0, []⟩ _ _ _ HP12.out (RepP.zero _)).mono ?_
          rintro e v14 ⟨rfl, hE14⟩
          generalize hsm : samePk p ⟨0, 0, []⟩ = sm at *
          have HSM := Lib.hid hsm
          clear hsm
          have yr0 := (Hr.out.ext hE14).c0
          have yr1 := (Hr.out.ext hE14).c1
          have yr2 := (Hr.out.ext hE14).c2
          have yp0 := (Hp.out.ext hE14).c0
          have yp1 := (Hp.out.ext hE14).c1
          have yp2 := (Hp.out.ext hE14).c2
          go_wp2_with fail
          have hA14 : Ext v14 v14 := (Ext.refl v14)
          have hX14 := hE14.trans hA14
          have hhHX4 := HX4.out.ext hX14
          have hhHK8 := HK8.out.ext hX14
          have hhHk := Hk.out.ext hX14
          have hhHP12 := HP12.out.ext hX14
          have hhHp := Hp.out.ext hX14
          have hhHP13 := HP13.out.ext hX14
          have hhHr := Hr.out.ext hX14
          clear HX4 HK8 Hk HP12 Hp HP13 Hr
          have hXX := HX.out.trans hX14
          clear HX
          clear hA14 hX14 hE14 yr0 yr1 yr2 yp0 yp1 yp2
          have HX := Lib.hid hXX
          clear hXX
          have HX4 := Lib.hid hhHX4
          clear hhHX4
          have HK8 := Lib.hid hhHK8
          clear hhHK8
          have Hk := Lib.hid hhHk
          clear hhHk
          have HP12 := Lib.hid hhHP12
          clear hhHP12
          have Hp := Lib.hid hhHp
          clear hhHp
          have HP13 := Lib.hid hhHP13
          clear hhHP13
          have Hr := Lib.hid hhHr
          clear hhHr
          refine (samePacket_any p ⟨0, 0, []⟩ _ _ _ HP13.out (RepP.zero _)).mono ?_
          rintro e v15 ⟨rfl, hE15⟩
          rw [HSM.out]
          have hbb : (sm == sm) = true := by simp
          have yr0 := (Hr.out.ext hE15).c0
          have yr1 := (Hr.out.ext hE15).c1
          have yr2 := (Hr.out.ext hE15).c2
          have yp0 := (Hp.out.ext hE15).c0
          have yp1 := (Hp.out.ext hE15).c1
          have yp2 := (Hp.out.ext hE15).c2
          go_wp2_with fail
          have hA15 : Ext v15 v15 := (Ext.refl v15)
          have hX15 := hE15.trans hA15
          have hhHX4 := HX4.out.ext hX15
          have hhHK8 := HK8.out.ext hX15
          have hhHk := Hk.out.ext hX15
          have hhHP12 := HP12.out.ext hX15
          have hhHp := Hp.out.ext hX15
          have hhHP13 := HP13.out.ext hX15
          have hhHr := Hr.out.ext hX15
          clear HX4 HK8 Hk HP12 Hp HP13 Hr
          have hXX := HX.out.trans hX15
          clear HX
          clear hA15 hX15 hE15 yr0 yr1 yr2 yp0 yp1 yp2
          have HX := Lib.hid hXX
          clear hXX
          have HX4 := Lib.hid hhHX4
          clear hhHX4
          have HK8 := Lib.hid hhHK8
          clear hhHK8
          have Hk := Lib.hid hhHk
          clear hhHk
          have HP12 := Lib.hid hhHP12
          clear hhHP12
          have Hp := Lib.hid hhHp
          clear hhHp
          have HP13 := Lib.hid hhHP13
          clear hhHP13
          have Hr := Lib.hid hhHr
          clear hhHr
          refine (samePacket_true p _ _ _ HP12.out HP13.out).mono ?_
          rintro e v16 ⟨rfl, hE16⟩
          go_wp2_with fail
          go_ret
          exact ⟨rfl, HX.out.trans hE16⟩
        ·
          clear HCC hmk
          have e1 := e1.symm
          subst e1
          have gd0 : (p.f == x) = false := by rw [beq_eq_false_iff_ne]; exact e2
          have gd1 : (p.f == y) = true := by rw [beq_iff_eq]; exact e3
          have gd2 : (p.t == x) = false := by rw [beq_eq_false_iff_ne]; exact e4
          clear e2 e3 e4
          refine (deliver_any nk k _ _ HK8.out).mono ?_
          rintro e v13 ⟨cp13, cs13, rfl, hP13, hN13, hE13⟩
          rw [HD2.out] at hP13 hN13 ⊢
          dsimp only at hP13 hN13
          have HP13 := Lib.hid hP13
          obtain ⟨p13, q13, hcp⟩ := hP13.open
          subst hcp
          clear hP13
          obtain ⟨a13, c13, b13, d13, hcs⟩ := hN13.open
          subst hcs
          clear hN13
          have yp0 := fun ob0 ob1 => (((Ext.refl v13).alloc ob0).alloc ob1).cell (Hp.out.ext hE13).c0
          have yp1 := fun ob0 ob1 => (((Ext.refl v13).alloc ob0).alloc ob1).cell (Hp.out.ext hE13).c1
          have yp2 := fun ob0 ob1 => (((Ext.refl v13).alloc ob0).alloc ob1).cell (Hp.out.ext hE13).c2
          go_wp2_with fail
          have hA13 : Ext v13 ((v13.alloc (.cells #[.int .i64 p.f, .int .i64 p.t, .slice p13 p.d.length q13] 28)).alloc (.cells #[.slice a13 (cutQ nk k).q.length c13, .slice b13 (cutQ nk k).a.length d13] 25)) := (((Ext.refl v13).alloc (.cells #[.int .i64 p.f, .int .i64 p.t, .slice p13 p.d.length q13] 28)).alloc (.cells #[.slice a13 (cutQ nk k).q.length c13, .slice b13 (cutQ nk k).a.length d13] 25))
          have hX13 := hE13.trans hA13
          have hbr := ((Box3.new' v13 (.int .i64 p.f) (.int .i64 p.t) (.slice p13 p.d.length q13) 28 (v13.heap.size) (by simp)).ext ((Ext.refl _).alloc (.cells #[.slice a13 (cutQ nk k).q.length c13, .slice b13 (cutQ nk k).a.length d13] 25)))
          have hhHX4 := HX4.out.ext hX13
          have hhHK8 := HK8.out.ext hX13
          have hhHk := Hk.out.ext hX13
          have hhHP12 := HP12.out.ext hX13
          have hhHp := Hp.out.ext hX13
          clear HX4 HK8 Hk HP12 Hp
          have hhHP13 := HP13.out.ext hA13
          clear HP13
          have hXX := HX.out.trans hX13
          clear HX
          clear hA13 hX13 hE13 yp0 yp1 yp2
          generalize ((v13.alloc (.cells #[.int .i64 p.f, .int .i64 p.t, .slice p13 p.d.length q13] 28)).alloc (.cells #[.slice a13 (cutQ nk k).q.length c13, .slice b13 (cutQ nk k).a.length d13] 25)) = u13 at *
          have HX := Lib.hid hXX
          clear hXX
          have HX4 := Lib.hid hhHX4
          clear hhHX4
          have HK8 := Lib.hid hhHK8
          clear hhHK8
          have Hk := Lib.hid hhHk
          clear hhHk
          have HP12 := Lib.hid hhHP12
          clear hhHP12
          have Hp := Lib.hid hhHp
          clear hhHp
          have HP13 := Lib.hid hhHP13
          clear hhHP13
          have Hr := Lib.hid hbr
          clear hbr
          refine (samePacket_any p ⟨0, 0, []⟩ _ _ _ HP12.out (RepP.zero _)).mono ?_
          rintro e v14 ⟨rfl, hE14⟩
          generalize hsm : samePk p ⟨0, 0, []⟩ = sm at *
          have HSM := Lib.hid hsm
          clear hsm
          have yr0 := (Hr.out.ext hE14).c0
          have yr1 := (Hr.out.ext hE14).c1
          have yr2 := (Hr.out.ext hE14).c2
          have yp0 := (Hp.out.ext hE14).c0
          have yp1 := (Hp.out.ext hE14).c1
          have yp2 := (Hp.out.ext hE14).c2
          go_wp2_with fail
          have hA14 : Ext v14 v14 := (Ext.refl v14)
          have hX14 := hE14.trans hA14
          have hhHX4 := HX4.out.ext hX14
          have hhHK8 := HK8.out.ext hX14
          have hhHk := Hk.out.ext hX14
          have hhHP12 := HP12.out.ext hX14
          have hhHp := Hp.out.ext hX14
          have hhHP13 := HP13.out.ext hX14
          have hhHr := Hr.out.ext hX14
          clear HX4 HK8 Hk HP12 Hp HP13 Hr
          have hXX := HX.out.trans hX14
          clear HX
          clear hA14 hX14 hE14 yr0 yr1 yr2 yp0 yp1 yp2
          have HX := Lib.hid hXX
          clear hXX
          have HX4 := Lib.hid hhHX4
          clear hhHX4
          have HK8 := Lib.hid hhHK8
          clear hhHK8
          have Hk := Lib.hid hhHk
          clear hhHk
          have HP12 := Lib.hid hhHP12
          clear hhHP12
          have Hp := Lib.hid hhHp
          clear hhHp
          have HP13 := Lib.hid hhHP13
          clear hhHP13
          have Hr := Lib.hid hhHr
          clear hhHr
          refine (samePacket_any p ⟨0, 0, []⟩ _ _ _ HP13.out (RepP.zero _)).mono ?_
          rintro e v15 ⟨rfl, hE15⟩
          rw [HSM.out]
          have hbb : (sm == sm) = true := by simp
          have yr0 := (Hr.out.ext hE15).c0
          have yr1 := (Hr.out.ext hE15).c1
          have yr2 := (Hr.out.ext hE15).c2
          have yp0 := (Hp.out.ext hE15).c0
          have yp1 := (Hp.out.ext hE15).c1
          have yp2 := (Hp.out.ext hE15).c2
          go_wp2_with fail
          have hA15 : Ext v15 v15 := (Ext.refl v15)
          have hX15 := hE15.trans hA15
          have hhHX4 := HX4.out.ext hX15
          have hhHK8 := HK8.out.ext hX15
          have hhHk := Hk.out.ext hX15
          have hhHP12 := HP12.out.ext hX15
          have hhHp := Hp.out.ext hX15
          have hhHP13 := HP13.out.ext hX15
          have hhHr := Hr.out.ext hX15
          clear HX4 HK8 Hk HP12 Hp HP13 Hr
          have hXX := HX.out.trans hX15
          clear HX
          clear hA15 hX15 hE15 yr0 yr1 yr2 yp0 yp1 yp2
          have HX := Lib.hid hXX
          clear hXX
          have HX4 := Lib.hid hhHX4
          clear hhHX4
          have HK8 := Lib.hid hhHK8
          clear hhHK8
          have Hk := Lib.hid hhHk
          clear hhHk
          have HP12 := Lib.hid hhHP12
          clear hhHP12
          have Hp := Lib.hid hhHp
          clear hhHp
          have HP13 := Lib.hid hhHP13
          clear hhHP13
          have Hr := Lib.hid hhHr
          clear hhHr
          refine (samePacket_true p _ _ _ HP12.out HP13.out).mono ?_
          rintro e v16 ⟨rfl, hE16⟩
          go_wp2_with fail
          go_ret
          exact ⟨rfl, HX.out.trans hE16⟩
        ·
          clear HCC hmk
          have e1 := e1.symm
          subst e1
          have gd0 : (p.f == x) = false := by rw [beq_eq_false_iff_ne]; exact e2
          have gd1 : (p.f == y) = false := by rw [beq_eq_false_iff_ne]; exact e3
          clear e2 e3
          refine (deliver_any nk k _ _ HK8.out).mono ?_
          rintro e v13 ⟨cp13, cs13, rfl, hP13, hN13, hE13⟩
          rw [HD2.out] at hP13 hN13 ⊢
          dsimp only at hP13 hN13
          have HP13 := Lib.hid hP13
          obtain ⟨p13, q13, hcp⟩ := hP13.open
          subst hcp
          clear hP13
          obtain ⟨a13, c13, b13, d13, hcs⟩ := hN13.open
          subst hcs
          clear hN13
          have yp0 := fun ob0 ob1 => (((Ext.refl v13).alloc ob0).alloc ob1).cell (Hp.out.ext hE13).c0
          have yp1 := fun ob0 ob1 => (((Ext.refl v13).alloc ob0).alloc ob1).cell (Hp.out.ext hE13).c1
          have yp2 := fun ob0 ob1 => (((Ext.refl v13).alloc ob0).alloc ob1).cell (Hp.out.ext hE13).c2
          go_wp2_with fail
          have hA13 : Ext v13 ((v13.alloc (.cells #[.int .i64 p.f, .int .i64 p.t, .slice p13 p.d.length q13] 28)).alloc (.cells #[.slice a13 (cutQ nk k).q.length c13, .slice b13 (cutQ nk k).a.length d13] 25)) := (((Ext.refl v13).alloc (.cells #[.int .i64 p.f, .int .i64 p.t, .slice p13 p.d.length q13] 28)).alloc (.cells #[.slice a13 (cutQ nk k).q.length c13, .slice b13 (cutQ nk k).a.length d13] 25))
          have hX13 := hE13.trans hA13
          have hbr := ((Box3.new' v13 (.int .i64 p.f) (.int .i64 p.t) (.slice p13 p.d.length q13) 28 (v13.heap.size) (by simp)).ext ((Ext.refl _).alloc (.cells #[.slice a13 (cutQ nk k).q.length c13, .slice b13 (cutQ nk k).a.length d13] 25)))
          have hhHX4 := HX4.out.ext hX13
          have hhHK8 := HK8.out.ext hX13
          have hhHk := Hk.out.ext hX13
          have hhHP12 := HP12.out.ext hX13
          have hhHp := Hp.out.ext hX13
          clear HX4 HK8 Hk HP12 Hp
          have hhHP13 := HP13.out.ext hA13
          clear HP13
          have hXX := HX.out.trans hX13
          clear HX
          clear hA13 hX13 hE13 yp0 yp1 yp2
          generalize ((v13.alloc (.cells #[.int .i64 p.f, .int .i64 p.t, .slice p13 p.d.length q13] 28)).alloc (.cells #[.slice a13 (cutQ nk k).q.length c13, .slice b13 (cutQ nk k).a.length d13] 25)) = u13 at *
          have HX := Lib.hid hXX
          clear hXX
          have HX4 := Lib.hid hhHX4
          clear hhHX4
          have HK8 := Lib.hid hhHK8
          clear hhHK8
          have Hk := Lib.hid hhHk
          clear hhHk
          have HP12 := Lib.hid hhHP12
          clear hhHP12
          have Hp := Lib.hid hhHp
          clear hhHp
          have HP13 := Lib.hid hhHP13
          clear hhHP13
          have Hr := Lib.hid hbr
          clear hbr
          refine (samePacket_any p ⟨0, 0, []⟩ _ _ _ HP12.out (RepP.zero _)).mono ?_
          rintro e v14 ⟨rfl, hE14⟩
          generalize hsm : samePk p ⟨0, 0, []⟩ = sm at *
          have HSM := Lib.hid hsm
          clear hsm
          have yr0 := (Hr.out.ext hE14).c0
          have yr1 := (Hr.out.ext hE14).c1
          have yr2 := (Hr.out.ext hE14).c2
          have yp0 := (Hp.out.ext hE14).c0
          have yp1 := (Hp.out.ext hE14).c1
          have yp2 := (Hp.out.ext hE14).c2
          go_wp2_with fail
          have hA14 : Ext v14 v14 := (Ext.refl v14)
          have hX14 := hE14.trans hA14
          have hhHX4 := HX4.out.ext hX14
          have hhHK8 := HK8.out.ext hX14
          have hhHk := Hk.out.ext hX14
          have hhHP12 := HP12.out.ext hX14
          have hhHp := Hp.out.ext hX14
          have hhHP13 := HP13.out.ext hX14
          have hhHr := Hr.out.ext hX14
          clear HX4 HK8 Hk HP12 Hp HP13 Hr
          have hXX := HX.out.trans hX14
          clear HX
          clear hA14 hX14 hE14 yr0 yr1 yr2 yp0 yp1 yp2
          have HX := Lib.hid hXX
          clear hXX
          have HX4 := Lib.hid hhHX4
          clear hhHX4
          have HK8 := Lib.hid hhHK8
          clear hhHK8
          have Hk := Lib.hid hhHk
          clear hhHk
          have HP12 := Lib.hid hhHP12
          clear hhHP12
          have Hp := Lib.hid hhHp
          clear hhHp
          have HP13 := Lib.hid hhHP13
          clear hhHP13
          have Hr := Lib.hid hhHr
          clear hhHr
          refine (samePacket_any p ⟨0, 0, []⟩ _ _ _ HP13.out (RepP.zero _)).mono ?_
          rintro e v15 ⟨rfl, hE15⟩
          rw [HSM.out]
          have hbb : (sm == sm) = true := by simp
          have yr0 := (Hr.out.ext hE15).c0
          have yr1 := (Hr.out.ext hE15).c1
          have yr2 := (Hr.out.ext hE15).c2
          have yp0 := (Hp.out.ext hE15).c0
          have yp1 := (Hp.out.ext hE15).c1
          have yp2 := (Hp.out.ext hE15).c2
          go_wp2_with fail
          have hA15 : Ext v15 v15 := (Ext.refl v15)
          have hX15 := hE15.trans hA15
          have hhHX4 := HX4.out.ext hX15
          have hhHK8 := HK8.out.ext hX15
          have hhHk := Hk.out.ext hX15
          have hhHP12 := HP12.out.ext hX15
          have hhHp := Hp.out.ext hX15
          have hhHP13 := HP13.out.ext hX15
          have hhHr := Hr.out.ext hX15
          clear HX4 HK8 Hk HP12 Hp HP13 Hr
          have hXX := HX.out.trans hX15
          clear HX
          clear hA15 hX15 hE15 yr0 yr1 yr2 yp0 yp1 yp2
          have HX := Lib.hid hXX
          clear hXX
          have HX4 := Lib.hid hhHX4
          clear hhHX4
          have HK8 := Lib.hid hhHK8
          clear hhHK8
          have Hk := Lib.hid hhHk
          clear hhHk
          have HP12 := Lib.hid hhHP12
          clear hhHP12
          have Hp := Lib.hid hhHp
          clear hhHp
          have HP13 := Lib.hid hhHP13
          clear hhHP13
          have Hr := Lib.hid hhHr
          clear hhHr
          refine (samePacket_true p _ _ _ HP12.out HP13.out).mono ?_
          rintro e v16 ⟨rfl, hE16⟩
          go_wp2_with fail
          go_ret
          exact ⟨rfl, HX.out.trans hE16⟩
end Go.Proofs.Ytdlahgmbilkdcaa
