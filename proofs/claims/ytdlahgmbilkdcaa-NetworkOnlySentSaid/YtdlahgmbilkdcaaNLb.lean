/- The law NetworkMoveSpec, walked: it answers true. -/
import Derived.Test.YtdlahgmbilkdcaaNLc
namespace Go.Sz
open Go.RowKit
def irows (l : List Int) : List (List Value) := l.map fun z => [.int .i64 z]
def mvI (i : Int) (m : Nat) : List Int := i :: (List.range m).map fun (j : Nat) => (j : Int)
theorem mvI_length (i : Int) (m : Nat) : (mvI i m).length = m + 1 := by simp [mvI]
theorem mvI_succ (i : Int) (m : Nat) : mvI i (m + 1) = mvI i m ++ [(m : Int)] := by simp [mvI, List.range_succ]
theorem irows_length (l : List Int) : (irows l).length = l.length := List.length_map _
theorem irows_wid (l : List Int) : ∀ r ∈ irows l, r.length = 1 := fun r hr => by
  simp only [irows, List.mem_map] at hr
  obtain ⟨z, _, rfl⟩ := hr
  rfl
/-- an element of a list of numbers -/
theorem irows_cell {w : World} {ao : Option Addr} {cap : Nat} {l : List Int} (h : SL w 1 ao cap (irows l)) {i : Nat} (hi : i < l.length) : ∃ b o, ao = some ⟨b, o, none⟩ ∧ w.cell? ⟨b, o + i, none⟩ = some (.int .i64 l[i]) := by
  obtain ⟨b, o, e, hc⟩ := h.cells i 0 [.int .i64 l[i]] (.int .i64 l[i]) (by simp [irows, hi]) rfl
  exact ⟨b, o, e, by simpa using hc⟩
end Go.Sz
namespace Go.Proofs.Ytdlahgmbilkdcaa
open Go.RowKit Go.Sz Go.Shelf
theorem infoInt : (Try.prog.info? 3).map (fun i => (i.zero, i.size, i.bytes)) = some (some (.int .i64 0), 1, 8) := by kernel_rfl

set_option maxRecDepth 100000 in
set_option maxHeartbeats 12800000 in
theorem law_move (n : Nw) (i x y : Int) (on : Bool) (cs : List Value) (w : World) (h : RepN w cs n) : Calls Try.prog 6 #[.agg cs.toArray, .int .i64 i, .int .i64 x, .int .i64 y, .bool on] w fun e w' => e = .returned (.bool true) ∧ Ext w w' := by
  have HN := Lib.hid h
  have hs1 := h.sizes
  obtain ⟨i0, hi, hz0, hz1, hz2⟩ := info_parts infoInt
  obtain ⟨a0, c0, b0, d0, rfl⟩ := h.open
  clear h
  go_enter Try.func6, Try.ntmps6
  go_wp2_with fail
  have hX0 := (Ext.refl w).alloc (.cells #[.slice a0 n.q.length c0, .slice b0 n.a.length d0] 25)
  have hbn := Box2.new w (.slice a0 n.q.length c0) (.slice b0 n.a.length d0) 25
  generalize (w.alloc (.cells #[.slice a0 n.q.length c0, .slice b0 n.a.length d0] 25)) = u0 at *
  have hhN := HN.out.ext hX0
  clear HN
  have HN := Lib.hid hhN
  have HX := Lib.hid hX0
  have Hn := Lib.hid hbn
  clear hhN hX0 hbn
  refine (sane_any _).mono ?_
  rintro e v1 ⟨rfl, hE1⟩
  have yn0 := (Hn.out.ext hE1).c0
  have yn1 := (Hn.out.ext hE1).c1
  go_wp2_with fail
  have hA1 : Ext v1 v1 := (Ext.refl v1)
  have hX1 := hE1.trans hA1
  have hhHN := HN.out.ext hX1
  have hhHn := Hn.out.ext hX1
  clear HN Hn
  have hXX := HX.out.trans hX1
  clear HX
  clear hA1 hX1 hE1 yn0 yn1
  have HX := Lib.hid hXX
  clear hXX
  have HN := Lib.hid hhHN
  clear hhHN
  have Hn := Lib.hid hhHn
  clear hhHn
  refine (few_any n _ _ HN.out).mono ?_
  rintro e v2 ⟨rfl, hE2⟩
  generalize (decide (n.q.length ≤ 40) && decide (n.a.length ≤ 40)) = few at *
  cases few with
  | false =>
    go_wp2_with fail
    go_ret
    exact ⟨rfl, HX.out.trans hE2⟩
  | true =>
    generalize hrc : cutN n x y on = rc
    have HRC := Lib.hid hrc
    clear hrc
    have yn0 := (Hn.out.ext hE2).c0
    have yn1 := (Hn.out.ext hE2).c1
    go_wp2_with fail
    have hA2 : Ext v2 v2 := (Ext.refl v2)
    have hX2 := hE2.trans hA2
    have hhHN := HN.out.ext hX2
    have hhHn := Hn.out.ext hX2
    clear HN Hn
    have hXX := HX.out.trans hX2
    clear HX
    clear hA2 hX2 hE2 yn0 yn1
    have HX := Lib.hid hXX
    clear hXX
    have HN := Lib.hid hhHN
    clear hhHN
    have Hn := Lib.hid hhHn
    clear hhHn
    refine (cut_any n x y on _ _ HN.out).mono ?_
    rintro e v3 ⟨cs3, rfl, hN3, hE3⟩
    rw [HRC.out] at hN3 ⊢
    have HN3 := Lib.hid hN3
    obtain ⟨a3, c3, b3, d3, hcs⟩ := hN3.open
    subst hcs
    clear hN3
    have yn0 := fun ob0 => ((Ext.refl v3).alloc ob0).cell (Hn.out.ext hE3).c0
    have yn1 := fun ob0 => ((Ext.refl v3).alloc ob0).cell (Hn.out.ext hE3).c1
    go_wp2_with fail
    have hA3 : Ext v3 (v3.alloc (.cells #[.slice a3 rc.1.q.length c3, .slice b3 rc.1.a.length d3] 25)) := ((Ext.refl v3).alloc (.cells #[.slice a3 rc.1.q.length c3, .slice b3 rc.1.a.length d3] 25))
    have hX3 := hE3.trans hA3
    have hbx := (Box2.new' v3 (.slice a3 rc.1.q.length c3) (.slice b3 rc.1.a.length d3) 25 (v3.heap.size) (by simp))
    have hhHN := HN.out.ext hX3
    have hhHn := Hn.out.ext hX3
    clear HN Hn
    have hhHN3 := HN3.out.ext hA3
    clear HN3
    have hXX := HX.out.trans hX3
    clear HX
    clear hA3 hX3 hE3 yn0 yn1
    generalize (v3.alloc (.cells #[.slice a3 rc.1.q.length c3, .slice b3 rc.1.a.length d3] 25)) = u3 at *
    have HX := Lib.hid hXX
    clear hXX
    have HN := Lib.hid hhHN
    clear hhHN
    have Hn := Lib.hid hhHn
    clear hhHn
    have HN3 := Lib.hid hhHN3
    clear hhHN3
    have Hx := Lib.hid hbx
    clear hbx
    refine (refCut_any n x y on _ _ HN.out).mono ?_
    rintro e v4 ⟨cs4, rfl, hN4, hE4⟩
    rw [HRC.out] at hN4 ⊢
    have HN4 := Lib.hid hN4
    obtain ⟨a4, c4, b4, d4, hcs⟩ := hN4.open
    subst hcs
    clear hN4
    have yx0 := fun ob0 => ((Ext.refl v4).alloc ob0).cell (Hx.out.ext hE4).c0
    have yx1 := fun ob0 => ((Ext.refl v4).alloc ob0).cell (Hx.out.ext hE4).c1
    go_wp2_with fail
    have hA4 : Ext v4 (v4.alloc (.cells #[.slice a4 rc.1.q.length c4, .slice b4 rc.1.a.length d4] 25)) := ((Ext.refl v4).alloc (.cells #[.slice a4 rc.1.q.length c4, .slice b4 rc.1.a.length d4] 25))
    have hX4 := hE4.trans hA4
    have hbz := (Box2.new' v4 (.slice a4 rc.1.q.length c4) (.slice b4 rc.1.a.length d4) 25 (v4.heap.size) (by simp))
    have hhHN := HN.out.ext hX4
    have hhHn := Hn.out.ext hX4
    have hhHN3 := HN3.out.ext hX4
    have hhHx := Hx.out.ext hX4
    clear HN Hn HN3 Hx
    have hhHN4 := HN4.out.ext hA4
    clear HN4
    have hXX := HX.out.trans hX4
    clear HX
    clear hA4 hX4 hE4 yx0 yx1
    generalize (v4.alloc (.cells #[.slice a4 rc.1.q.length c4, .slice b4 rc.1.a.length d4] 25)) = u4 at *
    have HX := Lib.hid hXX
    clear hXX
    have HN := Lib.hid hhHN
    clear hhHN
    have Hn := Lib.hid hhHn
    clear hhHn
    have HN3 := Lib.hid hhHN3
    clear hhHN3
    have Hx := Lib.hid hhHx
    clear hhHx
    have HN4 := Lib.hid hhHN4
    clear hhHN4
    have Hz := Lib.hid hbz
    clear hbz
    refine (same_true rc.1 _ _ _ HN3.out HN4.out).mono ?_
    rintro e v5 ⟨rfl, hE5⟩
    have hce : (rc.2 != rc.2) = false := by simp
    have hA5 : Ext v5 v5 := (Ext.refl v5)
    have hX5 := hE5.trans hA5
    have hhHN := HN.out.ext hX5
    have hhHn := Hn.out.ext hX5
    have hhHN3 := HN3.out.ext hX5
    have hhHx := Hx.out.ext hX5
    have hhHN4 := HN4.out.ext hX5
    have hhHz := Hz.out.ext hX5
    clear HN Hn HN3 Hx HN4 Hz
    have hXX := HX.out.trans hX5
    clear HX
    clear hA5 hX5 hE5
    have HX := Lib.hid hXX
    clear hXX
    have HN := Lib.hid hhHN
    clear hhHN
    have Hn := Lib.hid hhHn
    clear hhHn
    have HN3 := Lib.hid hhHN3
    clear hhHN3
    have Hx := Lib.hid hhHx
    clear hhHx
    have HN4 := Lib.hid hhHN4
    clear hhHN4
    have Hz := Lib.hid hhHz
    clear hhHz
    go_wp2_with fail
    have ho0 := own_one (w := v5) (x := .int .i64 i) (e := 3) (base := v5.heap.size) rfl (Nat.le_refl _)
    have HNO := Lib.hid HN.out
    have HNB := Lib.hid Hn.out
    clear HN3 HN4 Hx Hz HN Hn hce HRC
    go_loopw [15, 16] (fun lv k wr => ∃ m : Nat, k = .int .i64 m ∧ m ≤ 3 ∧ m ≤ n.q.length ∧ wr.ownsRow v5.heap.size 3 1 lv (mvI i m).length (irows (mvI i m)).flatten ∧ Ext v5 wr) (fun _ k _ => 3 - (intOf k).toNat)
    case atStart => exact ⟨0, rfl, by omega, by omega, by simpa [irows, mvI] using ho0, (Ext.refl _).alloc _⟩
    case round =>
      clear ho0
      obtain ⟨m, rfl, hm3, hmn, ho, hB⟩ := hrel
      obtain ⟨n0, n1, _⟩ := HNB.out.ext hB
      by_cases hlt : m < n.q.length ∧ m < 3
      · obtain ⟨hlt1, hlt2⟩ := hlt
        have hl1 : (m : Int) < (n.q.length : Int) := by omega
        have hl2 : (m : Int) < 3 := by omega
        have HO := Lib.hid ho
        have hlen := mvI_length i m
        have HBLK : Hid (∀ b, Value.ownBlock u15 = some b → v5.heap.size ≤ b) := Lib.hid (ownsRow_blocks HO.out)
        clear ho
        have hszB := hB.size
        go_wp2_with (at_builtin; refine wpList_append_S rfl _ _ 45 45 rfl v5.heap.size 3 i0 _ 1 8 Try.underlying45 hi hz0 hz1 hz2 rfl _ _ _ rfl (ownsRow_ext HO.out ((Ext.refl wr).alloc _)) (.slice (some ⟨wr.heap.size, 0, none⟩) 1 1) 1 [.int .i64 m] rfl (Src.ofSlice _ Try.underlying45 ⟨wr.heap.size, 0, none⟩ 1 1 _ rfl (one_cell (by simp)) (by simp [Value.oneCell'])) (by unfold maxLen; omega) (by omega) (by simp; omega) ?_; intro v6 w6 ho6 hg6)
        have hX6 : Ext v5 w6 := Ext.trans' (hB.alloc (.cells #[.int .i64 m] 3)) hg6 (HBLK.out)
        go_roundw
        case rel => exact ⟨m + 1, by go_num, by omega, by omega, by rw [mvI_succ, List.length_append]; simpa [irows] using ho6, hX6⟩
        case measure => simp [intOf] <;> omega
      · have hq3 : ¬ (m : Int) < (n.q.length : Int) ∨ ((m : Int) < (n.q.length : Int) ∧ ¬ (m : Int) < 3) := by omega
        obtain ⟨ao, cap, hlv, hs, hf⟩ := SL.of_own ho (irows_wid _) (irows_length _)
        have hlv := hlv
        subst hlv
        have HS := Lib.hid hs
        have hms := hs.max
        have hml := hs.le
        rw [irows_length] at hml
        have HEX := Lib.hid (HX.out.trans hB)
        have HN := Lib.hid (HNO.out.ext hB)
        have Hn := Lib.hid (HNB.out.ext hB)
        generalize hzs : mvI i m = zs at *
        clear ho hs hf hzs HX HNO HNB hB hlt hm3 hmn
        rcases hq3 with hl1 | ⟨hl1, hl2⟩
        ·
          go_wp2_with fail
          obtain ⟨wb, hwb⟩ : ∃ wb, wb = wr := ⟨_, rfl⟩
          subst hwb
          go_loopw [74] (fun k wr2 => ∃ j : Nat, k = .int .i64 j ∧ j ≤ zs.length ∧ Ext wb wr2) (fun k _ => zs.length - (intOf k).toNat)
          case atStart => exact ⟨0, rfl, by omega, Ext.refl _⟩
          case round =>
            obtain ⟨j, rfl, hj, hB⟩ := hrel
            by_cases hjl : j < zs.length
            · have hji : (j : Int) < (zs.length : Int) := by omega
              obtain ⟨gb, oo, rfl, gz⟩ := irows_cell (HS.out.ext hB) hjl
              generalize zs[j] = z at gz
              have HJL := Lib.hid hjl
              clear hjl n0 n1
              generalize hrd : deliverN n z = rd
              generalize hrl : loseN n z = rl
              generalize hrp : repeatN n z = rp
              have HRD := Lib.hid hrd
              have HRL := Lib.hid hrl
              have HRP := Lib.hid hrp
              clear hrd hrl hrp
              have HX := Lib.hid hB
              have HNr := Lib.hid HN.out
              have Hnr := Lib.hid Hn.out
              clear HN Hn
              have HN := Lib.hid (HNr.out.ext hB)
              have Hn := Lib.hid (Hnr.out.ext hB)
              obtain ⟨n0, n1, _⟩ := Hn.out
              clear hB
              go_wp2_with fail
              clear gz n0 n1
              refine (deliver_any n z _ _ HN.out).mono ?_
              rintro e v11 ⟨cp11, cs11, rfl, hP11, hN11, hE11⟩
              rw [HRD.out] at hP11 hN11 ⊢
              have HP11 := Lib.hid hP11
              obtain ⟨p11, q11, hcp⟩ := hP11.open
              subst hcp
              clear hP11
              have HN11 := Lib.hid hN11
              obtain ⟨a11, c11, b11, d11, hcs⟩ := hN11.open
              subst hcs
              clear hN11
              have hsz11 := (HX.out.trans hE11).size
              have yn0 := fun ob0 ob1 => (((Ext.refl v11).alloc ob0).alloc ob1).cell (Hn.out.ext hE11).c0
              have yn1 := fun ob0 ob1 => (((Ext.refl v11).alloc ob0).alloc ob1).cell (Hn.out.ext hE11).c1
              go_wp2_with fail
              have hA11 : Ext v11 ((v11.alloc (.cells #[.int .i64 rd.1.f, .int .i64 rd.1.t, .slice p11 rd.1.d.length q11] 28)).alloc (.cells #[.slice a11 rd.2.1.q.length c11, .slice b11 rd.2.1.a.length d11] 25)) := (((Ext.refl v11).alloc (.cells #[.int .i64 rd.1.f, .int .i64 rd.1.t, .slice p11 rd.1.d.length q11] 28)).alloc (.cells #[.slice a11 rd.2.1.q.length c11, .slice b11 rd.2.1.a.length d11] 25))
              have hX11 := hE11.trans hA11
              have hbp := ((Box3.new' v11 (.int .i64 rd.1.f) (.int .i64 rd.1.t) (.slice p11 rd.1.d.length q11) 28 (v11.heap.size) (by simp)).ext ((Ext.refl _).alloc (.cells #[.slice a11 rd.2.1.q.length c11, .slice b11 rd.2.1.a.length d11] 25)))
              have hba := (Box2.new' (v11.alloc (.cells #[.int .i64 rd.1.f, .int .i64 rd.1.t, .slice p11 rd.1.d.length q11] 28)) (.slice a11 rd.2.1.q.length c11) (.slice b11 rd.2.1.a.length d11) 25 (v11.heap.size + 1) (by simp))
              have hhHN := HN.out.ext hX11
              have hhHn := Hn.out.ext hX11
              clear HN Hn
              have hhHP11 := HP11.out.ext hA11
              have hhHN11 := HN11.out.ext hA11
              clear HP11 HN11
              have hXX := HX.out.trans hX11
              clear HX
              clear hA11 hX11 hE11 yn0 yn1
              generalize ((v11.alloc (.cells #[.int .i64 rd.1.f, .int .i64 rd.1.t, .slice p11 rd.1.d.length q11] 28)).alloc (.cells #[.slice a11 rd.2.1.q.length c11, .slice b11 rd.2.1.a.length d11] 25)) = u11 at *
              have HX := Lib.hid hXX
              clear hXX
              have HN := Lib.hid hhHN
              clear hhHN
              have Hn := Lib.hid hhHn
              clear hhHn
              have HP11 := Lib.hid hhHP11
              clear hhHP11
              have HN11 := Lib.hid hhHN11
              clear hhHN11
              have Hp := Lib.hid hbp
              clear hbp
              have Ha := Lib.hid hba
              clear hba
              refine (refDeliver_any n z _ _ HN.out).mono ?_
              rintro e v12 ⟨cp12, cs12, rfl, hP12, hN12, hE12⟩
              rw [HRD.out] at hP12 hN12 ⊢
              have HP12 := Lib.hid hP12
              obtain ⟨p12, q12, hcp⟩ := hP12.open
              subst hcp
              clear hP12
              have HN12 := Lib.hid hN12
              obtain ⟨a12, c12, b12, d12, hcs⟩ := hN12.open
              subst hcs
              clear hN12
              have hsz12 := (HX.out.trans hE12).size
              have hab : v11.heap.size + 1 ≠ v12.heap.size + 1 := by have := (Ha.out.ext hE12).lt; omega
              have yp0 := fun ob0 ob1 => (((Ext.refl v12).alloc ob0).alloc ob1).cell (Hp.out.ext hE12).c0
              have yp1 := fun ob0 ob1 => (((Ext.refl v12).alloc ob0).alloc ob1).cell (Hp.out.ext hE12).c1
              have yp2 := fun ob0 ob1 => (((Ext.refl v12).alloc ob0).alloc ob1).cell (Hp.out.ext hE12).c2
              go_wp2_with fail
              have hA12 : Ext v12 ((v12.alloc (.cells #[.int .i64 rd.1.f, .int .i64 rd.1.t, .slice p12 rd.1.d.length q12] 28)).alloc (.cells #[.slice a12 rd.2.1.q.length c12, .slice b12 rd.2.1.a.length d12] 25)) := (((Ext.refl v12).alloc (.cells #[.int .i64 rd.1.f, .int .i64 rd.1.t, .slice p12 rd.1.d.length q12] 28)).alloc (.cells #[.slice a12 rd.2.1.q.length c12, .slice b12 rd.2.1.a.length d12] 25))
              have hX12 := hE12.trans hA12
              have hbr := ((Box3.new' v12 (.int .i64 rd.1.f) (.int .i64 rd.1.t) (.slice p12 rd.1.d.length q12) 28 (v12.heap.size) (by simp)).ext ((Ext.refl _).alloc (.cells #[.slice a12 rd.2.1.q.length c12, .slice b12 rd.2.1.a.length d12] 25)))
              have hbb := (Box2.new' (v12.alloc (.cells #[.int .i64 rd.1.f, .int .i64 rd.1.t, .slice p12 rd.1.d.length q12] 28)) (.slice a12 rd.2.1.q.length c12) (.slice b12 rd.2.1.a.length d12) 25 (v12.heap.size + 1) (by simp))
              have hhHN := HN.out.ext hX12
              have hhHn := Hn.out.ext hX12
              have hhHP11 := HP11.out.ext hX12
              have hhHN11 := HN11.out.ext hX12
              have hhHp := Hp.out.ext hX12
              have hhHa := Ha.out.ext hX12
              clear HN Hn HP11 HN11 Hp Ha
              have hhHP12 := HP12.out.ext hA12
              have hhHN12 := HN12.out.ext hA12
              clear HP12 HN12
              have hXX := HX.out.trans hX12
              clear HX
              clear hA12 hX12 hE12 yp0 yp1 yp2
              generalize ((v12.alloc (.cells #[.int .i64 rd.1.f, .int .i64 rd.1.t, .slice p12 rd.1.d.length q12] 28)).alloc (.cells #[.slice a12 rd.2.1.q.length c12, .slice b12 rd.2.1.a.length d12] 25)) = u12 at *
              have HX := Lib.hid hXX
              clear hXX
              have HN := Lib.hid hhHN
              clear hhHN
              have Hn := Lib.hid hhHn
              clear hhHn
              have HP11 := Lib.hid hhHP11
              clear hhHP11
              have HN11 := Lib.hid hhHN11
              clear hhHN11
              have Hp := Lib.hid hhHp
              clear hhHp
              have Ha := Lib.hid hhHa
              clear hhHa
              have HP12 := Lib.hid hhHP12
              clear hhHP12
              have HN12 := Lib.hid hhHN12
              clear hhHN12
              have Hr := Lib.hid hbr
              clear hbr
              have Hb := Lib.hid hbb
              clear hbb
              refine (samePacket_true rd.1 _ _ _ HP11.out HP12.out).mono ?_
              rintro e v13 ⟨rfl, hE13⟩
              have ya0 := (Ha.out.ext hE13).c0
              have ya1 := (Ha.out.ext hE13).c1
              have yb0 := (Hb.out.ext hE13).c0
              have yb1 := (Hb.out.ext hE13).c1
              go_wp2_with fail
              have hA13 : Ext v13 v13 := (Ext.refl v13)
              have hX13 := hE13.trans hA13
              have hhHN := HN.out.ext hX13
              have hhHn := Hn.out.ext hX13
              have hhHP11 := HP11.out.ext hX13
              have hhHN11 := HN11.out.ext hX13
              have hhHp := Hp.out.ext hX13
              have hhHa := Ha.out.ext hX13
              have hhHP12 := HP12.out.ext hX13
              have hhHN12 := HN12.out.ext hX13
              have hhHr := Hr.out.ext hX13
              have hhHb := Hb.out.ext hX13
              clear HN Hn HP11 HN11 Hp Ha HP12 HN12 Hr Hb
              have hXX := HX.out.trans hX13
              clear HX
              clear hA13 hX13 hE13 ya0 ya1 yb0 yb1
              have HX := Lib.hid hXX
              clear hXX
              have HN := Lib.hid hhHN
              clear hhHN
              have Hn := Lib.hid hhHn
              clear hhHn
              have HP11 := Lib.hid hhHP11
              clear hhHP11
              have HN11 := Lib.hid hhHN11
              clear hhHN11
              have Hp := Lib.hid hhHp
              clear hhHp
              have Ha := Lib.hid hhHa
              clear hhHa
              have HP12 := Lib.hid hhHP12
              clear hhHP12
              have HN12 := Lib.hid hhHN12
              clear hhHN12
              have Hr := Lib.hid hhHr
              clear hhHr
              have Hb := Lib.hid hhHb
              clear hhHb
              refine (same_true rd.2.1 _ _ _ HN11.out HN12.out).mono ?_
              rintro e v14 ⟨rfl, hE14⟩
              have hde : (rd.2.2 != rd.2.2) = false := by simp
              have yn0 := (Hn.out.ext hE14).c0
              have yn1 := (Hn.out.ext hE14).c1
              go_wp2_with fail
              have hA14 : Ext v14 v14 := (Ext.refl v14)
              have hX14 := hE14.trans hA14
              have hhHN := HN.out.ext hX14
              have hhHn := Hn.out.ext hX14
              have hhHP11 := HP11.out.ext hX14
              have hhHN11 := HN11.out.ext hX14
              have hhHp := Hp.out.ext hX14
              have hhHa := Ha.out.ext hX14
              have hhHP12 := HP12.out.ext hX14
              have hhHN12 := HN12.out.ext hX14
              have hhHr := Hr.out.ext hX14
              have hhHb := Hb.out.ext hX14
              clear HN Hn HP11 HN11 Hp Ha HP12 HN12 Hr Hb
              have hXX := HX.out.trans hX14
              clear HX
              clear hA14 hX14 hE14 yn0 yn1
              have HX := Lib.hid hXX
              clear hXX
              have HN := Lib.hid hhHN
              clear hhHN
              have Hn := Lib.hid hhHn
              clear hhHn
              have HP11 := Lib.hid hhHP11
              clear hhHP11
              have HN11 := Lib.hid hhHN11
              clear hhHN11
              have Hp := Lib.hid hhHp
              clear hhHp
              have Ha := Lib.hid hhHa
              clear hhHa
              have HP12 := Lib.hid hhHP12
              clear hhHP12
              have HN12 := Lib.hid hhHN12
              clear hhHN12
              have Hr := Lib.hid hhHr
              clear hhHr
              have Hb := Lib.hid hhHb
              clear hhHb
              clear hde HP11 HP12 HN11 HN12 Hp Hr
              refine (lose_any n z _ _ HN.out).mono ?_
              rintro e v15 ⟨cs15, rfl, hN15, hE15⟩
              rw [HRL.out] at hN15 ⊢
              have HN15 := Lib.hid hN15
              obtain ⟨a15, c15, b15, d15, hcs⟩ := hN15.open
              subst hcs
              clear hN15
              have hX15 : Ext wb ((v15.setCell ⟨v11.heap.size + 1, 0, none⟩ (.slice a15 rl.1.q.length c15)).setCell ⟨v11.heap.size + 1, 1, none⟩ (.slice b15 rl.1.a.length d15)) := ((HX.out.trans hE15).setCell (p := ⟨v11.heap.size + 1, 0, none⟩) (Nat.le_succ_of_le hsz11) _).setCell (p := ⟨v11.heap.size + 1, 1, none⟩) (Nat.le_succ_of_le hsz11) _
              obtain ⟨xa0, xa1, xaz⟩ := Ha.out.ext hE15
              have hb1 := ((Ha.out.ext hE15).set0 (.slice a15 rl.1.q.length c15)).set1 (.slice b15 rl.1.a.length d15)
              have hb2 := ((Hb.out.ext hE15).far (q := ⟨v11.heap.size + 1, 0, none⟩) (.slice a15 rl.1.q.length c15) (fun h => hab h.symm)).far (q := ⟨v11.heap.size + 1, 1, none⟩) (.slice b15 rl.1.a.length d15) (fun h => hab h.symm)
              have yn0 := (Hnr.out.ext hX15).c0
              have yn1 := (Hnr.out.ext hX15).c1
              go_wp2_with fail
              have hhc := HN15.out.setN (Ha.out.ext hE15) (.slice a15 rl.1.q.length c15) (.slice b15 rl.1.a.length d15)
              clear xa0 xa1 xaz HN Hn Ha Hb HX HN15  yn0 yn1
              generalize ((v15.setCell ⟨v11.heap.size + 1, 0, none⟩ (.slice a15 rl.1.q.length c15)).setCell ⟨v11.heap.size + 1, 1, none⟩ (.slice b15 rl.1.a.length d15)) = u15 at *
              have HX := Lib.hid hX15
              have Ha := Lib.hid hb1
              have Hb := Lib.hid hb2
              have HN := Lib.hid (HNr.out.ext hX15)
              have Hn := Lib.hid (Hnr.out.ext hX15)
              have HN15 := Lib.hid hhc
              clear hb1 hb2 hhc hX15 hE15
              refine (refLose_any n z _ _ HN.out).mono ?_
              rintro e v16 ⟨cs16, rfl, hN16, hE16⟩
              rw [HRL.out] at hN16 ⊢
              have HN16 := Lib.hid hN16
              obtain ⟨a16, c16, b16, d16, hcs⟩ := hN16.open
              subst hcs
              clear hN16
              have hX16 : Ext wb ((v16.setCell ⟨v12.heap.size + 1, 0, none⟩ (.slice a16 rl.1.q.length c16)).setCell ⟨v12.heap.size + 1, 1, none⟩ (.slice b16 rl.1.a.length d16)) := ((HX.out.trans hE16).setCell (p := ⟨v12.heap.size + 1, 0, none⟩) (Nat.le_succ_of_le hsz12) _).setCell (p := ⟨v12.heap.size + 1, 1, none⟩) (Nat.le_succ_of_le hsz12) _
              obtain ⟨xa0, xa1, xaz⟩ := Hb.out.ext hE16
              have hb1 := ((Hb.out.ext hE16).set0 (.slice a16 rl.1.q.length c16)).set1 (.slice b16 rl.1.a.length d16)
              have hb2 := ((Ha.out.ext hE16).far (q := ⟨v12.heap.size + 1, 0, none⟩) (.slice a16 rl.1.q.length c16) hab).far (q := ⟨v12.heap.size + 1, 1, none⟩) (.slice b16 rl.1.a.length d16) hab
              have ya0 := (hb2).c0
              have ya1 := (hb2).c1
              have yb0 := (hb1).c0
              have yb1 := (hb1).c1
              go_wp2_with fail
              have hhc := HN16.out.setN (Hb.out.ext hE16) (.slice a16 rl.1.q.length c16) (.slice b16 rl.1.a.length d16)
              have hhHN15 := (HN15.out.ext hE16).setN (Hb.out.ext hE16) (.slice a16 rl.1.q.length c16) (.slice b16 rl.1.a.length d16)
              clear xa0 xa1 xaz HN Hn Ha Hb HX HN16 HN15 ya0 ya1 yb0 yb1
              generalize ((v16.setCell ⟨v12.heap.size + 1, 0, none⟩ (.slice a16 rl.1.q.length c16)).setCell ⟨v12.heap.size + 1, 1, none⟩ (.slice b16 rl.1.a.length d16)) = u16 at *
              have HX := Lib.hid hX16
              have Hb := Lib.hid hb1
              have Ha := Lib.hid hb2
              have HN := Lib.hid (HNr.out.ext hX16)
              have Hn := Lib.hid (Hnr.out.ext hX16)
              have HN16 := Lib.hid hhc
              have HN15 := Lib.hid hhHN15
              clear hb1 hb2 hhc hX16 hE16 hhHN15
              refine (same_true rl.1 _ _ _ HN15.out HN16.out).mono ?_
              rintro e v17 ⟨rfl, hE17⟩
              have hde : (rl.2 != rl.2) = false := by simp
              have yn0 := (Hn.out.ext hE17).c0
              have yn1 := (Hn.out.ext hE17).c1
              go_wp2_with fail
              have hA17 : Ext v17 v17 := (Ext.refl v17)
              have hX17 := hE17.trans hA17
              have hhHN := HN.out.ext hX17
              have hhHn := Hn.out.ext hX17
              have hhHa := Ha.out.ext hX17
              have hhHb := Hb.out.ext hX17
              have hhHN16 := HN16.out.ext hX17
              have hhHN15 := HN15.out.ext hX17
              clear HN Hn Ha Hb HN16 HN15
              have hXX := HX.out.trans hX17
              clear HX
              clear hA17 hX17 hE17 yn0 yn1
              have HX := Lib.hid hXX
              clear hXX
              have HN := Lib.hid hhHN
              clear hhHN
              have Hn := Lib.hid hhHn
              clear hhHn
              have Ha := Lib.hid hhHa
              clear hhHa
              have Hb := Lib.hid hhHb
              clear hhHb
              have HN16 := Lib.hid hhHN16
              clear hhHN16
              have HN15 := Lib.hid hhHN15
              clear hhHN15
              clear hde HN15 HN16
              refine (repeat_any n z _ _ HN.out).mono ?_
              rintro e v18 ⟨cs18, rfl, hN18, hE18⟩
              rw [HRP.out] at hN18 ⊢
              have HN18 := Lib.hid hN18
              obtain ⟨a18, c18, b18, d18, hcs⟩ := hN18.open
              subst hcs
              clear hN18
              have hX18 : Ext wb ((v18.setCell ⟨v11.heap.size + 1, 0, none⟩ (.slice a18 rp.1.q.length c18)).setCell ⟨v11.heap.size + 1, 1, none⟩ (.slice b18 rp.1.a.length d18)) := ((HX.out.trans hE18).setCell (p := ⟨v11.heap.size + 1, 0, none⟩) (Nat.le_succ_of_le hsz11) _).setCell (p := ⟨v11.heap.size + 1, 1, none⟩) (Nat.le_succ_of_le hsz11) _
              obtain ⟨xa0, xa1, xaz⟩ := Ha.out.ext hE18
              have hb1 := ((Ha.out.ext hE18).set0 (.slice a18 rp.1.q.length c18)).set1 (.slice b18 rp.1.a.length d18)
              have hb2 := ((Hb.out.ext hE18).far (q := ⟨v11.heap.size + 1, 0, none⟩) (.slice a18 rp.1.q.length c18) (fun h => hab h.symm)).far (q := ⟨v11.heap.size + 1, 1, none⟩) (.slice b18 rp.1.a.length d18) (fun h => hab h.symm)
              have yn0 := (Hnr.out.ext hX18).c0
              have yn1 := (Hnr.out.ext hX18).c1
              go_wp2_with fail
              have hhc := HN18.out.setN (Ha.out.ext hE18) (.slice a18 rp.1.q.length c18) (.slice b18 rp.1.a.length d18)
              clear xa0 xa1 xaz HN Hn Ha Hb HX HN18  yn0 yn1
              generalize ((v18.setCell ⟨v11.heap.size + 1, 0, none⟩ (.slice a18 rp.1.q.length c18)).setCell ⟨v11.heap.size + 1, 1, none⟩ (.slice b18 rp.1.a.length d18)) = u18 at *
              have HX := Lib.hid hX18
              have Ha := Lib.hid hb1
              have Hb := Lib.hid hb2
              have HN := Lib.hid (HNr.out.ext hX18)
              have Hn := Lib.hid (Hnr.out.ext hX18)
              have HN18 := Lib.hid hhc
              clear hb1 hb2 hhc hX18 hE18
              refine (refRepeat_any n z _ _ HN.out).mono ?_
              rintro e v19 ⟨cs19, rfl, hN19, hE19⟩
              rw [HRP.out] at hN19 ⊢
              have HN19 := Lib.hid hN19
              obtain ⟨a19, c19, b19, d19, hcs⟩ := hN19.open
              subst hcs
              clear hN19
              have hX19 : Ext wb ((v19.setCell ⟨v12.heap.size + 1, 0, none⟩ (.slice a19 rp.1.q.length c19)).setCell ⟨v12.heap.size + 1, 1, none⟩ (.slice b19 rp.1.a.length d19)) := ((HX.out.trans hE19).setCell (p := ⟨v12.heap.size + 1, 0, none⟩) (Nat.le_succ_of_le hsz12) _).setCell (p := ⟨v12.heap.size + 1, 1, none⟩) (Nat.le_succ_of_le hsz12) _
              obtain ⟨xa0, xa1, xaz⟩ := Hb.out.ext hE19
              have hb1 := ((Hb.out.ext hE19).set0 (.slice a19 rp.1.q.length c19)).set1 (.slice b19 rp.1.a.length d19)
              have hb2 := ((Ha.out.ext hE19).far (q := ⟨v12.heap.size + 1, 0, none⟩) (.slice a19 rp.1.q.length c19) hab).far (q := ⟨v12.heap.size + 1, 1, none⟩) (.slice b19 rp.1.a.length d19) hab
              have ya0 := (hb2).c0
              have ya1 := (hb2).c1
              have yb0 := (hb1).c0
              have yb1 := (hb1).c1
              go_wp2_with fail
              have hhc := HN19.out.setN (Hb.out.ext hE19) (.slice a19 rp.1.q.length c19) (.slice b19 rp.1.a.length d19)
              have hhHN18 := (HN18.out.ext hE19).setN (Hb.out.ext hE19) (.slice a19 rp.1.q.length c19) (.slice b19 rp.1.a.length d19)
              clear xa0 xa1 xaz HN Hn Ha Hb HX HN19 HN18 ya0 ya1 yb0 yb1
              generalize ((v19.setCell ⟨v12.heap.size + 1, 0, none⟩ (.slice a19 rp.1.q.length c19)).setCell ⟨v12.heap.size + 1, 1, none⟩ (.slice b19 rp.1.a.length d19)) = u19 at *
              have HX := Lib.hid hX19
              have Hb := Lib.hid hb1
              have Ha := Lib.hid hb2
              have HN := Lib.hid (HNr.out.ext hX19)
              have Hn := Lib.hid (Hnr.out.ext hX19)
              have HN19 := Lib.hid hhc
              have HN18 := Lib.hid hhHN18
              clear hb1 hb2 hhc hX19 hE19 hhHN18
              refine (same_true rp.1 _ _ _ HN18.out HN19.out).mono ?_
              rintro e v20 ⟨rfl, hE20⟩
              have hde : (rp.2 != rp.2) = false := by simp
              have hjs := HJL.out
              go_wp2_with fail
              go_roundw
              case rel => exact ⟨j + 1, by go_num, by omega, HX.out.trans hE20⟩
              case measure => simp [intOf] <;> omega
            · have hji : ¬ (j : Int) < (zs.length : Int) := by omega
              have HB := Lib.hid hB
              clear hB hjl hj
              go_wp2_with fail
              go_ret
              exact ⟨rfl, HEX.out.trans HB.out⟩
        ·
          go_wp2_with fail
          obtain ⟨wb, hwb⟩ : ∃ wb, wb = wr := ⟨_, rfl⟩
          subst hwb
          go_loopw [74] (fun k wr2 => ∃ j : Nat, k = .int .i64 j ∧ j ≤ zs.length ∧ Ext wb wr2) (fun k _ => zs.length - (intOf k).toNat)
          case atStart => exact ⟨0, rfl, by omega, Ext.refl _⟩
          case round =>
            obtain ⟨j, rfl, hj, hB⟩ := hrel
            by_cases hjl : j < zs.length
            · have hji : (j : Int) < (zs.length : Int) := by omega
              obtain ⟨gb, oo, rfl, gz⟩ := irows_cell (HS.out.ext hB) hjl
              generalize zs[j] = z at gz
              have HJL := Lib.hid hjl
              clear hjl n0 n1
              generalize hrd : deliverN n z = rd
              generalize hrl : loseN n z = rl
              generalize hrp : repeatN n z = rp
              have HRD := Lib.hid hrd
              have HRL := Lib.hid hrl
              have HRP := Lib.hid hrp
              clear hrd hrl hrp
              have HX := Lib.hid hB
              have HNr := Lib.hid HN.out
              have Hnr := Lib.hid Hn.out
              clear HN Hn
              have HN := Lib.hid (HNr.out.ext hB)
              have Hn := Lib.hid (Hnr.out.ext hB)
              obtain ⟨n0, n1, _⟩ := Hn.out
              clear hB
              go_wp2_with fail
              clear gz n0 n1
              refine (deliver_any n z _ _ HN.out).mono ?_
              rintro e v11 ⟨cp11, cs11, rfl, hP11, hN11, hE11⟩
              rw [HRD.out] at hP11 hN11 ⊢
              have HP11 := Lib.hid hP11
              obtain ⟨p11, q11, hcp⟩ := hP11.open
              subst hcp
              clear hP11
              have HN11 := Lib.hid hN11
              obtain ⟨a11, c11, b11, d11, hcs⟩ := hN11.open
              subst hcs
              clear hN11
              have hsz11 := (HX.out.trans hE11).size
              have yn0 := fun ob0 ob1 => (((Ext.refl v11).alloc ob0).alloc ob1).cell (Hn.out.ext hE11).c0
              have yn1 := fun ob0 ob1 => (((Ext.refl v11).alloc ob0).alloc ob1).cell (Hn.out.ext hE11).c1
              go_wp2_with fail
              have hA11 : Ext v11 ((v11.alloc (.cells #[.int .i64 rd.1.f, .int .i64 rd.1.t, .slice p11 rd.1.d.length q11] 28)).alloc (.cells #[.slice a11 rd.2.1.q.length c11, .slice b11 rd.2.1.a.length d11] 25)) := (((Ext.refl v11).alloc (.cells #[.int .i64 rd.1.f, .int .i64 rd.1.t, .slice p11 rd.1.d.length q11] 28)).alloc (.cells #[.slice a11 rd.2.1.q.length c11, .slice b11 rd.2.1.a.length d11] 25))
              have hX11 := hE11.trans hA11
              have hbp := ((Box3.new' v11 (.int .i64 rd.1.f) (.int .i64 rd.1.t) (.slice p11 rd.1.d.length q11) 28 (v11.heap.size) (by simp)).ext ((Ext.refl _).alloc (.cells #[.slice a11 rd.2.1.q.length c11, .slice b11 rd.2.1.a.length d11] 25)))
              have hba := (Box2.new' (v11.alloc (.cells #[.int .i64 rd.1.f, .int .i64 rd.1.t, .slice p11 rd.1.d.length q11] 28)) (.slice a11 rd.2.1.q.length c11) (.slice b11 rd.2.1.a.length d11) 25 (v11.heap.size + 1) (by simp))
              have hhHN := HN.out.ext hX11
              have hhHn := Hn.out.ext hX11
              clear HN Hn
              have hhHP11 := HP11.out.ext hA11
              have hhHN11 := HN11.out.ext hA11
              clear HP11 HN11
              have hXX := HX.out.trans hX11
              clear HX
              clear hA11 hX11 hE11 yn0 yn1
              generalize ((v11.alloc (.cells #[.int .i64 rd.1.f, .int .i64 rd.1.t, .slice p11 rd.1.d.length q11] 28)).alloc (.cells #[.slice a11 rd.2.1.q.length c11, .slice b11 rd.2.1.a.length d11] 25)) = u11 at *
              have HX := Lib.hid hXX
              clear hXX
              have HN := Lib.hid hhHN
              clear hhHN
              have Hn := Lib.hid hhHn
              clear hhHn
              have HP11 := Lib.hid hhHP11
              clear hhHP11
              have HN11 := Lib.hid hhHN11
              clear hhHN11
              have Hp := Lib.hid hbp
              clear hbp
              have Ha := Lib.hid hba
              clear hba
              refine (refDeliver_any n z _ _ HN.out).mono ?_
              rintro e v12 ⟨cp12, cs12, rfl, hP12, hN12, hE12⟩
              rw [HRD.out] at hP12 hN12 ⊢
              have HP12 := Lib.hid hP12
              obtain ⟨p12, q12, hcp⟩ := hP12.open
              subst hcp
              clear hP12
              have HN12 := Lib.hid hN12
              obtain ⟨a12, c12, b12, d12, hcs⟩ := hN12.open
              subst hcs
              clear hN12
              have hsz12 := (HX.out.trans hE12).size
              have hab : v11.heap.size + 1 ≠ v12.heap.size + 1 := by have := (Ha.out.ext hE12).lt; omega
              have yp0 := fun ob0 ob1 => (((Ext.refl v12).alloc ob0).alloc ob1).cell (Hp.out.ext hE12).c0
              have yp1 := fun ob0 ob1 => (((Ext.refl v12).alloc ob0).alloc ob1).cell (Hp.out.ext hE12).c1
              have yp2 := fun ob0 ob1 => (((Ext.refl v12).alloc ob0).alloc ob1).cell (Hp.out.ext hE12).c2
              go_wp2_with fail
              have hA12 : Ext v12 ((v12.alloc (.cells #[.int .i64 rd.1.f, .int .i64 rd.1.t, .slice p12 rd.1.d.length q12] 28)).alloc (.cells #[.slice a12 rd.2.1.q.length c12, .slice b12 rd.2.1.a.length d12] 25)) := (((Ext.refl v12).alloc (.cells #[.int .i64 rd.1.f, .int .i64 rd.1.t, .slice p12 rd.1.d.length q12] 28)).alloc (.cells #[.slice a12 rd.2.1.q.length c12, .slice b12 rd.2.1.a.length d12] 25))
              have hX12 := hE12.trans hA12
              have hbr := ((Box3.new' v12 (.int .i64 rd.1.f) (.int .i64 rd.1.t) (.slice p12 rd.1.d.length q12) 28 (v12.heap.size) (by simp)).ext ((Ext.refl _).alloc (.cells #[.slice a12 rd.2.1.q.length c12, .slice b12 rd.2.1.a.length d12] 25)))
              have hbb := (Box2.new' (v12.alloc (.cells #[.int .i64 rd.1.f, .int .i64 rd.1.t, .slice p12 rd.1.d.length q12] 28)) (.slice a12 rd.2.1.q.length c12) (.slice b12 rd.2.1.a.length d12) 25 (v12.heap.size + 1) (by simp))
              have hhHN := HN.out.ext hX12
              have hhHn := Hn.out.ext hX12
              have hhHP11 := HP11.out.ext hX12
              have hhHN11 := HN11.out.ext hX12
              have hhHp := Hp.out.ext hX12
              have hhHa := Ha.out.ext hX12
              clear HN Hn HP11 HN11 Hp Ha
              have hhHP12 := HP12.out.ext hA12
              have hhHN12 := HN12.out.ext hA12
              clear HP12 HN12
              have hXX := HX.out.trans hX12
              clear HX
              clear hA12 hX12 hE12 yp0 yp1 yp2
              generalize ((v12.alloc (.cells #[.int .i64 rd.1.f, .int .i64 rd.1.t, .slice p12 rd.1.d.length q12] 28)).alloc (.cells #[.slice a12 rd.2.1.q.length c12, .slice b12 rd.2.1.a.length d12] 25)) = u12 at *
              have HX := Lib.hid hXX
              clear hXX
              have HN := Lib.hid hhHN
              clear hhHN
              have Hn := Lib.hid hhHn
              clear hhHn
              have HP11 := Lib.hid hhHP11
              clear hhHP11
              have HN11 := Lib.hid hhHN11
              clear hhHN11
              have Hp := Lib.hid hhHp
              clear hhHp
              have Ha := Lib.hid hhHa
              clear hhHa
              have HP12 := Lib.hid hhHP12
              clear hhHP12
              have HN12 := Lib.hid hhHN12
              clear hhHN12
              have Hr := Lib.hid hbr
              clear hbr
              have Hb := Lib.hid hbb
              clear hbb
              refine (samePacket_true rd.1 _ _ _ HP11.out HP12.out).mono ?_
              rintro e v13 ⟨rfl, hE13⟩
              have ya0 := (Ha.out.ext hE13).c0
              have ya1 := (Ha.out.ext hE13).c1
              have yb0 := (Hb.out.ext hE13).c0
              have yb1 := (Hb.out.ext hE13).c1
              go_wp2_with fail
              have hA13 : Ext v13 v13 := (Ext.refl v13)
              have hX13 := hE13.trans hA13
              have hhHN := HN.out.ext hX13
              have hhHn := Hn.out.ext hX13
              have hhHP11 := HP11.out.ext hX13
              have hhHN11 := HN11.out.ext hX13
              have hhHp := Hp.out.ext hX13
              have hhHa := Ha.out.ext hX13
              have hhHP12 := HP12.out.ext hX13
              have hhHN12 := HN12.out.ext hX13
              have hhHr := Hr.out.ext hX13
              have hhHb := Hb.out.ext hX13
              clear HN Hn HP11 HN11 Hp Ha HP12 HN12 Hr Hb
              have hXX := HX.out.trans hX13
              clear HX
              clear hA13 hX13 hE13 ya0 ya1 yb0 yb1
              have HX := Lib.hid hXX
              clear hXX
              have HN := Lib.hid hhHN
              clear hhHN
              have Hn := Lib.hid hhHn
              clear hhHn
              have HP11 := Lib.hid hhHP11
              clear hhHP11
              have HN11 := Lib.hid hhHN11
              clear hhHN11
              have Hp := Lib.hid hhHp
              clear hhHp
              have Ha := Lib.hid hhHa
              clear hhHa
              have HP12 := Lib.hid hhHP12
              clear hhHP12
              have HN12 := Lib.hid hhHN12
              clear hhHN12
              have Hr := Lib.hid hhHr
              clear hhHr
              have Hb := Lib.hid hhHb
              clear hhHb
              refine (same_true rd.2.1 _ _ _ HN11.out HN12.out).mono ?_
              rintro e v14 ⟨rfl, hE14⟩
              have hde : (rd.2.2 != rd.2.2) = false := by simp
              have yn0 := (Hn.out.ext hE14).c0
              have yn1 := (Hn.out.ext hE14).c1
              go_wp2_with fail
              have hA14 : Ext v14 v14 := (Ext.refl v14)
              have hX14 := hE14.trans hA14
              have hhHN := HN.out.ext hX14
              have hhHn := Hn.out.ext hX14
              have hhHP11 := HP11.out.ext hX14
              have hhHN11 := HN11.out.ext hX14
              have hhHp := Hp.out.ext hX14
              have hhHa := Ha.out.ext hX14
              have hhHP12 := HP12.out.ext hX14
              have hhHN12 := HN12.out.ext hX14
              have hhHr := Hr.out.ext hX14
              have hhHb := Hb.out.ext hX14
              clear HN Hn HP11 HN11 Hp Ha HP12 HN12 Hr Hb
              have hXX := HX.out.trans hX14
              clear HX
              clear hA14 hX14 hE14 yn0 yn1
              have HX := Lib.hid hXX
              clear hXX
              have HN := Lib.hid hhHN
              clear hhHN
              have Hn := Lib.hid hhHn
              clear hhHn
              have HP11 := Lib.hid hhHP11
              clear hhHP11
              have HN11 := Lib.hid hhHN11
              clear hhHN11
              have Hp := Lib.hid hhHp
              clear hhHp
              have Ha := Lib.hid hhHa
              clear hhHa
              have HP12 := Lib.hid hhHP12
              clear hhHP12
              have HN12 := Lib.hid hhHN12
              clear hhHN12
              have Hr := Lib.hid hhHr
              clear hhHr
              have Hb := Lib.hid hhHb
              clear hhHb
              clear hde HP11 HP12 HN11 HN12 Hp Hr
              refine (lose_any n z _ _ HN.out).mono ?_
              rintro e v15 ⟨cs15, rfl, hN15, hE15⟩
              rw [HRL.out] at hN15 ⊢
              have HN15 := Lib.hid hN15
              obtain ⟨a15, c15, b15, d15, hcs⟩ := hN15.open
              subst hcs
              clear hN15
              have hX15 : Ext wb ((v15.setCell ⟨v11.heap.size + 1, 0, none⟩ (.slice a15 rl.1.q.length c15)).setCell ⟨v11.heap.size + 1, 1, none⟩ (.slice b15 rl.1.a.length d15)) := ((HX.out.trans hE15).setCell (p := ⟨v11.heap.size + 1, 0, none⟩) (Nat.le_succ_of_le hsz11) _).setCell (p := ⟨v11.heap.size + 1, 1, none⟩) (Nat.le_succ_of_le hsz11) _
              obtain ⟨xa0, xa1, xaz⟩ := Ha.out.ext hE15
              have hb1 := ((Ha.out.ext hE15).set0 (.slice a15 rl.1.q.length c15)).set1 (.slice b15 rl.1.a.length d15)
              have hb2 := ((Hb.out.ext hE15).far (q := ⟨v11.heap.size + 1, 0, none⟩) (.slice a15 rl.1.q.length c15) (fun h => hab h.symm)).far (q := ⟨v11.heap.size + 1, 1, none⟩) (.slice b15 rl.1.a.length d15) (fun h => hab h.symm)
              have yn0 := (Hnr.out.ext hX15).c0
              have yn1 := (Hnr.out.ext hX15).c1
              go_wp2_with fail
              have hhc := HN15.out.setN (Ha.out.ext hE15) (.slice a15 rl.1.q.length c15) (.slice b15 rl.1.a.length d15)
              clear xa0 xa1 xaz HN Hn Ha Hb HX HN15  yn0 yn1
              generalize ((v15.setCell ⟨v11.heap.size + 1, 0, none⟩ (.slice a15 rl.1.q.length c15)).setCell ⟨v11.heap.size + 1, 1, none⟩ (.slice b15 rl.1.a.length d15)) = u15 at *
              have HX := Lib.hid hX15
              have Ha := Lib.hid hb1
              have Hb := Lib.hid hb2
              have HN := Lib.hid (HNr.out.ext hX15)
              have Hn := Lib.hid (Hnr.out.ext hX15)
              have HN15 := Lib.hid hhc
              clear hb1 hb2 hhc hX15 hE15
              refine (refLose_any n z _ _ HN.out).mono ?_
              rintro e v16 ⟨cs16, rfl, hN16, hE16⟩
              rw [HRL.out] at hN16 ⊢
              have HN16 := Lib.hid hN16
              obtain ⟨a16, c16, b16, d16, hcs⟩ := hN16.open
              subst hcs
              clear hN16
              have hX16 : Ext wb ((v16.setCell ⟨v12.heap.size + 1, 0, none⟩ (.slice a16 rl.1.q.length c16)).setCell ⟨v12.heap.size + 1, 1, none⟩ (.slice b16 rl.1.a.length d16)) := ((HX.out.trans hE16).setCell (p := ⟨v12.heap.size + 1, 0, none⟩) (Nat.le_succ_of_le hsz12) _).setCell (p := ⟨v12.heap.size + 1, 1, none⟩) (Nat.le_succ_of_le hsz12) _
              obtain ⟨xa0, xa1, xaz⟩ := Hb.out.ext hE16
              have hb1 := ((Hb.out.ext hE16).set0 (.slice a16 rl.1.q.length c16)).set1 (.slice b16 rl.1.a.length d16)
              have hb2 := ((Ha.out.ext hE16).far (q := ⟨v12.heap.size + 1, 0, none⟩) (.slice a16 rl.1.q.length c16) hab).far (q := ⟨v12.heap.size + 1, 1, none⟩) (.slice b16 rl.1.a.length d16) hab
              have ya0 := (hb2).c0
              have ya1 := (hb2).c1
              have yb0 := (hb1).c0
              have yb1 := (hb1).c1
              go_wp2_with fail
              have hhc := HN16.out.setN (Hb.out.ext hE16) (.slice a16 rl.1.q.length c16) (.slice b16 rl.1.a.length d16)
              have hhHN15 := (HN15.out.ext hE16).setN (Hb.out.ext hE16) (.slice a16 rl.1.q.length c16) (.slice b16 rl.1.a.length d16)
              clear xa0 xa1 xaz HN Hn Ha Hb HX HN16 HN15 ya0 ya1 yb0 yb1
              generalize ((v16.setCell ⟨v12.heap.size + 1, 0, none⟩ (.slice a16 rl.1.q.length c16)).setCell ⟨v12.heap.size + 1, 1, none⟩ (.slice b16 rl.1.a.length d16)) = u16 at *
              have HX := Lib.hid hX16
              have Hb := Lib.hid hb1
              have Ha := Lib.hid hb2
              have HN := Lib.hid (HNr.out.ext hX16)
              have Hn := Lib.hid (Hnr.out.ext hX16)
              have HN16 := Lib.hid hhc
              have HN15 := Lib.hid hhHN15
              clear hb1 hb2 hhc hX16 hE16 hhHN15
              refine (same_true rl.1 _ _ _ HN15.out HN16.out).mono ?_
              rintro e v17 ⟨rfl, hE17⟩
              have hde : (rl.2 != rl.2) = false := by simp
              have yn0 := (Hn.out.ext hE17).c0
              have yn1 := (Hn.out.ext hE17).c1
              go_wp2_with fail
              have hA17 : Ext v17 v17 := (Ext.refl v17)
              have hX17 := hE17.trans hA17
              have hhHN := HN.out.ext hX17
              have hhHn := Hn.out.ext hX17
              have hhHa := Ha.out.ext hX17
              have hhHb := Hb.out.ext hX17
              have hhHN16 := HN16.out.ext hX17
              have hhHN15 := HN15.out.ext hX17
              clear HN Hn Ha Hb HN16 HN15
              have hXX := HX.out.trans hX17
              clear HX
              clear hA17 hX17 hE17 yn0 yn1
              have HX := Lib.hid hXX
              clear hXX
              have HN := Lib.hid hhHN
              clear hhHN
              have Hn := Lib.hid hhHn
              clear hhHn
              have Ha := Lib.hid hhHa
              clear hhHa
              have Hb := Lib.hid hhHb
              clear hhHb
              have HN16 := Lib.hid hhHN16
              clear hhHN16
              have HN15 := Lib.hid hhHN15
              clear hhHN15
              clear hde HN15 HN16
              refine (repeat_any n z _ _ HN.out).mono ?_
              rintro e v18 ⟨cs18, rfl, hN18, hE18⟩
              rw [HRP.out] at hN18 ⊢
              have HN18 := Lib.hid hN18
              obtain ⟨a18, c18, b18, d18, hcs⟩ := hN18.open
              subst hcs
              clear hN18
              have hX18 : Ext wb ((v18.setCell ⟨v11.heap.size + 1, 0, none⟩ (.slice a18 rp.1.q.length c18)).setCell ⟨v11.heap.size + 1, 1, none⟩ (.slice b18 rp.1.a.length d18)) := ((HX.out.trans hE18).setCell (p := ⟨v11.heap.size + 1, 0, none⟩) (Nat.le_succ_of_le hsz11) _).setCell (p := ⟨v11.heap.size + 1, 1, none⟩) (Nat.le_succ_of_le hsz11) _
              obtain ⟨xa0, xa1, xaz⟩ := Ha.out.ext hE18
              have hb1 := ((Ha.out.ext hE18).set0 (.slice a18 rp.1.q.length c18)).set1 (.slice b18 rp.1.a.length d18)
              have hb2 := ((Hb.out.ext hE18).far (q := ⟨v11.heap.size + 1, 0, none⟩) (.slice a18 rp.1.q.length c18) (fun h => hab h.symm)).far (q := ⟨v11.heap.size + 1, 1, none⟩) (.slice b18 rp.1.a.length d18) (fun h => hab h.symm)
              have yn0 := (Hnr.out.ext hX18).c0
              have yn1 := (Hnr.out.ext hX18).c1
              go_wp2_with fail
              have hhc := HN18.out.setN (Ha.out.ext hE18) (.slice a18 rp.1.q.length c18) (.slice b18 rp.1.a.length d18)
              clear xa0 xa1 xaz HN Hn Ha Hb HX HN18  yn0 yn1
              generalize ((v18.setCell ⟨v11.heap.size + 1, 0, none⟩ (.slice a18 rp.1.q.length c18)).setCell ⟨v11.heap.size + 1, 1, none⟩ (.slice b18 rp.1.a.length d18)) = u18 at *
              have HX := Lib.hid hX18
              have Ha := Lib.hid hb1
              have Hb := Lib.hid hb2
              have HN := Lib.hid (HNr.out.ext hX18)
              have Hn := Lib.hid (Hnr.out.ext hX18)
              have HN18 := Lib.hid hhc
              clear hb1 hb2 hhc hX18 hE18
              refine (refRepeat_any n z _ _ HN.out).mono ?_
              rintro e v19 ⟨cs19, rfl, hN19, hE19⟩
              rw [HRP.out] at hN19 ⊢
              have HN19 := Lib.hid hN19
              obtain ⟨a19, c19, b19, d19, hcs⟩ := hN19.open
              subst hcs
              clear hN19
              have hX19 : Ext wb ((v19.setCell ⟨v12.heap.size + 1, 0, none⟩ (.slice a19 rp.1.q.length c19)).setCell ⟨v12.heap.size + 1, 1, none⟩ (.slice b19 rp.1.a.length d19)) := ((HX.out.trans hE19).setCell (p := ⟨v12.heap.size + 1, 0, none⟩) (Nat.le_succ_of_le hsz12) _).setCell (p := ⟨v12.heap.size + 1, 1, none⟩) (Nat.le_succ_of_le hsz12) _
              obtain ⟨xa0, xa1, xaz⟩ := Hb.out.ext hE19
              have hb1 := ((Hb.out.ext hE19).set0 (.slice a19 rp.1.q.length c19)).set1 (.slice b19 rp.1.a.length d19)
              have hb2 := ((Ha.out.ext hE19).far (q := ⟨v12.heap.size + 1, 0, none⟩) (.slice a19 rp.1.q.length c19) hab).far (q := ⟨v12.heap.size + 1, 1, none⟩) (.slice b19 rp.1.a.length d19) hab
              have ya0 := (hb2).c0
              have ya1 := (hb2).c1
              have yb0 := (hb1).c0
              have yb1 := (hb1).c1
              go_wp2_with fail
              have hhc := HN19.out.setN (Hb.out.ext hE19) (.slice a19 rp.1.q.length c19) (.slice b19 rp.1.a.length d19)
              have hhHN18 := (HN18.out.ext hE19).setN (Hb.out.ext hE19) (.slice a19 rp.1.q.length c19) (.slice b19 rp.1.a.length d19)
              clear xa0 xa1 xaz HN Hn Ha Hb HX HN19 HN18 ya0 ya1 yb0 yb1
              generalize ((v19.setCell ⟨v12.heap.size + 1, 0, none⟩ (.slice a19 rp.1.q.length c19)).setCell ⟨v12.heap.size + 1, 1, none⟩ (.slice b19 rp.1.a.length d19)) = u19 at *
              have HX := Lib.hid hX19
              have Hb := Lib.hid hb1
              have Ha := Lib.hid hb2
              have HN := Lib.hid (HNr.out.ext hX19)
              have Hn := Lib.hid (Hnr.out.ext hX19)
              have HN19 := Lib.hid hhc
              have HN18 := Lib.hid hhHN18
              clear hb1 hb2 hhc hX19 hE19 hhHN18
              refine (same_true rp.1 _ _ _ HN18.out HN19.out).mono ?_
              rintro e v20 ⟨rfl, hE20⟩
              have hde : (rp.2 != rp.2) = false := by simp
              have hjs := HJL.out
              go_wp2_with fail
              go_roundw
              case rel => exact ⟨j + 1, by go_num, by omega, HX.out.trans hE20⟩
              case measure => simp [intOf] <;> omega
            · have hji : ¬ (j : Int) < (zs.length : Int) := by omega
              have HB := Lib.hid hB
              clear hB hjl hj
              go_wp2_with fail
              go_ret
              exact ⟨rfl, HEX.out.trans HB.out⟩
end Go.Proofs.Ytdlahgmbilkdcaa
