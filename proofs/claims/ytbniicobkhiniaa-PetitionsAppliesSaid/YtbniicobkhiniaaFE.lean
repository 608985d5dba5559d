/- Petitions: the reference's Points. -/
import Derived.Test.YtbniicobkhiniaaFD
namespace Go.Proofs.Ytbniicobkhiniaa
open Go.RowKit Go.Sz
set_option maxRecDepth 100000 in
set_option maxHeartbeats 6400000 in
theorem refPoints_any (l : List Ft) (k : Ky) (a b kn : Int) (ao : Option Addr) (cap : Nat) (w : World) (h : RepF w ao cap l) : Calls Try.prog 43 #[.slice ao l.length cap, .agg #[.int .i64 k.k, .int .i64 k.s, .int .i64 k.o], .int .i64 a, .int .i64 b, .int .i64 kn] w (RetPt (ptsF l k a b kn) w) := by
  obtain ⟨i0, hi, hz0, hz1, hz2⟩ := info_parts infoPt
  have HI := Lib.hid (And.intro hi (And.intro hz0 (And.intro hz1 hz2)))
  have HL := Lib.hid h
  have HO0 : Hid (((w.alloc (.cells #[.int .i64 k.k, .int .i64 k.s, .int .i64 k.o] 26)).alloc (.cells #[] 83)).ownsRow w.heap.size 83 2 (.slice (some ⟨w.heap.size + 1, 0, none⟩) 0 0) 0 []) := Lib.hid (by
    have := own_empty (w.alloc (.cells #[.int .i64 k.k, .int .i64 k.s, .int .i64 k.o] 26)) w.heap.size (by simp) 83 2
    rwa [World.size_alloc] at this)
  have HX0 : Hid (Ext w ((w.alloc (.cells #[.int .i64 k.k, .int .i64 k.s, .int .i64 k.o] 26)).alloc (.cells #[] 83))) := Lib.hid (((Ext.refl w).alloc _).alloc _)
  have HK : Hid (((w.alloc (.cells #[.int .i64 k.k, .int .i64 k.s, .int .i64 k.o] 26)).alloc (.cells #[] 83)).cell? ⟨w.heap.size, 0, none⟩ = some (.int .i64 k.k) ∧ ((w.alloc (.cells #[.int .i64 k.k, .int .i64 k.s, .int .i64 k.o] 26)).alloc (.cells #[] 83)).cell? ⟨w.heap.size, 1, none⟩ = some (.int .i64 k.s) ∧ ((w.alloc (.cells #[.int .i64 k.k, .int .i64 k.s, .int .i64 k.o] 26)).alloc (.cells #[] 83)).cell? ⟨w.heap.size, 2, none⟩ = some (.int .i64 k.o)) := Lib.hid ⟨by simp, by simp, by simp⟩
  clear h hi hz0 hz1 hz2
  obtain ⟨m0, hm0, ha⟩ : ∃ m0 : Nat, max 0 a = (m0 : Int) ∧ ((a > 0 ∧ a = (m0 : Int)) ∨ (¬ a > 0 ∧ m0 = 0)) := ⟨(max 0 a).toNat, by omega, by omega⟩
  have HM0 := Lib.hid hm0
  clear hm0
  rcases ha with ⟨ha, rfl⟩ | ⟨ha, rfl⟩
  · go_enter Try.func43, Try.ntmps43
    go_wp2_with fail
    go_loopw [11, 12] (fun u iv wr => ∃ m : Nat, iv = .int .i64 m ∧ max 0 (m0 : Int) ≤ (m : Int) ∧ ((m : Int) ≤ max 0 (m0 : Int) ∨ (m : Int) ≤ min b 1024) ∧ wr.ownsRow w.heap.size 83 2 u (ptsM l k (m0 : Int) m kn).length (prows (ptsM l k (m0 : Int) m kn)).flatten ∧ Ext w wr ∧ wr.cell? ⟨w.heap.size, 0, none⟩ = some (.int .i64 k.k) ∧ wr.cell? ⟨w.heap.size, 1, none⟩ = some (.int .i64 k.s) ∧ wr.cell? ⟨w.heap.size, 2, none⟩ = some (.int .i64 k.o) ∧ NotBlk u w.heap.size) (fun _ iv _ => 1024 - (intOf iv).toNat)
    case atStart => exact ⟨m0, rfl, by omega, .inl (by omega), by rw [ptsM_nil l k kn (by omega)]; exact HO0.out, HX0.out, HK.out.1, HK.out.2.1, HK.out.2.2, fun k hk => by have e : some (w.heap.size + 1) = some k := hk; injection e with e; omega⟩
    case round =>
      obtain ⟨m, rfl, hm1, hm2, ho, hE, k0, k1, k2, hnb⟩ := hrel
      have HM1 := Lib.hid hm1
      have HM2 := Lib.hid hm2
      have HOW := Lib.hid ho
      have HE := Lib.hid hE
      have HNB := Lib.hid hnb
      clear hm1 hm2 ho hE hnb
      have hl3 : (0 : Int) ≤ m := by omega
      by_cases hlt : (m : Int) < min b 1024
      · have hl1 : (m : Int) < 1024 := by omega
        have hl2 : (m : Int) < b := by omega
        have HLT := Lib.hid hlt
        clear hlt
        have HNX := Lib.hid (ptsM_next l k kn HM1.out)
        have HLN := Lib.hid (ptsM_len l k (a := (m0 : Int)) kn (show (m : Int) ≤ 1024 by omega))
        have HCA := Lib.hid (refAt_any l k m kn ao cap wr (HL.out.ext HE.out))
        obtain ⟨y, hy⟩ : ∃ y, valF l k m kn = y := ⟨_, rfl⟩
        rw [hy] at HNX HCA
        clear hy
        by_cases hv : 0 ≤ y
        · rw [if_pos hv] at HNX
          have HCB : Hid (Calls Try.prog 49 #[.slice ao l.length cap, .agg #[.int .i64 k.k, .int .i64 k.s, .int .i64 k.o], .int .i64 m, .int .i64 kn] wr fun e w' => e = .returned (.tuple #[.int .i64 y, .bool true]) ∧ Ext wr w') := Lib.hid (HCA.out.mono fun e w' hh => ⟨by rw [hh.1, decide_eq_true hv]; unfold atV; rw [if_pos hv], hh.2⟩)
          clear HCA
          by_cases hb : 1024 < b
          all_goals
            go_wp2_with (first | (go_at_call 49; refine HCB.out.mono ?_; rintro e w5 ⟨rfl, hE5⟩; have HE5 := Lib.hid hE5; clear hE5; have HOA := Lib.hid (ownsRow_ext HOW.out (HE5.out.alloc (.cells #[.int .i64 m, .int .i64 y] 83))); have HSZ : Hid (w.heap.size ≤ (w5.alloc (.cells #[.int .i64 m, .int .i64 y] 83)).heap.size) := Lib.hid ((HE.out.trans HE5.out).alloc _).size; obtain ⟨hi, hz0, hz1, hz2⟩ := HI.out; replace k0 := (HE5.out.alloc (.cells #[.int .i64 m, .int .i64 y] 83)).cell k0; replace k1 := (HE5.out.alloc (.cells #[.int .i64 m, .int .i64 y] 83)).cell k1; replace k2 := (HE5.out.alloc (.cells #[.int .i64 m, .int .i64 y] 83)).cell k2) | (at_builtin; refine wpList_append_S rfl _ _ 81 81 rfl w.heap.size 83 i0 _ 2 16 Try.underlying81 hi hz0 hz1 hz2 rfl _ _ _ rfl HOA.out (.slice (some ⟨w5.heap.size, 0, none⟩) 1 1) 1 [.int .i64 m, .int .i64 y] rfl (Src.ofSlice _ Try.underlying81 ⟨w5.heap.size, 0, none⟩ 1 1 _ rfl (two_cells (by simp) (by simp)) (two_one _ _)) (by have := HLN.out; unfold maxLen; omega) (by have := HLN.out; omega) HSZ.out ?_; intro v6 w6 ho6 hg6; have HO6 := Lib.hid ho6; have HG6 := Lib.hid hg6; clear ho6 hg6))
            have HX6 := Lib.hid (HE5.out.alloc (.cells #[.int .i64 m, .int .i64 y] 83))
            go_roundw
            case rel => exact ⟨m + 1, by go_num, by have := HM1.out; omega, .inr (by have := HLT.out; omega), by rw [show ((m + 1 : Nat) : Int) = (m : Int) + 1 by omega, HNX.out]; simp only [prows_append, List.flatten_append, List.length_append]; exact HO6.out, Ext.trans' (HE.out.trans HX6.out) HG6.out (ownsRow_blocks HOA.out), HG6.out.cell HNB.out k0, HG6.out.cell HNB.out k1, HG6.out.cell HNB.out k2, HG6.out.notBlk (show w.heap.size < _ from World.block_lt_of_cell? _ _ k0) HNB.out⟩
            case measure => simp [intOf] <;> omega
        · rw [if_neg hv, List.append_nil] at HNX
          have HCB : Hid (∃ z, Calls Try.prog 49 #[.slice ao l.length cap, .agg #[.int .i64 k.k, .int .i64 k.s, .int .i64 k.o], .int .i64 m, .int .i64 kn] wr fun e w' => e = .returned (.tuple #[.int .i64 z, .bool false]) ∧ Ext wr w') := Lib.hid ⟨_, HCA.out.mono fun e w' hh => ⟨by rw [hh.1, decide_eq_false hv], hh.2⟩⟩
          clear HCA
          obtain ⟨z, hcb⟩ := HCB.out
          clear HCB
          have HCB := Lib.hid hcb
          clear hcb
          by_cases hb : 1024 < b
          all_goals
            go_wp2_with (go_at_call 49; refine HCB.out.mono ?_; rintro e w5 ⟨rfl, hE5⟩; have HE5 := Lib.hid hE5; clear hE5)
            go_roundw
            case rel => exact ⟨m + 1, by go_num, by have := HM1.out; omega, .inr (by have := HLT.out; omega), by rw [show ((m + 1 : Nat) : Int) = (m : Int) + 1 by omega, HNX.out]; exact ownsRow_ext HOW.out HE5.out, HE.out.trans HE5.out, HE5.out.cell k0, HE5.out.cell k1, HE5.out.cell k2, HNB.out⟩
            case measure => simp [intOf] <;> omega
      · have HEND := Lib.hid (ptsM_end l k kn HM1.out HM2.out hlt)
        obtain ⟨ao6, cap6, rfl, hR6⟩ := RepPt.of_own HOW.out rfl
        have HR6 := Lib.hid hR6
        clear hR6
        by_cases hb : 1024 < b
        · have hl2 : ¬ (m : Int) < 1024 := by omega
          clear hlt
          go_wp2_with fail
          go_ret
          rw [HEND.out] at *
          exact ⟨ao6, cap6, rfl, HR6.out, HE.out⟩
        · have hl2 : ¬ (m : Int) < b := by omega
          clear hlt
          go_wp2_with fail
          go_ret
          rw [HEND.out] at *
          exact ⟨ao6, cap6, rfl, HR6.out, HE.out⟩
  · go_enter Try.func43, Try.ntmps43
    go_wp2_with fail
    go_loopw [11, 12] (fun u iv wr => ∃ m : Nat, iv = .int .i64 m ∧ max 0 a ≤ (m : Int) ∧ ((m : Int) ≤ max 0 a ∨ (m : Int) ≤ min b 1024) ∧ wr.ownsRow w.heap.size 83 2 u (ptsM l k a m kn).length (prows (ptsM l k a m kn)).flatten ∧ Ext w wr ∧ wr.cell? ⟨w.heap.size, 0, none⟩ = some (.int .i64 k.k) ∧ wr.cell? ⟨w.heap.size, 1, none⟩ = some (.int .i64 k.s) ∧ wr.cell? ⟨w.heap.size, 2, none⟩ = some (.int .i64 k.o) ∧ NotBlk u w.heap.size) (fun _ iv _ => 1024 - (intOf iv).toNat)
    case atStart => exact ⟨0, rfl, by omega, .inl (by omega), by rw [ptsM_nil l k kn (by omega)]; exact HO0.out, HX0.out, HK.out.1, HK.out.2.1, HK.out.2.2, fun k hk => by have e : some (w.heap.size + 1) = some k := hk; injection e with e; omega⟩
    case round =>
      obtain ⟨m, rfl, hm1, hm2, ho, hE, k0, k1, k2, hnb⟩ := hrel
      have HM1 := Lib.hid hm1
      have HM2 := Lib.hid hm2
      have HOW := Lib.hid ho
      have HE := Lib.hid hE
      have HNB := Lib.hid hnb
      clear hm1 hm2 ho hE hnb
      have hl3 : (0 : Int) ≤ m := by omega
      by_cases hlt : (m : Int) < min b 1024
      · have hl1 : (m : Int) < 1024 := by omega
        have hl2 : (m : Int) < b := by omega
        have HLT := Lib.hid hlt
        clear hlt
        have HNX := Lib.hid (ptsM_next l k kn HM1.out)
        have HLN := Lib.hid (ptsM_len l k (a := a) kn (show (m : Int) ≤ 1024 by omega))
        have HCA := Lib.hid (refAt_any l k m kn ao cap wr (HL.out.ext HE.out))
        obtain ⟨y, hy⟩ : ∃ y, valF l k m kn = y := ⟨_, rfl⟩
        rw [hy] at HNX HCA
        clear hy
        by_cases hv : 0 ≤ y
        · rw [if_pos hv] at HNX
          have HCB : Hid (Calls Try.prog 49 #[.slice ao l.length cap, .agg #[.int .i64 k.k, .int .i64 k.s, .int .i64 k.o], .int .i64 m, .int .i64 kn] wr fun e w' => e = .returned (.tuple #[.int .i64 y, .bool true]) ∧ Ext wr w') := Lib.hid (HCA.out.mono fun e w' hh => ⟨by rw [hh.1, decide_eq_true hv]; unfold atV; rw [if_pos hv], hh.2⟩)
          clear HCA
          by_cases hb : 1024 < b
          all_goals
            go_wp2_with (first | (go_at_call 49; refine HCB.out.mono ?_; rintro e w5 ⟨rfl, hE5⟩; have HE5 := Lib.hid hE5; clear hE5; have HOA := Lib.hid (ownsRow_ext HOW.out (HE5.out.alloc (.cells #[.int .i64 m, .int .i64 y] 83))); have HSZ : Hid (w.heap.size ≤ (w5.alloc (.cells #[.int .i64 m, .int .i64 y] 83)).heap.size) := Lib.hid ((HE.out.trans HE5.out).alloc _).size; obtain ⟨hi, hz0, hz1, hz2⟩ := HI.out; replace k0 := (HE5.out.alloc (.cells #[.int .i64 m, .int .i64 y] 83)).cell k0; replace k1 := (HE5.out.alloc (.cells #[.int .i64 m, .int .i64 y] 83)).cell k1; replace k2 := (HE5.out.alloc (.cells #[.int .i64 m, .int .i64 y] 83)).cell k2) | (at_builtin; refine wpList_append_S rfl _ _ 81 81 rfl w.heap.size 83 i0 _ 2 16 Try.underlying81 hi hz0 hz1 hz2 rfl _ _ _ rfl HOA.out (.slice (some ⟨w5.heap.size, 0, none⟩) 1 1) 1 [.int .i64 m, .int .i64 y] rfl (Src.ofSlice _ Try.underlying81 ⟨w5.heap.size, 0, none⟩ 1 1 _ rfl (two_cells (by simp) (by simp)) (two_one _ _)) (by have := HLN.out; unfold maxLen; omega) (by have := HLN.out; omega) HSZ.out ?_; intro v6 w6 ho6 hg6; have HO6 := Lib.hid ho6; have HG6 := Lib.hid hg6; clear ho6 hg6))
            have HX6 := Lib.hid (HE5.out.alloc (.cells #[.int .i64 m, .int .i64 y] 83))
            go_roundw
            case rel => exact ⟨m + 1, by go_num, by have := HM1.out; omega, .inr (by have := HLT.out; omega), by rw [show ((m + 1 : Nat) : Int) = (m : Int) + 1 by omega, HNX.out]; simp only [prows_append, List.flatten_append, List.length_append]; exact HO6.out, Ext.trans' (HE.out.trans HX6.out) HG6.out (ownsRow_blocks HOA.out), HG6.out.cell HNB.out k0, HG6.out.cell HNB.out k1, HG6.out.cell HNB.out k2, HG6.out.notBlk (show w.heap.size < _ from World.block_lt_of_cell? _ _ k0) HNB.out⟩
            case measure => simp [intOf] <;> omega
        · rw [if_neg hv, List.append_nil] at HNX
          have HCB : Hid (∃ z, Calls Try.prog 49 #[.slice ao l.length cap, .agg #[.int .i64 k.k, .int .i64 k.s, .int .i64 k.o], .int .i64 m, .int .i64 kn] wr fun e w' => e = .returned (.tuple #[.int .i64 z, .bool false]) ∧ Ext wr w') := Lib.hid ⟨_, HCA.out.mono fun e w' hh => ⟨by rw [hh.1, decide_eq_false hv], hh.2⟩⟩
          clear HCA
          obtain ⟨z, hcb⟩ := HCB.out
          clear HCB
          have HCB := Lib.hid hcb
          clear hcb
          by_cases hb : 1024 < b
          all_goals
            go_wp2_with (go_at_call 49; refine HCB.out.mono ?_; rintro e w5 ⟨rfl, hE5⟩; have HE5 := Lib.hid hE5; clear hE5)
            go_roundw
            case rel => exact ⟨m + 1, by go_num, by have := HM1.out; omega, .inr (by have := HLT.out; omega), by rw [show ((m + 1 : Nat) : Int) = (m : Int) + 1 by omega, HNX.out]; exact ownsRow_ext HOW.out HE5.out, HE.out.trans HE5.out, HE5.out.cell k0, HE5.out.cell k1, HE5.out.cell k2, HNB.out⟩
            case measure => simp [intOf] <;> omega
      · have HEND := Lib.hid (ptsM_end l k kn HM1.out HM2.out hlt)
        obtain ⟨ao6, cap6, rfl, hR6⟩ := RepPt.of_own HOW.out rfl
        have HR6 := Lib.hid hR6
        clear hR6
        by_cases hb : 1024 < b
        · have hl2 : ¬ (m : Int) < 1024 := by omega
          clear hlt
          go_wp2_with fail
          go_ret
          rw [HEND.out] at *
          exact ⟨ao6, cap6, rfl, HR6.out, HE.out⟩
        · have hl2 : ¬ (m : Int) < b := by omega
          clear hlt
          go_wp2_with fail
          go_ret
          rw [HEND.out] at *
          exact ⟨ao6, cap6, rfl, HR6.out, HE.out⟩
end Go.Proofs.Ytbniicobkhiniaa
