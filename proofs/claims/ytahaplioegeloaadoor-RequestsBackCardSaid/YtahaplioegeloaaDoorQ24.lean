/- Requests: the law Back. -/
import Derived.Test.YtahaplioegeloaaDoorQH
namespace Go.Proofs.YtahaplioegeloaaDoor
open Go.RowKit Go.Sz
set_option maxRecDepth 100000 in
set_option maxHeartbeats 12800000 in
theorem lawq_back (r : Rq) (ao : Option Addr) (cap : Nat) (bs : List UInt8) (bo : Option Addr) (bc : Nat) (w : World) (hr : RepB w ao cap r.ch) (ht : r.ok) (hb : SL w 1 bo bc (br bs)) (hk : Kinds w) : Calls Tryd.prog 6 #[.agg (r.cells ao cap).toArray, .slice bo bs.length bc] w fun e w' => e = .returned (.bool true) ∧ Ext w w' := by
  obtain ⟨c, n, s, k, t, ch, g, h, y⟩ := r
  show Calls Tryd.prog 6 #[.agg #[.int .i64 c, .int .i64 n, .int .i64 s, .int .i64 k, .int .i64 t, .slice ao ch.length cap, .int .i64 g, .int .i64 h, .int .i64 y], .slice bo bs.length bc] w _
  have hX : Ext w (w.alloc (.cells #[.int .i64 c, .int .i64 n, .int .i64 s, .int .i64 k, .int .i64 t, .slice ao ch.length cap, .int .i64 g, .int .i64 h, .int .i64 y] 26)) := (Ext.refl w).alloc _
  have HD : Hid (BoxQ (w.alloc (.cells #[.int .i64 c, .int .i64 n, .int .i64 s, .int .i64 k, .int .i64 t, .slice ao ch.length cap, .int .i64 g, .int .i64 h, .int .i64 y] 26)) (w.heap.size) ⟨c, n, s, k, t, ch, g, h, y⟩ ao cap) := Lib.hid (BoxQ.new w ⟨c, n, s, k, t, ch, g, h, y⟩ ao cap 26 (w.heap.size) (by simp))
  have HR : Hid (RepB (w.alloc (.cells #[.int .i64 c, .int .i64 n, .int .i64 s, .int .i64 k, .int .i64 t, .slice ao ch.length cap, .int .i64 g, .int .i64 h, .int .i64 y] 26)) ao cap ch) := Lib.hid (RepB.ext hr hX)
  have HT := Lib.hid ht
  clear hr ht
  have HB := Lib.hid (SL.ext hb hX)
  clear hb
  have HK := Lib.hid (hk.ext hX)
  have HX := Lib.hid hX
  clear hk hX
  go_enter Tryd.func6, Tryd.ntmps6
  go_wp2_with fail
  generalize (w.alloc (.cells #[.int .i64 c, .int .i64 n, .int .i64 s, .int .i64 k, .int .i64 t, .slice ao ch.length cap, .int .i64 g, .int .i64 h, .int .i64 y] 26)) = w0 at *
  refine (saneQ_any _ HK.out).mono ?_
  rintro e v1 ⟨rfl, hE⟩
  have HD := Lib.hid (HD.out.ext hE)
  have HR := Lib.hid (HR.out.ext hE)
  have HB := Lib.hid (HB.out.ext hE)
  have HK := Lib.hid (HK.out.ext hE)
  have HX := Lib.hid (HX.out.trans hE)
  clear hE
  obtain ⟨z0, z1, z2, z3, z4, z5, z6, z7, z8, -⟩ := HD.out
  try dsimp only at z0 z1 z2 z3 z4 z5 z6 z7 z8
  go_wp2_with fail
  clear z0 z1 z2 z3 z4 z5 z6 z7 z8
  by_cases hl : ch.length ≤ 20
  · have hf := decide_eq_true hl
    refine (fw_as (r := ⟨c, n, s, k, t, ch, g, h, y⟩) hf HR.out).mono ?_
    rintro e v2 ⟨rfl, hE⟩
    have HD := Lib.hid (HD.out.ext hE)
    have HR := Lib.hid (HR.out.ext hE)
    have HB := Lib.hid (HB.out.ext hE)
    have HK := Lib.hid (HK.out.ext hE)
    have HX := Lib.hid (HX.out.trans hE)
    clear hE
    have HL : Hid (ch.length ≤ 1000000) := Lib.hid (by omega)
    clear hl hf
    by_cases hb : bs.length ≤ 1000
    · have hf : ¬ ((1000 : Int) < (bs.length : Int)) := by omega
      have HBL : Hid (bs.length ≤ 1000000) := Lib.hid (by omega)
      clear hb
      obtain ⟨z0, z1, z2, z3, z4, z5, z6, z7, z8, -⟩ := HD.out
      try dsimp only at z0 z1 z2 z3 z4 z5 z6 z7 z8
      go_wp2_with fail
      clear z0 z1 z2 z3 z4 z5 z6 z7 z8
      cases hv : validQ ⟨c, n, s, k, t, ch, g, h, y⟩ with
      | false =>
        have HC : Hid (checkQ ⟨c, n, s, k, t, ch, g, h, y⟩ = 290) := Lib.hid (by unfold checkQ; rw [hv]; rfl)
        have HEN := Lib.hid (encO_bad hv)
        clear hv
        refine (en_as (r := ⟨c, n, s, k, t, ch, g, h, y⟩) HEN.out HR.out HL.out HK.out).mono ?_
        rintro e v3 ⟨a1, d1, rfl, -, hE⟩
        have HD := Lib.hid (HD.out.ext hE)
        have HR := Lib.hid (HR.out.ext hE)
        have HB := Lib.hid (HB.out.ext hE)
        have HK := Lib.hid (HK.out.ext hE)
        have HX := Lib.hid (HX.out.trans hE)
        clear hE
        obtain ⟨z0, z1, z2, z3, z4, z5, z6, z7, z8, -⟩ := HD.out
        try dsimp only at z0 z1 z2 z3 z4 z5 z6 z7 z8
        go_wp2_with fail
        clear z0 z1 z2 z3 z4 z5 z6 z7 z8
        refine (ck_as (r := ⟨c, n, s, k, t, ch, g, h, y⟩) HC.out HR.out HL.out HK.out).mono ?_
        rintro e v4 ⟨rfl, hE⟩
        have HD := Lib.hid (HD.out.ext hE)
        have HR := Lib.hid (HR.out.ext hE)
        have HB := Lib.hid (HB.out.ext hE)
        have HK := Lib.hid (HK.out.ext hE)
        have HX := Lib.hid (HX.out.trans hE)
        clear hE
        go_wp2_with fail
        obtain ⟨⟨⟨cq, nq, sq, kq, tq, chq, gq, hq, yq⟩, er⟩, hdq⟩ : ∃ q, decQ bs = q := ⟨_, rfl⟩
        have HQ := Lib.hid hdq
        have HG : Hid (er = 0 → validQ ⟨cq, nq, sq, kq, tq, chq, gq, hq, yq⟩ = true ∧ encO ⟨cq, nq, sq, kq, tq, chq, gq, hq, yq⟩ = (bs, 0)) := Lib.hid fun h => by
          have h1 := decQ_good (bs := bs) (by rw [hdq]; exact h)
          rw [hdq] at h1
          exact ⟨h1.1, by rw [encO_ok h1.1, h1.2]⟩
        have HW : Hid (er ≠ 0 → (⟨cq, nq, sq, kq, tq, chq, gq, hq, yq⟩ : Rq) = rq0) := Lib.hid fun h => by
          have h1 := decQ_bad (bs := bs) (by rw [hdq]; exact h)
          rwa [hdq] at h1
        clear hdq
        refine (show Calls Tryd.prog 19 #[.slice bo bs.length bc] v4 (fun e w' => ∃ a d, e = .returned (.tuple #[.agg #[.int .i64 cq, .int .i64 nq, .int .i64 sq, .int .i64 kq, .int .i64 tq, .slice a chq.length d, .int .i64 gq, .int .i64 hq, .int .i64 yq], .int .i64 er]) ∧ RepB w' a d chq ∧ Ext v4 w') from de_as HQ.out HB.out HBL.out HK.out).mono ?_
        rintro e v5 ⟨a9, d9, rfl, hR, hE⟩
        have HD := Lib.hid (HD.out.ext hE)
        have HR := Lib.hid (HR.out.ext hE)
        have HB := Lib.hid (HB.out.ext hE)
        have HK := Lib.hid (HK.out.ext hE)
        have HX := Lib.hid (HX.out.trans hE)
        have HR9 := Lib.hid hR
        clear hE hR
        by_cases he : er = 0
        · subst he
          obtain ⟨hv9, he9⟩ := HG.out rfl
          have HV9 := Lib.hid hv9
          have HE9 := Lib.hid he9
          have HC9 : Hid (checkQ ⟨cq, nq, sq, kq, tq, chq, gq, hq, yq⟩ = 0) := Lib.hid (by unfold checkQ; rw [hv9]; rfl)
          have HL9 : Hid (chq.length ≤ 1000000) := Lib.hid (by have := (validQ_in hv9).2.2; dsimp only at this; omega)
          clear hv9 he9
          have hA : Ext v5 (v5.alloc (.cells #[.int .i64 cq, .int .i64 nq, .int .i64 sq, .int .i64 kq, .int .i64 tq, .slice a9 chq.length d9, .int .i64 gq, .int .i64 hq, .int .i64 yq] 26)) := (Ext.refl _).alloc _
          have hB : BoxQ (v5.alloc (.cells #[.int .i64 cq, .int .i64 nq, .int .i64 sq, .int .i64 kq, .int .i64 tq, .slice a9 chq.length d9, .int .i64 gq, .int .i64 hq, .int .i64 yq] 26)) v5.heap.size ⟨cq, nq, sq, kq, tq, chq, gq, hq, yq⟩ a9 d9 := BoxQ.new _ ⟨cq, nq, sq, kq, tq, chq, gq, hq, yq⟩ a9 d9 _ _ rfl
          go_wp2_with fail
          generalize (v5.alloc (.cells #[.int .i64 cq, .int .i64 nq, .int .i64 sq, .int .i64 kq, .int .i64 tq, .slice a9 chq.length d9, .int .i64 gq, .int .i64 hq, .int .i64 yq] 26)) = u5 at *
          have HD := Lib.hid (HD.out.ext hA)
          have HR := Lib.hid (HR.out.ext hA)
          have HB := Lib.hid (HB.out.ext hA)
          have HK := Lib.hid (HK.out.ext hA)
          have HR9 := Lib.hid (HR9.out.ext hA)
          have HX := Lib.hid (HX.out.trans hA)
          have HD9 := Lib.hid hB
          clear hA hB
          refine (en_as (r := ⟨cq, nq, sq, kq, tq, chq, gq, hq, yq⟩) HE9.out HR9.out HL9.out HK.out).mono ?_
          rintro e v6 ⟨a10, d10, rfl, hS, hE⟩
          have HD := Lib.hid (HD.out.ext hE)
          have HR := Lib.hid (HR.out.ext hE)
          have HB := Lib.hid (HB.out.ext hE)
          have HK := Lib.hid (HK.out.ext hE)
          have HR9 := Lib.hid (HR9.out.ext hE)
          have HD9 := Lib.hid (HD9.out.ext hE)
          have HX := Lib.hid (HX.out.trans hE)
          have HS10 := Lib.hid hS
          clear hE hS
          obtain ⟨e0, e1, e2, e3, e4, e5, e6, e7, e8, -⟩ := HD9.out
          try dsimp only at e0 e1 e2 e3 e4 e5 e6 e7 e8
          have s1 := str_at HS10.out
          have s2 := str_at HB.out
          go_wp2_with fail
          clear e0 e1 e2 e3 e4 e5 e6 e7 e8 s1 s2
          refine (ck_as (r := ⟨cq, nq, sq, kq, tq, chq, gq, hq, yq⟩) HC9.out HR9.out HL9.out HK.out).mono ?_
          rintro e v7 ⟨rfl, hE⟩
          have HD := Lib.hid (HD.out.ext hE)
          have HR := Lib.hid (HR.out.ext hE)
          have HB := Lib.hid (HB.out.ext hE)
          have HK := Lib.hid (HK.out.ext hE)
          have HR9 := Lib.hid (HR9.out.ext hE)
          have HD9 := Lib.hid (HD9.out.ext hE)
          have HS10 := Lib.hid (HS10.out.ext hE)
          have HX := Lib.hid (HX.out.trans hE)
          clear hE
          go_wp2_with fail
          go_ret
          exact ⟨by simp, HX.out⟩
        · have hz := HW.out he
          have hsm := decide_eq_true hz
          have HSM := Lib.hid hsm
          clear hz hsm
          have q1 : (er != 0) = true := by simpa using he
          have hA : Ext v5 (v5.alloc (.cells #[.int .i64 cq, .int .i64 nq, .int .i64 sq, .int .i64 kq, .int .i64 tq, .slice a9 chq.length d9, .int .i64 gq, .int .i64 hq, .int .i64 yq] 26)) := (Ext.refl _).alloc _
          have hB : BoxQ (v5.alloc (.cells #[.int .i64 cq, .int .i64 nq, .int .i64 sq, .int .i64 kq, .int .i64 tq, .slice a9 chq.length d9, .int .i64 gq, .int .i64 hq, .int .i64 yq] 26)) v5.heap.size ⟨cq, nq, sq, kq, tq, chq, gq, hq, yq⟩ a9 d9 := BoxQ.new _ ⟨cq, nq, sq, kq, tq, chq, gq, hq, yq⟩ a9 d9 _ _ rfl
          go_wp2_with fail
          generalize (v5.alloc (.cells #[.int .i64 cq, .int .i64 nq, .int .i64 sq, .int .i64 kq, .int .i64 tq, .slice a9 chq.length d9, .int .i64 gq, .int .i64 hq, .int .i64 yq] 26)) = u5 at *
          have HD := Lib.hid (HD.out.ext hA)
          have HR := Lib.hid (HR.out.ext hA)
          have HB := Lib.hid (HB.out.ext hA)
          have HK := Lib.hid (HK.out.ext hA)
          have HR9 := Lib.hid (HR9.out.ext hA)
          have HX := Lib.hid (HX.out.trans hA)
          have HD9 := Lib.hid hB
          clear hA hB
          refine (sm_as (r := ⟨cq, nq, sq, kq, tq, chq, gq, hq, yq⟩) (s := rq0) HSM.out HR9.out (SL.empty _ _)).mono ?_
          rintro e v6 ⟨rfl, hE⟩
          have HD := Lib.hid (HD.out.ext hE)
          have HR := Lib.hid (HR.out.ext hE)
          have HB := Lib.hid (HB.out.ext hE)
          have HK := Lib.hid (HK.out.ext hE)
          have HR9 := Lib.hid (HR9.out.ext hE)
          have HD9 := Lib.hid (HD9.out.ext hE)
          have HX := Lib.hid (HX.out.trans hE)
          clear hE
          go_wp2_with fail
          go_ret
          exact ⟨rfl, HX.out⟩
      | true =>
        have HC : Hid (checkQ ⟨c, n, s, k, t, ch, g, h, y⟩ = 0) := Lib.hid (by unfold checkQ; rw [hv]; rfl)
        have HEN := Lib.hid (encO_ok hv)
        have HDE := Lib.hid (decQ_encV hv)
        have HXL := Lib.hid (encV_len1 hv)
        clear hv
        generalize (encV ⟨c, n, s, k, t, ch, g, h, y⟩).enc = xs at *
        refine (en_as (r := ⟨c, n, s, k, t, ch, g, h, y⟩) HEN.out HR.out HL.out HK.out).mono ?_
        rintro e v3 ⟨a1, d1, rfl, hS, hE⟩
        have HD := Lib.hid (HD.out.ext hE)
        have HR := Lib.hid (HR.out.ext hE)
        have HB := Lib.hid (HB.out.ext hE)
        have HK := Lib.hid (HK.out.ext hE)
        have HX := Lib.hid (HX.out.trans hE)
        have HS1 := Lib.hid hS
        clear hE hS
        obtain ⟨z0, z1, z2, z3, z4, z5, z6, z7, z8, -⟩ := HD.out
        try dsimp only at z0 z1 z2 z3 z4 z5 z6 z7 z8
        go_wp2_with fail
        clear z0 z1 z2 z3 z4 z5 z6 z7 z8
        refine (ck_as (r := ⟨c, n, s, k, t, ch, g, h, y⟩) HC.out HR.out HL.out HK.out).mono ?_
        rintro e v4 ⟨rfl, hE⟩
        have HD := Lib.hid (HD.out.ext hE)
        have HR := Lib.hid (HR.out.ext hE)
        have HB := Lib.hid (HB.out.ext hE)
        have HK := Lib.hid (HK.out.ext hE)
        have HS1 := Lib.hid (HS1.out.ext hE)
        have HX := Lib.hid (HX.out.trans hE)
        clear hE
        go_wp2_with fail
        refine (show Calls Tryd.prog 19 #[.slice a1 xs.length d1] v4 (fun e w' => ∃ a d, e = .returned (.tuple #[.agg #[.int .i64 c, .int .i64 n, .int .i64 s, .int .i64 k, .int .i64 t, .slice a ch.length d, .int .i64 g, .int .i64 h, .int .i64 y], .int .i64 0]) ∧ RepB w' a d ch ∧ Ext v4 w') from de_as HDE.out HS1.out HXL.out HK.out).mono ?_
        rintro e v5 ⟨a3, d3, rfl, hR, hE⟩
        have HD := Lib.hid (HD.out.ext hE)
        have HR := Lib.hid (HR.out.ext hE)
        have HB := Lib.hid (HB.out.ext hE)
        have HK := Lib.hid (HK.out.ext hE)
        have HS1 := Lib.hid (HS1.out.ext hE)
        have HX := Lib.hid (HX.out.trans hE)
        have HR3 := Lib.hid hR
        clear hE hR
        have hA : Ext v5 (v5.alloc (.cells #[.int .i64 c, .int .i64 n, .int .i64 s, .int .i64 k, .int .i64 t, .slice a3 ch.length d3, .int .i64 g, .int .i64 h, .int .i64 y] 26)) := (Ext.refl _).alloc _
        have hB : BoxQ (v5.alloc (.cells #[.int .i64 c, .int .i64 n, .int .i64 s, .int .i64 k, .int .i64 t, .slice a3 ch.length d3, .int .i64 g, .int .i64 h, .int .i64 y] 26)) v5.heap.size ⟨c, n, s, k, t, ch, g, h, y⟩ a3 d3 := BoxQ.new _ ⟨c, n, s, k, t, ch, g, h, y⟩ a3 d3 _ _ rfl
        obtain ⟨z0, z1, z2, z3, z4, z5, z6, z7, z8, -⟩ := HD.out.ext hA
        try dsimp only at z0 z1 z2 z3 z4 z5 z6 z7 z8
        go_wp2_with fail
        clear z0 z1 z2 z3 z4 z5 z6 z7 z8
        generalize (v5.alloc (.cells #[.int .i64 c, .int .i64 n, .int .i64 s, .int .i64 k, .int .i64 t, .slice a3 ch.length d3, .int .i64 g, .int .i64 h, .int .i64 y] 26)) = u5 at *
        have HD := Lib.hid (HD.out.ext hA)
        have HR := Lib.hid (HR.out.ext hA)
        have HB := Lib.hid (HB.out.ext hA)
        have HK := Lib.hid (HK.out.ext hA)
        have HS1 := Lib.hid (HS1.out.ext hA)
        have HR3 := Lib.hid (HR3.out.ext hA)
        have HX := Lib.hid (HX.out.trans hA)
        have HD3 := Lib.hid hB
        clear hA hB
        refine (sm_as (r := ⟨c, n, s, k, t, ch, g, h, y⟩) (s := ⟨c, n, s, k, t, ch, g, h, y⟩) (decide_eq_true rfl) HR.out HR3.out).mono ?_
        rintro e v6 ⟨rfl, hE⟩
        have HD := Lib.hid (HD.out.ext hE)
        have HR := Lib.hid (HR.out.ext hE)
        have HB := Lib.hid (HB.out.ext hE)
        have HK := Lib.hid (HK.out.ext hE)
        have HS1 := Lib.hid (HS1.out.ext hE)
        have HR3 := Lib.hid (HR3.out.ext hE)
        have HD3 := Lib.hid (HD3.out.ext hE)
        have HX := Lib.hid (HX.out.trans hE)
        clear hE
        go_wp2_with fail
        clear HS1 HR3 HD3
        obtain ⟨⟨⟨cq, nq, sq, kq, tq, chq, gq, hq, yq⟩, er⟩, hdq⟩ : ∃ q, decQ bs = q := ⟨_, rfl⟩
        have HQ := Lib.hid hdq
        have HG : Hid (er = 0 → validQ ⟨cq, nq, sq, kq, tq, chq, gq, hq, yq⟩ = true ∧ encO ⟨cq, nq, sq, kq, tq, chq, gq, hq, yq⟩ = (bs, 0)) := Lib.hid fun h => by
          have h1 := decQ_good (bs := bs) (by rw [hdq]; exact h)
          rw [hdq] at h1
          exact ⟨h1.1, by rw [encO_ok h1.1, h1.2]⟩
        have HW : Hid (er ≠ 0 → (⟨cq, nq, sq, kq, tq, chq, gq, hq, yq⟩ : Rq) = rq0) := Lib.hid fun h => by
          have h1 := decQ_bad (bs := bs) (by rw [hdq]; exact h)
          rwa [hdq] at h1
        clear hdq
        refine (show Calls Tryd.prog 19 #[.slice bo bs.length bc] v6 (fun e w' => ∃ a d, e = .returned (.tuple #[.agg #[.int .i64 cq, .int .i64 nq, .int .i64 sq, .int .i64 kq, .int .i64 tq, .slice a chq.length d, .int .i64 gq, .int .i64 hq, .int .i64 yq], .int .i64 er]) ∧ RepB w' a d chq ∧ Ext v6 w') from de_as HQ.out HB.out HBL.out HK.out).mono ?_
        rintro e v7 ⟨a9, d9, rfl, hR, hE⟩
        have HD := Lib.hid (HD.out.ext hE)
        have HR := Lib.hid (HR.out.ext hE)
        have HB := Lib.hid (HB.out.ext hE)
        have HK := Lib.hid (HK.out.ext hE)
        have HX := Lib.hid (HX.out.trans hE)
        have HR9 := Lib.hid hR
        clear hE hR
        by_cases he : er = 0
        · subst he
          obtain ⟨hv9, he9⟩ := HG.out rfl
          have HV9 := Lib.hid hv9
          have HE9 := Lib.hid he9
          have HC9 : Hid (checkQ ⟨cq, nq, sq, kq, tq, chq, gq, hq, yq⟩ = 0) := Lib.hid (by unfold checkQ; rw [hv9]; rfl)
          have HL9 : Hid (chq.length ≤ 1000000) := Lib.hid (by have := (validQ_in hv9).2.2; dsimp only at this; omega)
          clear hv9 he9
          have hA : Ext v7 (v7.alloc (.cells #[.int .i64 cq, .int .i64 nq, .int .i64 sq, .int .i64 kq, .int .i64 tq, .slice a9 chq.length d9, .int .i64 gq, .int .i64 hq, .int .i64 yq] 26)) := (Ext.refl _).alloc _
          have hB : BoxQ (v7.alloc (.cells #[.int .i64 cq, .int .i64 nq, .int .i64 sq, .int .i64 kq, .int .i64 tq, .slice a9 chq.length d9, .int .i64 gq, .int .i64 hq, .int .i64 yq] 26)) v7.heap.size ⟨cq, nq, sq, kq, tq, chq, gq, hq, yq⟩ a9 d9 := BoxQ.new _ ⟨cq, nq, sq, kq, tq, chq, gq, hq, yq⟩ a9 d9 _ _ rfl
          go_wp2_with fail
          generalize (v7.alloc (.cells #[.int .i64 cq, .int .i64 nq, .int .i64 sq, .int .i64 kq, .int .i64 tq, .slice a9 chq.length d9, .int .i64 gq, .int .i64 hq, .int .i64 yq] 26)) = u7 at *
          have HD := Lib.hid (HD.out.ext hA)
          have HR := Lib.hid (HR.out.ext hA)
          have HB := Lib.hid (HB.out.ext hA)
          have HK := Lib.hid (HK.out.ext hA)
          have HR9 := Lib.hid (HR9.out.ext hA)
          have HX := Lib.hid (HX.out.trans hA)
          have HD9 := Lib.hid hB
          clear hA hB
          refine (en_as (r := ⟨cq, nq, sq, kq, tq, chq, gq, hq, yq⟩) HE9.out HR9.out HL9.out HK.out).mono ?_
          rintro e v8 ⟨a10, d10, rfl, hS, hE⟩
          have HD := Lib.hid (HD.out.ext hE)
          have HR := Lib.hid (HR.out.ext hE)
          have HB := Lib.hid (HB.out.ext hE)
          have HK := Lib.hid (HK.out.ext hE)
          have HR9 := Lib.hid (HR9.out.ext hE)
          have HD9 := Lib.hid (HD9.out.ext hE)
          have HX := Lib.hid (HX.out.trans hE)
          have HS10 := Lib.hid hS
          clear hE hS
          obtain ⟨e0, e1, e2, e3, e4, e5, e6, e7, e8, -⟩ := HD9.out
          try dsimp only at e0 e1 e2 e3 e4 e5 e6 e7 e8
          have s1 := str_at HS10.out
          have s2 := str_at HB.out
          go_wp2_with fail
          clear e0 e1 e2 e3 e4 e5 e6 e7 e8 s1 s2
          refine (ck_as (r := ⟨cq, nq, sq, kq, tq, chq, gq, hq, yq⟩) HC9.out HR9.out HL9.out HK.out).mono ?_
          rintro e v9 ⟨rfl, hE⟩
          have HD := Lib.hid (HD.out.ext hE)
          have HR := Lib.hid (HR.out.ext hE)
          have HB := Lib.hid (HB.out.ext hE)
          have HK := Lib.hid (HK.out.ext hE)
          have HR9 := Lib.hid (HR9.out.ext hE)
          have HD9 := Lib.hid (HD9.out.ext hE)
          have HS10 := Lib.hid (HS10.out.ext hE)
          have HX := Lib.hid (HX.out.trans hE)
          clear hE
          go_wp2_with fail
          go_ret
          exact ⟨by simp, HX.out⟩
        · have hz := HW.out he
          have hsm := decide_eq_true hz
          have HSM := Lib.hid hsm
          clear hz hsm
          have q1 : (er != 0) = true := by simpa using he
          have hA : Ext v7 (v7.alloc (.cells #[.int .i64 cq, .int .i64 nq, .int .i64 sq, .int .i64 kq, .int .i64 tq, .slice a9 chq.length d9, .int .i64 gq, .int .i64 hq, .int .i64 yq] 26)) := (Ext.refl _).alloc _
          have hB : BoxQ (v7.alloc (.cells #[.int .i64 cq, .int .i64 nq, .int .i64 sq, .int .i64 kq, .int .i64 tq, .slice a9 chq.length d9, .int .i64 gq, .int .i64 hq, .int .i64 yq] 26)) v7.heap.size ⟨cq, nq, sq, kq, tq, chq, gq, hq, yq⟩ a9 d9 := BoxQ.new _ ⟨cq, nq, sq, kq, tq, chq, gq, hq, yq⟩ a9 d9 _ _ rfl
          go_wp2_with fail
          generalize (v7.alloc (.cells #[.int .i64 cq, .int .i64 nq, .int .i64 sq, .int .i64 kq, .int .i64 tq, .slice a9 chq.length d9, .int .i64 gq, .int .i64 hq, .int .i64 yq] 26)) = u7 at *
          have HD := Lib.hid (HD.out.ext hA)
          have HR := Lib.hid (HR.out.ext hA)
          have HB := Lib.hid (HB.out.ext hA)
          have HK := Lib.hid (HK.out.ext hA)
          have HR9 := Lib.hid (HR9.out.ext hA)
          have HX := Lib.hid (HX.out.trans hA)
          have HD9 := Lib.hid hB
          clear hA hB
          refine (sm_as (r := ⟨cq, nq, sq, kq, tq, chq, gq, hq, yq⟩) (s := rq0) HSM.out HR9.out (SL.empty _ _)).mono ?_
          rintro e v8 ⟨rfl, hE⟩
          have HD := Lib.hid (HD.out.ext hE)
          have HR := Lib.hid (HR.out.ext hE)
          have HB := Lib.hid (HB.out.ext hE)
          have HK := Lib.hid (HK.out.ext hE)
          have HR9 := Lib.hid (HR9.out.ext hE)
          have HD9 := Lib.hid (HD9.out.ext hE)
          have HX := Lib.hid (HX.out.trans hE)
          clear hE
          go_wp2_with fail
          go_ret
          exact ⟨rfl, HX.out⟩
    · have hf : (1000 : Int) < (bs.length : Int) := by omega
      go_wp2_with fail
      go_ret
      exact ⟨rfl, HX.out⟩
  · have hf := decide_eq_false hl
    clear hl
    refine (fw_as (r := ⟨c, n, s, k, t, ch, g, h, y⟩) hf HR.out).mono ?_
    rintro e v2 ⟨rfl, hE⟩
    have HD := Lib.hid (HD.out.ext hE)
    have HR := Lib.hid (HR.out.ext hE)
    have HB := Lib.hid (HB.out.ext hE)
    have HK := Lib.hid (HK.out.ext hE)
    have HX := Lib.hid (HX.out.trans hE)
    clear hE
    go_wp2_with fail
    go_ret
    exact ⟨rfl, HX.out⟩
end Go.Proofs.YtahaplioegeloaaDoor
