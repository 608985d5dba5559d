/- Requests: the laws Changed, DoneSpec. -/
import Derived.Test.YtahaplioegeloaaDoorQH
namespace Go.Sz
open Go.RowKit Go.Proofs.YtahaplioegeloaaDoor
theorem str_eq (a b : List UInt8) : (a == b) = decide (a = b) := by rw [Bool.eq_iff_iff, beq_iff_eq, decide_eq_true_eq]
theorem validQ_okC {r : Rq} (h : validQ r = true) : okC ⟨r.c, r.n, 2, 0, 0, 0, []⟩ = true := by
  have h1 : headQ r = true := by unfold validQ at h; simp only [Bool.and_eq_true] at h; exact h.1.1
  unfold headQ at h1
  unfold okC
  simp only [Bool.and_eq_true, decide_eq_true_eq] at *
  omega
theorem note_one {o : Oc} (h : okC o = true) : noteL [] o = ([o], 0) := by
  rw [noteL_new h (by rfl)]; rfl
theorem done_one (o : Oc) (c n : Int) : doneL [o] c n = if isOc c n o = true then (o, true) else (oc0, false) := by
  unfold doneL
  by_cases h : isOc c n o = true
  · rw [if_pos h, List.find?_cons_of_pos h]
  · rw [if_neg h, List.find?_cons_of_neg h]; rfl
end Go.Sz
namespace Go.Proofs.YtahaplioegeloaaDoor
open Go.RowKit Go.Sz
set_option maxRecDepth 100000 in
set_option maxHeartbeats 12800000 in
theorem lawq_changed (r : Rq) (ao : Option Addr) (cap : Nat) (r' : Rq) (ao' : Option Addr) (cap' : Nat) (w : World) (hr : RepB w ao cap r.ch) (ht : r.ok) (hr' : RepB w ao' cap' r'.ch) (ht' : r'.ok) (hk : Kinds w) : Calls Tryd.prog 9 #[.agg (r.cells ao cap).toArray, .agg (r'.cells ao' cap').toArray] w fun e w' => e = .returned (.bool true) ∧ Ext w w' := by
  obtain ⟨c, n, s, k, t, ch, g, h, y⟩ := r
  obtain ⟨c', n', s', k', t', ch', g', h', y'⟩ := r'
  show Calls Tryd.prog 9 #[.agg #[.int .i64 c, .int .i64 n, .int .i64 s, .int .i64 k, .int .i64 t, .slice ao ch.length cap, .int .i64 g, .int .i64 h, .int .i64 y], .agg #[.int .i64 c', .int .i64 n', .int .i64 s', .int .i64 k', .int .i64 t', .slice ao' ch'.length cap', .int .i64 g', .int .i64 h', .int .i64 y']] w _
  have hX : Ext w ((w.alloc (.cells #[.int .i64 c, .int .i64 n, .int .i64 s, .int .i64 k, .int .i64 t, .slice ao ch.length cap, .int .i64 g, .int .i64 h, .int .i64 y] 26)).alloc (.cells #[.int .i64 c', .int .i64 n', .int .i64 s', .int .i64 k', .int .i64 t', .slice ao' ch'.length cap', .int .i64 g', .int .i64 h', .int .i64 y'] 26)) := ((Ext.refl w).alloc _).alloc _
  have HD : Hid (BoxQ ((w.alloc (.cells #[.int .i64 c, .int .i64 n, .int .i64 s, .int .i64 k, .int .i64 t, .slice ao ch.length cap, .int .i64 g, .int .i64 h, .int .i64 y] 26)).alloc (.cells #[.int .i64 c', .int .i64 n', .int .i64 s', .int .i64 k', .int .i64 t', .slice ao' ch'.length cap', .int .i64 g', .int .i64 h', .int .i64 y'] 26)) (w.heap.size) ⟨c, n, s, k, t, ch, g, h, y⟩ ao cap) := Lib.hid ((BoxQ.new w ⟨c, n, s, k, t, ch, g, h, y⟩ ao cap 26 (w.heap.size) (by simp)).ext ((Ext.refl _).alloc _))
  have HR : Hid (RepB ((w.alloc (.cells #[.int .i64 c, .int .i64 n, .int .i64 s, .int .i64 k, .int .i64 t, .slice ao ch.length cap, .int .i64 g, .int .i64 h, .int .i64 y] 26)).alloc (.cells #[.int .i64 c', .int .i64 n', .int .i64 s', .int .i64 k', .int .i64 t', .slice ao' ch'.length cap', .int .i64 g', .int .i64 h', .int .i64 y'] 26)) ao cap ch) := Lib.hid (RepB.ext hr hX)
  have HT := Lib.hid ht
  clear hr ht
  have HD' : Hid (BoxQ ((w.alloc (.cells #[.int .i64 c, .int .i64 n, .int .i64 s, .int .i64 k, .int .i64 t, .slice ao ch.length cap, .int .i64 g, .int .i64 h, .int .i64 y] 26)).alloc (.cells #[.int .i64 c', .int .i64 n', .int .i64 s', .int .i64 k', .int .i64 t', .slice ao' ch'.length cap', .int .i64 g', .int .i64 h', .int .i64 y'] 26)) (w.heap.size + 1) ⟨c', n', s', k', t', ch', g', h', y'⟩ ao' cap') := Lib.hid (BoxQ.new (w.alloc (.cells #[.int .i64 c, .int .i64 n, .int .i64 s, .int .i64 k, .int .i64 t, .slice ao ch.length cap, .int .i64 g, .int .i64 h, .int .i64 y] 26)) ⟨c', n', s', k', t', ch', g', h', y'⟩ ao' cap' 26 (w.heap.size + 1) (by simp))
  have HR' : Hid (RepB ((w.alloc (.cells #[.int .i64 c, .int .i64 n, .int .i64 s, .int .i64 k, .int .i64 t, .slice ao ch.length cap, .int .i64 g, .int .i64 h, .int .i64 y] 26)).alloc (.cells #[.int .i64 c', .int .i64 n', .int .i64 s', .int .i64 k', .int .i64 t', .slice ao' ch'.length cap', .int .i64 g', .int .i64 h', .int .i64 y'] 26)) ao' cap' ch') := Lib.hid (RepB.ext hr' hX)
  have HT' := Lib.hid ht'
  clear hr' ht'
  have HK := Lib.hid (hk.ext hX)
  have HX := Lib.hid hX
  clear hk hX
  go_enter Tryd.func9, Tryd.ntmps9
  go_wp2_with fail
  generalize ((w.alloc (.cells #[.int .i64 c, .int .i64 n, .int .i64 s, .int .i64 k, .int .i64 t, .slice ao ch.length cap, .int .i64 g, .int .i64 h, .int .i64 y] 26)).alloc (.cells #[.int .i64 c', .int .i64 n', .int .i64 s', .int .i64 k', .int .i64 t', .slice ao' ch'.length cap', .int .i64 g', .int .i64 h', .int .i64 y'] 26)) = w0 at *
  refine (saneQ_any _ HK.out).mono ?_
  rintro e v1 ⟨rfl, hE⟩
  have HD := Lib.hid (HD.out.ext hE)
  have HR := Lib.hid (HR.out.ext hE)
  have HD' := Lib.hid (HD'.out.ext hE)
  have HR' := Lib.hid (HR'.out.ext hE)
  have HK := Lib.hid (HK.out.ext hE)
  have HX := Lib.hid (HX.out.trans hE)
  clear hE
  obtain ⟨z0, z1, z2, z3, z4, z5, z6, z7, z8, -⟩ := HD.out
  try dsimp only at z0 z1 z2 z3 z4 z5 z6 z7 z8
  obtain ⟨e0, e1, e2, e3, e4, e5, e6, e7, e8, -⟩ := HD'.out
  try dsimp only at e0 e1 e2 e3 e4 e5 e6 e7 e8
  go_wp2_with fail
  clear z0 z1 z2 z3 z4 z5 z6 z7 z8 e0 e1 e2 e3 e4 e5 e6 e7 e8
  by_cases hl : ch.length ≤ 20
  · have hf := decide_eq_true hl
    refine (fw_as (r := ⟨c, n, s, k, t, ch, g, h, y⟩) hf HR.out).mono ?_
    rintro e v2 ⟨rfl, hE⟩
    have HD := Lib.hid (HD.out.ext hE)
    have HR := Lib.hid (HR.out.ext hE)
    have HD' := Lib.hid (HD'.out.ext hE)
    have HR' := Lib.hid (HR'.out.ext hE)
    have HK := Lib.hid (HK.out.ext hE)
    have HX := Lib.hid (HX.out.trans hE)
    clear hE
    obtain ⟨e0, e1, e2, e3, e4, e5, e6, e7, e8, -⟩ := HD'.out
    try dsimp only at e0 e1 e2 e3 e4 e5 e6 e7 e8
    go_wp2_with fail
    clear e0 e1 e2 e3 e4 e5 e6 e7 e8
    by_cases hl' : ch'.length ≤ 20
    · have hf' := decide_eq_true hl'
      have HL : Hid (ch.length ≤ 1000000) := Lib.hid (by omega)
      have HL' : Hid (ch'.length ≤ 1000000) := Lib.hid (by omega)
      clear hl hl' hf
      refine (fw_as (r := ⟨c', n', s', k', t', ch', g', h', y'⟩) hf' HR'.out).mono ?_
      rintro e v3 ⟨rfl, hE⟩
      have HD := Lib.hid (HD.out.ext hE)
      have HR := Lib.hid (HR.out.ext hE)
      have HD' := Lib.hid (HD'.out.ext hE)
      have HR' := Lib.hid (HR'.out.ext hE)
      have HK := Lib.hid (HK.out.ext hE)
      have HX := Lib.hid (HX.out.trans hE)
      clear hE
      obtain ⟨z0, z1, z2, z3, z4, z5, z6, z7, z8, -⟩ := HD.out
      try dsimp only at z0 z1 z2 z3 z4 z5 z6 z7 z8
      clear hf'
      go_wp2_with fail
      clear z0 z1 z2 z3 z4 z5 z6 z7 z8
      cases hv : validQ ⟨c, n, s, k, t, ch, g, h, y⟩ with
      | false =>
          have HQ := Lib.hid (encO_bad hv)
          clear hv
          refine (en_as (r := ⟨c, n, s, k, t, ch, g, h, y⟩) HQ.out HR.out HL.out HK.out).mono ?_
          rintro e v4 ⟨a1, d1, rfl, -, hE⟩
          have HD := Lib.hid (HD.out.ext hE)
          have HR := Lib.hid (HR.out.ext hE)
          have HD' := Lib.hid (HD'.out.ext hE)
          have HR' := Lib.hid (HR'.out.ext hE)
          have HK := Lib.hid (HK.out.ext hE)
          have HX := Lib.hid (HX.out.trans hE)
          clear hE
          obtain ⟨e0, e1, e2, e3, e4, e5, e6, e7, e8, -⟩ := HD'.out
          try dsimp only at e0 e1 e2 e3 e4 e5 e6 e7 e8
          go_wp2_with fail
          clear e0 e1 e2 e3 e4 e5 e6 e7 e8
          obtain ⟨⟨bs', er'⟩, hq⟩ : ∃ q, encO ⟨c', n', s', k', t', ch', g', h', y'⟩ = q := ⟨_, rfl⟩
          have HQ' := Lib.hid hq
          clear hq
          refine (en_as (r := ⟨c', n', s', k', t', ch', g', h', y'⟩) HQ'.out HR'.out HL'.out HK.out).mono ?_
          rintro e v5 ⟨a2, d2, rfl, -, hE⟩
          have HD := Lib.hid (HD.out.ext hE)
          have HR := Lib.hid (HR.out.ext hE)
          have HD' := Lib.hid (HD'.out.ext hE)
          have HR' := Lib.hid (HR'.out.ext hE)
          have HK := Lib.hid (HK.out.ext hE)
          have HX := Lib.hid (HX.out.trans hE)
          clear hE
          go_wp2_with fail
          go_ret
          exact ⟨rfl, HX.out⟩
      | true =>
          have HV := Lib.hid hv
          have HQ := Lib.hid (encO_ok hv)
          clear hv
          obtain ⟨bs, hbs⟩ : ∃ bs, (encV ⟨c, n, s, k, t, ch, g, h, y⟩).enc = bs := ⟨_, rfl⟩
          rw [hbs] at HQ
          have HB := Lib.hid hbs
          clear hbs
          refine (en_as (r := ⟨c, n, s, k, t, ch, g, h, y⟩) HQ.out HR.out HL.out HK.out).mono ?_
          rintro e v4 ⟨a1, d1, rfl, hS, hE⟩
          have HD := Lib.hid (HD.out.ext hE)
          have HR := Lib.hid (HR.out.ext hE)
          have HD' := Lib.hid (HD'.out.ext hE)
          have HR' := Lib.hid (HR'.out.ext hE)
          have HK := Lib.hid (HK.out.ext hE)
          have HX := Lib.hid (HX.out.trans hE)
          have HS1 := Lib.hid hS
          clear hE hS
          obtain ⟨e0, e1, e2, e3, e4, e5, e6, e7, e8, -⟩ := HD'.out
          try dsimp only at e0 e1 e2 e3 e4 e5 e6 e7 e8
          go_wp2_with fail
          clear e0 e1 e2 e3 e4 e5 e6 e7 e8
          cases hv : validQ ⟨c', n', s', k', t', ch', g', h', y'⟩ with
          | false =>
              have HQ' := Lib.hid (encO_bad hv)
              clear hv
              refine (en_as (r := ⟨c', n', s', k', t', ch', g', h', y'⟩) HQ'.out HR'.out HL'.out HK.out).mono ?_
              rintro e v5 ⟨a2, d2, rfl, -, hE⟩
              have HD := Lib.hid (HD.out.ext hE)
              have HR := Lib.hid (HR.out.ext hE)
              have HD' := Lib.hid (HD'.out.ext hE)
              have HR' := Lib.hid (HR'.out.ext hE)
              have HK := Lib.hid (HK.out.ext hE)
              have HS1 := Lib.hid (HS1.out.ext hE)
              have HX := Lib.hid (HX.out.trans hE)
              clear hE
              go_wp2_with fail
              go_ret
              exact ⟨rfl, HX.out⟩
          | true =>
              have HV' := Lib.hid hv
              have HQ' := Lib.hid (encO_ok hv)
              clear hv
              obtain ⟨bs', hbs⟩ : ∃ bs, (encV ⟨c', n', s', k', t', ch', g', h', y'⟩).enc = bs := ⟨_, rfl⟩
              rw [hbs] at HQ'
              have HB' := Lib.hid hbs
              clear hbs
              have hbb : (bs == bs') = decide ((⟨c, n, s, k, t, ch, g, h, y⟩ : Rq) = ⟨c', n', s', k', t', ch', g', h', y'⟩) := by rw [str_eq, ← HB.out, ← HB'.out]; exact decide_eq_decide.2 (encV_inj HV.out HV'.out)
              obtain ⟨sq, hsq⟩ : ∃ q, decide ((⟨c, n, s, k, t, ch, g, h, y⟩ : Rq) = ⟨c', n', s', k', t', ch', g', h', y'⟩) = q := ⟨_, rfl⟩
              rw [hsq] at hbb
              have HSQ := Lib.hid hsq
              have HBB := Lib.hid hbb
              clear hsq hbb
              refine (en_as (r := ⟨c', n', s', k', t', ch', g', h', y'⟩) HQ'.out HR'.out HL'.out HK.out).mono ?_
              rintro e v5 ⟨a2, d2, rfl, hS, hE⟩
              have HD := Lib.hid (HD.out.ext hE)
              have HR := Lib.hid (HR.out.ext hE)
              have HD' := Lib.hid (HD'.out.ext hE)
              have HR' := Lib.hid (HR'.out.ext hE)
              have HK := Lib.hid (HK.out.ext hE)
              have HS1 := Lib.hid (HS1.out.ext hE)
              have HX := Lib.hid (HX.out.trans hE)
              have HS2 := Lib.hid hS
              clear hE hS
              obtain ⟨z0, z1, z2, z3, z4, z5, z6, z7, z8, -⟩ := HD.out
              try dsimp only at z0 z1 z2 z3 z4 z5 z6 z7 z8
              go_wp2_with fail
              clear z0 z1 z2 z3 z4 z5 z6 z7 z8
              have HNT := Lib.hid (note_one (validQ_okC HV.out))
              dsimp only at HNT
              refine (show Calls Tryd.prog 24 #[.slice none 0 0, .agg #[.int .i64 c, .int .i64 n, .int .i64 2, .int .i64 0, .int .i64 0, .int .i64 0, .slice none 0 0]] v5 (RetNt v5 ([⟨c, n, 2, 0, 0, 0, []⟩], 0)) from nt_as (l := []) (o := ⟨c, n, 2, 0, 0, 0, []⟩) HNT.out (RepOL.nil _) (by decide) (SL.empty _ _)).mono ?_
              rintro e v6 ⟨a3, d3, rows3, rfl, hL, hE⟩
              have HD := Lib.hid (HD.out.ext hE)
              have HR := Lib.hid (HR.out.ext hE)
              have HD' := Lib.hid (HD'.out.ext hE)
              have HR' := Lib.hid (HR'.out.ext hE)
              have HK := Lib.hid (HK.out.ext hE)
              have HS1 := Lib.hid (HS1.out.ext hE)
              have HS2 := Lib.hid (HS2.out.ext hE)
              have HX := Lib.hid (HX.out.trans hE)
              have HL3 := Lib.hid hL
              clear hE hL
              obtain ⟨e0, e1, e2, e3, e4, e5, e6, e7, e8, -⟩ := HD'.out
              try dsimp only at e0 e1 e2 e3 e4 e5 e6 e7 e8
              go_wp2_with fail
              clear e0 e1 e2 e3 e4 e5 e6 e7 e8
              have HDN := Lib.hid (done_one ⟨c, n, 2, 0, 0, 0, []⟩ c' n')
              obtain ⟨dq, hdq⟩ : ∃ q, isOc c' n' ⟨c, n, 2, 0, 0, 0, []⟩ = q := ⟨_, rfl⟩
              have HDQ : Hid (((c == c') && (n == n')) = dq) := Lib.hid hdq
              obtain ⟨⟨⟨ocq, onq, orq, osq, olq, oeq, nmq⟩, ok⟩, hdo⟩ : ∃ q, doneL [⟨c, n, 2, 0, 0, 0, []⟩] c' n' = q := ⟨_, rfl⟩
              have hok : ok = dq := by have h1 := HDN.out; rw [hdo, hdq] at h1; cases dq <;> simp at h1 <;> exact h1.2
              subst hok
              have HDO := Lib.hid hdo
              clear hdo hdq
              refine (show Calls Tryd.prog 22 #[.slice a3 1 d3, .int .i64 c', .int .i64 n'] v6 (fun e w' => ∃ a d, e = .returned (.tuple #[.agg #[.int .i64 ocq, .int .i64 onq, .int .i64 orq, .int .i64 osq, .int .i64 olq, .int .i64 oeq, .slice a nmq.length d], .bool ok]) ∧ SL w' 1 a d (irows nmq) ∧ Ext v6 w') from do_as HDO.out HL3.out).mono ?_
              rintro e v7 ⟨a4, d4, rfl, -, hE⟩
              have HD := Lib.hid (HD.out.ext hE)
              have HR := Lib.hid (HR.out.ext hE)
              have HD' := Lib.hid (HD'.out.ext hE)
              have HR' := Lib.hid (HR'.out.ext hE)
              have HK := Lib.hid (HK.out.ext hE)
              have HS1 := Lib.hid (HS1.out.ext hE)
              have HS2 := Lib.hid (HS2.out.ext hE)
              have HL3 := Lib.hid (HL3.out.ext hE)
              have HX := Lib.hid (HX.out.trans hE)
              clear hE
              have hA : Ext v7 (v7.alloc (.cells #[.int .i64 ocq, .int .i64 onq, .int .i64 orq, .int .i64 osq, .int .i64 olq, .int .i64 oeq, .slice a4 nmq.length d4] 42)) := (Ext.refl _).alloc _
              go_wp2_with fail
              generalize (v7.alloc (.cells #[.int .i64 ocq, .int .i64 onq, .int .i64 orq, .int .i64 osq, .int .i64 olq, .int .i64 oeq, .slice a4 nmq.length d4] 42)) = u9 at *
              have HD := Lib.hid (HD.out.ext hA)
              have HR := Lib.hid (HR.out.ext hA)
              have HD' := Lib.hid (HD'.out.ext hA)
              have HR' := Lib.hid (HR'.out.ext hA)
              have HK := Lib.hid (HK.out.ext hA)
              have HS1 := Lib.hid (HS1.out.ext hA)
              have HS2 := Lib.hid (HS2.out.ext hA)
              have HL3 := Lib.hid (HL3.out.ext hA)
              have HX := Lib.hid (HX.out.trans hA)
              clear hA
              obtain ⟨z0, z1, z2, z3, z4, z5, z6, z7, z8, -⟩ := HD.out
              try dsimp only at z0 z1 z2 z3 z4 z5 z6 z7 z8
              obtain ⟨e0, e1, e2, e3, e4, e5, e6, e7, e8, -⟩ := HD'.out
              try dsimp only at e0 e1 e2 e3 e4 e5 e6 e7 e8
              have gz0 := grow_cell z0
              have gz1 := grow_cell z1
              have gz2 := grow_cell z2
              have gz3 := grow_cell z3
              have gz4 := grow_cell z4
              have gz5 := grow_cell z5
              have gz6 := grow_cell z6
              have gz7 := grow_cell z7
              have gz8 := grow_cell z8
              have ge0 := grow_cell e0
              have ge1 := grow_cell e1
              have ge2 := grow_cell e2
              have ge3 := grow_cell e3
              have ge4 := grow_cell e4
              have ge5 := grow_cell e5
              have ge6 := grow_cell e6
              have ge7 := grow_cell e7
              have ge8 := grow_cell e8
              have gs1 := grow_str HS1.out
              have gs2 := grow_str HS2.out
              cases sq with
              | true =>
                by_cases hcc : c = c'
                · have q1 : (c == c') = true := by simpa using hcc
                  have HCC := Lib.hid hcc
                  clear hcc
                  by_cases hnn : n = n'
                  · have q2 : (n == n') = true := by simpa using hnn
                    have HNN := Lib.hid hnn
                    clear hnn
                    obtain rfl : ok = true := by have h1 := HDQ.out; rw [q1, q2] at h1; simpa using h1.symm
                    have hbb := HBB.out
                    refine wp_region_rel_all (fun i => if i = 10 then some (spV (.bool true)) else none) (by kernel_rfl) (by kernel_rfl) ?_
                    repeat (first
                      | (refine wpRel_quick ?_ ?_ ?_ ?_
                         · rfl
                         · rfl
                         · first | exact noEnter rfl | (intro f args W W'; go_simp)
                         intro K hK
                         go_big_quiet_op
                         go_big_quiet_on)
                      | (refine wpRel_skip ?_ ?_
                         · rfl
                         simp only [Act.put, List.setIfInBounds_toArray, List.set_cons_zero, List.set_cons_succ]))
                    refine wpRel_rich _ rfl rfl (fun W hW => ?_) (fun v W3 hW3 hv => ?_)
                    · have hc := sm_as (r := ⟨c, n, s, k, t, ch, g, h, y⟩) (s := ⟨c', n', s', k', t', ch', g', h', y'⟩) (w := W) HSQ.out (RepB.ext HR.out ((Ext.refl u9).drew.trans hW.1)) (RepB.ext HR'.out ((Ext.refl u9).drew.trans hW.1))
                      go_simp
                      refine Calls.mono hc ?_
                      rintro e w' ⟨rfl, h⟩
                      exact ⟨_, rfl, rfl, by first | exact h | (subst h; exact Ext.refl _)⟩
                    obtain rfl := hv
                    clear hW3
                    simp only [Act.put, List.setIfInBounds_toArray, List.set_cons_zero, List.set_cons_succ]
                    repeat (first
                      | (refine wpRel_quick ?_ ?_ ?_ ?_
                         · rfl
                         · rfl
                         · first | exact noEnter rfl | (intro f args W W'; go_simp)
                         intro K hK
                         go_big_quiet_op
                         go_big_quiet_on)
                      | (refine wpRel_skip ?_ ?_
                         · rfl
                         simp only [Act.put, List.setIfInBounds_toArray, List.set_cons_zero, List.set_cons_succ]))
                    refine wpRel_nil ?_
                    intro W3 hW3
                    have HE3 := Lib.hid ((Ext.refl u9).drew.trans hW3.1)
                    clear hW3
                    go_wp2_with fail
                    go_ret
                    exact ⟨rfl, HX.out.trans HE3.out⟩
                  · have q2 : (n == n') = false := by simpa using hnn
                    have HNN := Lib.hid hnn
                    clear hnn
                    obtain rfl : ok = false := by have h1 := HDQ.out; rw [q1, q2] at h1; simpa using h1.symm
                    have hbb := HBB.out
                    refine wp_region_rel_all (fun i => if i = 10 then some (spV (.bool true)) else none) (by kernel_rfl) (by kernel_rfl) ?_
                    repeat (first
                      | (refine wpRel_quick ?_ ?_ ?_ ?_
                         · rfl
                         · rfl
                         · first | exact noEnter rfl | (intro f args W W'; go_simp)
                         intro K hK
                         go_big_quiet_op
                         go_big_quiet_on)
                      | (refine wpRel_skip ?_ ?_
                         · rfl
                         simp only [Act.put, List.setIfInBounds_toArray, List.set_cons_zero, List.set_cons_succ]))
                    refine wpRel_rich _ rfl rfl (fun W hW => ?_) (fun v W3 hW3 hv => ?_)
                    · have hc := sm_as (r := ⟨c, n, s, k, t, ch, g, h, y⟩) (s := ⟨c', n', s', k', t', ch', g', h', y'⟩) (w := W) HSQ.out (RepB.ext HR.out ((Ext.refl u9).drew.trans hW.1)) (RepB.ext HR'.out ((Ext.refl u9).drew.trans hW.1))
                      go_simp
                      refine Calls.mono hc ?_
                      rintro e w' ⟨rfl, h⟩
                      exact ⟨_, rfl, rfl, by first | exact h | (subst h; exact Ext.refl _)⟩
                    obtain rfl := hv
                    clear hW3
                    simp only [Act.put, List.setIfInBounds_toArray, List.set_cons_zero, List.set_cons_succ]
                    repeat (first
                      | (refine wpRel_quick ?_ ?_ ?_ ?_
                         · rfl
                         · rfl
                         · first | exact noEnter rfl | (intro f args W W'; go_simp)
                         intro K hK
                         go_big_quiet_op
                         go_big_quiet_on)
                      | (refine wpRel_skip ?_ ?_
                         · rfl
                         simp only [Act.put, List.setIfInBounds_toArray, List.set_cons_zero, List.set_cons_succ]))
                    refine wpRel_nil ?_
                    intro W3 hW3
                    have HE3 := Lib.hid ((Ext.refl u9).drew.trans hW3.1)
                    clear hW3
                    go_wp2_with fail
                    go_ret
                    exact ⟨rfl, HX.out.trans HE3.out⟩
                · have q1 : (c == c') = false := by simpa using hcc
                  have HCC := Lib.hid hcc
                  clear hcc
                  obtain rfl : ok = false := by have h1 := HDQ.out; rw [q1] at h1; simpa using h1.symm
                  have hbb := HBB.out
                  refine wp_region_rel_all (fun i => if i = 10 then some (spV (.bool true)) else none) (by kernel_rfl) (by kernel_rfl) ?_
                  repeat (first
                    | (refine wpRel_quick ?_ ?_ ?_ ?_
                       · rfl
                       · rfl
                       · first | exact noEnter rfl | (intro f args W W'; go_simp)
                       intro K hK
                       go_big_quiet_op
                       go_big_quiet_on)
                    | (refine wpRel_skip ?_ ?_
                       · rfl
                       simp only [Act.put, List.setIfInBounds_toArray, List.set_cons_zero, List.set_cons_succ]))
                  refine wpRel_rich _ rfl rfl (fun W hW => ?_) (fun v W3 hW3 hv => ?_)
                  · have hc := sm_as (r := ⟨c, n, s, k, t, ch, g, h, y⟩) (s := ⟨c', n', s', k', t', ch', g', h', y'⟩) (w := W) HSQ.out (RepB.ext HR.out ((Ext.refl u9).drew.trans hW.1)) (RepB.ext HR'.out ((Ext.refl u9).drew.trans hW.1))
                    go_simp
                    refine Calls.mono hc ?_
                    rintro e w' ⟨rfl, h⟩
                    exact ⟨_, rfl, rfl, by first | exact h | (subst h; exact Ext.refl _)⟩
                  obtain rfl := hv
                  clear hW3
                  simp only [Act.put, List.setIfInBounds_toArray, List.set_cons_zero, List.set_cons_succ]
                  repeat (first
                    | (refine wpRel_quick ?_ ?_ ?_ ?_
                       · rfl
                       · rfl
                       · first | exact noEnter rfl | (intro f args W W'; go_simp)
                       intro K hK
                       go_big_quiet_op
                       go_big_quiet_on)
                    | (refine wpRel_skip ?_ ?_
                       · rfl
                       simp only [Act.put, List.setIfInBounds_toArray, List.set_cons_zero, List.set_cons_succ]))
                  refine wpRel_nil ?_
                  intro W3 hW3
                  have HE3 := Lib.hid ((Ext.refl u9).drew.trans hW3.1)
                  clear hW3
                  go_wp2_with fail
                  go_ret
                  exact ⟨rfl, HX.out.trans HE3.out⟩
              | false =>
                by_cases hcc : c = c'
                · have q1 : (c == c') = true := by simpa using hcc
                  have HCC := Lib.hid hcc
                  clear hcc
                  by_cases hnn : n = n'
                  · have q2 : (n == n') = true := by simpa using hnn
                    have HNN := Lib.hid hnn
                    clear hnn
                    obtain rfl : ok = true := by have h1 := HDQ.out; rw [q1, q2] at h1; simpa using h1.symm
                    have hbb := HBB.out
                    refine wp_region_rel_all (fun i => if i = 10 then some (spV (.bool false)) else none) (by kernel_rfl) (by kernel_rfl) ?_
                    repeat (first
                      | (refine wpRel_quick ?_ ?_ ?_ ?_
                         · rfl
                         · rfl
                         · first | exact noEnter rfl | (intro f args W W'; go_simp)
                         intro K hK
                         go_big_quiet_op
                         go_big_quiet_on)
                      | (refine wpRel_skip ?_ ?_
                         · rfl
                         simp only [Act.put, List.setIfInBounds_toArray, List.set_cons_zero, List.set_cons_succ]))
                    refine wpRel_rich _ rfl rfl (fun W hW => ?_) (fun v W3 hW3 hv => ?_)
                    · have hc := sm_as (r := ⟨c, n, s, k, t, ch, g, h, y⟩) (s := ⟨c', n', s', k', t', ch', g', h', y'⟩) (w := W) HSQ.out (RepB.ext HR.out ((Ext.refl u9).drew.trans hW.1)) (RepB.ext HR'.out ((Ext.refl u9).drew.trans hW.1))
                      go_simp
                      refine Calls.mono hc ?_
                      rintro e w' ⟨rfl, h⟩
                      exact ⟨_, rfl, rfl, by first | exact h | (subst h; exact Ext.refl _)⟩
                    obtain rfl := hv
                    clear hW3
                    simp only [Act.put, List.setIfInBounds_toArray, List.set_cons_zero, List.set_cons_succ]
                    repeat (first
                      | (refine wpRel_quick ?_ ?_ ?_ ?_
                         · rfl
                         · rfl
                         · first | exact noEnter rfl | (intro f args W W'; go_simp)
                         intro K hK
                         go_big_quiet_op
                         go_big_quiet_on)
                      | (refine wpRel_skip ?_ ?_
                         · rfl
                         simp only [Act.put, List.setIfInBounds_toArray, List.set_cons_zero, List.set_cons_succ]))
                    refine wpRel_nil ?_
                    intro W3 hW3
                    have HE3 := Lib.hid ((Ext.refl u9).drew.trans hW3.1)
                    clear hW3
                    go_wp2_with fail
                    go_ret
                    exact ⟨rfl, HX.out.trans HE3.out⟩
                  · have q2 : (n == n') = false := by simpa using hnn
                    have HNN := Lib.hid hnn
                    clear hnn
                    obtain rfl : ok = false := by have h1 := HDQ.out; rw [q1, q2] at h1; simpa using h1.symm
                    have hbb := HBB.out
                    refine wp_region_rel_all (fun i => if i = 10 then some (spV (.bool false)) else none) (by kernel_rfl) (by kernel_rfl) ?_
                    repeat (first
                      | (refine wpRel_quick ?_ ?_ ?_ ?_
                         · rfl
                         · rfl
                         · first | exact noEnter rfl | (intro f args W W'; go_simp)
                         intro K hK
                         go_big_quiet_op
                         go_big_quiet_on)
                      | (refine wpRel_skip ?_ ?_
                         · rfl
                         simp only [Act.put, List.setIfInBounds_toArray, List.set_cons_zero, List.set_cons_succ]))
                    refine wpRel_rich _ rfl rfl (fun W hW => ?_) (fun v W3 hW3 hv => ?_)
                    · have hc := sm_as (r := ⟨c, n, s, k, t, ch, g, h, y⟩) (s := ⟨c', n', s', k', t', ch', g', h', y'⟩) (w := W) HSQ.out (RepB.ext HR.out ((Ext.refl u9).drew.trans hW.1)) (RepB.ext HR'.out ((Ext.refl u9).drew.trans hW.1))
                      go_simp
                      refine Calls.mono hc ?_
                      rintro e w' ⟨rfl, h⟩
                      exact ⟨_, rfl, rfl, by first | exact h | (subst h; exact Ext.refl _)⟩
                    obtain rfl := hv
                    clear hW3
                    simp only [Act.put, List.setIfInBounds_toArray, List.set_cons_zero, List.set_cons_succ]
                    repeat (first
                      | (refine wpRel_quick ?_ ?_ ?_ ?_
                         · rfl
                         · rfl
                         · first | exact noEnter rfl | (intro f args W W'; go_simp)
                         intro K hK
                         go_big_quiet_op
                         go_big_quiet_on)
                      | (refine wpRel_skip ?_ ?_
                         · rfl
                         simp only [Act.put, List.setIfInBounds_toArray, List.set_cons_zero, List.set_cons_succ]))
                    refine wpRel_nil ?_
                    intro W3 hW3
                    have HE3 := Lib.hid ((Ext.refl u9).drew.trans hW3.1)
                    clear hW3
                    go_wp2_with fail
                    go_ret
                    exact ⟨rfl, HX.out.trans HE3.out⟩
                · have q1 : (c == c') = false := by simpa using hcc
                  have HCC := Lib.hid hcc
                  clear hcc
                  obtain rfl : ok = false := by have h1 := HDQ.out; rw [q1] at h1; simpa using h1.symm
                  have hbb := HBB.out
                  refine wp_region_rel_all (fun i => if i = 10 then some (spV (.bool false)) else none) (by kernel_rfl) (by kernel_rfl) ?_
                  repeat (first
                    | (refine wpRel_quick ?_ ?_ ?_ ?_
                       · rfl
                       · rfl
                       · first | exact noEnter rfl | (intro f args W W'; go_simp)
                       intro K hK
                       go_big_quiet_op
                       go_big_quiet_on)
                    | (refine wpRel_skip ?_ ?_
                       · rfl
                       simp only [Act.put, List.setIfInBounds_toArray, List.set_cons_zero, List.set_cons_succ]))
                  refine wpRel_rich _ rfl rfl (fun W hW => ?_) (fun v W3 hW3 hv => ?_)
                  · have hc := sm_as (r := ⟨c, n, s, k, t, ch, g, h, y⟩) (s := ⟨c', n', s', k', t', ch', g', h', y'⟩) (w := W) HSQ.out (RepB.ext HR.out ((Ext.refl u9).drew.trans hW.1)) (RepB.ext HR'.out ((Ext.refl u9).drew.trans hW.1))
                    go_simp
                    refine Calls.mono hc ?_
                    rintro e w' ⟨rfl, h⟩
                    exact ⟨_, rfl, rfl, by first | exact h | (subst h; exact Ext.refl _)⟩
                  obtain rfl := hv
                  clear hW3
                  simp only [Act.put, List.setIfInBounds_toArray, List.set_cons_zero, List.set_cons_succ]
                  repeat (first
                    | (refine wpRel_quick ?_ ?_ ?_ ?_
                       · rfl
                       · rfl
                       · first | exact noEnter rfl | (intro f args W W'; go_simp)
                       intro K hK
                       go_big_quiet_op
                       go_big_quiet_on)
                    | (refine wpRel_skip ?_ ?_
                       · rfl
                       simp only [Act.put, List.setIfInBounds_toArray, List.set_cons_zero, List.set_cons_succ]))
                  refine wpRel_nil ?_
                  intro W3 hW3
                  have HE3 := Lib.hid ((Ext.refl u9).drew.trans hW3.1)
                  clear hW3
                  go_wp2_with fail
                  go_ret
                  exact ⟨rfl, HX.out.trans HE3.out⟩
    · have hf' := decide_eq_false hl'
      clear hl' hf hl
      refine (fw_as (r := ⟨c', n', s', k', t', ch', g', h', y'⟩) hf' HR'.out).mono ?_
      rintro e v3 ⟨rfl, hE⟩
      have HD := Lib.hid (HD.out.ext hE)
      have HR := Lib.hid (HR.out.ext hE)
      have HD' := Lib.hid (HD'.out.ext hE)
      have HR' := Lib.hid (HR'.out.ext hE)
      have HK := Lib.hid (HK.out.ext hE)
      have HX := Lib.hid (HX.out.trans hE)
      clear hE
      go_wp2_with fail
      go_ret
      exact ⟨rfl, HX.out⟩
  · have hf := decide_eq_false hl
    clear hl
    refine (fw_as (r := ⟨c, n, s, k, t, ch, g, h, y⟩) hf HR.out).mono ?_
    rintro e v2 ⟨rfl, hE⟩
    have HD := Lib.hid (HD.out.ext hE)
    have HR := Lib.hid (HR.out.ext hE)
    have HD' := Lib.hid (HD'.out.ext hE)
    have HR' := Lib.hid (HR'.out.ext hE)
    have HK := Lib.hid (HK.out.ext hE)
    have HX := Lib.hid (HX.out.trans hE)
    clear hE
    go_wp2_with fail
    go_ret
    exact ⟨rfl, HX.out⟩
set_option maxRecDepth 100000 in
set_option maxHeartbeats 12800000 in
theorem lawq_done (l : List Oc) (rows : List (List Value)) (ao : Option Addr) (cap : Nat) (o : Oc) (oa : Option Addr) (od : Nat) (cc nn : Int) (w : World) (hL : RepOL w ao cap rows l) (ho : SL w 1 oa od (irows o.nm)) (hk : Kinds w) : Calls Tryd.prog 5 #[.slice ao l.length cap, .agg (o.cells oa od).toArray, .int .i64 cc, .int .i64 nn] w fun e w' => e = .returned (.bool true) ∧ Ext w w' := by
  obtain ⟨oc, on, or, os, ol, oe, nm⟩ := o
  show Calls Tryd.prog 5 #[.slice ao l.length cap, .agg #[.int .i64 oc, .int .i64 on, .int .i64 or, .int .i64 os, .int .i64 ol, .int .i64 oe, .slice oa nm.length od], .int .i64 cc, .int .i64 nn] w _
  have hX : Ext w (w.alloc (.cells #[.int .i64 oc, .int .i64 on, .int .i64 or, .int .i64 os, .int .i64 ol, .int .i64 oe, .slice oa nm.length od] 42)) := (Ext.refl w).alloc _
  have HD : Hid (BoxC (w.alloc (.cells #[.int .i64 oc, .int .i64 on, .int .i64 or, .int .i64 os, .int .i64 ol, .int .i64 oe, .slice oa nm.length od] 42)) w.heap.size ⟨oc, on, or, os, ol, oe, nm⟩ oa od) := Lib.hid (BoxC.new w ⟨oc, on, or, os, ol, oe, nm⟩ oa od 42 _ rfl)
  have HL := Lib.hid (hL.ext hX)
  have HN : Hid (SL (w.alloc (.cells #[.int .i64 oc, .int .i64 on, .int .i64 or, .int .i64 os, .int .i64 ol, .int .i64 oe, .slice oa nm.length od] 42)) 1 oa od (irows nm)) := Lib.hid (SL.ext ho hX)
  have HK := Lib.hid (hk.ext hX)
  have HX := Lib.hid hX
  clear hk hX hL ho
  go_enter Tryd.func5, Tryd.ntmps5
  go_wp2_with fail
  generalize (w.alloc (.cells #[.int .i64 oc, .int .i64 on, .int .i64 or, .int .i64 os, .int .i64 ol, .int .i64 oe, .slice oa nm.length od] 42)) = w0 at *
  refine (saneQ_any _ HK.out).mono ?_
  rintro e v1 ⟨rfl, hE⟩
  have HD := Lib.hid (HD.out.ext hE)
  have HL := Lib.hid (HL.out.ext hE)
  have HN := Lib.hid (HN.out.ext hE)
  have HK := Lib.hid (HK.out.ext hE)
  have HX := Lib.hid (HX.out.trans hE)
  clear hE
  by_cases hl : l.length ≤ 50
  · have hf : ¬ ((50 : Int) < (l.length : Int)) := by omega
    obtain ⟨⟨⟨ocq, onq, orq, osq, olq, oeq, nmq⟩, ok⟩, hq⟩ : ∃ q, doneL l cc nn = q := ⟨_, rfl⟩
    have HQ := Lib.hid hq
    clear hq
    obtain ⟨⟨ll, er⟩, hq⟩ : ∃ q, noteL l ⟨oc, on, or, os, ol, oe, nm⟩ = q := ⟨_, rfl⟩
    have HNQ := Lib.hid hq
    have HB : Hid (l.length ≤ 100000) := Lib.hid (by omega)
    clear hl hq
    go_wp2_with fail
    refine (show Calls Tryd.prog 22 #[.slice ao l.length cap, .int .i64 cc, .int .i64 nn] v1 (fun e w' => ∃ a d, e = .returned (.tuple #[.agg #[.int .i64 ocq, .int .i64 onq, .int .i64 orq, .int .i64 osq, .int .i64 olq, .int .i64 oeq, .slice a nmq.length d], .bool ok]) ∧ SL w' 1 a d (irows nmq) ∧ Ext v1 w') from do_as HQ.out HL.out).mono ?_
    rintro e v2 ⟨a1, d1, rfl, hn, hE⟩
    have HD := Lib.hid (HD.out.ext hE)
    have HL := Lib.hid (HL.out.ext hE)
    have HN := Lib.hid (HN.out.ext hE)
    have HK := Lib.hid (HK.out.ext hE)
    have HX := Lib.hid (HX.out.trans hE)
    have HN1 := Lib.hid hn
    clear hE hn
    have hA : Ext v2 (v2.alloc (.cells #[.int .i64 ocq, .int .i64 onq, .int .i64 orq, .int .i64 osq, .int .i64 olq, .int .i64 oeq, .slice a1 nmq.length d1] 42)) := (Ext.refl _).alloc _
    have hB : BoxC (v2.alloc (.cells #[.int .i64 ocq, .int .i64 onq, .int .i64 orq, .int .i64 osq, .int .i64 olq, .int .i64 oeq, .slice a1 nmq.length d1] 42)) v2.heap.size ⟨ocq, onq, orq, osq, olq, oeq, nmq⟩ a1 d1 := BoxC.new _ ⟨ocq, onq, orq, osq, olq, oeq, nmq⟩ a1 d1 _ _ rfl
    go_wp2_with fail
    generalize (v2.alloc (.cells #[.int .i64 ocq, .int .i64 onq, .int .i64 orq, .int .i64 osq, .int .i64 olq, .int .i64 oeq, .slice a1 nmq.length d1] 42)) = u2 at *
    have HD := Lib.hid (HD.out.ext hA)
    have HL := Lib.hid (HL.out.ext hA)
    have HN := Lib.hid (HN.out.ext hA)
    have HK := Lib.hid (HK.out.ext hA)
    have HN1 := Lib.hid (HN1.out.ext hA)
    have HX := Lib.hid (HX.out.trans hA)
    have HD1 := Lib.hid hB
    clear hA hB
    refine (show Calls Tryd.prog 23 #[.slice ao l.length cap, .int .i64 cc, .int .i64 nn] u2 (fun e w' => ∃ a d, e = .returned (.tuple #[.agg #[.int .i64 ocq, .int .i64 onq, .int .i64 orq, .int .i64 osq, .int .i64 olq, .int .i64 oeq, .slice a nmq.length d], .bool ok]) ∧ SL w' 1 a d (irows nmq) ∧ Ext u2 w') from rdo_as HQ.out HL.out).mono ?_
    rintro e v3 ⟨a2, d2, rfl, hn, hE⟩
    have HD := Lib.hid (HD.out.ext hE)
    have HL := Lib.hid (HL.out.ext hE)
    have HN := Lib.hid (HN.out.ext hE)
    have HK := Lib.hid (HK.out.ext hE)
    have HN1 := Lib.hid (HN1.out.ext hE)
    have HD1 := Lib.hid (HD1.out.ext hE)
    have HX := Lib.hid (HX.out.trans hE)
    have HN2 := Lib.hid hn
    clear hE hn
    have hA : Ext v3 (v3.alloc (.cells #[.int .i64 ocq, .int .i64 onq, .int .i64 orq, .int .i64 osq, .int .i64 olq, .int .i64 oeq, .slice a2 nmq.length d2] 42)) := (Ext.refl _).alloc _
    have hB : BoxC (v3.alloc (.cells #[.int .i64 ocq, .int .i64 onq, .int .i64 orq, .int .i64 osq, .int .i64 olq, .int .i64 oeq, .slice a2 nmq.length d2] 42)) v3.heap.size ⟨ocq, onq, orq, osq, olq, oeq, nmq⟩ a2 d2 := BoxC.new _ ⟨ocq, onq, orq, osq, olq, oeq, nmq⟩ a2 d2 _ _ rfl
    obtain ⟨z0, z1, z2, z3, z4, z5, z6, -⟩ := HD.out.ext hA
    try dsimp only at z0 z1 z2 z3 z4 z5 z6
    go_wp2_with fail
    clear z0 z1 z2 z3 z4 z5 z6
    generalize (v3.alloc (.cells #[.int .i64 ocq, .int .i64 onq, .int .i64 orq, .int .i64 osq, .int .i64 olq, .int .i64 oeq, .slice a2 nmq.length d2] 42)) = u3 at *
    have HD := Lib.hid (HD.out.ext hA)
    have HL := Lib.hid (HL.out.ext hA)
    have HN := Lib.hid (HN.out.ext hA)
    have HK := Lib.hid (HK.out.ext hA)
    have HN1 := Lib.hid (HN1.out.ext hA)
    have HD1 := Lib.hid (HD1.out.ext hA)
    have HN2 := Lib.hid (HN2.out.ext hA)
    have HX := Lib.hid (HX.out.trans hA)
    have HD2 := Lib.hid hB
    clear hA hB
    refine (nt_as (o := ⟨oc, on, or, os, ol, oe, nm⟩) HNQ.out HL.out HB.out HN.out).mono ?_
    rintro e v4 ⟨a3, d3, rows3, rfl, hr, hE⟩
    have HD := Lib.hid (HD.out.ext hE)
    have HL := Lib.hid (HL.out.ext hE)
    have HN := Lib.hid (HN.out.ext hE)
    have HK := Lib.hid (HK.out.ext hE)
    have HN1 := Lib.hid (HN1.out.ext hE)
    have HD1 := Lib.hid (HD1.out.ext hE)
    have HN2 := Lib.hid (HN2.out.ext hE)
    have HD2 := Lib.hid (HD2.out.ext hE)
    have HX := Lib.hid (HX.out.trans hE)
    have HR3 := Lib.hid hr
    clear hE hr
    obtain ⟨z0, z1, z2, z3, z4, z5, z6, -⟩ := HD.out
    try dsimp only at z0 z1 z2 z3 z4 z5 z6
    go_wp2_with fail
    clear z0 z1 z2 z3 z4 z5 z6
    refine (rnt_as (o := ⟨oc, on, or, os, ol, oe, nm⟩) HNQ.out HL.out HB.out HN.out).mono ?_
    rintro e v5 ⟨a4, d4, rows4, rfl, hr, hE⟩
    have HD := Lib.hid (HD.out.ext hE)
    have HL := Lib.hid (HL.out.ext hE)
    have HN := Lib.hid (HN.out.ext hE)
    have HK := Lib.hid (HK.out.ext hE)
    have HN1 := Lib.hid (HN1.out.ext hE)
    have HD1 := Lib.hid (HD1.out.ext hE)
    have HN2 := Lib.hid (HN2.out.ext hE)
    have HD2 := Lib.hid (HD2.out.ext hE)
    have HR3 := Lib.hid (HR3.out.ext hE)
    have HX := Lib.hid (HX.out.trans hE)
    have HR4 := Lib.hid hr
    clear hE hr
    obtain ⟨e0, e1, e2, e3, e4, e5, e6, -⟩ := HD1.out
    try dsimp only at e0 e1 e2 e3 e4 e5 e6
    obtain ⟨f0, f1, f2, f3, f4, f5, f6, -⟩ := HD2.out
    try dsimp only at f0 f1 f2 f3 f4 f5 f6
    go_wp2_with fail
    clear e0 e1 e2 e3 e4 e5 e6 f0 f1 f2 f3 f4 f5 f6
    refine (smc_as (o := ⟨ocq, onq, orq, osq, olq, oeq, nmq⟩) (p := ⟨ocq, onq, orq, osq, olq, oeq, nmq⟩) (decide_eq_true rfl) HN1.out HN2.out).mono ?_
    rintro e v6 ⟨rfl, hE⟩
    have HD := Lib.hid (HD.out.ext hE)
    have HL := Lib.hid (HL.out.ext hE)
    have HN := Lib.hid (HN.out.ext hE)
    have HK := Lib.hid (HK.out.ext hE)
    have HN1 := Lib.hid (HN1.out.ext hE)
    have HD1 := Lib.hid (HD1.out.ext hE)
    have HN2 := Lib.hid (HN2.out.ext hE)
    have HD2 := Lib.hid (HD2.out.ext hE)
    have HR3 := Lib.hid (HR3.out.ext hE)
    have HR4 := Lib.hid (HR4.out.ext hE)
    have HX := Lib.hid (HX.out.trans hE)
    clear hE
    go_wp2_with fail
    refine (sml_as (l := ll) (l' := ll) (decide_eq_true rfl) HR3.out HR4.out).mono ?_
    rintro e v7 ⟨rfl, hE⟩
    have HD := Lib.hid (HD.out.ext hE)
    have HL := Lib.hid (HL.out.ext hE)
    have HN := Lib.hid (HN.out.ext hE)
    have HK := Lib.hid (HK.out.ext hE)
    have HN1 := Lib.hid (HN1.out.ext hE)
    have HD1 := Lib.hid (HD1.out.ext hE)
    have HN2 := Lib.hid (HN2.out.ext hE)
    have HD2 := Lib.hid (HD2.out.ext hE)
    have HR3 := Lib.hid (HR3.out.ext hE)
    have HR4 := Lib.hid (HR4.out.ext hE)
    have HX := Lib.hid (HX.out.trans hE)
    clear hE
    go_wp2_with fail
    go_ret
    exact ⟨by simp, HX.out⟩
  · have hf : (50 : Int) < (l.length : Int) := by omega
    go_wp2_with fail
    go_ret
    exact ⟨rfl, HX.out⟩
end Go.Proofs.YtahaplioegeloaaDoor
