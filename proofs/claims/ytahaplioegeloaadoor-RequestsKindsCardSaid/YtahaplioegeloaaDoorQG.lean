/- Requests: Decode of both sides. -/
import Derived.Test.YtahaplioegeloaaDoorQ13
import Derived.Test.YtahaplioegeloaaDoorQ18
import Derived.Test.YtahaplioegeloaaDoorQE
import Derived.Test.YtahaplioegeloaaDoorQ8
import Derived.Test.YtahaplioegeloaaDoorQB
namespace Go.Proofs.YtahaplioegeloaaDoor
open Go.RowKit Go.Sz
theorem decodeQ_any (bs : List UInt8) (ao : Option Addr) (cap : Nat) (w : World) (hs : SL w 1 ao cap (br bs)) (hl : bs.length ≤ 1000000) (hk : Kinds w) : Calls Tryd.prog 19 #[.slice ao bs.length cap] w (decPost w (decQ bs)) := by
  by_cases he : (decOut bs).2 = 0
  · have hq : decQ bs = fromV (decOut bs).1 := by unfold decQ; rw [if_pos he]
    rw [hq]
    by_cases hv : ((decOut bs).1.k = 3 ∧ (decOut bs).1.l.length = 9 ∧ ((decOut bs).1.l.getD 5 v0).k = 3)
    · exact decodeQ_main bs ao cap w hs hl he hv hk _ rfl (Nat.le_trans (decOut_len he (by rw [hv.2.1]; omega)).1 hl)
    · exact decodeQ_shape bs ao cap w hs hl he hv
  · have hq : decQ bs = (rq0, (decOut bs).2) := by unfold decQ; rw [if_neg he]
    rw [hq]
    exact decodeQ_err bs ao cap w hs hl he
theorem refReq_any (vk vn : Int) (vs : ByteArray) (vl : List V) (ao : Option Addr) (cap : Nat) (w : World) (h : SLV w ao cap vl) (hb : 5 < vl.length → (vl.getD 5 v0).l.length ≤ 1000000 ∧ ∀ x ∈ (vl.getD 5 v0).l, x.l.length ≤ 1000000) : Calls Tryd.prog 42 #[.agg #[.int .i64 vk, .int .i64 vn, .string vs, .slice ao vl.length cap]] w (rqPost w (reqR (.mk vk vn vs vl))) := by
  by_cases hv : vk = 3 ∧ vl.length = 9 ∧ (vl.getD 5 v0).k = 3
  · obtain ⟨rfl, h2, h3⟩ := hv
    obtain ⟨b1, b2⟩ := hb (by omega)
    exact refReq_main vn vs vl ao cap w h ⟨h2, h3⟩ b1 b2 _ rfl
  · rw [reqR_shape (v := .mk vk vn vs vl) hv]
    exact refReq_shape vk vn vs vl ao cap w h hv
set_option maxRecDepth 100000 in
set_option maxHeartbeats 6400000 in
theorem refDecQ_any (bs : List UInt8) (ao : Option Addr) (cap : Nat) (w : World) (hs : SL w 1 ao cap (br bs)) (hl : bs.length ≤ 1000000) : Calls Tryd.prog 20 #[.slice ao bs.length cap] w (decPost w (decQ bs)) := by
  have hX : Ext w (w.alloc (.cells #[.int .i64 0, .int .i64 0, .int .i64 0, .int .i64 0, .int .i64 0, .slice none 0 0, .int .i64 0, .int .i64 0, .int .i64 0] 26)) := (Ext.refl w).alloc _
  have HZ : Hid (CB (w.alloc (.cells #[.int .i64 0, .int .i64 0, .int .i64 0, .int .i64 0, .int .i64 0, .slice none 0 0, .int .i64 0, .int .i64 0, .int .i64 0] 26)) w.heap.size zeroQ) := Lib.hid (cb_new w zeroQ 26)
  have HSZ : Hid ((w.alloc (.cells #[.int .i64 0, .int .i64 0, .int .i64 0, .int .i64 0, .int .i64 0, .slice none 0 0, .int .i64 0, .int .i64 0, .int .i64 0] 26)).heap.size = w.heap.size + 1) := Lib.hid (by simp)
  have HD := Lib.hid (refDecode_any bs ao cap (w.alloc (.cells #[.int .i64 0, .int .i64 0, .int .i64 0, .int .i64 0, .int .i64 0, .slice none 0 0, .int .i64 0, .int .i64 0, .int .i64 0] 26)) (hs.ext hX) hl)
  have HLEN : Hid ((decOut bs).2 = 0 → 5 < (decOut bs).1.l.length → ((decOut bs).1.l.getD 5 v0).l.length ≤ 1000000 ∧ ∀ x ∈ ((decOut bs).1.l.getD 5 v0).l, x.l.length ≤ 1000000) := Lib.hid fun h h5 => ⟨Nat.le_trans (decOut_len h h5).1 hl, fun x hx => Nat.le_trans ((decOut_len h h5).2 x hx) hl⟩
  have HQ : Hid ((decOut bs).2 ≠ 0 → decQ bs = (rq0, (decOut bs).2)) := Lib.hid fun h => by unfold decQ; rw [if_neg h]
  have HQ0 : Hid ((decOut bs).2 = 0 → decQ bs = fromV (decOut bs).1) := Lib.hid fun h => by unfold decQ; rw [if_pos h]
  have HX := Lib.hid hX
  clear hs hl hX
  generalize decQ bs = q at *
  generalize decOut bs = o at *
  obtain ⟨⟨vk, vn, vs, vl⟩, er⟩ := o
  dsimp only at *
  go_enter Tryd.func20, Tryd.ntmps20
  go_wp2_with fail
  generalize (w.alloc (.cells #[.int .i64 0, .int .i64 0, .int .i64 0, .int .i64 0, .int .i64 0, .slice none 0 0, .int .i64 0, .int .i64 0, .int .i64 0] 26)) = w1 at *
  refine HD.out.mono ?_
  rintro e w2 ⟨cs, F, rfl, hR, hE2⟩
  obtain ⟨ao2, cap2, hcs, hsl⟩ := hR.slv
  obtain ⟨cl⟩ := cs
  simp only at hcs
  subst hcs
  have hA : Ext w2 (w2.alloc (.cells #[.int .i64 vk, .int .i64 vn, .string vs, .slice ao2 vl.length cap2] 59)) := (Ext.refl w2).alloc _
  have hb4 := Box.new w2 (.int .i64 vk) (.int .i64 vn) (.string vs) (.slice ao2 vl.length cap2) 59
  have HS3 := Lib.hid (hsl.ext hA)
  have HX3 := Lib.hid ((HX.out.trans hE2).trans hA)
  have HS3Z : Hid (w.heap.size < (w2.alloc (.cells #[.int .i64 vk, .int .i64 vn, .string vs, .slice ao2 vl.length cap2] 59)).heap.size) := Lib.hid (by have h1 := hE2.size; have h2 := HSZ.out; simp; omega)
  have hz3 := HZ.out.ext (by have := HSZ.out; omega) (hE2.trans hA)
  obtain ⟨k0, k1, k2, k3, -⟩ := hb4
  clear hR hsl hA hE2
  have z0 := hz3.at_ 0 _ rfl
  have x0 := hz3.fz 0
  have z1 := hz3.at_ 1 _ rfl
  have x1 := hz3.fz 1
  have z2 := hz3.at_ 2 _ rfl
  have x2 := hz3.fz 2
  have z3 := hz3.at_ 3 _ rfl
  have x3 := hz3.fz 3
  have z4 := hz3.at_ 4 _ rfl
  have x4 := hz3.fz 4
  have z5 := hz3.at_ 5 _ rfl
  have x5 := hz3.fz 5
  have z6 := hz3.at_ 6 _ rfl
  have x6 := hz3.fz 6
  have z7 := hz3.at_ 7 _ rfl
  have x7 := hz3.fz 7
  have z8 := hz3.at_ 8 _ rfl
  have x8 := hz3.fz 8
  have HZ3 := Lib.hid hz3
  clear hz3
  by_cases he : er = 0
  · subst he
    have q1 : ((0 : Int) != 0) = false := rfl
    have HQV := Lib.hid (HQ0.out (by first | rfl | trivial))
    have HL := Lib.hid (HLEN.out (by first | rfl | trivial))
    clear z0 z1 z2 z3 z4 z5 z6 z7 z8 x0 x1 x2 x3 x4 x5 x6 x7 x8
    go_wp2_with fail
    clear k0 k1 k2 k3
    have hcall := refReq_any vk vn vs vl ao2 cap2 (w2.alloc (.cells #[.int .i64 vk, .int .i64 vn, .string vs, .slice ao2 vl.length cap2] 59)) HS3.out HL.out
    generalize (w2.alloc (.cells #[.int .i64 vk, .int .i64 vn, .string vs, .slice ao2 vl.length cap2] 59)) = w3 at *
    refine hcall.mono ?_
    clear hcall
    have HFV := Lib.hid (fromV_R (.mk vk vn vs vl))
    generalize reqR (.mk vk vn vs vl) = rb at *
    obtain ⟨⟨fa, fb, fc, fd, fe, ch, ga, gb, gc⟩, b⟩ := rb
    rintro e w4 ⟨a, d, rfl, hch, hE4, hfar⟩
    unfold Rq.cells
    dsimp only at *
    have hA4 : Ext w4 (w4.alloc (.cells #[.int .i64 fa, .int .i64 fb, .int .i64 fc, .int .i64 fd, .int .i64 fe, .slice a ch.length d, .int .i64 ga, .int .i64 gb, .int .i64 gc] 26)) := (Ext.refl w4).alloc _
    have hb9 := cb_new w4 [.int .i64 fa, .int .i64 fb, .int .i64 fc, .int .i64 fd, .int .i64 fe, .slice a ch.length d, .int .i64 ga, .int .i64 gb, .int .i64 gc] 26
    have hz5 := HZ3.out.ext HS3Z.out (hE4.trans hA4)
    have HX5 := Lib.hid (HX3.out.trans (hE4.trans hA4))
    have HCH := Lib.hid (RepB.ext hch hA4)
    have HFAR := Lib.hid hfar
    clear hfar hch hA4 hE4 q1
    have n0 := hb9.at_ 0 _ rfl
    have m0 := hb9.fz 0
    have n1 := hb9.at_ 1 _ rfl
    have m1 := hb9.fz 1
    have n2 := hb9.at_ 2 _ rfl
    have m2 := hb9.fz 2
    have n3 := hb9.at_ 3 _ rfl
    have m3 := hb9.fz 3
    have n4 := hb9.at_ 4 _ rfl
    have m4 := hb9.fz 4
    have n5 := hb9.at_ 5 _ rfl
    have m5 := hb9.fz 5
    have n6 := hb9.at_ 6 _ rfl
    have m6 := hb9.fz 6
    have n7 := hb9.at_ 7 _ rfl
    have m7 := hb9.fz 7
    have n8 := hb9.at_ 8 _ rfl
    have m8 := hb9.fz 8
    clear hb9 m0 m1 m2 m3 m4 m5 m6 m7 m8
    have z0 := hz5.at_ 0 _ rfl
    have x0 := hz5.fz 0
    have z1 := hz5.at_ 1 _ rfl
    have x1 := hz5.fz 1
    have z2 := hz5.at_ 2 _ rfl
    have x2 := hz5.fz 2
    have z3 := hz5.at_ 3 _ rfl
    have x3 := hz5.fz 3
    have z4 := hz5.at_ 4 _ rfl
    have x4 := hz5.fz 4
    have z5 := hz5.at_ 5 _ rfl
    have x5 := hz5.fz 5
    have z6 := hz5.at_ 6 _ rfl
    have x6 := hz5.fz 6
    have z7 := hz5.at_ 7 _ rfl
    have x7 := hz5.fz 7
    have z8 := hz5.at_ 8 _ rfl
    have x8 := hz5.fz 8
    clear hz5
    cases b with
    | false =>
      have HR := HFV.out
      rw [if_neg (by simp)] at HR
      go_wp2_with fail
      refine bodyPost_ret (v := .tuple #[.agg #[.int .i64 0, .int .i64 0, .int .i64 0, .int .i64 0, .int .i64 0, .slice none 0 0, .int .i64 0, .int .i64 0, .int .i64 0], .int .i64 290]) ?_ rfl ⟨none, 0, by rw [HQV.out, HR]; rfl, by rw [HQV.out, HR]; exact SL.empty _ _, ?_⟩
      · simp [results, Tryd.results20, go_sem, z0, z1, z2, z3, z4, z5, z6, z7, z8]
      · exact ext_set9 (w := w) HX5.out (B := w.heap.size) (Nat.le_refl _) _ _ _ _ _ _ _ _ _
    | true =>
      have HR := HFV.out
      rw [if_pos rfl] at HR
      go_wp2_with fail
      have hF := ext_set9 (w := w) HX5.out (B := w.heap.size) (Nat.le_refl _) (.int .i64 fa) (.int .i64 fb) (.int .i64 fc) (.int .i64 fd) (.int .i64 fe) (.slice a ch.length d) (.int .i64 ga) (.int .i64 gb) (.int .i64 gc)
      refine bodyPost_ret (v := .tuple #[.agg #[.int .i64 fa, .int .i64 fb, .int .i64 fc, .int .i64 fd, .int .i64 fe, .slice a ch.length d, .int .i64 ga, .int .i64 gb, .int .i64 gc], .int .i64 0]) ?_ rfl ⟨a, d, by rw [HQV.out, HR]; rfl, ?_, hF⟩
      · simp [results, Tryd.results20, go_sem, z0, z1, z2, z3, z4, z5, z6, z7, z8]
      · rw [HQV.out, HR]
        exact SL.keep HCH.out fun x hx _ => by
          have hb : x.block ≠ w.heap.size := by have h1 := HFAR.out x hx; have h2 := HS3Z.out; omega
          rw [heap_far hb, heap_far hb, heap_far hb, heap_far hb, heap_far hb, heap_far hb, heap_far hb, heap_far hb, heap_far hb]
  · have q1 : (er != 0) = true := by simpa using he
    have HQV := Lib.hid (HQ.out he)
    go_wp2_with fail
    refine bodyPost_ret (v := .tuple #[.agg #[.int .i64 0, .int .i64 0, .int .i64 0, .int .i64 0, .int .i64 0, .slice none 0 0, .int .i64 0, .int .i64 0, .int .i64 0], .int .i64 er]) ?_ rfl ⟨none, 0, by rw [HQV.out]; rfl, by rw [HQV.out]; exact SL.empty _ _, ?_⟩
    · simp [results, Tryd.results20, go_sem, z0, z1, z2, z3, z4, z5, z6, z7, z8]
    · exact ext_set9 (w := w) HX3.out (B := w.heap.size) (Nat.le_refl _) _ _ _ _ _ _ _ _ _
end Go.Proofs.YtahaplioegeloaaDoor
namespace Go.Sz
open Go.RowKit Go.Proofs.YtahaplioegeloaaDoor
def encO (r : Rq) : List UInt8 × Int := if validQ r = true then ((encV r).enc, 0) else ([], 290)
theorem encO_ok {r : Rq} (h : validQ r = true) : encO r = ((encV r).enc, 0) := by unfold encO; rw [if_pos h]
theorem encO_bad {r : Rq} (h : validQ r = false) : encO r = ([], 290) := by unfold encO; rw [h]; rfl
/-- bytes and an error -/
def RetBy (q : List UInt8 × Int) (w : World) (e : Ending) (w' : World) : Prop := ∃ a d, e = .returned (.tuple #[.slice a q.1.length d, .int .i64 q.2]) ∧ SL w' 1 a d (br q.1) ∧ Ext w w'
abbrev rD : Rq := ⟨0, 1, 0, 2, 10, [], 3, -1, 0⟩
abbrev oD : Oc := ⟨0, 1, 4, 0, 0, 0, []⟩
theorem sq1 : validQ rD = true := by decide
theorem sq2 : checkQ rD = 0 := by decide
theorem sq3 : checkQ rq0 = 290 := by decide
theorem sq4 : checkQ ⟨0, 1, 0, 1, 1, [], 0, 0, 0⟩ = 290 := by decide
theorem sq5 : doneL [] 0 1 = (oc0, false) := by decide
theorem sq6 : noteL [] oD = ([oD], 0) := by decide
theorem sq7 : noteL [oD] ⟨0, 1, 1, 0, 0, 0, []⟩ = ([], 291) := by decide
theorem sq8 : noteL [] oc0 = ([], 290) := by decide
theorem sq9 : doneL [oD] 0 1 = (oD, true) := by decide
theorem sq10 : staleQ 10 75 = true := by decide
theorem sq11 : staleQ 10 74 = false := by decide
theorem sq12 : (decOut []).2 = 10 := decOut_err (fun h => by
  have h1 := (decOut_inv h).2
  have h2 := (decOut_inv h).1
  generalize (decOut []).1 = v at *
  have h3 : 0 < v.enc.length := by
    obtain ⟨k, n, s, l⟩ := v
    rcases V.wf_cases h2 with ⟨rfl, _, _⟩ | ⟨rfl, _, _⟩ | ⟨rfl, _, _, _⟩ <;> simp [V.enc]
  rw [h1] at h3
  simp at h3)
theorem sq13 : decQ [] = (rq0, 10) := by unfold decQ; rw [if_neg (by rw [sq12]; decide), sq12]
theorem sq14 : decide (rD = rD) = true := decide_eq_true rfl
theorem sq15 : decide (oD = oD) = true := decide_eq_true rfl
theorem encV_len1 {r : Rq} (h : validQ r = true) : (encV r).enc.length ≤ 1000000 := by
  obtain ⟨h1, h2, h3⟩ := validQ_in h
  exact Nat.le_trans (encV_len h1 h2 h3) (by omega)
end Go.Sz
namespace Go.Proofs.YtahaplioegeloaaDoor
open Go.RowKit Go.Sz
theorem en_as {r : Rq} {q : List UInt8 × Int} (hq : encO r = q) {ao : Option Addr} {cap : Nat} {w : World} (h : RepB w ao cap r.ch) (hl : r.ch.length ≤ 1000000) (hk : Kinds w) : Calls Tryd.prog 13 #[.agg (r.cells ao cap).toArray] w (RetBy q w) := by
  subst hq
  cases hv : validQ r with
  | true => rw [encO_ok hv]; exact encodeQ_ok r ao cap w h hk hv
  | false =>
    rw [encO_bad hv]
    refine (encodeQ_bad r ao cap w h hl hk hv).mono ?_
    rintro e w' ⟨rfl, hE⟩
    exact ⟨none, 0, rfl, SL.empty _ _, hE⟩
theorem ren_as {r : Rq} {q : List UInt8 × Int} (hq : encO r = q) {ao : Option Addr} {cap : Nat} {w : World} (h : RepB w ao cap r.ch) : Calls Tryd.prog 14 #[.agg (r.cells ao cap).toArray] w (RetBy q w) := by
  subst hq
  cases hv : validQ r with
  | true => rw [encO_ok hv]; exact refEncodeQ_ok r ao cap w h hv
  | false =>
    rw [encO_bad hv]
    refine (refEncodeQ_bad r ao cap w h hv).mono ?_
    rintro e w' ⟨rfl, hE⟩
    exact ⟨none, 0, rfl, SL.empty _ _, hE⟩
theorem ck_as {r : Rq} {q : Int} (hq : checkQ r = q) {ao : Option Addr} {cap : Nat} {w : World} (h : RepB w ao cap r.ch) (hl : r.ch.length ≤ 1000000) (hk : Kinds w) : Calls Tryd.prog 15 #[.agg (r.cells ao cap).toArray] w fun e w' => e = .returned (.int .i64 q) ∧ Ext w w' := hq ▸ checkQ_any r ao cap w h hl hk
theorem rck_as {r : Rq} {q : Int} (hq : checkQ r = q) {ao : Option Addr} {cap : Nat} {w : World} (h : RepB w ao cap r.ch) : Calls Tryd.prog 16 #[.agg (r.cells ao cap).toArray] w fun e w' => e = .returned (.int .i64 q) ∧ Ext w w' := hq ▸ refCheckQ_any r ao cap w h
theorem st_as {r : Rq} {now : Int} {q : Bool} (hq : staleQ r.t now = q) {ao : Option Addr} {cap : Nat} {w : World} (hr : inI64 r.t) : Calls Tryd.prog 17 #[.agg (r.cells ao cap).toArray, .int .i64 now] w fun e w' => e = .returned (.bool q) ∧ Ext w w' := hq ▸ stale_any r ao cap now w hr
theorem rst_as {r : Rq} {now : Int} {q : Bool} (hq : staleQ r.t now = q) {ao : Option Addr} {cap : Nat} {w : World} (hr : inI64 r.t) : Calls Tryd.prog 18 #[.agg (r.cells ao cap).toArray, .int .i64 now] w fun e w' => e = .returned (.bool q) ∧ Ext w w' := hq ▸ refStale_any r ao cap now w hr
theorem fw_as {r : Rq} {q : Bool} (hq : decide (r.ch.length ≤ 20) = q) {ao : Option Addr} {cap : Nat} {w : World} (h : RepB w ao cap r.ch) : Calls Tryd.prog 12 #[.agg (r.cells ao cap).toArray] w fun e w' => e = .returned (.bool q) ∧ Ext w w' := hq ▸ fewQ_any r ao cap w h
theorem sm_as {r s : Rq} {q : Bool} (hq : decide (r = s) = q) {ao ao2 : Option Addr} {cap cap2 : Nat} {w : World} (h : RepB w ao cap r.ch) (h' : RepB w ao2 cap2 s.ch) : Calls Tryd.prog 21 #[.agg (r.cells ao cap).toArray, .agg (s.cells ao2 cap2).toArray] w fun e w' => e = .returned (.bool q) ∧ Ext w w' := hq ▸ sameQ_any r s ao ao2 cap cap2 w h h'
theorem smc_as {o p : Oc} {q : Bool} (hq : decide (o = p) = q) {a a2 : Option Addr} {d d2 : Nat} {w : World} (h : SL w 1 a d (irows o.nm)) (h' : SL w 1 a2 d2 (irows p.nm)) : Calls Tryd.prog 26 #[.agg (o.cells a d).toArray, .agg (p.cells a2 d2).toArray] w fun e w' => e = .returned (.bool q) ∧ Ext w w' := hq ▸ sameC_any o p _ _ w ⟨a, d, rfl, h⟩ ⟨a2, d2, rfl, h'⟩
theorem sml_as {l l' : List Oc} {q : Bool} (hq : decide (l = l') = q) {rows rows' : List (List Value)} {ao ao2 : Option Addr} {cap cap2 : Nat} {w : World} (h : RepOL w ao cap rows l) (h' : RepOL w ao2 cap2 rows' l') : Calls Tryd.prog 27 #[.slice ao l.length cap, .slice ao2 l'.length cap2] w fun e w' => e = .returned (.bool q) ∧ Ext w w' := hq ▸ sameL_any l l' rows rows' ao ao2 cap cap2 w h h'
theorem de_as {bs : List UInt8} {q : Rq × Int} (hq : decQ bs = q) {ao : Option Addr} {cap : Nat} {w : World} (h : SL w 1 ao cap (br bs)) (hl : bs.length ≤ 1000000) (hk : Kinds w) : Calls Tryd.prog 19 #[.slice ao bs.length cap] w (decPost w q) := hq ▸ decodeQ_any bs ao cap w h hl hk
theorem rde_as {bs : List UInt8} {q : Rq × Int} (hq : decQ bs = q) {ao : Option Addr} {cap : Nat} {w : World} (h : SL w 1 ao cap (br bs)) (hl : bs.length ≤ 1000000) : Calls Tryd.prog 20 #[.slice ao bs.length cap] w (decPost w q) := hq ▸ refDecQ_any bs ao cap w h hl
theorem do_as {l : List Oc} {c n : Int} {q : Oc × Bool} (hq : doneL l c n = q) {rows : List (List Value)} {ao : Option Addr} {cap : Nat} {w : World} (h : RepOL w ao cap rows l) : Calls Tryd.prog 22 #[.slice ao l.length cap, .int .i64 c, .int .i64 n] w (fun e w' => ∃ a d, e = .returned (.tuple #[.agg (q.1.cells a d).toArray, .bool q.2]) ∧ SL w' 1 a d (irows q.1.nm) ∧ Ext w w') := by
  subst hq
  refine (done_any l rows c n ao cap w h).mono ?_
  rintro e w' ⟨cs, rfl, ⟨a, d, rfl, hn⟩, hE⟩
  exact ⟨a, d, rfl, hn.ext hE, hE⟩
theorem nt_as {l : List Oc} {o : Oc} {q : List Oc × Int} (hq : noteL l o = q) {rows : List (List Value)} {ao : Option Addr} {cap : Nat} {w : World} (h : RepOL w ao cap rows l) (hb : l.length ≤ 100000) {a : Option Addr} {d : Nat} (hn : SL w 1 a d (irows o.nm)) : Calls Tryd.prog 24 #[.slice ao l.length cap, .agg (o.cells a d).toArray] w (RetNt w q) := hq ▸ note_any l o rows ao cap _ w h hb ⟨a, d, rfl, hn⟩
theorem rdo_as {l : List Oc} {c n : Int} {q : Oc × Bool} (hq : doneL l c n = q) {rows : List (List Value)} {ao : Option Addr} {cap : Nat} {w : World} (h : RepOL w ao cap rows l) : Calls Tryd.prog 23 #[.slice ao l.length cap, .int .i64 c, .int .i64 n] w (fun e w' => ∃ a d, e = .returned (.tuple #[.agg (q.1.cells a d).toArray, .bool q.2]) ∧ SL w' 1 a d (irows q.1.nm) ∧ Ext w w') := by
  subst hq
  refine (refDone_any l rows c n ao cap w h).mono ?_
  rintro e w' ⟨cs, rfl, ⟨a, d, rfl, hn⟩, hE⟩
  exact ⟨a, d, rfl, hn.ext hE, hE⟩
theorem rnt_as {l : List Oc} {o : Oc} {q : List Oc × Int} (hq : noteL l o = q) {rows : List (List Value)} {ao : Option Addr} {cap : Nat} {w : World} (h : RepOL w ao cap rows l) (hb : l.length ≤ 100000) {a : Option Addr} {d : Nat} (hn : SL w 1 a d (irows o.nm)) : Calls Tryd.prog 25 #[.slice ao l.length cap, .agg (o.cells a d).toArray] w (RetNt w q) := hq ▸ refNote_any l o rows ao cap _ w h hb ⟨a, d, rfl, hn⟩
theorem drop_any (n : Int) (w : World) : Calls Tryd.prog 28 #[.int .i64 n] w fun e w' => e = .returned (.agg #[.int .i64 0, .int .i64 n, .int .i64 0, .int .i64 2, .int .i64 10, .slice none 0 0, .int .i64 3, .int .i64 (-1), .int .i64 0]) ∧ Ext w w' := by
  go_enter Tryd.func28, Tryd.ntmps28
  go_wp2_with fail
  refine bodyPost_ret (v := .agg #[.int .i64 0, .int .i64 n, .int .i64 0, .int .i64 2, .int .i64 10, .slice none 0 0, .int .i64 3, .int .i64 (-1), .int .i64 0]) ?_ rfl ⟨rfl, ?_⟩
  · simp [results, Tryd.results28, go_sem]
  · repeat (first | exact Below.refl _ _ | refine Below.alloc ?_ (by simp) _ | refine Below.setCell ?_ (by simp) _)
theorem codec_nil (w : World) : Calls Tryd.prog 29 #[.slice none 0 0] w fun e w' => ∃ k n s a m d, e = .returned (.tuple #[.agg #[.int .i64 k, .int .i64 n, .string s, .slice a m d], .int .i64 10]) ∧ Ext w w' := by
  refine (decode_any [] none 0 w (SL.empty _ _) (by decide)).mono ?_
  rintro e w' ⟨cs, F, rfl, hR, -, hE⟩
  rw [sq12]
  generalize (decOut []).1 = v at *
  obtain ⟨k, n, s, l⟩ := v
  obtain ⟨a, d, hcs, -⟩ := hR.slv
  obtain ⟨cl⟩ := cs
  simp only at hcs
  subst hcs
  exact ⟨k, n, s, a, _, d, rfl, hE⟩
set_option maxRecDepth 100000 in
theorem grow_str {bs : List UInt8} {ao : Option Addr} {cap : Nat} {w : World} (h : SL w 1 ao cap (br bs)) : ∀ X, (convert 29 9 (.slice ao bs.length cap)).run Tryd.prog (w.drew.grow X) = .ok (.string ⟨bs.toArray⟩) (w.drew.grow X) := fun X => (h.ext ((Ext.refl w).drew.trans (ext_grow _ X))).toStr (P := Tryd.prog) (bs := bs) 29 9 5 Tryd.underlying29 Tryd.underlying5 Tryd.underlying9
set_option maxRecDepth 100000 in
theorem str_at {bs : List UInt8} {ao : Option Addr} {cap : Nat} {w : World} (h : SL w 1 ao cap (br bs)) : (convert 29 9 (.slice ao bs.length cap)).run Tryd.prog w = .ok (.string ⟨bs.toArray⟩) w := h.toStr (P := Tryd.prog) (bs := bs) 29 9 5 Tryd.underlying29 Tryd.underlying5 Tryd.underlying9
end Go.Proofs.YtahaplioegeloaaDoor
namespace Go.Proofs.YtahaplioegeloaaDoor
open Go.RowKit Go.Sz
set_option maxRecDepth 100000 in
set_option maxHeartbeats 25600000 in
theorem saneQ_any (w : World) (hk : Kinds w) : Calls Tryd.prog 11 #[] w fun e w' => e = .returned (.bool true) ∧ Ext w w' := by
  have HK := Lib.hid hk
  have HX := Lib.hid (Ext.refl w)
  clear hk
  obtain ⟨bs, hbs⟩ : ∃ bs, (encV rD).enc = bs := ⟨_, rfl⟩
  have HEN : Hid (encO rD = (bs, 0)) := Lib.hid (by rw [encO_ok sq1, hbs])
  have HDE : Hid (decQ bs = (rD, 0)) := Lib.hid (by rw [← hbs]; exact decQ_encV sq1)
  have HBL : Hid (bs.length ≤ 1000000) := Lib.hid (by rw [← hbs]; exact encV_len1 sq1)
  clear hbs
  go_enter Tryd.func11, Tryd.ntmps11
  go_wp2_with fail
  refine (drop_any 1 _).mono ?_
  rintro e v1 ⟨rfl, hE⟩
  have HK := Lib.hid (HK.out.ext hE)
  have HX := Lib.hid (HX.out.trans hE)
  clear hE
  have hA : Ext v1 (v1.alloc (.cells #[.int .i64 0, .int .i64 1, .int .i64 0, .int .i64 2, .int .i64 10, .slice none 0 0, .int .i64 3, .int .i64 (-1), .int .i64 0] 26)) := (Ext.refl _).alloc _
  have hB : BoxQ (v1.alloc (.cells #[.int .i64 0, .int .i64 1, .int .i64 0, .int .i64 2, .int .i64 10, .slice none 0 0, .int .i64 3, .int .i64 (-1), .int .i64 0] 26)) v1.heap.size rD none 0 := BoxQ.new _ rD none 0 _ _ rfl
  go_wp2_with fail
  generalize (v1.alloc (.cells #[.int .i64 0, .int .i64 1, .int .i64 0, .int .i64 2, .int .i64 10, .slice none 0 0, .int .i64 3, .int .i64 (-1), .int .i64 0] 26)) = u1 at *
  have HK := Lib.hid (HK.out.ext hA)
  have HX := Lib.hid (HX.out.trans hA)
  have HD := Lib.hid hB
  clear hA hB
  refine (show Calls Tryd.prog 13 #[.agg #[.int .i64 0, .int .i64 1, .int .i64 0, .int .i64 2, .int .i64 10, .slice none 0 0, .int .i64 3, .int .i64 (-1), .int .i64 0]] u1 (RetBy (bs, 0) u1) from en_as HEN.out (SL.empty _ _) (by decide) HK.out).mono ?_
  rintro e v2 ⟨a2, c2, rfl, hS, hE⟩
  have HK := Lib.hid (HK.out.ext hE)
  have HD := Lib.hid (HD.out.ext hE)
  have HX := Lib.hid (HX.out.trans hE)
  have HS := Lib.hid hS
  clear hE hS
  go_wp2_with fail
  refine (show Calls Tryd.prog 19 #[.slice a2 bs.length c2] v2 (fun e w' => ∃ a d, e = .returned (.tuple #[.agg #[.int .i64 0, .int .i64 1, .int .i64 0, .int .i64 2, .int .i64 10, .slice a 0 d, .int .i64 3, .int .i64 (-1), .int .i64 0], .int .i64 0]) ∧ RepB w' a d rD.ch ∧ Ext v2 w') from de_as HDE.out HS.out HBL.out HK.out).mono ?_
  rintro e v3 ⟨a3, d3, rfl, hR, hE⟩
  have HK := Lib.hid (HK.out.ext hE)
  have HD := Lib.hid (HD.out.ext hE)
  have HS := Lib.hid (HS.out.ext hE)
  have HX := Lib.hid (HX.out.trans hE)
  have HR3 := Lib.hid hR
  clear hE hR
  clear HS
  have hA : Ext v3 (v3.alloc (.cells #[.int .i64 0, .int .i64 1, .int .i64 0, .int .i64 2, .int .i64 10, .slice a3 0 d3, .int .i64 3, .int .i64 (-1), .int .i64 0] 26)) := (Ext.refl _).alloc _
  have hB : BoxQ (v3.alloc (.cells #[.int .i64 0, .int .i64 1, .int .i64 0, .int .i64 2, .int .i64 10, .slice a3 0 d3, .int .i64 3, .int .i64 (-1), .int .i64 0] 26)) v3.heap.size rD a3 d3 := BoxQ.new _ rD a3 d3 _ _ rfl
  go_wp2_with fail
  generalize (v3.alloc (.cells #[.int .i64 0, .int .i64 1, .int .i64 0, .int .i64 2, .int .i64 10, .slice a3 0 d3, .int .i64 3, .int .i64 (-1), .int .i64 0] 26)) = u3 at *
  have HK := Lib.hid (HK.out.ext hA)
  have HD := Lib.hid (HD.out.ext hA)
  have HR3 := Lib.hid (HR3.out.ext hA)
  have HX := Lib.hid (HX.out.trans hA)
  have HD3 := Lib.hid hB
  clear hA hB
  refine (show Calls Tryd.prog 19 #[.slice none 0 0] u3 (fun e w' => ∃ a d, e = .returned (.tuple #[.agg #[.int .i64 0, .int .i64 0, .int .i64 0, .int .i64 0, .int .i64 0, .slice a 0 d, .int .i64 0, .int .i64 0, .int .i64 0], .int .i64 10]) ∧ RepB w' a d rq0.ch ∧ Ext u3 w') from de_as (bs := []) sq13 (SL.empty _ _) (by decide) HK.out).mono ?_
  rintro e v4 ⟨a4, d4, rfl, hR, hE⟩
  have HK := Lib.hid (HK.out.ext hE)
  have HD := Lib.hid (HD.out.ext hE)
  have HR3 := Lib.hid (HR3.out.ext hE)
  have HD3 := Lib.hid (HD3.out.ext hE)
  have HX := Lib.hid (HX.out.trans hE)
  clear hE
  clear hR
  have hA : Ext v4 (v4.alloc (.cells #[.int .i64 0, .int .i64 0, .int .i64 0, .int .i64 0, .int .i64 0, .slice a4 0 d4, .int .i64 0, .int .i64 0, .int .i64 0] 26)) := (Ext.refl _).alloc _
  go_wp2_with fail
  generalize (v4.alloc (.cells #[.int .i64 0, .int .i64 0, .int .i64 0, .int .i64 0, .int .i64 0, .slice a4 0 d4, .int .i64 0, .int .i64 0, .int .i64 0] 26)) = u4 at *
  have HK := Lib.hid (HK.out.ext hA)
  have HD := Lib.hid (HD.out.ext hA)
  have HR3 := Lib.hid (HR3.out.ext hA)
  have HD3 := Lib.hid (HD3.out.ext hA)
  have HX := Lib.hid (HX.out.trans hA)
  clear hA
  refine (codec_nil _).mono ?_
  rintro e v5 ⟨k5, n5, s5, a5, m5, d5, rfl, hE⟩
  have HK := Lib.hid (HK.out.ext hE)
  have HD := Lib.hid (HD.out.ext hE)
  have HR3 := Lib.hid (HR3.out.ext hE)
  have HD3 := Lib.hid (HD3.out.ext hE)
  have HX := Lib.hid (HX.out.trans hE)
  clear hE
  have hA : Ext v5 (v5.alloc (.cells #[.int .i64 k5, .int .i64 n5, .string s5, .slice a5 m5 d5] 59)) := (Ext.refl _).alloc _
  go_wp2_with fail
  generalize (v5.alloc (.cells #[.int .i64 k5, .int .i64 n5, .string s5, .slice a5 m5 d5] 59)) = u5 at *
  have HK := Lib.hid (HK.out.ext hA)
  have HD := Lib.hid (HD.out.ext hA)
  have HR3 := Lib.hid (HR3.out.ext hA)
  have HD3 := Lib.hid (HD3.out.ext hA)
  have HX := Lib.hid (HX.out.trans hA)
  clear hA
  refine (show Calls Tryd.prog 22 #[.slice none 0 0, .int .i64 0, .int .i64 1] u5 (fun e w' => ∃ a d, e = .returned (.tuple #[.agg #[.int .i64 0, .int .i64 0, .int .i64 0, .int .i64 0, .int .i64 0, .int .i64 0, .slice a 0 d], .bool false]) ∧ SL w' 1 a d (irows []) ∧ Ext u5 w') from do_as (l := []) sq5 (RepOL.nil _)).mono ?_
  rintro e v6 ⟨a6, d6, rfl, -, hE⟩
  have HK := Lib.hid (HK.out.ext hE)
  have HD := Lib.hid (HD.out.ext hE)
  have HR3 := Lib.hid (HR3.out.ext hE)
  have HD3 := Lib.hid (HD3.out.ext hE)
  have HX := Lib.hid (HX.out.trans hE)
  clear hE
  have hA : Ext v6 ((v6.alloc (.cells #[.int .i64 0, .int .i64 0, .int .i64 0, .int .i64 0, .int .i64 0, .int .i64 0, .slice a6 0 d6] 42)).alloc (.cells #[.int .i64 0, .int .i64 1, .int .i64 4, .int .i64 0, .int .i64 0, .int .i64 0, .slice none 0 0] 42)) := ((Ext.refl _).alloc _).alloc _
  have hB : BoxC ((v6.alloc (.cells #[.int .i64 0, .int .i64 0, .int .i64 0, .int .i64 0, .int .i64 0, .int .i64 0, .slice a6 0 d6] 42)).alloc (.cells #[.int .i64 0, .int .i64 1, .int .i64 4, .int .i64 0, .int .i64 0, .int .i64 0, .slice none 0 0] 42)) ((v6.alloc (.cells #[.int .i64 0, .int .i64 0, .int .i64 0, .int .i64 0, .int .i64 0, .int .i64 0, .slice a6 0 d6] 42)).heap.size) oD none 0 := BoxC.new (v6.alloc (.cells #[.int .i64 0, .int .i64 0, .int .i64 0, .int .i64 0, .int .i64 0, .int .i64 0, .slice a6 0 d6] 42)) oD none 0 _ _ rfl
  rw [show (v6.alloc (.cells #[.int .i64 0, .int .i64 0, .int .i64 0, .int .i64 0, .int .i64 0, .int .i64 0, .slice a6 0 d6] 42)).heap.size = v6.heap.size + 1 by simp] at hB
  go_wp2_with fail
  generalize ((v6.alloc (.cells #[.int .i64 0, .int .i64 0, .int .i64 0, .int .i64 0, .int .i64 0, .int .i64 0, .slice a6 0 d6] 42)).alloc (.cells #[.int .i64 0, .int .i64 1, .int .i64 4, .int .i64 0, .int .i64 0, .int .i64 0, .slice none 0 0] 42)) = u6 at *
  have HK := Lib.hid (HK.out.ext hA)
  have HD := Lib.hid (HD.out.ext hA)
  have HR3 := Lib.hid (HR3.out.ext hA)
  have HD3 := Lib.hid (HD3.out.ext hA)
  have HX := Lib.hid (HX.out.trans hA)
  have HO := Lib.hid hB
  clear hA hB
  refine (show Calls Tryd.prog 24 #[.slice none 0 0, .agg #[.int .i64 0, .int .i64 1, .int .i64 4, .int .i64 0, .int .i64 0, .int .i64 0, .slice none 0 0]] u6 (RetNt u6 ([oD], 0)) from nt_as (l := []) (o := oD) sq6 (RepOL.nil _) (by decide) (SL.empty _ _)).mono ?_
  rintro e v7 ⟨a7, d7, rows7, rfl, hL, hE⟩
  have HK := Lib.hid (HK.out.ext hE)
  have HD := Lib.hid (HD.out.ext hE)
  have HR3 := Lib.hid (HR3.out.ext hE)
  have HD3 := Lib.hid (HD3.out.ext hE)
  have HO := Lib.hid (HO.out.ext hE)
  have HX := Lib.hid (HX.out.trans hE)
  have HL := Lib.hid hL
  clear hE hL
  go_wp2_with fail
  refine (show Calls Tryd.prog 24 #[.slice a7 1 d7, .agg #[.int .i64 0, .int .i64 1, .int .i64 1, .int .i64 0, .int .i64 0, .int .i64 0, .slice none 0 0]] v7 (RetNt v7 ([], 291)) from nt_as (l := [oD]) (o := ⟨0, 1, 1, 0, 0, 0, []⟩) sq7 HL.out (by decide) (SL.empty _ _)).mono ?_
  rintro e v8 ⟨a8, d8, rows8, rfl, -, hE⟩
  have HK := Lib.hid (HK.out.ext hE)
  have HD := Lib.hid (HD.out.ext hE)
  have HR3 := Lib.hid (HR3.out.ext hE)
  have HD3 := Lib.hid (HD3.out.ext hE)
  have HO := Lib.hid (HO.out.ext hE)
  have HL := Lib.hid (HL.out.ext hE)
  have HX := Lib.hid (HX.out.trans hE)
  clear hE
  go_wp2_with fail
  refine (show Calls Tryd.prog 24 #[.slice none 0 0, .agg #[.int .i64 0, .int .i64 0, .int .i64 0, .int .i64 0, .int .i64 0, .int .i64 0, .slice none 0 0]] v8 (RetNt v8 ([], 290)) from nt_as (l := []) (o := oc0) sq8 (RepOL.nil _) (by decide) (SL.empty _ _)).mono ?_
  rintro e v9 ⟨a9, d9, rows9, rfl, -, hE⟩
  have HK := Lib.hid (HK.out.ext hE)
  have HD := Lib.hid (HD.out.ext hE)
  have HR3 := Lib.hid (HR3.out.ext hE)
  have HD3 := Lib.hid (HD3.out.ext hE)
  have HO := Lib.hid (HO.out.ext hE)
  have HL := Lib.hid (HL.out.ext hE)
  have HX := Lib.hid (HX.out.trans hE)
  clear hE
  go_wp2_with fail
  refine (show Calls Tryd.prog 22 #[.slice a7 1 d7, .int .i64 0, .int .i64 1] v9 (fun e w' => ∃ a d, e = .returned (.tuple #[.agg #[.int .i64 0, .int .i64 1, .int .i64 4, .int .i64 0, .int .i64 0, .int .i64 0, .slice a 0 d], .bool true]) ∧ SL w' 1 a d (irows []) ∧ Ext v9 w') from do_as (l := [oD]) sq9 HL.out).mono ?_
  rintro e v10 ⟨a10, d10, rfl, hn, hE⟩
  have HK := Lib.hid (HK.out.ext hE)
  have HD := Lib.hid (HD.out.ext hE)
  have HR3 := Lib.hid (HR3.out.ext hE)
  have HD3 := Lib.hid (HD3.out.ext hE)
  have HO := Lib.hid (HO.out.ext hE)
  have HL := Lib.hid (HL.out.ext hE)
  have HX := Lib.hid (HX.out.trans hE)
  have HN := Lib.hid hn
  clear hE hn
  have hA : Ext v10 (v10.alloc (.cells #[.int .i64 0, .int .i64 1, .int .i64 4, .int .i64 0, .int .i64 0, .int .i64 0, .slice a10 0 d10] 42)) := (Ext.refl _).alloc _
  have hB : BoxC (v10.alloc (.cells #[.int .i64 0, .int .i64 1, .int .i64 4, .int .i64 0, .int .i64 0, .int .i64 0, .slice a10 0 d10] 42)) v10.heap.size oD a10 d10 := BoxC.new _ oD a10 d10 _ _ rfl
  obtain ⟨t0, t1, t2, t3, t4, t5, t6, t7, t8, -⟩ := HD.out.ext hA
  try dsimp only at t0 t1 t2 t3 t4 t5 t6 t7 t8
  go_wp2_with fail
  clear t0 t1 t2 t3 t4 t5 t6 t7 t8
  generalize (v10.alloc (.cells #[.int .i64 0, .int .i64 1, .int .i64 4, .int .i64 0, .int .i64 0, .int .i64 0, .slice a10 0 d10] 42)) = u10 at *
  have HK := Lib.hid (HK.out.ext hA)
  have HD := Lib.hid (HD.out.ext hA)
  have HR3 := Lib.hid (HR3.out.ext hA)
  have HD3 := Lib.hid (HD3.out.ext hA)
  have HO := Lib.hid (HO.out.ext hA)
  have HL := Lib.hid (HL.out.ext hA)
  have HN := Lib.hid (HN.out.ext hA)
  have HX := Lib.hid (HX.out.trans hA)
  have HG := Lib.hid hB
  clear hA hB
  refine (show Calls Tryd.prog 15 #[.agg #[.int .i64 0, .int .i64 1, .int .i64 0, .int .i64 2, .int .i64 10, .slice none 0 0, .int .i64 3, .int .i64 (-1), .int .i64 0]] u10 (fun e w' => e = .returned (.int .i64 0) ∧ Ext u10 w') from ck_as (r := rD) sq2 (SL.empty _ _) (by decide) HK.out).mono ?_
  rintro e v11 ⟨rfl, hE⟩
  have HK := Lib.hid (HK.out.ext hE)
  have HD := Lib.hid (HD.out.ext hE)
  have HR3 := Lib.hid (HR3.out.ext hE)
  have HD3 := Lib.hid (HD3.out.ext hE)
  have HO := Lib.hid (HO.out.ext hE)
  have HL := Lib.hid (HL.out.ext hE)
  have HN := Lib.hid (HN.out.ext hE)
  have HG := Lib.hid (HG.out.ext hE)
  have HX := Lib.hid (HX.out.trans hE)
  clear hE
  go_wp2_with fail
  refine (show Calls Tryd.prog 15 #[.agg #[.int .i64 0, .int .i64 0, .int .i64 0, .int .i64 0, .int .i64 0, .slice none 0 0, .int .i64 0, .int .i64 0, .int .i64 0]] v11 (fun e w' => e = .returned (.int .i64 290) ∧ Ext v11 w') from ck_as (r := rq0) sq3 (SL.empty _ _) (by decide) HK.out).mono ?_
  rintro e v12 ⟨rfl, hE⟩
  have HK := Lib.hid (HK.out.ext hE)
  have HD := Lib.hid (HD.out.ext hE)
  have HR3 := Lib.hid (HR3.out.ext hE)
  have HD3 := Lib.hid (HD3.out.ext hE)
  have HO := Lib.hid (HO.out.ext hE)
  have HL := Lib.hid (HL.out.ext hE)
  have HN := Lib.hid (HN.out.ext hE)
  have HG := Lib.hid (HG.out.ext hE)
  have HX := Lib.hid (HX.out.trans hE)
  clear hE
  go_wp2_with fail
  refine (show Calls Tryd.prog 15 #[.agg #[.int .i64 0, .int .i64 1, .int .i64 0, .int .i64 1, .int .i64 1, .slice none 0 0, .int .i64 0, .int .i64 0, .int .i64 0]] v12 (fun e w' => e = .returned (.int .i64 290) ∧ Ext v12 w') from ck_as (r := ⟨0, 1, 0, 1, 1, [], 0, 0, 0⟩) sq4 (SL.empty _ _) (by decide) HK.out).mono ?_
  rintro e v13 ⟨rfl, hE⟩
  have HK := Lib.hid (HK.out.ext hE)
  have HD := Lib.hid (HD.out.ext hE)
  have HR3 := Lib.hid (HR3.out.ext hE)
  have HD3 := Lib.hid (HD3.out.ext hE)
  have HO := Lib.hid (HO.out.ext hE)
  have HL := Lib.hid (HL.out.ext hE)
  have HN := Lib.hid (HN.out.ext hE)
  have HG := Lib.hid (HG.out.ext hE)
  have HX := Lib.hid (HX.out.trans hE)
  clear hE
  obtain ⟨t0, t1, t2, t3, t4, t5, t6, t7, t8, -⟩ := HD.out
  try dsimp only at t0 t1 t2 t3 t4 t5 t6 t7 t8
  obtain ⟨u0, u1, u2, u3, u4, u5, u6, u7, u8, -⟩ := HD3.out
  try dsimp only at u0 u1 u2 u3 u4 u5 u6 u7 u8
  go_wp2_with fail
  clear t0 t1 t2 t3 t4 t5 t6 t7 t8 u0 u1 u2 u3 u4 u5 u6 u7 u8
  refine (show Calls Tryd.prog 21 #[.agg #[.int .i64 0, .int .i64 1, .int .i64 0, .int .i64 2, .int .i64 10, .slice none 0 0, .int .i64 3, .int .i64 (-1), .int .i64 0], .agg #[.int .i64 0, .int .i64 1, .int .i64 0, .int .i64 2, .int .i64 10, .slice a3 0 d3, .int .i64 3, .int .i64 (-1), .int .i64 0]] v13 (fun e w' => e = .returned (.bool true) ∧ Ext v13 w') from sm_as (r := rD) (s := rD) sq14 (SL.empty _ _) HR3.out).mono ?_
  rintro e v14 ⟨rfl, hE⟩
  have HK := Lib.hid (HK.out.ext hE)
  have HD := Lib.hid (HD.out.ext hE)
  have HR3 := Lib.hid (HR3.out.ext hE)
  have HD3 := Lib.hid (HD3.out.ext hE)
  have HO := Lib.hid (HO.out.ext hE)
  have HL := Lib.hid (HL.out.ext hE)
  have HN := Lib.hid (HN.out.ext hE)
  have HG := Lib.hid (HG.out.ext hE)
  have HX := Lib.hid (HX.out.trans hE)
  clear hE
  obtain ⟨t0, t1, t2, t3, t4, t5, t6, -⟩ := HG.out
  try dsimp only at t0 t1 t2 t3 t4 t5 t6
  obtain ⟨u0, u1, u2, u3, u4, u5, u6, -⟩ := HO.out
  try dsimp only at u0 u1 u2 u3 u4 u5 u6
  go_wp2_with fail
  clear t0 t1 t2 t3 t4 t5 t6 u0 u1 u2 u3 u4 u5 u6
  refine (show Calls Tryd.prog 26 #[.agg #[.int .i64 0, .int .i64 1, .int .i64 4, .int .i64 0, .int .i64 0, .int .i64 0, .slice a10 0 d10], .agg #[.int .i64 0, .int .i64 1, .int .i64 4, .int .i64 0, .int .i64 0, .int .i64 0, .slice none 0 0]] v14 (fun e w' => e = .returned (.bool true) ∧ Ext v14 w') from smc_as (o := oD) (p := oD) sq15 HN.out (SL.empty _ _)).mono ?_
  rintro e v15 ⟨rfl, hE⟩
  have HK := Lib.hid (HK.out.ext hE)
  have HD := Lib.hid (HD.out.ext hE)
  have HR3 := Lib.hid (HR3.out.ext hE)
  have HD3 := Lib.hid (HD3.out.ext hE)
  have HO := Lib.hid (HO.out.ext hE)
  have HL := Lib.hid (HL.out.ext hE)
  have HN := Lib.hid (HN.out.ext hE)
  have HG := Lib.hid (HG.out.ext hE)
  have HX := Lib.hid (HX.out.trans hE)
  clear hE
  obtain ⟨t0, t1, t2, t3, t4, t5, t6, t7, t8, -⟩ := HD.out
  try dsimp only at t0 t1 t2 t3 t4 t5 t6 t7 t8
  go_wp2_with fail
  clear t0 t1 t2 t3 t4 t5 t6 t7 t8
  refine (show Calls Tryd.prog 17 #[.agg #[.int .i64 0, .int .i64 1, .int .i64 0, .int .i64 2, .int .i64 10, .slice none 0 0, .int .i64 3, .int .i64 (-1), .int .i64 0], .int .i64 75] v15 (fun e w' => e = .returned (.bool true) ∧ Ext v15 w') from st_as (r := rD) sq10 (show inI64 10 from ⟨by omega, by omega⟩)).mono ?_
  rintro e v16 ⟨rfl, hE⟩
  have HK := Lib.hid (HK.out.ext hE)
  have HD := Lib.hid (HD.out.ext hE)
  have HR3 := Lib.hid (HR3.out.ext hE)
  have HD3 := Lib.hid (HD3.out.ext hE)
  have HO := Lib.hid (HO.out.ext hE)
  have HL := Lib.hid (HL.out.ext hE)
  have HN := Lib.hid (HN.out.ext hE)
  have HG := Lib.hid (HG.out.ext hE)
  have HX := Lib.hid (HX.out.trans hE)
  clear hE
  obtain ⟨t0, t1, t2, t3, t4, t5, t6, t7, t8, -⟩ := HD.out
  try dsimp only at t0 t1 t2 t3 t4 t5 t6 t7 t8
  go_wp2_with fail
  clear t0 t1 t2 t3 t4 t5 t6 t7 t8
  refine (show Calls Tryd.prog 17 #[.agg #[.int .i64 0, .int .i64 1, .int .i64 0, .int .i64 2, .int .i64 10, .slice none 0 0, .int .i64 3, .int .i64 (-1), .int .i64 0], .int .i64 74] v16 (fun e w' => e = .returned (.bool false) ∧ Ext v16 w') from st_as (r := rD) sq11 (show inI64 10 from ⟨by omega, by omega⟩)).mono ?_
  rintro e v17 ⟨rfl, hE⟩
  have HK := Lib.hid (HK.out.ext hE)
  have HD := Lib.hid (HD.out.ext hE)
  have HR3 := Lib.hid (HR3.out.ext hE)
  have HD3 := Lib.hid (HD3.out.ext hE)
  have HO := Lib.hid (HO.out.ext hE)
  have HL := Lib.hid (HL.out.ext hE)
  have HN := Lib.hid (HN.out.ext hE)
  have HG := Lib.hid (HG.out.ext hE)
  have HX := Lib.hid (HX.out.trans hE)
  clear hE
  go_wp2_with fail
  go_ret
  exact ⟨rfl, HX.out⟩
end Go.Proofs.YtahaplioegeloaaDoor
