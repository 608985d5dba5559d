/- Offers: the law Once. -/
import Derived.Test.YtbnaoefmjmlfbaaOQ
namespace Go.Proofs.Ytbnaoefmjmlfbaa
open Go.RowKit Go.Sz
set_option maxRecDepth 100000 in
set_option maxHeartbeats 12800000 in
theorem law_once (l : List Off) (x : Off) (now : Int) (ao : Option Addr) (cap : Nat) (w : World) (h : RepO w ao cap l) : Calls Try.prog 6 #[.slice ao l.length cap, .agg x.enc.toArray, .int .i64 now] w fun e w' => e = .returned (.bool true) ∧ Ext w w' := by
  have hX0 : Ext w (w.alloc (.cells x.enc.toArray 26)) := (Ext.refl w).alloc _
  have d0 : (w.alloc (.cells x.enc.toArray 26)).cell? ⟨w.heap.size, 0, none⟩ = some (.int .i64 x.s) := by simp [Off.enc]
  have d1 : (w.alloc (.cells x.enc.toArray 26)).cell? ⟨w.heap.size, 1, none⟩ = some (.int .i64 x.a) := by simp [Off.enc]
  have d2 : (w.alloc (.cells x.enc.toArray 26)).cell? ⟨w.heap.size, 2, none⟩ = some (.int .i64 x.b) := by simp [Off.enc]
  have d3 : (w.alloc (.cells x.enc.toArray 26)).cell? ⟨w.heap.size, 3, none⟩ = some (.int .i64 x.u) := by simp [Off.enc]
  have HD : Hid (∀ W, Ext (w.alloc (.cells x.enc.toArray 26)) W → W.cell? ⟨w.heap.size, 0, none⟩ = some (.int .i64 x.s) ∧ W.cell? ⟨w.heap.size, 1, none⟩ = some (.int .i64 x.a) ∧ W.cell? ⟨w.heap.size, 2, none⟩ = some (.int .i64 x.b) ∧ W.cell? ⟨w.heap.size, 3, none⟩ = some (.int .i64 x.u)) := Lib.hid fun W hE => ⟨hE.cell d0, hE.cell d1, hE.cell d2, hE.cell d3⟩
  have HX0 := Lib.hid hX0
  have HR := Lib.hid (h.ext hX0)
  have HX := Lib.hid (Ext.refl (w.alloc (.cells x.enc.toArray 26)))
  clear hX0 d0 d1 d2 d3 h
  go_enter Try.func6, Try.ntmps6
  go_wp2_with fail
  generalize (w.alloc (.cells x.enc.toArray 26)) = w0 at *
  refine (sane_any _).mono ?_
  rintro e v1 ⟨rfl, hE1⟩
  have HR := Lib.hid (HR.out.ext hE1)
  have HX := Lib.hid (HX.out.trans hE1)
  clear hE1
  go_wp2_with fail
  by_cases hl : l.length ≤ 40
  · have hb : l.length ≤ 100000 := by omega
    have hf := decide_eq_true hl
    have HF := Lib.hid hl
    have HB := Lib.hid hb
    clear hb hl
    refine (fw_as hf HR.out).mono ?_
    rintro e v2 ⟨rfl, hE2⟩
    have HR := Lib.hid (HR.out.ext hE2)
    have HX := Lib.hid (HX.out.trans hE2)
    clear hE2
    obtain ⟨d0, d1, d2, d3⟩ := HD.out v2 HX.out
    go_wp2_with fail
    clear d0 d1 d2 d3
    clear hf
    rcases makeO_cases l x with hM | ⟨hk, ho, hh, hM⟩
    · refine (mk_as hM HR.out HB.out).mono ?_
      rintro e v3 ⟨a1, c1, rfl, hR1, hE3⟩
      have HR := Lib.hid (HR.out.ext hE3)
      have HX := Lib.hid (HX.out.trans hE3)
      clear hE3
      go_wp2_with fail
      go_ret
      exact ⟨rfl, HX0.out.trans HX.out⟩
    · have HCK := Lib.hid (checkO_zero.2 (okLO_ins hk ho hh))
      have HTK := Lib.hid (fun n => take_ins hk ho hh n)
      have HMK := Lib.hid (@make_twice l x)
      have HTB := Lib.hid (fun n => take_back hk hh n)
      have hlen : ((insO l (posN l x) x).length : Int) = (l.length : Int) + 1 := by rw [insO_len]; rfl
      clear hk ho hh
      generalize hX : insO l (posN l x) x = X at *
      clear hX
      have hlb : X.length ≤ 100000 := by have := HF.out; omega
      have HLB := Lib.hid hlb
      have HLEN := Lib.hid hlen
      clear hlen hlb
      refine (mk_as hM HR.out HB.out).mono ?_
      rintro e v3 ⟨a1, c1, rfl, hR1, hE3⟩
      have HR := Lib.hid (HR.out.ext hE3)
      have HX := Lib.hid (HX.out.trans hE3)
      have H1 := Lib.hid hR1
      clear hE3
      obtain ⟨d0, d1, d2, d3⟩ := HD.out v3 HX.out
      go_wp2_with fail
      clear d0 d1 d2 d3
      by_cases hn : now < x.u
      · have hT : takeO X x.s x.a x.b now = (l, 0) := by rw [HTK.out, if_pos hn]
        have HN := Lib.hid hn
        clear hn
        refine (tk_as hT H1.out HLB.out).mono ?_
        rintro e v4 ⟨a2, c2, rfl, hR2, hE4⟩
        have HR := Lib.hid (HR.out.ext hE4)
        have H1 := Lib.hid (H1.out.ext hE4)
        have HX := Lib.hid (HX.out.trans hE4)
        have H2 := Lib.hid hR2
        clear hE4
        go_wp2_with fail
        have hn := HN.out
        have hlen := HLEN.out
        have hw : IntKind.i64.wrap ((l.length : Int) + 1) = (l.length : Int) + 1 := by have := HF.out; simp [IntKind.wrap, IntKind.bits, IntKind.signed]; omega
        refine (ck_as HCK.out H1.out).mono ?_
        rintro e v5 ⟨rfl, hE5⟩
        have HR := Lib.hid (HR.out.ext hE5)
        have H1 := Lib.hid (H1.out.ext hE5)
        have H2 := Lib.hid (H2.out.ext hE5)
        have HX := Lib.hid (HX.out.trans hE5)
        clear hE5
        obtain ⟨d0, d1, d2, d3⟩ := HD.out v5 HX.out
        go_wp2_with fail
        clear d0 d1 d2 d3
        clear hn hlen hw
        refine (tk_as (HTB.out now) H2.out HB.out).mono ?_
        rintro e v6 ⟨a3, c3, rfl, hR3, hE6⟩
        have HR := Lib.hid (HR.out.ext hE6)
        have H1 := Lib.hid (H1.out.ext hE6)
        have H2 := Lib.hid (H2.out.ext hE6)
        have HX := Lib.hid (HX.out.trans hE6)
        clear hE6
        go_wp2_with fail
        refine (sm_as (same_self _) H2.out HR.out).mono ?_
        rintro e v7 ⟨rfl, hE7⟩
        have HR := Lib.hid (HR.out.ext hE7)
        have H1 := Lib.hid (H1.out.ext hE7)
        have H2 := Lib.hid (H2.out.ext hE7)
        have HX := Lib.hid (HX.out.trans hE7)
        clear hE7
        obtain ⟨d0, d1, d2, d3⟩ := HD.out v7 HX.out
        go_wp2_with fail
        clear d0 d1 d2 d3
        refine (tk_as (show takeO X x.s x.a x.b x.u = ([], 310) by rw [HTK.out, if_neg (Int.lt_irrefl _)]) H1.out HLB.out).mono ?_
        rintro e v8 ⟨a4, c4, rfl, hR4, hE8⟩
        have HR := Lib.hid (HR.out.ext hE8)
        have H1 := Lib.hid (H1.out.ext hE8)
        have H2 := Lib.hid (H2.out.ext hE8)
        have HX := Lib.hid (HX.out.trans hE8)
        clear hE8
        obtain ⟨d0, d1, d2, d3⟩ := HD.out v8 HX.out
        go_wp2_with fail
        clear d0 d1 d2 d3
        refine (mk_as HMK.out H1.out HLB.out).mono ?_
        rintro e v9 ⟨a5, c5, rfl, hR5, hE9⟩
        have HR := Lib.hid (HR.out.ext hE9)
        have H1 := Lib.hid (H1.out.ext hE9)
        have H2 := Lib.hid (H2.out.ext hE9)
        have HX := Lib.hid (HX.out.trans hE9)
        clear hE9
        go_wp2_with fail
        go_ret
        exact ⟨rfl, HX0.out.trans HX.out⟩
      · have hT : takeO X x.s x.a x.b now = ([], 310) := by rw [HTK.out, if_neg hn]
        have HN := Lib.hid hn
        clear hn
        refine (tk_as hT H1.out HLB.out).mono ?_
        rintro e v4 ⟨a2, c2, rfl, hR2, hE4⟩
        have HR := Lib.hid (HR.out.ext hE4)
        have H1 := Lib.hid (H1.out.ext hE4)
        have HX := Lib.hid (HX.out.trans hE4)
        clear hE4
        go_wp2_with fail
        have hn := HN.out
        have hlen := HLEN.out
        have hw : IntKind.i64.wrap ((l.length : Int) + 1) = (l.length : Int) + 1 := by have := HF.out; simp [IntKind.wrap, IntKind.bits, IntKind.signed]; omega
        refine (ck_as HCK.out H1.out).mono ?_
        rintro e v5 ⟨rfl, hE5⟩
        have HR := Lib.hid (HR.out.ext hE5)
        have H1 := Lib.hid (H1.out.ext hE5)
        have HX := Lib.hid (HX.out.trans hE5)
        clear hE5
        obtain ⟨d0, d1, d2, d3⟩ := HD.out v5 HX.out
        go_wp2_with fail
        clear d0 d1 d2 d3
        clear hn hlen hw
        refine (tk_as (show takeO X x.s x.a x.b x.u = ([], 310) by rw [HTK.out, if_neg (Int.lt_irrefl _)]) H1.out HLB.out).mono ?_
        rintro e v6 ⟨a4, c4, rfl, hR4, hE6⟩
        have HR := Lib.hid (HR.out.ext hE6)
        have H1 := Lib.hid (H1.out.ext hE6)
        have HX := Lib.hid (HX.out.trans hE6)
        clear hE6
        obtain ⟨d0, d1, d2, d3⟩ := HD.out v6 HX.out
        go_wp2_with fail
        clear d0 d1 d2 d3
        refine (mk_as HMK.out H1.out HLB.out).mono ?_
        rintro e v7 ⟨a5, c5, rfl, hR5, hE7⟩
        have HR := Lib.hid (HR.out.ext hE7)
        have H1 := Lib.hid (H1.out.ext hE7)
        have HX := Lib.hid (HX.out.trans hE7)
        clear hE7
        go_wp2_with fail
        go_ret
        exact ⟨rfl, HX0.out.trans HX.out⟩
  · have hf := decide_eq_false hl
    clear hl
    refine (fw_as hf HR.out).mono ?_
    rintro e v2 ⟨rfl, hE2⟩
    have HR := Lib.hid (HR.out.ext hE2)
    have HX := Lib.hid (HX.out.trans hE2)
    clear hE2
    go_wp2_with fail
    go_ret
    exact ⟨rfl, HX0.out.trans HX.out⟩
end Go.Proofs.Ytbnaoefmjmlfbaa
