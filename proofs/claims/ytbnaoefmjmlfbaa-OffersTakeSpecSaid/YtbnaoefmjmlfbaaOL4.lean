/- Offers: the law Take. -/
import Derived.Test.YtbnaoefmjmlfbaaOL6
namespace Go.Sz
open Go.RowKit
def spRLE (r : List Off × Int) : Spec := ⟨fun v W => ∃ a c, v = .tuple #[.slice a r.1.length c, .int .i64 r.2] ∧ RepO W a c r.1, fun hE ⟨a, c, h1, h2⟩ => ⟨a, c, h1, RepO.ext h2 hE⟩⟩
def spVarL (t : TypeId) (n : Nat) (cs : List Value) : Spec := ⟨fun v W => ∃ g, v = .slice (some ⟨g, 0, none⟩) n n ∧ W.heap[g]? = some (.cells cs.toArray t (0, 0)), fun hE ⟨g, h1, h2⟩ => ⟨g, h1, (hE.block g (Array.getElem?_eq_some_iff.1 h2).1).trans h2⟩⟩
end Go.Sz
namespace Go.Proofs.Ytbnaoefmjmlfbaa
open Go.RowKit Go.Sz
set_option maxRecDepth 100000 in
set_option maxHeartbeats 12800000 in
theorem law_take (l : List Off) (st ba bb now : Int) (ao : Option Addr) (cap : Nat) (w : World) (h : RepO w ao cap l) : Calls Try.prog 5 #[.slice ao l.length cap, .int .i64 st, .agg #[.int .i64 ba, .int .i64 bb], .int .i64 now] w fun e w' => e = .returned (.bool true) ∧ Ext w w' := by
  obtain ⟨i0, hi, hz0, hz1, hz2⟩ := info_parts infoO
  have hX0 : Ext w (w.alloc (.cells #[.int .i64 ba, .int .i64 bb] 24)) := (Ext.refl w).alloc _
  have b0 : (w.alloc (.cells #[.int .i64 ba, .int .i64 bb] 24)).cell? ⟨w.heap.size, 0, none⟩ = some (.int .i64 ba) := by simp
  have b1 : (w.alloc (.cells #[.int .i64 ba, .int .i64 bb] 24)).cell? ⟨w.heap.size, 1, none⟩ = some (.int .i64 bb) := by simp
  have HD : Hid (∀ W, Ext (w.alloc (.cells #[.int .i64 ba, .int .i64 bb] 24)) W → W.cell? ⟨w.heap.size, 0, none⟩ = some (.int .i64 ba) ∧ W.cell? ⟨w.heap.size, 1, none⟩ = some (.int .i64 bb)) := Lib.hid fun W hE => ⟨hE.cell b0, hE.cell b1⟩
  have HX0 := Lib.hid hX0
  have HR := Lib.hid (h.ext hX0)
  have HX := Lib.hid (Ext.refl (w.alloc (.cells #[.int .i64 ba, .int .i64 bb] 24)))
  clear hX0 b0 b1 h
  go_enter Try.func5, Try.ntmps5
  go_wp2_with fail
  generalize (w.alloc (.cells #[.int .i64 ba, .int .i64 bb] 24)) = w0 at *
  refine (sane_any _).mono ?_
  rintro e v1 ⟨rfl, hE1⟩
  have HR := Lib.hid (HR.out.ext hE1)
  have HX := Lib.hid (HX.out.trans hE1)
  clear hE1
  go_wp2_with fail
  by_cases hl : l.length ≤ 40
  · have hf := decide_eq_true hl
    have HF := Lib.hid hl
    have HB : Hid (l.length ≤ 100000) := Lib.hid (by omega)
    clear hl
    refine (fw_as hf HR.out).mono ?_
    rintro e v2 ⟨rfl, hE2⟩
    have HR := Lib.hid (HR.out.ext hE2)
    have HX := Lib.hid (HX.out.trans hE2)
    clear hE2 hf
    obtain ⟨b0, b1⟩ := HD.out v2 HX.out
    have hA : Ext v2 (v2.alloc (.cells #[.int .i64 st, .int .i64 ba, .int .i64 bb, .int .i64 0] 26)) := (Ext.refl v2).alloc _
    have hrx : RepO (v2.alloc (.cells #[.int .i64 st, .int .i64 ba, .int .i64 bb, .int .i64 0] 26)) (some ⟨v2.heap.size, 0, none⟩) 1 [⟨st, ba, bb, 0⟩] := one_rep v2 ⟨st, ba, bb, 0⟩ 26 _ rfl
    have hown : (v2.alloc (.cells #[.int .i64 st, .int .i64 ba, .int .i64 bb, .int .i64 0] 26)).ownsRow v2.heap.size 26 4 (.slice (some ⟨v2.heap.size, 0, none⟩) 1 1) 1 (Off.enc ⟨st, ba, bb, 0⟩) := by have h := World.ownsRow_lit (base := v2.heap.size) (e := 26) v2 #[.int .i64 st, .int .i64 ba, .int .i64 bb, .int .i64 0] 1 (size := 4) (Nat.le_refl _) (by unfold maxLen; omega) (by simp); simpa [Off.enc] using h
    have HA := Lib.hid hA
    have HRX := Lib.hid hrx
    have HOWN := Lib.hid hown
    have HXA := Lib.hid (HX.out.trans hA)
    have HRA := Lib.hid (HR.out.ext hA)
    clear hA hrx hown
    rcases Nat.eq_zero_or_pos l.length with h0 | h0
    · have h0i : ¬ (0 : Int) < (l.length : Int) := by omega
      clear h0
      go_wp2_with fail
      have hdec : decide (0 < l.length) = false := decide_eq_false (by omega)
      rw [hdec]
      clear hdec
      have HA1 := HRX
      have HXB := HXA
      have HRB := HRA
      generalize (v2.alloc (.cells #[.int .i64 st, .int .i64 ba, .int .i64 bb, .int .i64 0] 26)) = wb at *
      have HLN : Hid ([(⟨st, ba, bb, 0⟩ : Off)].length = 1) := Lib.hid rfl
      generalize [(⟨st, ba, bb, 0⟩ : Off)] = ask at *
      clear b0 b1 h0i HRX HXA HRA HOWN HA
      go_loopw [10] (fun kv wr => ∃ i : Nat, kv = .int .i64 i ∧ i ≤ 1 ∧ Ext wb wr) (fun kv _ => 1 - (intOf kv).toNat)
      case atStart => exact ⟨0, rfl, by omega, Ext.refl _⟩
      case round =>
        obtain ⟨i, rfl, hi, hE⟩ := hrel
        have HEr := Lib.hid hE
        have HRr := Lib.hid (HRB.out.ext hE)
        have HAr := Lib.hid (HA1.out.ext hE)
        by_cases hil : i < 1
        · have hii : (i : Int) < 1 := by omega
          have hia : i < ask.length := by rw [HLN.out]; exact hil
          obtain ⟨y, hy⟩ : ∃ y, ask[i] = y := ⟨_, rfl⟩
          have HOC := Lib.hid (fun W (hE2 : Ext wr W) => off_cells (HAr.out.ext hE2) hia hy)
          obtain ⟨qb, qo, hqo, d0, d1, d2, d3⟩ := off_cells HAr.out hia hy
          cases hqo
          simp only [Nat.zero_add] at d0 d1 d2 d3
          have gd0 := grow_cell d0
          have gd1 := grow_cell d1
          have gd2 := grow_cell d2
          have gd3 := grow_cell d3
          have HIL := Lib.hid hil
          have hw : IntKind.i64.wrap ((i : Int) + 1) = (i : Int) + 1 := by simp [IntKind.wrap, IntKind.bits, IntKind.signed]; omega
          have HW := Lib.hid hw
          obtain ⟨r, hr⟩ : ∃ r, takeO l y.s y.a y.b now = r := ⟨_, rfl⟩
          have HM := Lib.hid hr
          clear hr hw hy hia hil hi hE
          go_wp2_with fail
          refine wp_region_rel_all (fun i => if i = 12 then some (spRLE r) else none) (by kernel_rfl) (by kernel_rfl) ?_
          repeat (first
            | (refine wpRel_quick ?_ ?_ ?_ ?_
               · rfl
               · rfl
               · first | exact noEnter rfl | (intro f args W W'; go_simp)
               intro K hK
               go_big_quiet_op
               go_big_quiet_on)
            | (refine wpRel_skip ?_ ?_
               · rfl
               simp only [Act.put, List.setIfInBounds_toArray, List.set_cons_zero, List.set_cons_succ]))
          refine wpRel_rich _ rfl rfl (fun W hW => ?_) (fun v W3 hW3 hv => ?_)
          · have hx : Ext wr W := (Ext.refl wr).drew.trans hW.1
            have hc := tk_as HM.out (HRr.out.ext hx) HB.out
            go_simp
            refine Calls.mono hc ?_
            rintro e w' ⟨a1, c1, rfl, hR1, hE1⟩
            exact ⟨_, rfl, ⟨a1, c1, rfl, hR1⟩, hE1⟩
          obtain ⟨ax, cax, rfl, _⟩ := hv
          clear hW3
          simp only [Act.put, List.setIfInBounds_toArray, List.set_cons_zero, List.set_cons_succ]
          repeat (first
            | (refine wpRel_quick ?_ ?_ ?_ ?_
               · rfl
               · rfl
               · first | exact noEnter rfl | (intro f args W W'; go_simp)
               intro K hK
               go_big_quiet_op
               go_big_quiet_on)
            | (refine wpRel_skip ?_ ?_
               · rfl
               simp only [Act.put, List.setIfInBounds_toArray, List.set_cons_zero, List.set_cons_succ]))
          refine wpRel_nil ?_
          intro W6 hW3
          obtain ⟨a', c', he, hR1⟩ := hW3.2 12 trivial _ _ rfl rfl
          cases he
          have hEW := (Ext.refl wr).drew.trans hW3.1
          have HEF := Lib.hid hEW
          have H1 := Lib.hid hR1
          clear hW3 hEW hR1 gd0 gd1 gd2 gd3 d0 d1 d2 d3
          obtain ⟨_, _, hqo, d0, d1, d2, d3⟩ := HOC.out W6 HEF.out
          cases hqo
          simp only [Nat.zero_add] at d0 d1 d2 d3
          have gd0 := grow_cell d0
          have gd1 := grow_cell d1
          have gd2 := grow_cell d2
          have gd3 := grow_cell d3
          go_wp2_with fail
          refine wp_region_rel_all (fun i => if i = 12 then some (spRLE r) else none) (by kernel_rfl) (by kernel_rfl) ?_
          repeat (first
            | (refine wpRel_quick ?_ ?_ ?_ ?_
               · rfl
               · rfl
               · first | exact noEnter rfl | (intro f args W W'; go_simp)
               intro K hK
               go_big_quiet_op
               go_big_quiet_on)
            | (refine wpRel_skip ?_ ?_
               · rfl
               simp only [Act.put, List.setIfInBounds_toArray, List.set_cons_zero, List.set_cons_succ]))
          refine wpRel_rich _ rfl rfl (fun W hW => ?_) (fun v W3 hW3 hv => ?_)
          · have hx : Ext W6 W := (Ext.refl W6).drew.trans hW.1
            have hc := rt_as HM.out (HRr.out.ext (HEF.out.trans hx)) HB.out
            go_simp
            refine Calls.mono hc ?_
            rintro e w' ⟨a1, c1, rfl, hR1, hE1⟩
            exact ⟨_, rfl, ⟨a1, c1, rfl, hR1⟩, hE1⟩
          obtain ⟨ay, cay, rfl, _⟩ := hv
          clear hW3
          simp only [Act.put, List.setIfInBounds_toArray, List.set_cons_zero, List.set_cons_succ]
          repeat (first
            | (refine wpRel_quick ?_ ?_ ?_ ?_
               · rfl
               · rfl
               · first | exact noEnter rfl | (intro f args W W'; go_simp)
               intro K hK
               go_big_quiet_op
               go_big_quiet_on)
            | (refine wpRel_skip ?_ ?_
               · rfl
               simp only [Act.put, List.setIfInBounds_toArray, List.set_cons_zero, List.set_cons_succ]))
          refine wpRel_nil ?_
          intro W7 hW3
          obtain ⟨a', c', he, hR1⟩ := hW3.2 12 trivial _ _ rfl rfl
          cases he
          have hEW := (Ext.refl W6).drew.trans hW3.1
          have HEG := Lib.hid (HEF.out.trans hEW)
          have H2 := Lib.hid hR1
          have H1 := Lib.hid (H1.out.ext hEW)
          clear hW3 hEW hR1 gd0 gd1 gd2 gd3 d0 d1 d2 d3
          go_wp2_with fail
          refine (sm_as (same_self _) H1.out H2.out).mono ?_
          rintro e y1 ⟨rfl, hE1⟩
          have HE1 := Lib.hid hE1
          clear hE1
          have hw := HW.out
          go_wp2_with fail
          go_roundw
          case rel => exact ⟨i + 1, by go_num, by have := HIL.out; omega, HEr.out.trans (HEG.out.trans HE1.out)⟩
          case measure => have := HIL.out; simp [intOf] <;> omega
        · have hii : ¬ (i : Int) < 1 := by omega
          clear hil hi hE
          go_wp2_with fail
          go_ret
          exact ⟨rfl, HX0.out.trans (HXB.out.trans HEr.out)⟩
    · have h0i : (0 : Int) < (l.length : Int) := by omega
      obtain ⟨m, hm1, hm2, hml⟩ : ∃ m : Nat, Int.tdiv (l.length : Int) 2 = (m : Int) ∧ (l.length : Int) / 2 = (m : Int) ∧ m < l.length := ⟨l.length / 2, by rw [Int.tdiv_eq_ediv_of_nonneg (by omega)]; omega, by omega, by omega⟩
      obtain ⟨e, he1, hel⟩ : ∃ e : Nat, (l.length : Int) - 1 = (e : Int) ∧ e < l.length := ⟨l.length - 1, by omega, by omega⟩
      have hF := HF.out
      have hwm : IntKind.i64.wrap (m : Int) = (m : Int) := by simp [IntKind.wrap, IntKind.bits, IntKind.signed]; omega
      have hwe : IntKind.i64.wrap (e : Int) = (e : Int) := by simp [IntKind.wrap, IntKind.bits, IntKind.signed]; omega
      have hmi : (m : Int) < (l.length : Int) := by omega
      have hei : (e : Int) < (l.length : Int) := by omega
      have hm0 : (0 : Int) ≤ (m : Int) := by omega
      have he0 : (0 : Int) ≤ (e : Int) := by omega
      obtain ⟨p, hp⟩ : ∃ p, l[0] = p := ⟨_, rfl⟩
      obtain ⟨q, hq⟩ : ∃ q, l[m] = q := ⟨_, rfl⟩
      obtain ⟨z, hz⟩ : ∃ z, l[e] = z := ⟨_, rfl⟩
      obtain ⟨lb, lo, hlo, p0, p1, p2, p3⟩ := off_cells HRA.out h0 hp
      cases hlo
      obtain ⟨_, _, hlo, q0, q1, q2, q3⟩ := off_cells HRA.out hml hq
      cases hlo
      obtain ⟨_, _, hlo, z0, z1, z2, z3⟩ := off_cells HRA.out hel hz
      cases hlo
      simp only [Nat.zero_mul, Nat.add_zero] at p0 p1 p2 p3
      have gp0 := grow_cell p0
      have gp1 := grow_cell p1
      have gp2 := grow_cell p2
      have gp3 := grow_cell p3
      have gq0 := grow_cell q0
      have gq1 := grow_cell q1
      have gq2 := grow_cell q2
      have gq3 := grow_cell q3
      have gz0 := grow_cell z0
      have gz1 := grow_cell z1
      have gz2 := grow_cell z2
      have gz3 := grow_cell z3
      clear hp hq hz hF hml hel h0
      go_wp2_with fail
      generalize hW5 : (v2.alloc (.cells #[.int .i64 st, .int .i64 ba, .int .i64 bb, .int .i64 0] 26)) = w5 at *
      refine wp_region_rel (fun i => if i = 16 then some (spVarL 26 3 (orows [p, q, z]).flatten) else none) 17 2 (by kernel_rfl) (by kernel_rfl) ?_
      simp only [List.take_succ_cons, List.take_zero]
      repeat (first
        | (refine wpRel_quick ?_ ?_ ?_ ?_
           · rfl
           · rfl
           · first | exact noEnter rfl | (intro f args W W'; go_simp)
           intro K hK
           go_big_quiet_op
           go_big_quiet_on)
        | (refine wpRel_skip ?_ ?_
           · rfl
           simp only [Act.put, List.setIfInBounds_toArray, List.set_cons_zero, List.set_cons_succ]))
      refine wpRel_rich _ rfl rfl (fun W hW => ?_) (fun v W4 hW4 hv => ?_)
      · go_simp
        exact ⟨⟨_, rfl, heap_alloc_new W _⟩, (Ext.refl _).alloc _⟩
      obtain ⟨vb, rfl, _⟩ := hv
      clear hW4
      simp only [Act.put, List.setIfInBounds_toArray, List.set_cons_zero, List.set_cons_succ]
      refine wpRel_nil ?_
      intro W hW
      obtain ⟨vb', he, hvb⟩ := hW.2 16 trivial _ _ rfl rfl
      cases he
      have hE : Ext w5 W := (Ext.refl w5).drew.trans hW.1
      have HSV : Hid (Src Try.prog 4 22 (.slice (some ⟨vb, 0, none⟩) 3 3) 3 (orows [p, q, z]).flatten W) := Lib.hid (Src.ofSlice W Try.underlying22 _ 3 3 _ (by rw [oflat_len]; rfl) (fun j u hu => cells_of_heap hvb 0 j u (by simpa using hu)) (oflat_one _))
      have HO3 := Lib.hid (ownsRow_ext HOWN.out hE)
      have HE := Lib.hid (HA.out.trans hE)
      have HRB := Lib.hid (HRA.out.ext hE)
      clear hW hvb hE he1 hm1 hm2 hwm hwe hmi hei hm0 he0 h0i b0 b1 p0 gp0 p1 gp1 p2 gp2 p3 gp3 q0 gq0 q1 gq1 q2 gq2 q3 gq3 z0 gz0 z1 gz1 z2 gz2 z3 gz3
      refine wpAny_ready (rs := [17]) (by kernel_rfl) (by simp) ?_
      refine AllReady.cons rfl (fun K hK => ?_) AllReady.nil
      refine step_append_S rfl _ _ 22 22 rfl v2.heap.size 26 i0 _ 4 32 Try.underlying22 hi hz0 hz1 hz2 rfl _ 1 _ rfl HO3.out _ 3 (orows [p, q, z]).flatten rfl HSV.out (by unfold maxLen; omega) (by omega) HE.out.size ?_
      intro v6 w6 ho6 hg6
      refine hK _ _ ?_
      clear hK K
      have hB6 : Below v2.heap.size v2 w6 := Below.trans HE.out ((Below.refl _ W).grown hg6.by_ HE.out.size (ownsRow_blocks HO3.out))
      have ho7 : w6.ownsRow v2.heap.size 26 4 v6 4 (orows [⟨st, ba, bb, 0⟩, p, q, z]).flatten := ho6
      obtain ⟨aq, cq, hv6, hR6, _⟩ := RepO.of_own ho7 rfl
      subst hv6
      have HXB := Lib.hid (HX.out.trans (show Ext v2 w6 from hB6))
      have HRB := Lib.hid (HR.out.ext (show Ext v2 w6 from hB6))
      have HA1 := Lib.hid hR6
      clear ho6 ho7 hg6 hB6 hR6
      refine wpAny_ready (rs := [18]) (by kernel_rfl) (by simp) ?_
      refine AllReady.cons rfl (fun K hK => ?_) AllReady.nil
      go_simp
      refine hK _ _ ?_
      clear hK K
      refine wpAny_done (by kernel_rfl) ?_ _
      have HLN : Hid ([(⟨st, ba, bb, 0⟩ : Off), p, q, z].length = 4) := Lib.hid rfl
      generalize [(⟨st, ba, bb, 0⟩ : Off), p, q, z] = ask at *
      generalize w6 = wb at *
      go_wp2_with fail
      go_loopw [10] (fun kv wr => ∃ i : Nat, kv = .int .i64 i ∧ i ≤ 4 ∧ Ext wb wr) (fun kv _ => 4 - (intOf kv).toNat)
      case atStart => exact ⟨0, rfl, by omega, Ext.refl _⟩
      case round =>
        obtain ⟨i, rfl, hi, hE⟩ := hrel
        have HEr := Lib.hid hE
        have HRr := Lib.hid (HRB.out.ext hE)
        have HAr := Lib.hid (HA1.out.ext hE)
        by_cases hil : i < 4
        · have hii : (i : Int) < 4 := by omega
          have hia : i < ask.length := by rw [HLN.out]; exact hil
          obtain ⟨y, hy⟩ : ∃ y, ask[i] = y := ⟨_, rfl⟩
          have HOC := Lib.hid (fun W (hE2 : Ext wr W) => off_cells (HAr.out.ext hE2) hia hy)
          obtain ⟨qb, qo, hqo, d0, d1, d2, d3⟩ := off_cells HAr.out hia hy
          cases hqo
          have gd0 := grow_cell d0
          have gd1 := grow_cell d1
          have gd2 := grow_cell d2
          have gd3 := grow_cell d3
          have HIL := Lib.hid hil
          have hw : IntKind.i64.wrap ((i : Int) + 1) = (i : Int) + 1 := by simp [IntKind.wrap, IntKind.bits, IntKind.signed]; omega
          have HW := Lib.hid hw
          obtain ⟨r, hr⟩ : ∃ r, takeO l y.s y.a y.b now = r := ⟨_, rfl⟩
          have HM := Lib.hid hr
          clear hr hw hy hia hil hi hE
          go_wp2_with fail
          refine wp_region_rel_all (fun i => if i = 12 then some (spRLE r) else none) (by kernel_rfl) (by kernel_rfl) ?_
          repeat (first
            | (refine wpRel_quick ?_ ?_ ?_ ?_
               · rfl
               · rfl
               · first | exact noEnter rfl | (intro f args W W'; go_simp)
               intro K hK
               go_big_quiet_op
               go_big_quiet_on)
            | (refine wpRel_skip ?_ ?_
               · rfl
               simp only [Act.put, List.setIfInBounds_toArray, List.set_cons_zero, List.set_cons_succ]))
          refine wpRel_rich _ rfl rfl (fun W hW => ?_) (fun v W3 hW3 hv => ?_)
          · have hx : Ext wr W := (Ext.refl wr).drew.trans hW.1
            have hc := tk_as HM.out (HRr.out.ext hx) HB.out
            go_simp
            refine Calls.mono hc ?_
            rintro e w' ⟨a1, c1, rfl, hR1, hE1⟩
            exact ⟨_, rfl, ⟨a1, c1, rfl, hR1⟩, hE1⟩
          obtain ⟨ax, cax, rfl, _⟩ := hv
          clear hW3
          simp only [Act.put, List.setIfInBounds_toArray, List.set_cons_zero, List.set_cons_succ]
          repeat (first
            | (refine wpRel_quick ?_ ?_ ?_ ?_
               · rfl
               · rfl
               · first | exact noEnter rfl | (intro f args W W'; go_simp)
               intro K hK
               go_big_quiet_op
               go_big_quiet_on)
            | (refine wpRel_skip ?_ ?_
               · rfl
               simp only [Act.put, List.setIfInBounds_toArray, List.set_cons_zero, List.set_cons_succ]))
          refine wpRel_nil ?_
          intro W6 hW3
          obtain ⟨a', c', he, hR1⟩ := hW3.2 12 trivial _ _ rfl rfl
          cases he
          have hEW := (Ext.refl wr).drew.trans hW3.1
          have HEF := Lib.hid hEW
          have H1 := Lib.hid hR1
          clear hW3 hEW hR1 gd0 gd1 gd2 gd3 d0 d1 d2 d3
          obtain ⟨_, _, hqo, d0, d1, d2, d3⟩ := HOC.out W6 HEF.out
          cases hqo
          have gd0 := grow_cell d0
          have gd1 := grow_cell d1
          have gd2 := grow_cell d2
          have gd3 := grow_cell d3
          go_wp2_with fail
          refine wp_region_rel_all (fun i => if i = 12 then some (spRLE r) else none) (by kernel_rfl) (by kernel_rfl) ?_
          repeat (first
            | (refine wpRel_quick ?_ ?_ ?_ ?_
               · rfl
               · rfl
               · first | exact noEnter rfl | (intro f args W W'; go_simp)
               intro K hK
               go_big_quiet_op
               go_big_quiet_on)
            | (refine wpRel_skip ?_ ?_
               · rfl
               simp only [Act.put, List.setIfInBounds_toArray, List.set_cons_zero, List.set_cons_succ]))
          refine wpRel_rich _ rfl rfl (fun W hW => ?_) (fun v W3 hW3 hv => ?_)
          · have hx : Ext W6 W := (Ext.refl W6).drew.trans hW.1
            have hc := rt_as HM.out (HRr.out.ext (HEF.out.trans hx)) HB.out
            go_simp
            refine Calls.mono hc ?_
            rintro e w' ⟨a1, c1, rfl, hR1, hE1⟩
            exact ⟨_, rfl, ⟨a1, c1, rfl, hR1⟩, hE1⟩
          obtain ⟨ay, cay, rfl, _⟩ := hv
          clear hW3
          simp only [Act.put, List.setIfInBounds_toArray, List.set_cons_zero, List.set_cons_succ]
          repeat (first
            | (refine wpRel_quick ?_ ?_ ?_ ?_
               · rfl
               · rfl
               · first | exact noEnter rfl | (intro f args W W'; go_simp)
               intro K hK
               go_big_quiet_op
               go_big_quiet_on)
            | (refine wpRel_skip ?_ ?_
               · rfl
               simp only [Act.put, List.setIfInBounds_toArray, List.set_cons_zero, List.set_cons_succ]))
          refine wpRel_nil ?_
          intro W7 hW3
          obtain ⟨a', c', he, hR1⟩ := hW3.2 12 trivial _ _ rfl rfl
          cases he
          have hEW := (Ext.refl W6).drew.trans hW3.1
          have HEG := Lib.hid (HEF.out.trans hEW)
          have H2 := Lib.hid hR1
          have H1 := Lib.hid (H1.out.ext hEW)
          clear hW3 hEW hR1 gd0 gd1 gd2 gd3 d0 d1 d2 d3
          go_wp2_with fail
          refine (sm_as (same_self _) H1.out H2.out).mono ?_
          rintro e y1 ⟨rfl, hE1⟩
          have HE1 := Lib.hid hE1
          clear hE1
          have hw := HW.out
          go_wp2_with fail
          go_roundw
          case rel => exact ⟨i + 1, by go_num, by have := HIL.out; omega, HEr.out.trans (HEG.out.trans HE1.out)⟩
          case measure => have := HIL.out; simp [intOf] <;> omega
        · have hii : ¬ (i : Int) < 4 := by omega
          clear hil hi hE
          go_wp2_with fail
          go_ret
          exact ⟨rfl, HX0.out.trans (HXB.out.trans HEr.out)⟩
  · have hf := decide_eq_false hl
    clear hl
    refine (fw_as hf HR.out).mono ?_
    rintro e v2 ⟨rfl, hE2⟩
    have HR := Lib.hid (HR.out.ext hE2)
    have HX := Lib.hid (HX.out.trans hE2)
    clear hE2
    go_wp2_with fail
    go_ret
    exact ⟨rfl, HX0.out.trans HX.out⟩
end Go.Proofs.Ytbnaoefmjmlfbaa
