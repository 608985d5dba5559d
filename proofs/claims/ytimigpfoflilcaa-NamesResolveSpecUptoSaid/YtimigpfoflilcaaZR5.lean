/- Names: the reference's Resolve. -/
import Derived.Test.YtimigpfoflilcaaZR2
import Derived.Test.YtimigpfoflilcaaZR3
import Derived.Test.YtimigpfoflilcaaZR4
namespace Go.Proofs.Ytimigpfoflilcaa
open Go.RowKit Go.Sz
set_option maxRecDepth 1000000 in
set_option maxHeartbeats 12800000 in
theorem refResolve_any (c : Cat) (hk : c.Ok) (hb : ∀ x ∈ c.cs, x.need.parts.length ≤ 1048576 ∧ x.bar.parts.length ≤ 1048576) (d : Adr) (w : World) (hX : RepX w d c) : Calls Try.prog 13 #[.agg (c.cells d).toArray] w (resPost c w) := by
  have hXA : Ext w ((w.alloc (.cells #[.slice d.a0 c.cs.length d.k0, .slice d.a1 c.sm.length d.k1, .slice d.a2 c.pg.length d.k2, .slice d.a3 c.kl.length d.k3, .slice d.a4 c.fe.length d.k4, .slice d.a5 c.ho.length d.k5, .slice d.a6 c.cu.length d.k6] 29)).alloc (.cells #[.slice none 0 0, .slice none 0 0, .slice none 0 0, .slice none 0 0, .slice none 0 0, .slice none 0 0, .slice none 0 0] 29)) := ((Ext.refl w).alloc _).alloc _
  have HCB : Hid (Row ((w.alloc (.cells #[.slice d.a0 c.cs.length d.k0, .slice d.a1 c.sm.length d.k1, .slice d.a2 c.pg.length d.k2, .slice d.a3 c.kl.length d.k3, .slice d.a4 c.fe.length d.k4, .slice d.a5 c.ho.length d.k5, .slice d.a6 c.cu.length d.k6] 29)).alloc (.cells #[.slice none 0 0, .slice none 0 0, .slice none 0 0, .slice none 0 0, .slice none 0 0, .slice none 0 0, .slice none 0 0] 29)) w.heap.size 29 [.slice d.a0 c.cs.length d.k0, .slice d.a1 c.sm.length d.k1, .slice d.a2 c.pg.length d.k2, .slice d.a3 c.kl.length d.k3, .slice d.a4 c.fe.length d.k4, .slice d.a5 c.ho.length d.k5, .slice d.a6 c.cu.length d.k6]) := Lib.hid (by unfold Row; rw [heap_al, if_neg (by simp), heap_al, if_pos rfl])
  have HRB : Hid (Row ((w.alloc (.cells #[.slice d.a0 c.cs.length d.k0, .slice d.a1 c.sm.length d.k1, .slice d.a2 c.pg.length d.k2, .slice d.a3 c.kl.length d.k3, .slice d.a4 c.fe.length d.k4, .slice d.a5 c.ho.length d.k5, .slice d.a6 c.cu.length d.k6] 29)).alloc (.cells #[.slice none 0 0, .slice none 0 0, .slice none 0 0, .slice none 0 0, .slice none 0 0, .slice none 0 0, .slice none 0 0] 29)) (w.heap.size + 1) 29 [.slice none 0 0, .slice none 0 0, .slice none 0 0, .slice none 0 0, .slice none 0 0, .slice none 0 0, .slice none 0 0]) := Lib.hid (by unfold Row; rw [heap_al, if_pos (by simp)])
  have HX := Lib.hid hX
  have HB := Lib.hid hb
  have HOK := Lib.hid hk
  have HX0 := Lib.hid hXA
  have hz2 := hX.pg.max
  clear hX hb hk hXA
  unfold Cat.cells
  go_enter Try.func13, Try.ntmps13
  go_upto_block 0 with fail
  generalize ((w.alloc (.cells #[.slice d.a0 c.cs.length d.k0, .slice d.a1 c.sm.length d.k1, .slice d.a2 c.pg.length d.k2, .slice d.a3 c.kl.length d.k3, .slice d.a4 c.fe.length d.k4, .slice d.a5 c.ho.length d.k5, .slice d.a6 c.cu.length d.k6] 29)).alloc (.cells #[.slice none 0 0, .slice none 0 0, .slice none 0 0, .slice none 0 0, .slice none 0 0, .slice none 0 0, .slice none 0 0] 29)) = w0 at *
  go_cut [4, 5] from 30 to 71 (fun s4 s5 wx => c.arg = false ∧ Ext w0 wx)
  case first =>
    go_wp2_with fail
    go_loopw [4] (fun iv wr => ∃ m : Nat, iv = .int .i64 m ∧ m ≤ c.pg.length ∧ (c.pg.take m).all okG = true ∧ Ext w0 wr) (fun iv _ => c.pg.length - (intOf iv).toNat)
    case atStart => exact ⟨0, rfl, by omega, rfl, Ext.refl _⟩
    case round =>
      obtain ⟨m, rfl, hm, hA, hE⟩ := hrel
      have HA := Lib.hid hA
      have HE := Lib.hid hE
      have b2 := (HCB.out.kpC hE.kpC).cell (j := 2) rfl
      clear hA hE
      by_cases hlt : m < c.pg.length
      · have hki : (m : Int) < (c.pg.length : Int) := by omega
        obtain ⟨p, hp⟩ : ∃ p, c.pg[m]? = some p := ⟨_, List.getElem?_eq_getElem hlt⟩
        obtain ⟨B, o, qa, qc, eqa, hq, hcell⟩ := (HX.out.pg.ext (HX0.out.trans HE.out)).at hp
        have d6 : wr.cell? ⟨B, o + m * 7 + 6, none⟩ = some (.slice qa p.rq.length qc) := hcell 6 _ rfl
        have HP := Lib.hid hp
        have HQ := Lib.hid hq
        have HEA := Lib.hid eqa
        have hs2 := hq.max
        rw [eqa] at b2
        clear hcell hq hp eqa
        go_wp2_with fail
        clear b2 d6
        obtain ⟨w1, rfl⟩ : ∃ w1, w1 = wr := ⟨_, rfl⟩
        go_loopw [5] (fun iv wr => ∃ k : Nat, iv = .int .i64 k ∧ k ≤ p.rq.length ∧ (p.rq.take k).all okQ = true ∧ Ext w1 wr) (fun iv _ => p.rq.length - (intOf iv).toNat)
        case atStart => exact ⟨0, rfl, by omega, rfl, Ext.refl _⟩
        case round =>
          obtain ⟨k, rfl, hk, hA, hE⟩ := hrel
          have HAQ := Lib.hid hA
          have HEQ := Lib.hid hE
          have b2 := (HCB.out.kpC (HE.out.trans hE).kpC).cell (j := 2) rfl
          obtain ⟨B, o, qa', qc', eqa, hq', hcell⟩ := (HX.out.pg.ext (HX0.out.trans (HE.out.trans hE))).at HP.out
          have d6 : wr.cell? ⟨B, o + m * 7 + 6, none⟩ = some (.slice qa' p.rq.length qc') := hcell 6 _ rfl
          rw [eqa] at b2
          by_cases hlk : k < p.rq.length
          · have hkk : (k : Int) < (p.rq.length : Int) := by omega
            obtain ⟨q, hqq⟩ : ∃ q, p.rq[k]? = some q := ⟨_, List.getElem?_eq_getElem hlk⟩
            obtain ⟨B2, o2, na, nc, fa, fc, eqq, hn, hf, hcell2⟩ := hq'.at hqq
            have e4 : wr.cell? ⟨B2, o2 + k * 6 + 4, none⟩ = some (.slice na q.nms.length nc) := hcell2 4 _ rfl
            have e5 : wr.cell? ⟨B2, o2 + k * 6 + 5, none⟩ = some (.slice fa q.fr.length fc) := hcell2 5 _ rfl
            have hln : (q.nms.length : Int) ≤ 9223372036854775807 := srows_max hn
            have hlf : (q.fr.length : Int) ≤ 9223372036854775807 := irows_max hf
            rw [eqq] at d6
            have HQQ := Lib.hid hqq
            clear hcell hcell2 hq' hn hf hqq hA hE eqa eqq
            have gb2 := grow_cell b2
            have gd6 := grow_cell d6
            have ge4 := grow_cell e4
            have ge5 := grow_cell e5
            cases ho : okQ q with
            | true =>
              have HO := Lib.hid ho
              have hoo := okQ_eq ho
              clear ho
              go_wp2_with fail
              refine wp_region_rel_all (fun _ => none) (by kernel_rfl) (by kernel_rfl) ?_
              repeat (first
                | (refine wpRel_quick ?_ ?_ ?_ ?_
                   · rfl
                   · rfl
                   · first | exact noEnter rfl | (intro f args W W'; go_simp)
                   intro K hK
                   go_big_quiet_op
                   go_big_quiet_on)
                | (refine wpRel_skip ?_ ?_
                   · rfl
                   simp only [Act.put, List.setIfInBounds_toArray, List.set_cons_zero, List.set_cons_succ]))
              refine wpRel_nil ?_
              intro W3 hW3
              have HE4 := Lib.hid (HEQ.out.trans ((Ext.refl _).drew.trans hW3.1))
              clear hW3 b2 d6 e4 e5 gb2 gd6 ge4 ge5
              go_wp2_with fail
              go_roundw
              case rel => exact ⟨k + 1, by go_num, by omega, all_take HAQ.out HQQ.out HO.out, HE4.out⟩
              case measure => simp [intOf] <;> omega
            | false =>
              have HO := Lib.hid ho
              have hoo := okQ_ne ho
              clear ho
              go_wp2_with fail
              refine wp_region_rel_all (fun _ => none) (by kernel_rfl) (by kernel_rfl) ?_
              repeat (first
                | (refine wpRel_quick ?_ ?_ ?_ ?_
                   · rfl
                   · rfl
                   · first | exact noEnter rfl | (intro f args W W'; go_simp)
                   intro K hK
                   go_big_quiet_op
                   go_big_quiet_on)
                | (refine wpRel_skip ?_ ?_
                   · rfl
                   simp only [Act.put, List.setIfInBounds_toArray, List.set_cons_zero, List.set_cons_succ]))
              refine wpRel_nil ?_
              intro W3 hW3
              have HE4 := Lib.hid ((HE.out.trans HEQ.out).trans ((Ext.refl _).drew.trans hW3.1))
              clear hW3 b2 d6 e4 e5 gb2 gd6 ge4 ge5
              have hrw := HRB.out.kpC HE4.out.kpC
              have r0 := (hrw).cell (j := 0) rfl
              have r1 := (hrw).cell (j := 1) rfl
              have r2 := (hrw).cell (j := 2) rfl
              have r3 := (hrw).cell (j := 3) rfl
              have r4 := (hrw).cell (j := 4) rfl
              have r5 := (hrw).cell (j := 5) rfl
              have r6 := (hrw).cell (j := 6) rfl
              have f0 := (hrw).froz 0
              have f1 := (hrw).froz 1
              have f2 := (hrw).froz 2
              have f3 := (hrw).froz 3
              have f4 := (hrw).froz 4
              have f5 := (hrw).froz 5
              have f6 := (hrw).froz 6
              go_wp2_with fail
              obtain ⟨Wf, hWf⟩ : ∃ Wf, W3.setCells (w.heap.size + 1) 0 [.slice none 0 0, .slice none 0 0, .slice none 0 0, .slice none 0 0, .slice none 0 0, .slice none 0 0, .slice none 0 0] = Wf := ⟨_, rfl⟩
              have hgr := setCells_grown (w.heap.size + 1) [.slice none 0 0, .slice none 0 0, .slice none 0 0, .slice none 0 0, .slice none 0 0, .slice none 0 0, .slice none 0 0] W3 0
              have hrow : Row (W3.setCells (w.heap.size + 1) 0 [.slice none 0 0, .slice none 0 0, .slice none 0 0, .slice none 0 0, .slice none 0 0, .slice none 0 0, .slice none 0 0]) (w.heap.size + 1) 29 [.slice none 0 0, .slice none 0 0, .slice none 0 0, .slice none 0 0, .slice none 0 0, .slice none 0 0, .slice none 0 0] := hrw.set (vs := [.slice none 0 0, .slice none 0 0, .slice none 0 0, .slice none 0 0, .slice none 0 0, .slice none 0 0, .slice none 0 0]) (o := 0) (Nat.le_refl _)
              rw [hWf] at hgr hrow
              clear r0 r1 r2 r3 r4 r5 r6 f0 f1 f2 f3 f4 f5 f6 hrw
              rw [show (((((((W3.setCell ⟨w.heap.size + 1, 0, none⟩ (.slice none 0 0)).setCell ⟨w.heap.size + 1, 1, none⟩ (.slice none 0 0)).setCell ⟨w.heap.size + 1, 2, none⟩ (.slice none 0 0)).setCell ⟨w.heap.size + 1, 3, none⟩ (.slice none 0 0)).setCell ⟨w.heap.size + 1, 4, none⟩ (.slice none 0 0)).setCell ⟨w.heap.size + 1, 5, none⟩ (.slice none 0 0)).setCell ⟨w.heap.size + 1, 6, none⟩ (.slice none 0 0)) = Wf from hWf]
              have hEf : Ext w Wf := Below.grown (HX0.out.trans HE4.out) hgr (HX0.out.trans HE4.out).size (fun x hx => by cases hx; omega)
              have e0 := (hrow).cell (j := 0) rfl
              have e1 := (hrow).cell (j := 1) rfl
              have e2 := (hrow).cell (j := 2) rfl
              have e3 := (hrow).cell (j := 3) rfl
              have e4 := (hrow).cell (j := 4) rfl
              have e5 := (hrow).cell (j := 5) rfl
              have e6 := (hrow).cell (j := 6) rfl
              exact ⟨rfl, .tuple #[.agg #[.slice none 0 0, .slice none 0 0, .slice none 0 0, .slice none 0 0, .slice none 0 0, .slice none 0 0, .slice none 0 0], .int .i64 1], by simp [results, Try.results13, go_sem, e0, e1, e2, e3, e4, e5, e6], res_err (Cat.resN_arg (arg_bad (List.mem_of_getElem? HP.out) (List.mem_of_getElem? HQQ.out) HO.out)) hEf⟩

          · have hkk : ¬ (k : Int) < (p.rq.length : Int) := by omega
            obtain rfl : k = p.rq.length := by omega
            rw [List.take_length] at HAQ
            clear hcell hq' hA hE eqa
            go_wp2_with fail
            go_roundw
            case rel => exact ⟨m + 1, by go_num, by omega, all_take HA.out HP.out HAQ.out, HE.out.trans HEQ.out⟩
            case measure => simp [intOf] <;> omega
      · have hki : ¬ (m : Int) < (c.pg.length : Int) := by omega
        obtain rfl : m = c.pg.length := by omega
        rw [List.take_length] at HA
        go_wp2_with fail
        go_meet
        exact ⟨arg_of HA.out, HE.out⟩

  case rest =>
    obtain ⟨ha, hE⟩ := hcut
    have HA := Lib.hid ha
    have HE := Lib.hid hE
    have b0 := (HCB.out.kpC hE.kpC).cell (j := 0) rfl
    have b1 := (HCB.out.kpC hE.kpC).cell (j := 1) rfl
    have b2 := (HCB.out.kpC hE.kpC).cell (j := 2) rfl
    have b3 := (HCB.out.kpC hE.kpC).cell (j := 3) rfl
    have b4 := (HCB.out.kpC hE.kpC).cell (j := 4) rfl
    have b5 := (HCB.out.kpC hE.kpC).cell (j := 5) rfl
    have b6 := (HCB.out.kpC hE.kpC).cell (j := 6) rfl
    clear ha hE
    go_wp2_with fail
    refine (refTwice_any c HOK.out d _ (HX.out.ext (HX0.out.trans HE.out))).mono ?_
    rintro e w1 ⟨rfl, hE1⟩
    have HE1 := Lib.hid (HE.out.trans hE1)
    clear hE1 HE b0 b1 b2 b3 b4 b5 b6
    by_cases hon : c.once
    rotate_left
    · have hd : decide (¬ c.once) = true := decide_eq_true hon
      rw [hd]
      have HON := Lib.hid hon
      clear hd hon
      have hrw := HRB.out.kpC HE1.out.kpC
      have r0 := (hrw).cell (j := 0) rfl
      have r1 := (hrw).cell (j := 1) rfl
      have r2 := (hrw).cell (j := 2) rfl
      have r3 := (hrw).cell (j := 3) rfl
      have r4 := (hrw).cell (j := 4) rfl
      have r5 := (hrw).cell (j := 5) rfl
      have r6 := (hrw).cell (j := 6) rfl
      have f0 := (hrw).froz 0
      have f1 := (hrw).froz 1
      have f2 := (hrw).froz 2
      have f3 := (hrw).froz 3
      have f4 := (hrw).froz 4
      have f5 := (hrw).froz 5
      have f6 := (hrw).froz 6
      go_wp2_with fail
      obtain ⟨Wf, hWf⟩ : ∃ Wf, w1.setCells (w.heap.size + 1) 0 [.slice none 0 0, .slice none 0 0, .slice none 0 0, .slice none 0 0, .slice none 0 0, .slice none 0 0, .slice none 0 0] = Wf := ⟨_, rfl⟩
      have hgr := setCells_grown (w.heap.size + 1) [.slice none 0 0, .slice none 0 0, .slice none 0 0, .slice none 0 0, .slice none 0 0, .slice none 0 0, .slice none 0 0] w1 0
      have hrow : Row (w1.setCells (w.heap.size + 1) 0 [.slice none 0 0, .slice none 0 0, .slice none 0 0, .slice none 0 0, .slice none 0 0, .slice none 0 0, .slice none 0 0]) (w.heap.size + 1) 29 [.slice none 0 0, .slice none 0 0, .slice none 0 0, .slice none 0 0, .slice none 0 0, .slice none 0 0, .slice none 0 0] := hrw.set (vs := [.slice none 0 0, .slice none 0 0, .slice none 0 0, .slice none 0 0, .slice none 0 0, .slice none 0 0, .slice none 0 0]) (o := 0) (Nat.le_refl _)
      rw [hWf] at hgr hrow
      clear r0 r1 r2 r3 r4 r5 r6 f0 f1 f2 f3 f4 f5 f6 hrw
      rw [show (((((((w1.setCell ⟨w.heap.size + 1, 0, none⟩ (.slice none 0 0)).setCell ⟨w.heap.size + 1, 1, none⟩ (.slice none 0 0)).setCell ⟨w.heap.size + 1, 2, none⟩ (.slice none 0 0)).setCell ⟨w.heap.size + 1, 3, none⟩ (.slice none 0 0)).setCell ⟨w.heap.size + 1, 4, none⟩ (.slice none 0 0)).setCell ⟨w.heap.size + 1, 5, none⟩ (.slice none 0 0)).setCell ⟨w.heap.size + 1, 6, none⟩ (.slice none 0 0)) = Wf from hWf]
      have hEf : Ext w Wf := Below.grown (HX0.out.trans HE1.out) hgr (HX0.out.trans HE1.out).size (fun x hx => by cases hx; omega)
      have e0 := (hrow).cell (j := 0) rfl
      have e1 := (hrow).cell (j := 1) rfl
      have e2 := (hrow).cell (j := 2) rfl
      have e3 := (hrow).cell (j := 3) rfl
      have e4 := (hrow).cell (j := 4) rfl
      have e5 := (hrow).cell (j := 5) rfl
      have e6 := (hrow).cell (j := 6) rfl
      exact ⟨rfl, .tuple #[.agg #[.slice none 0 0, .slice none 0 0, .slice none 0 0, .slice none 0 0, .slice none 0 0, .slice none 0 0, .slice none 0 0], .int .i64 111], by simp [results, Try.results13, go_sem, e0, e1, e2, e3, e4, e5, e6], res_err (Cat.resN_twice HA.out HON.out) hEf⟩
    have hd : decide (¬ c.once) = false := decide_eq_false fun h => h hon
    rw [hd]
    have HON := Lib.hid hon
    clear hd hon
    have b0 := (HCB.out.kpC HE1.out.kpC).cell (j := 0) rfl
    have b1 := (HCB.out.kpC HE1.out.kpC).cell (j := 1) rfl
    have b2 := (HCB.out.kpC HE1.out.kpC).cell (j := 2) rfl
    have b3 := (HCB.out.kpC HE1.out.kpC).cell (j := 3) rfl
    have b4 := (HCB.out.kpC HE1.out.kpC).cell (j := 4) rfl
    have b5 := (HCB.out.kpC HE1.out.kpC).cell (j := 5) rfl
    have b6 := (HCB.out.kpC HE1.out.kpC).cell (j := 6) rfl
    go_upto_block 4 with fail
    have HBLD0 : Hid (Bld w0 (w1.alloc (.cells #[(.slice (some ⟨w1.heap.size + 1, 0, none⟩) 0 0), .slice d.a1 c.sm.length d.k1, .slice d.a2 c.pg.length d.k2, .slice d.a3 c.kl.length d.k3, .slice d.a4 c.fe.length d.k4, .slice d.a5 c.ho.length d.k5, .slice d.a6 c.cu.length d.k6] 29)) w1.heap.size 0 29 41 16 (fun u => [u, .slice d.a1 c.sm.length d.k1, .slice d.a2 c.pg.length d.k2, .slice d.a3 c.kl.length d.k3, .slice d.a4 c.fe.length d.k4, .slice d.a5 c.ho.length d.k5, .slice d.a6 c.cu.length d.k6]) (fun (x : Cr) q V => CrN (w1.alloc (.cells #[(.slice (some ⟨w1.heap.size + 1, 0, none⟩) 0 0), .slice d.a1 c.sm.length d.k1, .slice d.a2 c.pg.length d.k2, .slice d.a3 c.kl.length d.k3, .slice d.a4 c.fe.length d.k4, .slice d.a5 c.ho.length d.k5, .slice d.a6 c.cu.length d.k6] 29)).heap.size V (x.resT c.cs).1 q) c.cs 0 (.slice (some ⟨w1.heap.size + 1, 0, none⟩) 0 0) [] ((w1.alloc (.cells #[(.slice (some ⟨w1.heap.size + 1, 0, none⟩) 0 0), .slice d.a1 c.sm.length d.k1, .slice d.a2 c.pg.length d.k2, .slice d.a3 c.kl.length d.k3, .slice d.a4 c.fe.length d.k4, .slice d.a5 c.ho.length d.k5, .slice d.a6 c.cu.length d.k6] 29)).alloc (.cells #[] 41))) := Lib.hid (Bld.start0 (by simp) (HE1.out.alloc _) (row_al _ _ _))
    have HNA : Hid ((w1.alloc (.cells #[(.slice (some ⟨w1.heap.size + 1, 0, none⟩) 0 0), .slice d.a1 c.sm.length d.k1, .slice d.a2 c.pg.length d.k2, .slice d.a3 c.kl.length d.k3, .slice d.a4 c.fe.length d.k4, .slice d.a5 c.ho.length d.k5, .slice d.a6 c.cu.length d.k6] 29)).heap.size = w1.heap.size + 1) := Lib.hid (by simp)
    have H0Y := Lib.hid HE1.out.size
    have HEA : Hid (Ext w0 (w1.alloc (.cells #[(.slice (some ⟨w1.heap.size + 1, 0, none⟩) 0 0), .slice d.a1 c.sm.length d.k1, .slice d.a2 c.pg.length d.k2, .slice d.a3 c.kl.length d.k3, .slice d.a4 c.fe.length d.k4, .slice d.a5 c.ho.length d.k5, .slice d.a6 c.cu.length d.k6] 29))) := Lib.hid (HE1.out.alloc _)
    clear b0 b1 b2 b3 b4 b5 b6
    obtain ⟨wA, hwA⟩ : ∃ wA, (w1.alloc (.cells #[(.slice (some ⟨w1.heap.size + 1, 0, none⟩) 0 0), .slice d.a1 c.sm.length d.k1, .slice d.a2 c.pg.length d.k2, .slice d.a3 c.kl.length d.k3, .slice d.a4 c.fe.length d.k4, .slice d.a5 c.ho.length d.k5, .slice d.a6 c.cu.length d.k6] 29)) = wA := ⟨_, rfl⟩
    rw [hwA] at HBLD0 HNA HEA
    rw [hwA]
    obtain ⟨wB, hwB⟩ : ∃ wB, wA.alloc (.cells #[] 41) = wB := ⟨_, rfl⟩
    rw [hwB] at HBLD0
    rw [hwB]
    obtain ⟨Y, hY⟩ : ∃ Y, w1.heap.size = Y := ⟨_, rfl⟩
    rw [hY] at HBLD0 HNA H0Y
    rw [hY]
    clear hwA hwB hY
    go_wp2_with fail
    refine Code.wp_mono (Q := gxQ 4 _) (fun e a V h => ?_) (by apply loop3R c HOK.out HB.out d w w0 HX.out HX0.out HCB.out Y H0Y.out wA wB HNA.out HBLD0.out)
    obtain ⟨rfl, hF⟩ := gxQ_cases h
    clear h HBLD0
    obtain ⟨y8, hF⟩ := hF
    obtain ⟨y9, hF⟩ := hF
    obtain ⟨y10, hF⟩ := hF
    obtain ⟨y11, hF⟩ := hF
    obtain ⟨y12, hF⟩ := hF
    obtain ⟨y13, hF⟩ := hF
    obtain ⟨y78, hF⟩ := hF
    obtain ⟨y79, hF⟩ := hF
    obtain ⟨y80, hF⟩ := hF
    obtain ⟨y81, hF⟩ := hF
    obtain ⟨y82, hF⟩ := hF
    obtain ⟨y83, hF⟩ := hF
    obtain ⟨y84, hF⟩ := hF
    obtain ⟨y85, hF⟩ := hF
    obtain ⟨y86, hF⟩ := hF
    obtain ⟨y87, hF⟩ := hF
    obtain ⟨y88, hF⟩ := hF
    obtain ⟨y89, hF⟩ := hF
    obtain ⟨y90, hF⟩ := hF
    obtain ⟨y91, hF⟩ := hF
    obtain ⟨y92, hF⟩ := hF
    obtain ⟨y93, hF⟩ := hF
    obtain ⟨y94, hF⟩ := hF
    obtain ⟨y95, hF⟩ := hF
    obtain ⟨y96, hF⟩ := hF
    obtain ⟨y97, hF⟩ := hF
    obtain ⟨y98, hF⟩ := hF
    obtain ⟨y99, hF⟩ := hF
    obtain ⟨y100, hF⟩ := hF
    obtain ⟨y101, hF⟩ := hF
    obtain ⟨y102, hF⟩ := hF
    obtain ⟨y103, hF⟩ := hF
    obtain ⟨y104, hF⟩ := hF
    obtain ⟨y105, hF⟩ := hF
    obtain ⟨y106, hF⟩ := hF
    obtain ⟨y107, hF⟩ := hF
    obtain ⟨y108, hF⟩ := hF
    obtain ⟨y109, hF⟩ := hF
    obtain ⟨y110, hF⟩ := hF
    obtain ⟨y111, hF⟩ := hF
    obtain ⟨y112, hF⟩ := hF
    obtain ⟨y113, hF⟩ := hF
    obtain ⟨y114, hF⟩ := hF
    obtain ⟨y115, hF⟩ := hF
    obtain ⟨y116, hF⟩ := hF
    obtain ⟨y117, hF⟩ := hF
    obtain ⟨y118, hF⟩ := hF
    obtain ⟨y119, hF⟩ := hF
    obtain ⟨y120, hF⟩ := hF
    obtain ⟨rfl, v, rowsC, hbl⟩ := hF
    obtain ⟨aC, kC, rfl⟩ := ownsRow_slice hbl.own
    have HBLC := Lib.hid hbl
    have y1 : V.cell? ⟨Y, 1, none⟩ = some (.slice d.a1 c.sm.length d.k1) := hbl.row.cell rfl
    have z1 := hbl.row.froz 1
    have gy1 := al_cell y1 (.cells #[] 51)
    have gz1 := (al_row hbl.row (.cells #[] 51)).froz 1
    clear hbl
    obtain ⟨wC, hwC⟩ : ∃ wC, wC = V := ⟨_, rfl⟩
    subst hwC
    go_upto_block 6 with fail
    clear y1 z1 gy1 gz1
    have HYC : Hid (Y < wC.heap.size) := Lib.hid (by have := HBLC.out.kp.1; have := HNA.out; omega)
    have HBLD1 : Hid (Bld w0 wC Y 1 29 51 4 (fun u => [(.slice aC c.cs.length kC), u, .slice d.a2 c.pg.length d.k2, .slice d.a3 c.kl.length d.k3, .slice d.a4 c.fe.length d.k4, .slice d.a5 c.ho.length d.k5, .slice d.a6 c.cu.length d.k6]) (fun (x : Pr) q (_ : World) => q = (x.resT c.cs).1.cells) c.sm 0 (.slice (some ⟨wC.heap.size, 0, none⟩) 0 0) [] ((wC.alloc (.cells #[] 51)).setCell ⟨Y, 1, none⟩ (.slice (some ⟨wC.heap.size, 0, none⟩) 0 0))) := Lib.hid (Bld.start (u := .slice d.a1 c.sm.length d.k1) HBLC.out.ext H0Y.out HYC.out HBLC.out.row (fun _ _ => rfl) (fun _ => (by decide : 1 + 1 ≤ 7)))
    obtain ⟨wB4, hwB4⟩ : ∃ wB4, ((wC.alloc (.cells #[] 51)).setCell ⟨Y, 1, none⟩ (.slice (some ⟨wC.heap.size, 0, none⟩) 0 0)) = wB4 := ⟨_, rfl⟩
    rw [hwB4] at HBLD1
    rw [hwB4]
    clear hwB4
    obtain ⟨g3, hg3⟩ : ∃ g3, (c.cs.all fun x => (x.resT c.cs).2) = g3 := ⟨_, rfl⟩
    have HG3 := Lib.hid hg3
    rw [hg3]
    clear hg3
    go_wp2_with fail
    refine Code.wp_mono (Q := gxQ 6 _) (fun e a V h => ?_) (by apply loop4R c HOK.out HB.out d w w0 HX.out HX0.out HCB.out Y H0Y.out wC wB4 aC kC g3 HYC.out HBLD1.out)
    obtain ⟨rfl, hF⟩ := gxQ_cases h
    clear h HBLD1
    obtain ⟨y14, hF⟩ := hF
    obtain ⟨y15, hF⟩ := hF
    obtain ⟨y16, hF⟩ := hF
    obtain ⟨y17, hF⟩ := hF
    obtain ⟨y18, hF⟩ := hF
    obtain ⟨y19, hF⟩ := hF
    obtain ⟨y123, hF⟩ := hF
    obtain ⟨y124, hF⟩ := hF
    obtain ⟨y125, hF⟩ := hF
    obtain ⟨y126, hF⟩ := hF
    obtain ⟨y127, hF⟩ := hF
    obtain ⟨y128, hF⟩ := hF
    obtain ⟨y129, hF⟩ := hF
    obtain ⟨y130, hF⟩ := hF
    obtain ⟨y131, hF⟩ := hF
    obtain ⟨y132, hF⟩ := hF
    obtain ⟨y133, hF⟩ := hF
    obtain ⟨y134, hF⟩ := hF
    obtain ⟨y135, hF⟩ := hF
    obtain ⟨y136, hF⟩ := hF
    obtain ⟨y137, hF⟩ := hF
    obtain ⟨y138, hF⟩ := hF
    obtain ⟨y139, hF⟩ := hF
    obtain ⟨y140, hF⟩ := hF
    obtain ⟨y141, hF⟩ := hF
    obtain ⟨y142, hF⟩ := hF
    obtain ⟨y143, hF⟩ := hF
    obtain ⟨y144, hF⟩ := hF
    obtain ⟨y145, hF⟩ := hF
    obtain ⟨y146, hF⟩ := hF
    obtain ⟨y147, hF⟩ := hF
    obtain ⟨y148, hF⟩ := hF
    obtain ⟨y149, hF⟩ := hF
    obtain ⟨y150, hF⟩ := hF
    obtain ⟨y151, hF⟩ := hF
    obtain ⟨y152, hF⟩ := hF
    obtain ⟨y153, hF⟩ := hF
    obtain ⟨y154, hF⟩ := hF
    obtain ⟨y155, hF⟩ := hF
    obtain ⟨y156, hF⟩ := hF
    obtain ⟨y157, hF⟩ := hF
    obtain ⟨y158, hF⟩ := hF
    obtain ⟨y159, hF⟩ := hF
    obtain ⟨y160, hF⟩ := hF
    obtain ⟨y161, hF⟩ := hF
    obtain ⟨y162, hF⟩ := hF
    obtain ⟨y163, hF⟩ := hF
    obtain ⟨y164, hF⟩ := hF
    obtain ⟨y165, hF⟩ := hF
    obtain ⟨y166, hF⟩ := hF
    obtain ⟨y167, hF⟩ := hF
    obtain ⟨y168, hF⟩ := hF
    obtain ⟨y169, hF⟩ := hF
    obtain ⟨rfl, v, rowsS, hbl⟩ := hF
    obtain ⟨aS, kS, rfl⟩ := ownsRow_slice hbl.own
    have HBLS := Lib.hid hbl
    have y2 : V.cell? ⟨Y, 2, none⟩ = some (.slice d.a2 c.pg.length d.k2) := hbl.row.cell rfl
    have z2 := hbl.row.froz 2
    have gy2 := al_cell y2 (.cells #[] 62)
    have gz2 := (al_row hbl.row (.cells #[] 62)).froz 2
    clear hbl
    obtain ⟨wD, hwD⟩ : ∃ wD, wD = V := ⟨_, rfl⟩
    subst hwD
    go_upto_block 8 with fail
    clear y2 z2 gy2 gz2
    have HYD : Hid (Y < wD.heap.size) := Lib.hid (by have := HBLS.out.kp.1; have := HYC.out; omega)
    have HBLD2 : Hid (Bld w0 wD Y 2 29 62 7 (fun u => [(.slice aC c.cs.length kC), (.slice aS c.sm.length kS), u, .slice d.a3 c.kl.length d.k3, .slice d.a4 c.fe.length d.k4, .slice d.a5 c.ho.length d.k5, .slice d.a6 c.cu.length d.k6]) (fun (x : Pg) q V => PgN w wD.heap.size V (x.resT c.cs).1 q) c.pg 0 (.slice (some ⟨wD.heap.size, 0, none⟩) 0 0) [] ((wD.alloc (.cells #[] 62)).setCell ⟨Y, 2, none⟩ (.slice (some ⟨wD.heap.size, 0, none⟩) 0 0))) := Lib.hid (Bld.start (u := .slice d.a2 c.pg.length d.k2) HBLS.out.ext H0Y.out HYD.out HBLS.out.row (fun _ _ => rfl) (fun _ => (by decide : 2 + 1 ≤ 7)))
    obtain ⟨wB5, hwB5⟩ : ∃ wB5, ((wD.alloc (.cells #[] 62)).setCell ⟨Y, 2, none⟩ (.slice (some ⟨wD.heap.size, 0, none⟩) 0 0)) = wB5 := ⟨_, rfl⟩
    rw [hwB5] at HBLD2
    rw [hwB5]
    clear hwB5
    obtain ⟨g4, hg4⟩ : ∃ g4, (g3 && c.sm.all fun x => (x.resT c.cs).2) = g4 := ⟨_, rfl⟩
    have HG4 := Lib.hid hg4
    rw [hg4]
    clear hg4
    go_wp2_with fail
    refine Code.wp_mono (Q := gxQ 8 _) (fun e a V h => ?_) (by apply loop5R c HOK.out HB.out d w w0 HX.out HX0.out HCB.out Y H0Y.out wD wB5 aC aS kC kS g4 HA.out HYD.out HBLD2.out)
    obtain ⟨rfl, hF⟩ := gxQ_cases h
    clear h HBLD2
    obtain ⟨y20, hF⟩ := hF
    obtain ⟨y21, hF⟩ := hF
    obtain ⟨y22, hF⟩ := hF
    obtain ⟨y23, hF⟩ := hF
    obtain ⟨y24, hF⟩ := hF
    obtain ⟨y25, hF⟩ := hF
    obtain ⟨y26, hF⟩ := hF
    obtain ⟨y27, hF⟩ := hF
    obtain ⟨y172, hF⟩ := hF
    obtain ⟨y173, hF⟩ := hF
    obtain ⟨y174, hF⟩ := hF
    obtain ⟨y175, hF⟩ := hF
    obtain ⟨y176, hF⟩ := hF
    obtain ⟨y177, hF⟩ := hF
    obtain ⟨y178, hF⟩ := hF
    obtain ⟨y179, hF⟩ := hF
    obtain ⟨y180, hF⟩ := hF
    obtain ⟨y181, hF⟩ := hF
    obtain ⟨y182, hF⟩ := hF
    obtain ⟨y183, hF⟩ := hF
    obtain ⟨y184, hF⟩ := hF
    obtain ⟨y185, hF⟩ := hF
    obtain ⟨y186, hF⟩ := hF
    obtain ⟨y187, hF⟩ := hF
    obtain ⟨y188, hF⟩ := hF
    obtain ⟨y189, hF⟩ := hF
    obtain ⟨y190, hF⟩ := hF
    obtain ⟨y191, hF⟩ := hF
    obtain ⟨y192, hF⟩ := hF
    obtain ⟨y193, hF⟩ := hF
    obtain ⟨y194, hF⟩ := hF
    obtain ⟨y195, hF⟩ := hF
    obtain ⟨y196, hF⟩ := hF
    obtain ⟨y197, hF⟩ := hF
    obtain ⟨y198, hF⟩ := hF
    obtain ⟨y199, hF⟩ := hF
    obtain ⟨y200, hF⟩ := hF
    obtain ⟨y201, hF⟩ := hF
    obtain ⟨y202, hF⟩ := hF
    obtain ⟨y203, hF⟩ := hF
    obtain ⟨y204, hF⟩ := hF
    obtain ⟨y205, hF⟩ := hF
    obtain ⟨y206, hF⟩ := hF
    obtain ⟨y207, hF⟩ := hF
    obtain ⟨y208, hF⟩ := hF
    obtain ⟨y209, hF⟩ := hF
    obtain ⟨y210, hF⟩ := hF
    obtain ⟨y211, hF⟩ := hF
    obtain ⟨y212, hF⟩ := hF
    obtain ⟨y213, hF⟩ := hF
    obtain ⟨y214, hF⟩ := hF
    obtain ⟨y215, hF⟩ := hF
    obtain ⟨y216, hF⟩ := hF
    obtain ⟨y217, hF⟩ := hF
    obtain ⟨y218, hF⟩ := hF
    obtain ⟨y219, hF⟩ := hF
    obtain ⟨y220, hF⟩ := hF
    obtain ⟨y221, hF⟩ := hF
    obtain ⟨y222, hF⟩ := hF
    obtain ⟨y223, hF⟩ := hF
    obtain ⟨y224, hF⟩ := hF
    obtain ⟨y225, hF⟩ := hF
    obtain ⟨y226, hF⟩ := hF
    obtain ⟨y227, hF⟩ := hF
    obtain ⟨y228, hF⟩ := hF
    obtain ⟨y229, hF⟩ := hF
    obtain ⟨y230, hF⟩ := hF
    obtain ⟨y231, hF⟩ := hF
    obtain ⟨y232, hF⟩ := hF
    obtain ⟨y233, hF⟩ := hF
    obtain ⟨y234, hF⟩ := hF
    obtain ⟨y235, hF⟩ := hF
    obtain ⟨y236, hF⟩ := hF
    obtain ⟨y237, hF⟩ := hF
    obtain ⟨y238, hF⟩ := hF
    obtain ⟨y239, hF⟩ := hF
    obtain ⟨y240, hF⟩ := hF
    obtain ⟨y241, hF⟩ := hF
    obtain ⟨y242, hF⟩ := hF
    obtain ⟨y243, hF⟩ := hF
    obtain ⟨y244, hF⟩ := hF
    obtain ⟨y245, hF⟩ := hF
    obtain ⟨y246, hF⟩ := hF
    obtain ⟨y247, hF⟩ := hF
    obtain ⟨y248, hF⟩ := hF
    obtain ⟨y249, hF⟩ := hF
    obtain ⟨y250, hF⟩ := hF
    obtain ⟨rfl, v, rowsP, hbl⟩ := hF
    obtain ⟨aP, kP, rfl⟩ := ownsRow_slice hbl.own
    have HBLP := Lib.hid hbl
    have HE := Lib.hid hbl.ext
    obtain ⟨wF, hwF⟩ : ∃ z, z = V := ⟨_, rfl⟩
    subst hwF
    clear hbl
    have hgood : (g4 && c.pg.all fun x => (x.resT c.cs).2) = c.good := by rw [← HG4.out, ← HG3.out]; rfl
    rw [hgood]
    clear hgood
    cases hgd : c.good with
    | false =>
      have HGD := Lib.hid ((nums_T c).2 hgd)
      clear hgd
      have hrw := HRB.out.kpC HE.out.kpC
      have r0 := (hrw).cell (j := 0) rfl
      have r1 := (hrw).cell (j := 1) rfl
      have r2 := (hrw).cell (j := 2) rfl
      have r3 := (hrw).cell (j := 3) rfl
      have r4 := (hrw).cell (j := 4) rfl
      have r5 := (hrw).cell (j := 5) rfl
      have r6 := (hrw).cell (j := 6) rfl
      have f0 := (hrw).froz 0
      have f1 := (hrw).froz 1
      have f2 := (hrw).froz 2
      have f3 := (hrw).froz 3
      have f4 := (hrw).froz 4
      have f5 := (hrw).froz 5
      have f6 := (hrw).froz 6
      go_wp2_with fail
      obtain ⟨Wf, hWf⟩ : ∃ Wf, wF.setCells (w.heap.size + 1) 0 [.slice none 0 0, .slice none 0 0, .slice none 0 0, .slice none 0 0, .slice none 0 0, .slice none 0 0, .slice none 0 0] = Wf := ⟨_, rfl⟩
      have hgr := setCells_grown (w.heap.size + 1) [.slice none 0 0, .slice none 0 0, .slice none 0 0, .slice none 0 0, .slice none 0 0, .slice none 0 0, .slice none 0 0] wF 0
      have hrow : Row (wF.setCells (w.heap.size + 1) 0 [.slice none 0 0, .slice none 0 0, .slice none 0 0, .slice none 0 0, .slice none 0 0, .slice none 0 0, .slice none 0 0]) (w.heap.size + 1) 29 [.slice none 0 0, .slice none 0 0, .slice none 0 0, .slice none 0 0, .slice none 0 0, .slice none 0 0, .slice none 0 0] := hrw.set (vs := [.slice none 0 0, .slice none 0 0, .slice none 0 0, .slice none 0 0, .slice none 0 0, .slice none 0 0, .slice none 0 0]) (o := 0) (Nat.le_refl _)
      rw [hWf] at hgr hrow
      clear r0 r1 r2 r3 r4 r5 r6 f0 f1 f2 f3 f4 f5 f6 hrw
      rw [show (((((((wF.setCell ⟨w.heap.size + 1, 0, none⟩ (.slice none 0 0)).setCell ⟨w.heap.size + 1, 1, none⟩ (.slice none 0 0)).setCell ⟨w.heap.size + 1, 2, none⟩ (.slice none 0 0)).setCell ⟨w.heap.size + 1, 3, none⟩ (.slice none 0 0)).setCell ⟨w.heap.size + 1, 4, none⟩ (.slice none 0 0)).setCell ⟨w.heap.size + 1, 5, none⟩ (.slice none 0 0)).setCell ⟨w.heap.size + 1, 6, none⟩ (.slice none 0 0)) = Wf from hWf]
      have hEf : Ext w Wf := Below.grown (HX0.out.trans HE.out) hgr (HX0.out.trans HE.out).size (fun x hx => by cases hx; omega)
      have e0 := (hrow).cell (j := 0) rfl
      have e1 := (hrow).cell (j := 1) rfl
      have e2 := (hrow).cell (j := 2) rfl
      have e3 := (hrow).cell (j := 3) rfl
      have e4 := (hrow).cell (j := 4) rfl
      have e5 := (hrow).cell (j := 5) rfl
      have e6 := (hrow).cell (j := 6) rfl
      exact ⟨rfl, .tuple #[.agg #[.slice none 0 0, .slice none 0 0, .slice none 0 0, .slice none 0 0, .slice none 0 0, .slice none 0 0, .slice none 0 0], .int .i64 110], by simp [results, Try.results13, go_sem, e0, e1, e2, e3, e4, e5, e6], res_err (Cat.resN_name HA.out HON.out HGD.out) hEf⟩
    | true =>
      have HGD := Lib.hid ((nums_T c).1 hgd)
      clear hgd
      have b0 := (HCB.out.kpC HE.out.kpC).cell (j := 0) rfl
      have b1 := (HCB.out.kpC HE.out.kpC).cell (j := 1) rfl
      have b2 := (HCB.out.kpC HE.out.kpC).cell (j := 2) rfl
      have b3 := (HCB.out.kpC HE.out.kpC).cell (j := 3) rfl
      have b4 := (HCB.out.kpC HE.out.kpC).cell (j := 4) rfl
      have b5 := (HCB.out.kpC HE.out.kpC).cell (j := 5) rfl
      have b6 := (HCB.out.kpC HE.out.kpC).cell (j := 6) rfl
      go_wp2_with fail
      clear b0 b1 b2 b3 b4 b5 b6
      refine (refOrder_any c.cs (by have := HOK.out.n0; omega) (fun x hx => (HB.out x hx).1) d.a0 d.k0 (.slice d.a1 c.sm.length d.k1) (.slice d.a2 c.pg.length d.k2) (.slice d.a3 c.kl.length d.k3) (.slice d.a4 c.fe.length d.k4) (.slice d.a5 c.ho.length d.k5) (.slice d.a6 c.cu.length d.k6) _ (HX.out.cs.ext (HX0.out.trans HE.out))).mono ?_
      rintro e w9 ⟨oa, oc, rfl, -, hE9⟩
      have HE9 := Lib.hid (HE.out.trans hE9)
      by_cases hcy : (listedN c.cs).1.length < c.cs.length
      · have hz : ordE c.cs = 112 := by unfold ordE; rw [if_pos hcy]
        rw [hz]
        have HCY := Lib.hid hcy
        clear hz hcy hE9
        have hrw := HRB.out.kpC HE9.out.kpC
        have r0 := (hrw).cell (j := 0) rfl
        have r1 := (hrw).cell (j := 1) rfl
        have r2 := (hrw).cell (j := 2) rfl
        have r3 := (hrw).cell (j := 3) rfl
        have r4 := (hrw).cell (j := 4) rfl
        have r5 := (hrw).cell (j := 5) rfl
        have r6 := (hrw).cell (j := 6) rfl
        have f0 := (hrw).froz 0
        have f1 := (hrw).froz 1
        have f2 := (hrw).froz 2
        have f3 := (hrw).froz 3
        have f4 := (hrw).froz 4
        have f5 := (hrw).froz 5
        have f6 := (hrw).froz 6
        go_wp2_with fail
        obtain ⟨Wf, hWf⟩ : ∃ Wf, w9.setCells (w.heap.size + 1) 0 [.slice none 0 0, .slice none 0 0, .slice none 0 0, .slice none 0 0, .slice none 0 0, .slice none 0 0, .slice none 0 0] = Wf := ⟨_, rfl⟩
        have hgr := setCells_grown (w.heap.size + 1) [.slice none 0 0, .slice none 0 0, .slice none 0 0, .slice none 0 0, .slice none 0 0, .slice none 0 0, .slice none 0 0] w9 0
        have hrow : Row (w9.setCells (w.heap.size + 1) 0 [.slice none 0 0, .slice none 0 0, .slice none 0 0, .slice none 0 0, .slice none 0 0, .slice none 0 0, .slice none 0 0]) (w.heap.size + 1) 29 [.slice none 0 0, .slice none 0 0, .slice none 0 0, .slice none 0 0, .slice none 0 0, .slice none 0 0, .slice none 0 0] := hrw.set (vs := [.slice none 0 0, .slice none 0 0, .slice none 0 0, .slice none 0 0, .slice none 0 0, .slice none 0 0, .slice none 0 0]) (o := 0) (Nat.le_refl _)
        rw [hWf] at hgr hrow
        clear r0 r1 r2 r3 r4 r5 r6 f0 f1 f2 f3 f4 f5 f6 hrw
        rw [show (((((((w9.setCell ⟨w.heap.size + 1, 0, none⟩ (.slice none 0 0)).setCell ⟨w.heap.size + 1, 1, none⟩ (.slice none 0 0)).setCell ⟨w.heap.size + 1, 2, none⟩ (.slice none 0 0)).setCell ⟨w.heap.size + 1, 3, none⟩ (.slice none 0 0)).setCell ⟨w.heap.size + 1, 4, none⟩ (.slice none 0 0)).setCell ⟨w.heap.size + 1, 5, none⟩ (.slice none 0 0)).setCell ⟨w.heap.size + 1, 6, none⟩ (.slice none 0 0)) = Wf from hWf]
        have hEf : Ext w Wf := Below.grown (HX0.out.trans HE9.out) hgr (HX0.out.trans HE9.out).size (fun x hx => by cases hx; omega)
        have e0 := (hrow).cell (j := 0) rfl
        have e1 := (hrow).cell (j := 1) rfl
        have e2 := (hrow).cell (j := 2) rfl
        have e3 := (hrow).cell (j := 3) rfl
        have e4 := (hrow).cell (j := 4) rfl
        have e5 := (hrow).cell (j := 5) rfl
        have e6 := (hrow).cell (j := 6) rfl
        exact ⟨rfl, .tuple #[.agg #[.slice none 0 0, .slice none 0 0, .slice none 0 0, .slice none 0 0, .slice none 0 0, .slice none 0 0, .slice none 0 0], .int .i64 112], by simp [results, Try.results13, go_sem, e0, e1, e2, e3, e4, e5, e6], res_err (Cat.resN_cycle HA.out HON.out HGD.out HCY.out) hEf⟩
      · have hz : ordE c.cs = 0 := by unfold ordE; rw [if_neg hcy]
        rw [hz]
        have HRES := Lib.hid (Cat.resN_ok HA.out HON.out HGD.out hcy)
        clear hz hcy
        have hrw := HRB.out.kpC HE9.out.kpC
        have r0 := (hrw).cell (j := 0) rfl
        have r1 := (hrw).cell (j := 1) rfl
        have r2 := (hrw).cell (j := 2) rfl
        have r3 := (hrw).cell (j := 3) rfl
        have r4 := (hrw).cell (j := 4) rfl
        have r5 := (hrw).cell (j := 5) rfl
        have r6 := (hrw).cell (j := 6) rfl
        have f0 := (hrw).froz 0
        have f1 := (hrw).froz 1
        have f2 := (hrw).froz 2
        have f3 := (hrw).froz 3
        have f4 := (hrw).froz 4
        have f5 := (hrw).froz 5
        have f6 := (hrw).froz 6
        have hyr : Row w9 Y 29 [.slice aC c.cs.length kC, .slice aS c.sm.length kS, .slice aP c.pg.length kP, .slice d.a3 c.kl.length d.k3, .slice d.a4 c.fe.length d.k4, .slice d.a5 c.ho.length d.k5, .slice d.a6 c.cu.length d.k6] := HBLP.out.row.kpC hE9.kpC
        have y0 := (hyr).cell (j := 0) rfl
        have y1 := (hyr).cell (j := 1) rfl
        have y2 := (hyr).cell (j := 2) rfl
        have y3 := (hyr).cell (j := 3) rfl
        have y4 := (hyr).cell (j := 4) rfl
        have y5 := (hyr).cell (j := 5) rfl
        have y6 := (hyr).cell (j := 6) rfl
        go_wp2_with fail
        obtain ⟨Wf, hWf⟩ : ∃ Wf, w9.setCells (w.heap.size + 1) 0 [.slice aC c.cs.length kC, .slice aS c.sm.length kS, .slice aP c.pg.length kP, .slice d.a3 c.kl.length d.k3, .slice d.a4 c.fe.length d.k4, .slice d.a5 c.ho.length d.k5, .slice d.a6 c.cu.length d.k6] = Wf := ⟨_, rfl⟩
        have hgr := setCells_grown (w.heap.size + 1) [.slice aC c.cs.length kC, .slice aS c.sm.length kS, .slice aP c.pg.length kP, .slice d.a3 c.kl.length d.k3, .slice d.a4 c.fe.length d.k4, .slice d.a5 c.ho.length d.k5, .slice d.a6 c.cu.length d.k6] w9 0
        have hrow : Row (w9.setCells (w.heap.size + 1) 0 [.slice aC c.cs.length kC, .slice aS c.sm.length kS, .slice aP c.pg.length kP, .slice d.a3 c.kl.length d.k3, .slice d.a4 c.fe.length d.k4, .slice d.a5 c.ho.length d.k5, .slice d.a6 c.cu.length d.k6]) (w.heap.size + 1) 29 [.slice aC c.cs.length kC, .slice aS c.sm.length kS, .slice aP c.pg.length kP, .slice d.a3 c.kl.length d.k3, .slice d.a4 c.fe.length d.k4, .slice d.a5 c.ho.length d.k5, .slice d.a6 c.cu.length d.k6] := hrw.set (vs := [.slice aC c.cs.length kC, .slice aS c.sm.length kS, .slice aP c.pg.length kP, .slice d.a3 c.kl.length d.k3, .slice d.a4 c.fe.length d.k4, .slice d.a5 c.ho.length d.k5, .slice d.a6 c.cu.length d.k6]) (o := 0) (Nat.le_refl _)
        rw [hWf] at hgr hrow
        clear r0 r1 r2 r3 r4 r5 r6 f0 f1 f2 f3 f4 f5 f6 y0 y1 y2 y3 y4 y5 y6 hyr
        rw [show (((((((w9.setCell ⟨w.heap.size + 1, 0, none⟩ (.slice aC c.cs.length kC)).setCell ⟨w.heap.size + 1, 1, none⟩ (.slice aS c.sm.length kS)).setCell ⟨w.heap.size + 1, 2, none⟩ (.slice aP c.pg.length kP)).setCell ⟨w.heap.size + 1, 3, none⟩ (.slice d.a3 c.kl.length d.k3)).setCell ⟨w.heap.size + 1, 4, none⟩ (.slice d.a4 c.fe.length d.k4)).setCell ⟨w.heap.size + 1, 5, none⟩ (.slice d.a5 c.ho.length d.k5)).setCell ⟨w.heap.size + 1, 6, none⟩ (.slice d.a6 c.cu.length d.k6)) = Wf from hWf]
        have hEf : Ext w Wf := Below.grown (HX0.out.trans HE9.out) hgr (HX0.out.trans HE9.out).size (fun x hx => by cases hx; omega)
        have hB0 : w.heap.size + 1 < w0.heap.size := (Array.getElem?_eq_some_iff.1 HRB.out).1
        have e0 := (hrow).cell (j := 0) rfl
        have e1 := (hrow).cell (j := 1) rfl
        have e2 := (hrow).cell (j := 2) rfl
        have e3 := (hrow).cell (j := 3) rfl
        have e4 := (hrow).cell (j := 4) rfl
        have e5 := (hrow).cell (j := 5) rfl
        have e6 := (hrow).cell (j := 6) rfl
        exact ⟨rfl, .tuple #[.agg #[.slice aC c.cs.length kC, .slice aS c.sm.length kS, .slice aP c.pg.length kP, .slice d.a3 c.kl.length d.k3, .slice d.a4 c.fe.length d.k4, .slice d.a5 c.ho.length d.k5, .slice d.a6 c.cu.length d.k6], .int .i64 0], by simp [results, Try.results13, go_sem, e0, e1, e2, e3, e4, e5, e6], res_fin HX.out HRES.out HBLC.out HBLS.out HBLP.out hE9 (grown_kpE hgr) (by have := H0Y.out; have := HNA.out; omega) (by rw [HNA.out]; exact Nat.lt_succ_self _) hEf⟩
end Go.Proofs.Ytimigpfoflilcaa
