/- Names: the laws OrderSpec and FindSpec. -/
import Derived.Test.YtimigpfoflilcaaSA
import Derived.Test.YtimigpfoflilcaaZ9
namespace Go.Proofs.Ytimigpfoflilcaa
open Go.RowKit Go.Sz
set_option maxRecDepth 1000000 in
set_option maxHeartbeats 12800000 in
theorem law_order (c : Cat) (d : Adr) (w : World) (hX : RepX w d c) (hb : ∀ x ∈ c.cs, x.need.parts.length ≤ 1048576 ∧ x.bar.parts.length ≤ 1048576) : Calls Try.prog 5 #[.agg (c.cells d).toArray] w fun e w' => e = .returned (.bool true) ∧ Ext w w' := by
  have hXA : Ext w (w.alloc (.cells #[.slice d.a0 c.cs.length d.k0, .slice d.a1 c.sm.length d.k1, .slice d.a2 c.pg.length d.k2, .slice d.a3 c.kl.length d.k3, .slice d.a4 c.fe.length d.k4, .slice d.a5 c.ho.length d.k5, .slice d.a6 c.cu.length d.k6] 29)) := (Ext.refl w).alloc _
  have HCB : Hid (Row (w.alloc (.cells #[.slice d.a0 c.cs.length d.k0, .slice d.a1 c.sm.length d.k1, .slice d.a2 c.pg.length d.k2, .slice d.a3 c.kl.length d.k3, .slice d.a4 c.fe.length d.k4, .slice d.a5 c.ho.length d.k5, .slice d.a6 c.cu.length d.k6] 29)) w.heap.size 29 [.slice d.a0 c.cs.length d.k0, .slice d.a1 c.sm.length d.k1, .slice d.a2 c.pg.length d.k2, .slice d.a3 c.kl.length d.k3, .slice d.a4 c.fe.length d.k4, .slice d.a5 c.ho.length d.k5, .slice d.a6 c.cu.length d.k6]) := Lib.hid (by unfold Row; rw [heap_al, if_pos rfl])
  have HX := Lib.hid hX
  have HB := Lib.hid hb
  have HX0 := Lib.hid hXA
  clear hX hb hXA
  unfold Cat.cells
  go_enter Try.func5, Try.ntmps5
  go_wp2_with fail
  generalize (w.alloc (.cells #[.slice d.a0 c.cs.length d.k0, .slice d.a1 c.sm.length d.k1, .slice d.a2 c.pg.length d.k2, .slice d.a3 c.kl.length d.k3, .slice d.a4 c.fe.length d.k4, .slice d.a5 c.ho.length d.k5, .slice d.a6 c.cu.length d.k6] 29)) = w0 at *
  refine (sane_any _).mono ?_
  rintro e w1 ⟨rfl, hE⟩
  have HE := Lib.hid hE
  clear hE
  have k0 := (HCB.out.kpC HE.out.kpC).cell (j := 0) rfl
  have k1 := (HCB.out.kpC HE.out.kpC).cell (j := 1) rfl
  have k2 := (HCB.out.kpC HE.out.kpC).cell (j := 2) rfl
  have k3 := (HCB.out.kpC HE.out.kpC).cell (j := 3) rfl
  have k4 := (HCB.out.kpC HE.out.kpC).cell (j := 4) rfl
  have k5 := (HCB.out.kpC HE.out.kpC).cell (j := 5) rfl
  have k6 := (HCB.out.kpC HE.out.kpC).cell (j := 6) rfl
  go_wp2_with fail
  clear k0 k1 k2 k3 k4 k5 k6
  refine (refFew_any c d w1 (HX.out.ext (HX0.out.trans HE.out)) HB.out).mono ?_
  rintro e w2 ⟨b, rfl, hiff, hE2⟩
  have HIFF := Lib.hid hiff
  have HE2 := Lib.hid (HE.out.trans hE2)
  clear hiff hE2
  cases b with
  | false =>
    go_wp2_with fail
    go_ret
    exact ⟨rfl, HX0.out.trans HE2.out⟩
  | true =>
    have hfew : c.few := HIFF.out.1 (by simp)
    have HN0 : Hid (c.cs.length ≤ 100000) := Lib.hid (by have := hfew.n0; omega)
    have HBN : Hid (∀ x ∈ c.cs, x.need.parts.length ≤ 1048576) := Lib.hid (fun x hx => (HB.out x hx).1)
    have HFEW := Lib.hid hfew
    clear hfew
    have k0 := (HCB.out.kpC HE2.out.kpC).cell (j := 0) rfl
    have k1 := (HCB.out.kpC HE2.out.kpC).cell (j := 1) rfl
    have k2 := (HCB.out.kpC HE2.out.kpC).cell (j := 2) rfl
    have k3 := (HCB.out.kpC HE2.out.kpC).cell (j := 3) rfl
    have k4 := (HCB.out.kpC HE2.out.kpC).cell (j := 4) rfl
    have k5 := (HCB.out.kpC HE2.out.kpC).cell (j := 5) rfl
    have k6 := (HCB.out.kpC HE2.out.kpC).cell (j := 6) rfl
    go_wp2_with fail
    clear k0 k1 k2 k3 k4 k5 k6
    refine (order_any c.cs HN0.out d.a0 d.k0 (.slice d.a1 c.sm.length d.k1) (.slice d.a2 c.pg.length d.k2) (.slice d.a3 c.kl.length d.k3) (.slice d.a4 c.fe.length d.k4) (.slice d.a5 c.ho.length d.k5) (.slice d.a6 c.cu.length d.k6) _ (HX.out.cs.ext (HX0.out.trans HE2.out))).mono ?_
    rintro e w3 ⟨oa, oc, rfl, ho, hE3⟩
    have HO := Lib.hid ho
    have HE3 := Lib.hid (HE2.out.trans hE3)
    clear ho hE3
    have k0 := (HCB.out.kpC HE3.out.kpC).cell (j := 0) rfl
    have k1 := (HCB.out.kpC HE3.out.kpC).cell (j := 1) rfl
    have k2 := (HCB.out.kpC HE3.out.kpC).cell (j := 2) rfl
    have k3 := (HCB.out.kpC HE3.out.kpC).cell (j := 3) rfl
    have k4 := (HCB.out.kpC HE3.out.kpC).cell (j := 4) rfl
    have k5 := (HCB.out.kpC HE3.out.kpC).cell (j := 5) rfl
    have k6 := (HCB.out.kpC HE3.out.kpC).cell (j := 6) rfl
    go_wp2_with fail
    clear k0 k1 k2 k3 k4 k5 k6
    refine (refOrder_any c.cs HN0.out HBN.out d.a0 d.k0 (.slice d.a1 c.sm.length d.k1) (.slice d.a2 c.pg.length d.k2) (.slice d.a3 c.kl.length d.k3) (.slice d.a4 c.fe.length d.k4) (.slice d.a5 c.ho.length d.k5) (.slice d.a6 c.cu.length d.k6) _ (HX.out.cs.ext (HX0.out.trans HE3.out))).mono ?_
    rintro e w4 ⟨ob, od, rfl, ho, hE4⟩
    have HP := Lib.hid ho
    have HE4 := Lib.hid (HE3.out.trans hE4)
    have HO4 := Lib.hid (HO.out.ext hE4)
    clear ho hE4
    have k0 := (HCB.out.kpC HE4.out.kpC).cell (j := 0) rfl
    have k1 := (HCB.out.kpC HE4.out.kpC).cell (j := 1) rfl
    have k2 := (HCB.out.kpC HE4.out.kpC).cell (j := 2) rfl
    have k3 := (HCB.out.kpC HE4.out.kpC).cell (j := 3) rfl
    have k4 := (HCB.out.kpC HE4.out.kpC).cell (j := 4) rfl
    have k5 := (HCB.out.kpC HE4.out.kpC).cell (j := 5) rfl
    have k6 := (HCB.out.kpC HE4.out.kpC).cell (j := 6) rfl
    have gk0 := grow_cell k0
    have gk1 := grow_cell k1
    have gk2 := grow_cell k2
    have gk3 := grow_cell k3
    have gk4 := grow_cell k4
    have gk5 := grow_cell k5
    have gk6 := grow_cell k6
    obtain ⟨ol, hol⟩ : ∃ ol, ordL c.cs = ol := ⟨_, rfl⟩
    obtain ⟨oe, hoe⟩ : ∃ oe, ordE c.cs = oe := ⟨_, rfl⟩
    obtain ⟨cy, hcy⟩ : ∃ cy, cycL c.cs = cy := ⟨_, rfl⟩
    have HCYA : Hid (∀ W, Ext w4 W → Calls Try.prog 20 #[.agg #[.slice d.a0 c.cs.length d.k0, .slice d.a1 c.sm.length d.k1, .slice d.a2 c.pg.length d.k2, .slice d.a3 c.kl.length d.k3, .slice d.a4 c.fe.length d.k4, .slice d.a5 c.ho.length d.k5, .slice d.a6 c.cu.length d.k6]] W (RetIs cy W)) := Lib.hid (fun W hW => by rw [← hcy]; exact cycle_any c.cs HN0.out d.a0 d.k0 (.slice d.a1 c.sm.length d.k1) (.slice d.a2 c.pg.length d.k2) (.slice d.a3 c.kl.length d.k3) (.slice d.a4 c.fe.length d.k4) (.slice d.a5 c.ho.length d.k5) (.slice d.a6 c.cu.length d.k6) W (HX.out.cs.ext (HX0.out.trans (HE4.out.trans hW))))
    have HCYB : Hid (∀ W, Ext w4 W → Calls Try.prog 21 #[.agg #[.slice d.a0 c.cs.length d.k0, .slice d.a1 c.sm.length d.k1, .slice d.a2 c.pg.length d.k2, .slice d.a3 c.kl.length d.k3, .slice d.a4 c.fe.length d.k4, .slice d.a5 c.ho.length d.k5, .slice d.a6 c.cu.length d.k6]] W (RetIs cy W)) := Lib.hid (fun W hW => by rw [← hcy]; exact refCycle_any c.cs HN0.out HBN.out d.a0 d.k0 (.slice d.a1 c.sm.length d.k1) (.slice d.a2 c.pg.length d.k2) (.slice d.a3 c.kl.length d.k3) (.slice d.a4 c.fe.length d.k4) (.slice d.a5 c.ho.length d.k5) (.slice d.a6 c.cu.length d.k6) W (HX.out.cs.ext (HX0.out.trans (HE4.out.trans hW))))
    rw [hol] at HO4 HP
    rw [hol, hoe]
    have hqe : (oe == oe) = true := by simp
    clear hol hoe hcy
    go_wp2_with fail
    refine wp_region_rel_all (fun i => if i = 2 then some (spV (.bool true)) else if i = 10 then some (spSL' 1 cy.length (irows cy)) else if i = 12 then some (spSL' 1 cy.length (irows cy)) else if i = 13 then some (spV (.bool true)) else none) (by kernel_rfl) (by kernel_rfl) ?_
    repeat (first
      | (refine wpRel_quick ?_ ?_ ?_ ?_
         · rfl
         · rfl
         · first | exact noEnter rfl | (intro f args W W'; go_simp)
         intro K hK
         go_big_quiet_op
         go_big_quiet_on)
      | (refine wpRel_skip ?_ ?_
         · rfl
         simp only [Act.put, List.setIfInBounds_toArray, List.set_cons_zero, List.set_cons_succ]))
    refine wpRel_rich _ rfl rfl (fun W hW => ?_) (fun v W3 hW3 hv => ?_)
    · have hc := ((show decide (ol = ol) = true from decide_eq_true rfl) ▸ sameI_any ol ol oa ob oc od W (HO4.out.ext ((Ext.refl w4).drew.trans hW.1)) (HP.out.ext ((Ext.refl w4).drew.trans hW.1)))
      go_simp
      refine Calls.mono hc ?_
      rintro e w' ⟨rfl, h⟩
      exact ⟨_, rfl, rfl, by first | exact h | (subst h; exact Ext.refl _)⟩
    obtain rfl := hv
    clear hW3
    simp only [Act.put, List.setIfInBounds_toArray, List.set_cons_zero, List.set_cons_succ]
    repeat (first
      | (refine wpRel_quick ?_ ?_ ?_ ?_
         · rfl
         · rfl
         · first | exact noEnter rfl | (intro f args W W'; go_simp)
         intro K hK
         go_big_quiet_op
         go_big_quiet_on)
      | (refine wpRel_skip ?_ ?_
         · rfl
         simp only [Act.put, List.setIfInBounds_toArray, List.set_cons_zero, List.set_cons_succ]))
    refine wpRel_rich _ rfl rfl (fun W hW => ?_) (fun v W5 hW5 hv => ?_)
    · have hc := HCYA.out W ((Ext.refl w4).drew.trans hW.1)
      go_simp
      refine Calls.mono hc ?_
      rintro e w' ⟨xa, xc, rfl, hs, hE⟩
      exact ⟨_, rfl, ⟨xa, xc, rfl, hs⟩, hE⟩
    obtain ⟨ca, cc, rfl, hca⟩ := hv
    simp only [Act.put, List.setIfInBounds_toArray, List.set_cons_zero, List.set_cons_succ]
    repeat (first
      | (refine wpRel_quick ?_ ?_ ?_ ?_
         · rfl
         · rfl
         · first | exact noEnter rfl | (intro f args W W'; go_simp)
         intro K hK
         go_big_quiet_op
         go_big_quiet_on)
      | (refine wpRel_skip ?_ ?_
         · rfl
         simp only [Act.put, List.setIfInBounds_toArray, List.set_cons_zero, List.set_cons_succ]))
    refine wpRel_rich _ rfl rfl (fun W hW => ?_) (fun v W6 hW6 hv => ?_)
    · have hc := HCYB.out W ((Ext.refl w4).drew.trans hW.1)
      go_simp
      refine Calls.mono hc ?_
      rintro e w' ⟨xa, xc, rfl, hs, hE⟩
      exact ⟨_, rfl, ⟨xa, xc, rfl, hs⟩, hE⟩
    obtain ⟨da, dc, rfl, hda⟩ := hv
    simp only [Act.put, List.setIfInBounds_toArray, List.set_cons_zero, List.set_cons_succ]
    repeat (first
      | (refine wpRel_quick ?_ ?_ ?_ ?_
         · rfl
         · rfl
         · first | exact noEnter rfl | (intro f args W W'; go_simp)
         intro K hK
         go_big_quiet_op
         go_big_quiet_on)
      | (refine wpRel_skip ?_ ?_
         · rfl
         simp only [Act.put, List.setIfInBounds_toArray, List.set_cons_zero, List.set_cons_succ]))
    refine wpRel_rich _ rfl rfl (fun W hW => ?_) (fun v W7 hW7 hv => ?_)
    · obtain ⟨xa, xc, e1, s1⟩ := hW.2 10 (by unfold Anc; kernel_rfl) _ _ rfl rfl
      obtain ⟨ya, yc, e2, s2⟩ := hW.2 12 (by unfold Anc; kernel_rfl) _ _ rfl rfl
      cases e1
      cases e2
      have hc := (show decide (cy = cy) = true from decide_eq_true rfl) ▸ sameI_any cy cy ca da cc dc W s1 s2
      go_simp
      refine Calls.mono hc ?_
      rintro e w' ⟨rfl, h⟩
      exact ⟨_, rfl, rfl, h⟩
    obtain rfl := hv
    simp only [Act.put, List.setIfInBounds_toArray, List.set_cons_zero, List.set_cons_succ]
    repeat (first
      | (refine wpRel_quick ?_ ?_ ?_ ?_
         · rfl
         · rfl
         · first | exact noEnter rfl | (intro f args W W'; go_simp)
         intro K hK
         go_big_quiet_op
         go_big_quiet_on)
      | (refine wpRel_skip ?_ ?_
         · rfl
         simp only [Act.put, List.setIfInBounds_toArray, List.set_cons_zero, List.set_cons_succ]))
    refine wpRel_nil ?_
    intro W8 hW8
    have HE8 := Lib.hid (HX0.out.trans (HE4.out.trans ((Ext.refl _).drew.trans hW8.1)))
    clear hW8 hW7 hW6 hW5 hca hda k0 k1 k2 k3 k4 k5 k6 gk0 gk1 gk2 gk3 gk4 gk5 gk6
    go_wp2_with fail
    go_ret
    exact ⟨rfl, HE8.out⟩
set_option maxRecDepth 1000000 in
set_option maxHeartbeats 12800000 in
theorem law_find (c : Cat) (nm : ByteArray) (d : Adr) (w : World) (hX : RepX w d c) (hb : ∀ x ∈ c.cs, x.need.parts.length ≤ 1048576 ∧ x.bar.parts.length ≤ 1048576) : Calls Try.prog 4 #[.agg (c.cells d).toArray, .string nm] w fun e w' => e = .returned (.bool true) ∧ Ext w w' := by
  obtain ⟨is, hs0, hs1, hs2, hs3⟩ := info_parts infoS
  have HIS := Lib.hid (And.intro hs0 (And.intro hs1 (And.intro hs2 hs3)))
  clear hs0 hs1 hs2 hs3
  have hXA : Ext w (w.alloc (.cells #[.slice d.a0 c.cs.length d.k0, .slice d.a1 c.sm.length d.k1, .slice d.a2 c.pg.length d.k2, .slice d.a3 c.kl.length d.k3, .slice d.a4 c.fe.length d.k4, .slice d.a5 c.ho.length d.k5, .slice d.a6 c.cu.length d.k6] 29)) := (Ext.refl w).alloc _
  have HCB : Hid (Row (w.alloc (.cells #[.slice d.a0 c.cs.length d.k0, .slice d.a1 c.sm.length d.k1, .slice d.a2 c.pg.length d.k2, .slice d.a3 c.kl.length d.k3, .slice d.a4 c.fe.length d.k4, .slice d.a5 c.ho.length d.k5, .slice d.a6 c.cu.length d.k6] 29)) w.heap.size 29 [.slice d.a0 c.cs.length d.k0, .slice d.a1 c.sm.length d.k1, .slice d.a2 c.pg.length d.k2, .slice d.a3 c.kl.length d.k3, .slice d.a4 c.fe.length d.k4, .slice d.a5 c.ho.length d.k5, .slice d.a6 c.cu.length d.k6]) := Lib.hid (by unfold Row; rw [heap_al, if_pos rfl])
  have HX := Lib.hid hX
  have HB := Lib.hid hb
  have HX0 := Lib.hid hXA
  clear hX hb hXA
  unfold Cat.cells
  go_enter Try.func4, Try.ntmps4
  go_wp2_with fail
  generalize (w.alloc (.cells #[.slice d.a0 c.cs.length d.k0, .slice d.a1 c.sm.length d.k1, .slice d.a2 c.pg.length d.k2, .slice d.a3 c.kl.length d.k3, .slice d.a4 c.fe.length d.k4, .slice d.a5 c.ho.length d.k5, .slice d.a6 c.cu.length d.k6] 29)) = w0 at *
  refine (sane_any _).mono ?_
  rintro e w1 ⟨rfl, hE⟩
  have HE := Lib.hid hE
  clear hE
  have k0 := (HCB.out.kpC HE.out.kpC).cell (j := 0) rfl
  have k1 := (HCB.out.kpC HE.out.kpC).cell (j := 1) rfl
  have k2 := (HCB.out.kpC HE.out.kpC).cell (j := 2) rfl
  have k3 := (HCB.out.kpC HE.out.kpC).cell (j := 3) rfl
  have k4 := (HCB.out.kpC HE.out.kpC).cell (j := 4) rfl
  have k5 := (HCB.out.kpC HE.out.kpC).cell (j := 5) rfl
  have k6 := (HCB.out.kpC HE.out.kpC).cell (j := 6) rfl
  go_wp2_with fail
  clear k0 k1 k2 k3 k4 k5 k6
  refine (refFew_any c d w1 (HX.out.ext (HX0.out.trans HE.out)) HB.out).mono ?_
  rintro e w2 ⟨b, rfl, hiff, hE2⟩
  have HIFF := Lib.hid hiff
  have HE2 := Lib.hid (HE.out.trans hE2)
  clear hiff hE2
  cases b with
  | false =>
    go_wp2_with fail
    go_ret
    exact ⟨rfl, HX0.out.trans HE2.out⟩
  | true =>
    have hfew : c.few := HIFF.out.1 (by simp)
    have HN0 : Hid (c.cs.length ≤ 100000) := Lib.hid (by have := hfew.n0; omega)
    have HBN : Hid (∀ x ∈ c.cs, x.need.parts.length ≤ 1048576) := Lib.hid (fun x hx => (HB.out x hx).1)
    have HFEW := Lib.hid hfew
    clear hfew
    have k0 := (HCB.out.kpC HE2.out.kpC).cell (j := 0) rfl
    have k1 := (HCB.out.kpC HE2.out.kpC).cell (j := 1) rfl
    have k2 := (HCB.out.kpC HE2.out.kpC).cell (j := 2) rfl
    have k3 := (HCB.out.kpC HE2.out.kpC).cell (j := 3) rfl
    have k4 := (HCB.out.kpC HE2.out.kpC).cell (j := 4) rfl
    have k5 := (HCB.out.kpC HE2.out.kpC).cell (j := 5) rfl
    have k6 := (HCB.out.kpC HE2.out.kpC).cell (j := 6) rfl
    clear k0 k1 k2 k3 k4 k5 k6
    have HO0 : Hid ((w2.alloc (.cells #[.string nm] 9)).ownsRow w2.heap.size 9 1 (.slice (some ⟨w2.heap.size, 0, none⟩) 1 1) 1 [.string nm]) := Lib.hid (own_one rfl (Nat.le_refl _))
    have hz0 := HX.out.cs.max
    go_wp2_with fail
    go_loopw [5, 6] (fun v iv wr => ∃ m : Nat, iv = .int .i64 m ∧ m ≤ c.cs.length ∧ wr.ownsRow w2.heap.size 9 1 v (nm :: (c.cs.take m).map Cr.nm).length (srows (nm :: (c.cs.take m).map Cr.nm)).flatten ∧ Ext w2 wr) (fun _ iv _ => c.cs.length - (intOf iv).toNat)
    case atStart => exact ⟨0, rfl, by omega, HO0.out, (Ext.refl w2).alloc _⟩
    case round =>
      obtain ⟨m, rfl, hm, hO, hEL⟩ := hrel
      have HO := Lib.hid hO
      have HEL := Lib.hid hEL
      have b0 := (HCB.out.kpC (HE2.out.trans hEL).kpC).cell (j := 0) rfl
      clear hO hEL
      by_cases hlt : m < c.cs.length
      · have hmi : (m : Int) < (c.cs.length : Int) := by omega
        obtain ⟨x, hx⟩ : ∃ x, c.cs[m]? = some x := ⟨_, List.getElem?_eq_getElem hlt⟩
        obtain ⟨B, o, _, _, _, _, ea0, -, -, -, -, -, hcells⟩ := (HX.out.cs.ext (HX0.out.trans (HE2.out.trans HEL.out))).at hx
        have c0 : wr.cell? ⟨B, o + m * 16, none⟩ = some (.string x.nm) := hcells 0 _ rfl
        have HSN := Lib.hid (map_take_snoc (f := Cr.nm) hx)
        have HLN : Hid ((nm :: (c.cs.take m).map Cr.nm).length ≤ 200000) := Lib.hid (by rw [List.length_cons, List.length_map, List.length_take]; have := HN0.out; omega)
        clear hcells hx
        rw [ea0] at b0
        rw [ea0]
        clear ea0
        go_wp2_with (at_builtin; refine wpList_append_S rfl _ _ 36 36 rfl w2.heap.size 9 is _ 1 16 Try.underlying36 HIS.out.1 HIS.out.2.1 HIS.out.2.2.1 HIS.out.2.2.2 rfl _ _ _ rfl (ownsRow_ext HO.out ((Ext.refl wr).alloc _)) _ 1 [.string x.nm] rfl (Src.ofSlice _ Try.underlying36 ⟨_, 0, none⟩ 1 1 _ rfl (one_cell (by simp)) (by simp [Value.oneCell'])) (by have := HLN.out; unfold maxLen; omega) (by have := HLN.out; omega) (by have := HEL.out.size; simp; omega) ?_; intro vo w5 ho5 hg5; have HO5 := Lib.hid ho5; have HE5 := Lib.hid (Ext.own_step (HEL.out.alloc _) hg5 (ownsRow_ext HO.out ((Ext.refl wr).alloc _))); clear ho5 hg5)
        go_roundw
        case rel =>
          refine ⟨m + 1, by go_num, by omega, ?_, HE5.out⟩
          rw [HSN.out, ← List.cons_append, srows_app, List.flatten_append, List.length_append]
          exact HO5.out
        case measure => simp [intOf] <;> omega
      · have hmi : ¬ (m : Int) < (c.cs.length : Int) := by omega
        obtain rfl : m = c.cs.length := by omega
        rw [List.take_length] at HO
        obtain ⟨L, hL⟩ : ∃ L, nm :: c.cs.map Cr.nm = L := ⟨_, rfl⟩
        rw [hL] at HO
        have HLL : Hid (L.length ≤ 200000) := Lib.hid (by rw [← hL, List.length_cons, List.length_map]; have := HN0.out; omega)
        obtain ⟨ra, rc, rfl, hrs, -⟩ := SL.of_own HO.out (srows_wid _) (by simp [srows])
        have HRS := Lib.hid hrs
        have HE6 := Lib.hid (HE2.out.trans HEL.out)
        clear hrs hL
        have hzl : (L.length : Int) ≤ 9223372036854775807 := by have := HLL.out; omega
        obtain ⟨w6, rfl⟩ : ∃ w6, w6 = wr := ⟨_, rfl⟩
        go_wp2_with fail
        clear b0
        go_loopw [7] (fun iv wr => ∃ m : Nat, iv = .int .i64 m ∧ m ≤ L.length ∧ Ext w6 wr) (fun iv _ => L.length - (intOf iv).toNat)
        case atStart => exact ⟨0, rfl, by omega, Ext.refl _⟩
        case round =>
          obtain ⟨m, rfl, hm, hEL⟩ := hrel
          have HEM := Lib.hid hEL
          clear hEL
          by_cases hlt : m < L.length
          · have hmi : (m : Int) < (L.length : Int) := by omega
            obtain ⟨x, hx⟩ : ∃ x, L[m]? = some x := ⟨_, List.getElem?_eq_getElem hlt⟩
            obtain ⟨B, o, rfl, c0⟩ := s_at HRS.out HEM.out hx
            obtain ⟨f1, hf1⟩ : ∃ f1, (findR c.cs x).1 = f1 := ⟨_, rfl⟩
            obtain ⟨f2, hf2⟩ : ∃ f2, (findR c.cs x).2 = f2 := ⟨_, rfl⟩
            have HFA : Hid (∀ W, Ext w6 W → Calls Try.prog 15 #[.agg #[.slice d.a0 c.cs.length d.k0, .slice d.a1 c.sm.length d.k1, .slice d.a2 c.pg.length d.k2, .slice d.a3 c.kl.length d.k3, .slice d.a4 c.fe.length d.k4, .slice d.a5 c.ho.length d.k5, .slice d.a6 c.cu.length d.k6], .string x] W fun e w' => e = .returned (.tuple #[.int .i64 f1, .bool f2]) ∧ Ext W w') := Lib.hid (fun W hW => by rw [← hf1, ← hf2]; exact find_any c.cs x d.a0 d.k0 (.slice d.a1 c.sm.length d.k1) (.slice d.a2 c.pg.length d.k2) (.slice d.a3 c.kl.length d.k3) (.slice d.a4 c.fe.length d.k4) (.slice d.a5 c.ho.length d.k5) (.slice d.a6 c.cu.length d.k6) W (HX.out.cs.ext (HX0.out.trans (HE6.out.trans hW))))
            have HFB : Hid (∀ W, Ext w6 W → Calls Try.prog 16 #[.agg #[.slice d.a0 c.cs.length d.k0, .slice d.a1 c.sm.length d.k1, .slice d.a2 c.pg.length d.k2, .slice d.a3 c.kl.length d.k3, .slice d.a4 c.fe.length d.k4, .slice d.a5 c.ho.length d.k5, .slice d.a6 c.cu.length d.k6], .string x] W fun e w' => e = .returned (.tuple #[.int .i64 f1, .bool f2]) ∧ Ext W w') := Lib.hid (fun W hW => by rw [← hf1, ← hf2]; exact refFind_any c.cs x d.a0 d.k0 (.slice d.a1 c.sm.length d.k1) (.slice d.a2 c.pg.length d.k2) (.slice d.a3 c.kl.length d.k3) (.slice d.a4 c.fe.length d.k4) (.slice d.a5 c.ho.length d.k5) (.slice d.a6 c.cu.length d.k6) W (HX.out.cs.ext (HX0.out.trans (HE6.out.trans hW))))
            have hq1 : (f1 != f1) = false := by simp
            have hq2 : (f2 != f2) = false := by simp
            clear hx hf1 hf2
            have k0 := (HCB.out.kpC (HE6.out.trans HEM.out).kpC).cell (j := 0) rfl
            have k1 := (HCB.out.kpC (HE6.out.trans HEM.out).kpC).cell (j := 1) rfl
            have k2 := (HCB.out.kpC (HE6.out.trans HEM.out).kpC).cell (j := 2) rfl
            have k3 := (HCB.out.kpC (HE6.out.trans HEM.out).kpC).cell (j := 3) rfl
            have k4 := (HCB.out.kpC (HE6.out.trans HEM.out).kpC).cell (j := 4) rfl
            have k5 := (HCB.out.kpC (HE6.out.trans HEM.out).kpC).cell (j := 5) rfl
            have k6 := (HCB.out.kpC (HE6.out.trans HEM.out).kpC).cell (j := 6) rfl
            have gk0 := grow_cell k0
            have gk1 := grow_cell k1
            have gk2 := grow_cell k2
            have gk3 := grow_cell k3
            have gk4 := grow_cell k4
            have gk5 := grow_cell k5
            have gk6 := grow_cell k6
            have gc0 := grow_cell c0
            go_wp2_with fail
            refine wp_region_rel_all (fun i => if i = 5 then some (spV (.tuple #[.int .i64 f1, .bool f2])) else none) (by kernel_rfl) (by kernel_rfl) ?_
            repeat (first
              | (refine wpRel_quick ?_ ?_ ?_ ?_
                 · rfl
                 · rfl
                 · first | exact noEnter rfl | (intro f args W W'; go_simp)
                 intro K hK
                 go_big_quiet_op
                 go_big_quiet_on)
              | (refine wpRel_skip ?_ ?_
                 · rfl
                 simp only [Act.put, List.setIfInBounds_toArray, List.set_cons_zero, List.set_cons_succ]))
            refine wpRel_rich _ rfl rfl (fun W hW => ?_) (fun v W3 hW3 hv => ?_)
            · have hc := HFA.out W (HEM.out.trans ((Ext.refl wr).drew.trans hW.1))
              go_simp
              refine Calls.mono hc ?_
              rintro e w' ⟨rfl, h⟩
              exact ⟨_, rfl, rfl, by first | exact h | (subst h; exact Ext.refl _)⟩
            obtain rfl := hv
            clear hW3
            simp only [Act.put, List.setIfInBounds_toArray, List.set_cons_zero, List.set_cons_succ]
            repeat (first
              | (refine wpRel_quick ?_ ?_ ?_ ?_
                 · rfl
                 · rfl
                 · first | exact noEnter rfl | (intro f args W W'; go_simp)
                 intro K hK
                 go_big_quiet_op
                 go_big_quiet_on)
              | (refine wpRel_skip ?_ ?_
                 · rfl
                 simp only [Act.put, List.setIfInBounds_toArray, List.set_cons_zero, List.set_cons_succ]))
            refine wpRel_nil ?_
            intro W3 hW3
            have HE7 := Lib.hid (HEM.out.trans ((Ext.refl _).drew.trans hW3.1))
            have c0' := ((Ext.refl wr).drew.trans hW3.1).cell c0
            clear hW3 k0 k1 k2 k3 k4 k5 k6 gk0 gk1 gk2 gk3 gk4 gk5 gk6 c0 gc0
            have k0 := (HCB.out.kpC (HE6.out.trans HE7.out).kpC).cell (j := 0) rfl
            have k1 := (HCB.out.kpC (HE6.out.trans HE7.out).kpC).cell (j := 1) rfl
            have k2 := (HCB.out.kpC (HE6.out.trans HE7.out).kpC).cell (j := 2) rfl
            have k3 := (HCB.out.kpC (HE6.out.trans HE7.out).kpC).cell (j := 3) rfl
            have k4 := (HCB.out.kpC (HE6.out.trans HE7.out).kpC).cell (j := 4) rfl
            have k5 := (HCB.out.kpC (HE6.out.trans HE7.out).kpC).cell (j := 5) rfl
            have k6 := (HCB.out.kpC (HE6.out.trans HE7.out).kpC).cell (j := 6) rfl
            have gk0 := grow_cell k0
            have gk1 := grow_cell k1
            have gk2 := grow_cell k2
            have gk3 := grow_cell k3
            have gk4 := grow_cell k4
            have gk5 := grow_cell k5
            have gk6 := grow_cell k6
            have gc0 := grow_cell c0'
            go_wp2_with fail
            refine wp_region_rel_all (fun i => if i = 5 then some (spV (.tuple #[.int .i64 f1, .bool f2])) else none) (by kernel_rfl) (by kernel_rfl) ?_
            repeat (first
              | (refine wpRel_quick ?_ ?_ ?_ ?_
                 · rfl
                 · rfl
                 · first | exact noEnter rfl | (intro f args W W'; go_simp)
                 intro K hK
                 go_big_quiet_op
                 go_big_quiet_on)
              | (refine wpRel_skip ?_ ?_
                 · rfl
                 simp only [Act.put, List.setIfInBounds_toArray, List.set_cons_zero, List.set_cons_succ]))
            refine wpRel_rich _ rfl rfl (fun W hW => ?_) (fun v W3 hW3 hv => ?_)
            · have hc := HFB.out W (HE7.out.trans ((Ext.refl W3).drew.trans hW.1))
              go_simp
              refine Calls.mono hc ?_
              rintro e w' ⟨rfl, h⟩
              exact ⟨_, rfl, rfl, by first | exact h | (subst h; exact Ext.refl _)⟩
            obtain rfl := hv
            clear hW3
            simp only [Act.put, List.setIfInBounds_toArray, List.set_cons_zero, List.set_cons_succ]
            repeat (first
              | (refine wpRel_quick ?_ ?_ ?_ ?_
                 · rfl
                 · rfl
                 · first | exact noEnter rfl | (intro f args W W'; go_simp)
                 intro K hK
                 go_big_quiet_op
                 go_big_quiet_on)
              | (refine wpRel_skip ?_ ?_
                 · rfl
                 simp only [Act.put, List.setIfInBounds_toArray, List.set_cons_zero, List.set_cons_succ]))
            refine wpRel_nil ?_
            intro W4 hW4
            have HE8 := Lib.hid (HE7.out.trans ((Ext.refl _).drew.trans hW4.1))
            clear hW4 k0 k1 k2 k3 k4 k5 k6 gk0 gk1 gk2 gk3 gk4 gk5 gk6 c0' gc0
            go_wp2_with fail
            go_roundw
            case rel => exact ⟨m + 1, by go_num, by omega, HE8.out⟩
            case measure => simp [intOf] <;> omega
          · have hmi : ¬ (m : Int) < (L.length : Int) := by omega
            go_wp2_with fail
            go_ret
            exact ⟨rfl, HX0.out.trans (HE6.out.trans HEM.out)⟩
end Go.Proofs.Ytimigpfoflilcaa
