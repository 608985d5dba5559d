/- Names: the law Again. -/
import Derived.Test.YtimigpfoflilcaaLAp
namespace Go.Sz
open Go.RowKit
theorem pr_at {w : World} {ao : Option Addr} {cap : Nat} {l : List Pr} (h : SL w 4 ao cap (l.map Pr.cells)) {i : Nat} {p : Pr} (hp : l[i]? = some p) : ∃ b o, ao = some ⟨b, o, none⟩ ∧ w.cell? ⟨b, o + i * 4, none⟩ = some (.string p.a) ∧ w.cell? ⟨b, o + i * 4 + 2, none⟩ = some (.int .i64 p.x) := by
  have hr : (l.map Pr.cells)[i]? = some p.cells := by rw [List.getElem?_map, hp]; rfl
  obtain ⟨b, o, e, h1⟩ := h.cells i 0 _ _ hr rfl
  obtain ⟨b', o', e', h2⟩ := h.cells i 2 _ _ hr rfl
  rw [e] at e'
  cases e'
  exact ⟨b, o, e, h1, h2⟩
end Go.Sz
namespace Go.Proofs.Ytimigpfoflilcaa
open Go.RowKit Go.Sz
/-- Resolve at what has numbers -/
theorem re_again {c x : Cat} (hc : c.resN = (0, x)) (hk : c.Ok) (d : Adr) (w : World) (hX : RepX w d c) : Calls Try.prog 12 #[.agg (c.cells d).toArray] w fun e w' => ∃ g : Adr, e = .returned (.tuple #[.agg (x.cells g).toArray, .int .i64 0]) ∧ RepX w' g x ∧ Ext w w' := by
  refine (resolve_any c hk d w hX).mono ?_
  rintro e w' ⟨g, rfl, hR, hE⟩
  rw [hc] at hR
  rw [hc]
  exact ⟨g, rfl, hR, hE⟩
theorem re_not {c : Cat} (hc : c.resN.1 ≠ 0) (hk : c.Ok) (d : Adr) (w : World) (hX : RepX w d c) : Calls Try.prog 12 #[.agg (c.cells d).toArray] w fun e w' => ∃ (g : Adr) (x : Int), (x != 0) = true ∧ e = .returned (.tuple #[.agg (Cat.empty.cells g).toArray, .int .i64 x]) ∧ RepX w' g .empty ∧ Ext w w' := by
  refine (resolve_any c hk d w hX).mono ?_
  rintro e w' ⟨g, rfl, hR, hE⟩
  rw [resN_err hc] at hR
  rw [resN_err hc]
  exact ⟨g, _, by simpa using hc, rfl, hR, hE⟩
set_option maxRecDepth 1000000 in
set_option maxHeartbeats 12800000 in
theorem law_again (c : Cat) (d : Adr) (w : World) (hX : RepX w d c) (hb : ∀ x ∈ c.cs, x.need.parts.length ≤ 1048576 ∧ x.bar.parts.length ≤ 1048576) (hk : c.few → c.Ok) : Calls Try.prog 6 #[.agg (c.cells d).toArray] w fun e w' => e = .returned (.bool true) ∧ Ext w w' := by
  have HKO := Lib.hid hk
  clear hk
  have hXA : Ext w (w.alloc (.cells #[.slice d.a0 c.cs.length d.k0, .slice d.a1 c.sm.length d.k1, .slice d.a2 c.pg.length d.k2, .slice d.a3 c.kl.length d.k3, .slice d.a4 c.fe.length d.k4, .slice d.a5 c.ho.length d.k5, .slice d.a6 c.cu.length d.k6] 29)) := (Ext.refl w).alloc _
  have HCB : Hid (Row (w.alloc (.cells #[.slice d.a0 c.cs.length d.k0, .slice d.a1 c.sm.length d.k1, .slice d.a2 c.pg.length d.k2, .slice d.a3 c.kl.length d.k3, .slice d.a4 c.fe.length d.k4, .slice d.a5 c.ho.length d.k5, .slice d.a6 c.cu.length d.k6] 29)) w.heap.size 29 [.slice d.a0 c.cs.length d.k0, .slice d.a1 c.sm.length d.k1, .slice d.a2 c.pg.length d.k2, .slice d.a3 c.kl.length d.k3, .slice d.a4 c.fe.length d.k4, .slice d.a5 c.ho.length d.k5, .slice d.a6 c.cu.length d.k6]) := Lib.hid (by unfold Row; rw [heap_al, if_pos rfl])
  have HX := Lib.hid hX
  have HB := Lib.hid hb
  have HX0 := Lib.hid hXA
  clear hX hb hXA
  unfold Cat.cells
  go_enter Try.func6, Try.ntmps6
  go_wp2_with fail
  generalize (w.alloc (.cells #[.slice d.a0 c.cs.length d.k0, .slice d.a1 c.sm.length d.k1, .slice d.a2 c.pg.length d.k2, .slice d.a3 c.kl.length d.k3, .slice d.a4 c.fe.length d.k4, .slice d.a5 c.ho.length d.k5, .slice d.a6 c.cu.length d.k6] 29)) = w0 at *
  refine (sane_any _).mono ?_
  rintro e w1 ⟨rfl, hE⟩
  have HE := Lib.hid hE
  clear hE
  have k0 := (HCB.out.kpC HE.out.kpC).cell (j := 0) rfl
  have k1 := (HCB.out.kpC HE.out.kpC).cell (j := 1) rfl
  have k2 := (HCB.out.kpC HE.out.kpC).cell (j := 2) rfl
  have k3 := (HCB.out.kpC HE.out.kpC).cell (j := 3) rfl
  have k4 := (HCB.out.kpC HE.out.kpC).cell (j := 4) rfl
  have k5 := (HCB.out.kpC HE.out.kpC).cell (j := 5) rfl
  have k6 := (HCB.out.kpC HE.out.kpC).cell (j := 6) rfl
  go_wp2_with fail
  clear k0 k1 k2 k3 k4 k5 k6
  refine (refFew_any c d w1 (HX.out.ext (HX0.out.trans HE.out)) HB.out).mono ?_
  rintro e w2 ⟨b, rfl, hiff, hE2⟩
  have HIFF := Lib.hid hiff
  have HE2 := Lib.hid (HE.out.trans hE2)
  clear hiff hE2
  cases b with
  | false =>
    go_wp2_with fail
    go_ret
    exact ⟨rfl, HX0.out.trans HE2.out⟩
  | true =>
    have hfew : c.few := HIFF.out.1 (by simp)
    have HN0 : Hid (c.cs.length ≤ 100000) := Lib.hid (by have := hfew.n0; omega)
    have HBN : Hid (∀ x ∈ c.cs, x.need.parts.length ≤ 1048576) := Lib.hid (fun x hx => (HB.out x hx).1)
    have HOK := Lib.hid (HKO.out hfew)
    clear hfew
    have k0 := (HCB.out.kpC HE2.out.kpC).cell (j := 0) rfl
    have k1 := (HCB.out.kpC HE2.out.kpC).cell (j := 1) rfl
    have k2 := (HCB.out.kpC HE2.out.kpC).cell (j := 2) rfl
    have k3 := (HCB.out.kpC HE2.out.kpC).cell (j := 3) rfl
    have k4 := (HCB.out.kpC HE2.out.kpC).cell (j := 4) rfl
    have k5 := (HCB.out.kpC HE2.out.kpC).cell (j := 5) rfl
    have k6 := (HCB.out.kpC HE2.out.kpC).cell (j := 6) rfl
    by_cases hre : c.resN.1 = 0
    · obtain ⟨x, hx⟩ : ∃ x, c.resN = (0, x) := ⟨c.resN.2, by rw [← hre]⟩
      obtain ⟨hag, hhd, hpr, hxk, honce⟩ := resN_again hx
      have HXK := Lib.hid (hxk HOK.out)
      have hl0 : x.cs.length = c.cs.length := by simpa using congrArg List.length hhd
      have hl1 : x.sm.length = c.sm.length := travO_len hpr
      have HL := Lib.hid (And.intro hl0 hl1)
      have HHD := Lib.hid (And.intro hhd honce.1)
      have HPR := Lib.hid hpr
      have HRE := Lib.hid (And.intro hx hag)
      clear hx hag hhd hpr hxk honce hre hl0 hl1
      go_wp2_with fail
      clear k0 k1 k2 k3 k4 k5 k6
      refine (re_again HRE.out.1 HOK.out d _ (HX.out.ext (HX0.out.trans HE2.out))).mono ?_
      rintro e w3 ⟨g, rfl, hR, hE3⟩
      have HR0 := Lib.hid hR
      have HE3 := Lib.hid (HE2.out.trans hE3)
      clear hR hE3
      unfold Cat.cells
      rw [HL.out.1, HL.out.2]
      go_wp2_with fail
      obtain ⟨w4, hw4⟩ : ∃ w4, w3.alloc (.cells #[.slice g.a0 c.cs.length g.k0, .slice g.a1 c.sm.length g.k1, .slice g.a2 x.pg.length g.k2, .slice g.a3 x.kl.length g.k3, .slice g.a4 x.fe.length g.k4, .slice g.a5 x.ho.length g.k5, .slice g.a6 x.cu.length g.k6] 29) = w4 := ⟨_, rfl⟩
      have HXB : Hid (Row w4 w3.heap.size 29 [.slice g.a0 c.cs.length g.k0, .slice g.a1 c.sm.length g.k1, .slice g.a2 x.pg.length g.k2, .slice g.a3 x.kl.length g.k3, .slice g.a4 x.fe.length g.k4, .slice g.a5 x.ho.length g.k5, .slice g.a6 x.cu.length g.k6]) := Lib.hid (by rw [← hw4]; unfold Row; rw [heap_al, if_pos rfl])
      have hE4 : Ext w3 w4 := hw4 ▸ (Ext.refl _).alloc _
      have HR := Lib.hid (HR0.out.ext hE4)
      have HE4 := Lib.hid (HE3.out.trans hE4)
      rw [hw4]
      clear hw4 hE4
      have x0 := (HXB.out).cell (j := 0) rfl
      have x1 := (HXB.out).cell (j := 1) rfl
      have x2 := (HXB.out).cell (j := 2) rfl
      have x3 := (HXB.out).cell (j := 3) rfl
      have x4 := (HXB.out).cell (j := 4) rfl
      have x5 := (HXB.out).cell (j := 5) rfl
      have x6 := (HXB.out).cell (j := 6) rfl
      go_wp2_with fail
      clear x0 x1 x2 x3 x4 x5 x6
      have hcall := re_again HRE.out.2 HXK.out g _ HR.out
      unfold Cat.cells at hcall
      rw [HL.out.1, HL.out.2] at hcall
      refine hcall.mono ?_
      clear hcall
      rintro e w5 ⟨g2, rfl, hR, hE5⟩
      have HR2 := Lib.hid hR
      have HXB5 := Lib.hid (HXB.out.kpC hE5.kpC)
      have HR5 := Lib.hid (HR.out.ext hE5)
      have HE5 := Lib.hid (HE4.out.trans hE5)
      clear hR hE5
      have hE6 : Ext w5 (w5.alloc (.cells #[.slice g2.a0 c.cs.length g2.k0, .slice g2.a1 c.sm.length g2.k1, .slice g2.a2 x.pg.length g2.k2, .slice g2.a3 x.kl.length g2.k3, .slice g2.a4 x.fe.length g2.k4, .slice g2.a5 x.ho.length g2.k5, .slice g2.a6 x.cu.length g2.k6] 29)) := (Ext.refl _).alloc _
      have HR6 := Lib.hid (HR5.out.ext hE6)
      have HR26 := Lib.hid (HR2.out.ext hE6)
      have HXB6 := Lib.hid (HXB5.out.kpC hE6.kpC)
      have HE6 := Lib.hid (HE5.out.trans hE6)
      clear hE6
      have x0 := (HXB6.out).cell (j := 0) rfl
      have x1 := (HXB6.out).cell (j := 1) rfl
      have x2 := (HXB6.out).cell (j := 2) rfl
      have x3 := (HXB6.out).cell (j := 3) rfl
      have x4 := (HXB6.out).cell (j := 4) rfl
      have x5 := (HXB6.out).cell (j := 5) rfl
      have x6 := (HXB6.out).cell (j := 6) rfl
      have k0 := (HCB.out.kpC HE6.out.kpC).cell (j := 0) rfl
      have k1 := (HCB.out.kpC HE6.out.kpC).cell (j := 1) rfl
      have k2 := (HCB.out.kpC HE6.out.kpC).cell (j := 2) rfl
      have k3 := (HCB.out.kpC HE6.out.kpC).cell (j := 3) rfl
      have k4 := (HCB.out.kpC HE6.out.kpC).cell (j := 4) rfl
      have k5 := (HCB.out.kpC HE6.out.kpC).cell (j := 5) rfl
      have k6 := (HCB.out.kpC HE6.out.kpC).cell (j := 6) rfl
      have hsm := same_any x x g g2 _ HR6.out HR26.out
      unfold Cat.cells at hsm
      rw [HL.out.1, HL.out.2] at hsm
      have HSM := Lib.hid hsm
      clear hsm
      go_wp2_with (go_at_call 14; refine HSM.out.mono ?_; rintro e w7 ⟨bb, rfl, hiff, hE7⟩; obtain rfl : bb = true := hiff.2 (by first | rfl | trivial); have HE7 := Lib.hid (HE6.out.trans hE7); have HE67 := Lib.hid hE7; have x0' := hE7.cell x0; have x1' := hE7.cell x1; have k0' := hE7.cell k0; have k1' := hE7.cell k1; clear hiff hE7)
      clear HSM x0 x1 x2 x3 x4 x5 x6 k0 k1 k2 k3 k4 k5 k6 x0' x1' k0' k1'
      have HRX := Lib.hid (HR6.out.ext HE67.out)
      have HXR := Lib.hid (HXB6.out.kpC HE67.out.kpC)
      clear HXB HXB5 HXB6 HR0 HR HR2 HR5 HR6 HR26 HE67 HE3 HE4 HE5 HE6
      have hz0 := HX.out.cs.max
      have hz1 : (c.sm.length : Int) ≤ 9223372036854775807 := by have := HOK.out.n1; omega
      go_loopw [7] (fun iv wr => ∃ m : Nat, iv = .int .i64 m ∧ m ≤ c.cs.length ∧ Ext w7 wr) (fun iv _ => c.cs.length - (intOf iv).toNat)
      case atStart => exact ⟨0, rfl, by omega, Ext.refl _⟩
      case round =>
        obtain ⟨m, rfl, hm, hEL⟩ := hrel
        have HEL := Lib.hid hEL
        clear hEL
        have k0 := (HCB.out.kpC (HE7.out.trans HEL.out).kpC).cell (j := 0) rfl
        by_cases hlt : m < c.cs.length
        · have hmi : (m : Int) < (c.cs.length : Int) := by omega
          obtain ⟨z, hz⟩ : ∃ z, c.cs[m]? = some z := ⟨_, List.getElem?_eq_getElem hlt⟩
          obtain ⟨B, o, _, _, _, _, ea0, -, -, -, -, -, hcells⟩ := (HX.out.cs.ext (HX0.out.trans (HE7.out.trans HEL.out))).at hz
          have c0 : wr.cell? ⟨B, o + m * 16, none⟩ = some (.string z.nm) := hcells 0 _ rfl
          have c1 : wr.cell? ⟨B, o + m * 16 + 1, none⟩ = some (.int .i64 z.nu) := hcells 1 _ rfl
          obtain ⟨y, hy⟩ : ∃ y, x.cs[m]? = some y := ⟨_, List.getElem?_eq_getElem (by rw [HL.out.1]; exact hlt)⟩
          have hyz : y.hd = z.hd := by
            have h1 : (x.cs.map Cr.hd)[m]? = (c.cs.map Cr.hd)[m]? := by rw [HHD.out.1]
            rw [List.getElem?_map, List.getElem?_map, hy, hz] at h1
            exact Option.some.inj h1
          have hyn : y.nm = z.nm := congrArg Prod.fst hyz
          have hyu : y.nu = z.nu := congrArg Prod.snd hyz
          obtain ⟨B2, o2, _, _, _, _, ea2, -, -, -, -, -, hcell2⟩ := (HRX.out.cs.ext HEL.out).at hy
          have d0 : wr.cell? ⟨B2, o2 + m * 16, none⟩ = some (.string z.nm) := hyn ▸ hcell2 0 _ rfl
          have d1 : wr.cell? ⟨B2, o2 + m * 16 + 1, none⟩ = some (.int .i64 z.nu) := hyu ▸ hcell2 1 _ rfl
          have HFA : Hid (∀ W, Ext w7 W → Calls Try.prog 15 #[.agg #[.slice g.a0 c.cs.length g.k0, .slice g.a1 c.sm.length g.k1, .slice g.a2 x.pg.length g.k2, .slice g.a3 x.kl.length g.k3, .slice g.a4 x.fe.length g.k4, .slice g.a5 x.ho.length g.k5, .slice g.a6 x.cu.length g.k6], .string z.nm] W fun e w' => e = .returned (.tuple #[.int .i64 z.nu, .bool true]) ∧ Ext W w') := Lib.hid (fun W hW => by
            have h := find_any x.cs z.nm g.a0 g.k0 (.slice g.a1 c.sm.length g.k1) (.slice g.a2 x.pg.length g.k2) (.slice g.a3 x.kl.length g.k3) (.slice g.a4 x.fe.length g.k4) (.slice g.a5 x.ho.length g.k5) (.slice g.a6 x.cu.length g.k6) W (HRX.out.cs.ext hW)
            rw [findR_hd HHD.out.1, findR_own HHD.out.2 (List.mem_of_getElem? hz), HL.out.1] at h
            exact h)
          have hsn : (z.nm.toList == z.nm.toList) = true := by simp
          have hsu : (z.nu != z.nu) = false := by simp
          have HEA := Lib.hid (And.intro ea0 ea2)
          rw [ea0] at k0
          clear hcells hcell2 hy hz hyz hyn hyu ea0 ea2
          have x0 := (HXR.out.kpC HEL.out.kpC).cell (j := 0) rfl
          have x1 := (HXR.out.kpC HEL.out.kpC).cell (j := 1) rfl
          have x2 := (HXR.out.kpC HEL.out.kpC).cell (j := 2) rfl
          have x3 := (HXR.out.kpC HEL.out.kpC).cell (j := 3) rfl
          have x4 := (HXR.out.kpC HEL.out.kpC).cell (j := 4) rfl
          have x5 := (HXR.out.kpC HEL.out.kpC).cell (j := 5) rfl
          have x6 := (HXR.out.kpC HEL.out.kpC).cell (j := 6) rfl
          rw [HEA.out.2] at x0
          rw [HEA.out.2] at HFA
          have gx0 := grow_cell x0
          have gx1 := grow_cell x1
          have gx2 := grow_cell x2
          have gx3 := grow_cell x3
          have gx4 := grow_cell x4
          have gx5 := grow_cell x5
          have gx6 := grow_cell x6
          have gk0 := grow_cell k0
          have gc0 := grow_cell c0
          have gc1 := grow_cell c1
          have gd0 := grow_cell d0
          have gd1 := grow_cell d1
          go_wp2_with fail
          refine wp_region_rel_all (fun i => if i = 7 then some (spV (.tuple #[.int .i64 z.nu, .bool true])) else none) (by kernel_rfl) (by kernel_rfl) ?_
          repeat (first
            | (refine wpRel_quick ?_ ?_ ?_ ?_
               · rfl
               · rfl
               · first | exact noEnter rfl | (intro f args W W'; go_simp)
               intro K hK
               go_big_quiet_op
               go_big_quiet_on)
            | (refine wpRel_skip ?_ ?_
               · rfl
               simp only [Act.put, List.setIfInBounds_toArray, List.set_cons_zero, List.set_cons_succ]))
          refine wpRel_rich _ rfl rfl (fun W hW => ?_) (fun v W3 hW3 hv => ?_)
          · have hc := HFA.out W (HEL.out.trans ((Ext.refl wr).drew.trans hW.1))
            go_simp
            refine Calls.mono hc ?_
            rintro e w' ⟨rfl, h⟩
            exact ⟨_, rfl, rfl, by first | exact h | (subst h; exact Ext.refl _)⟩
          obtain rfl := hv
          clear hW3
          simp only [Act.put, List.setIfInBounds_toArray, List.set_cons_zero, List.set_cons_succ]
          repeat (first
            | (refine wpRel_quick ?_ ?_ ?_ ?_
               · rfl
               · rfl
               · first | exact noEnter rfl | (intro f args W W'; go_simp)
               intro K hK
               go_big_quiet_op
               go_big_quiet_on)
            | (refine wpRel_skip ?_ ?_
               · rfl
               simp only [Act.put, List.setIfInBounds_toArray, List.set_cons_zero, List.set_cons_succ]))
          refine wpRel_nil ?_
          intro W3 hW3
          have hE8 := (Ext.refl wr).drew.trans hW3.1
          have k0' := hE8.cell k0
          have x0' := hE8.cell x0
          have c0' := hE8.cell c0
          have c1' := hE8.cell c1
          have d0' := hE8.cell d0
          have d1' := hE8.cell d1
          have HE8 := Lib.hid (HEL.out.trans hE8)
          clear hW3 hE8 x0 x1 x2 x3 x4 x5 x6 gx0 gx1 gx2 gx3 gx4 gx5 gx6 k0 gk0 c0 gc0 c1 gc1 d0 gd0 d1 gd1
          have gk0 := grow_cell k0'
          have gx0 := grow_cell x0'
          have gc0 := grow_cell c0'
          have gc1 := grow_cell c1'
          have gd0 := grow_cell d0'
          have gd1 := grow_cell d1'
          go_wp2_with fail
          refine wp_region_rel_all (fun _ => none) (by kernel_rfl) (by kernel_rfl) ?_
          repeat (first
            | (refine wpRel_quick ?_ ?_ ?_ ?_
               · rfl
               · rfl
               · first | exact noEnter rfl | (intro f args W W'; go_simp)
               intro K hK
               go_big_quiet_op
               go_big_quiet_on)
            | (refine wpRel_skip ?_ ?_
               · rfl
               simp only [Act.put, List.setIfInBounds_toArray, List.set_cons_zero, List.set_cons_succ]))
          refine wpRel_nil ?_
          intro W4 hW4
          have HE9 := Lib.hid (HE8.out.trans ((Ext.refl _).drew.trans hW4.1))
          clear hW4 k0' x0' c0' c1' d0' d1' gk0 gx0 gc0 gc1 gd0 gd1
          go_wp2_with fail
          go_roundw
          case rel => exact ⟨m + 1, by go_num, by omega, HE9.out⟩
          case measure => simp [intOf] <;> omega
        · have hmi : ¬ (m : Int) < (c.cs.length : Int) := by omega
          go_wp2_with fail
          clear k0
          obtain ⟨w8, hw8⟩ : ∃ w8, w8 = wr := ⟨_, rfl⟩
          subst hw8
          go_loopw [10] (fun iv wr => ∃ m : Nat, iv = .int .i64 m ∧ m ≤ c.sm.length ∧ Ext w7 wr) (fun iv _ => c.sm.length - (intOf iv).toNat)
          case atStart => exact ⟨0, rfl, by omega, HEL.out⟩
          case round =>
            obtain ⟨q, rfl, hq, hEL⟩ := hrel
            have HEM := Lib.hid hEL
            clear hEL
            have k1 := (HCB.out.kpC (HE7.out.trans HEM.out).kpC).cell (j := 1) rfl
            by_cases hlq : q < c.sm.length
            · have hqi : (q : Int) < (c.sm.length : Int) := by omega
              obtain ⟨p, hp⟩ : ∃ p, x.sm[q]? = some p := ⟨_, List.getElem?_eq_getElem (by rw [HL.out.2]; exact hlq)⟩
              obtain ⟨r, hr, hres⟩ := travO_at HPR.out q p hp
              obtain ⟨hpa, -, hnum, -⟩ := resP_of hres
              obtain ⟨B, o, ea1, c0, c1⟩ := pr_at (HX.out.sm.ext (HX0.out.trans (HE7.out.trans HEM.out))) hr
              obtain ⟨B2, o2, ea2, d0, d1⟩ := pr_at (HRX.out.sm.ext HEM.out) hp
              rw [hpa] at d0
              obtain ⟨f1, hf1⟩ : ∃ f1, (findR c.cs r.a).1 = f1 := ⟨_, rfl⟩
              obtain ⟨f2, hf2⟩ : ∃ f2, (findR c.cs r.a).2 = f2 := ⟨_, rfl⟩
              have HFA : Hid (∀ W, Ext w7 W → Calls Try.prog 15 #[.agg #[.slice d.a0 c.cs.length d.k0, .slice d.a1 c.sm.length d.k1, .slice d.a2 c.pg.length d.k2, .slice d.a3 c.kl.length d.k3, .slice d.a4 c.fe.length d.k4, .slice d.a5 c.ho.length d.k5, .slice d.a6 c.cu.length d.k6], .string r.a] W fun e w' => e = .returned (.tuple #[.int .i64 f1, .bool f2]) ∧ Ext W w') := Lib.hid (fun W hW => by
                rw [← hf1, ← hf2]
                exact find_any c.cs r.a d.a0 d.k0 (.slice d.a1 c.sm.length d.k1) (.slice d.a2 c.pg.length d.k2) (.slice d.a3 c.kl.length d.k3) (.slice d.a4 c.fe.length d.k4) (.slice d.a5 c.ho.length d.k5) (.slice d.a6 c.cu.length d.k6) W (HX.out.cs.ext (HX0.out.trans (HE7.out.trans hW))))
              have hcase : (r.a.toList.isEmpty = true ∧ (p.x != r.x) = false) ∨ (r.a.toList.isEmpty = false ∧ (f1 != p.x) = false ∧ f2 = true) := by
                unfold numR at hnum
                cases he : r.a.toList.isEmpty with
                | true =>
                  rw [he, if_pos rfl] at hnum
                  exact .inl ⟨rfl, by rw [Option.some.inj hnum]; simp⟩
                | false =>
                  rw [he, if_neg (by simp)] at hnum
                  refine .inr ⟨rfl, ?_⟩
                  rw [← hf1, ← hf2]
                  unfold findR
                  cases e : c.cs.find? (isF r.a) with
                  | none => rw [e] at hnum; cases hnum
                  | some y =>
                    rw [e] at hnum
                    have h1 : y.nu = p.x := Option.some.inj hnum
                    exact ⟨by rw [← h1]; simp, rfl⟩
              have hsn : (r.a.toList == r.a.toList) = true := by simp
              have HEA := Lib.hid (And.intro ea1 ea2)
              rw [ea1] at k1
              clear hp hr hres hpa hnum ea1 ea2 hf1 hf2
              have x1 := (HXR.out.kpC HEM.out.kpC).cell (j := 1) rfl
              have k0 := (HCB.out.kpC (HE7.out.trans HEM.out).kpC).cell (j := 0) rfl
              have k2 := (HCB.out.kpC (HE7.out.trans HEM.out).kpC).cell (j := 2) rfl
              have k3 := (HCB.out.kpC (HE7.out.trans HEM.out).kpC).cell (j := 3) rfl
              have k4 := (HCB.out.kpC (HE7.out.trans HEM.out).kpC).cell (j := 4) rfl
              have k5 := (HCB.out.kpC (HE7.out.trans HEM.out).kpC).cell (j := 5) rfl
              have k6 := (HCB.out.kpC (HE7.out.trans HEM.out).kpC).cell (j := 6) rfl
              rw [HEA.out.2] at x1
              rw [HEA.out.1] at HFA
              have gk0 := grow_cell k0
              have gk1 := grow_cell k1
              have gk2 := grow_cell k2
              have gk3 := grow_cell k3
              have gk4 := grow_cell k4
              have gk5 := grow_cell k5
              have gk6 := grow_cell k6
              have gx1 := grow_cell x1
              have gc0 := grow_cell c0
              have gc1 := grow_cell c1
              have gd0 := grow_cell d0
              have gd1 := grow_cell d1
              go_wp2_with fail
              refine wp_region_rel_all (fun i => if i = 7 then some (spV (.tuple #[.int .i64 f1, .bool f2])) else none) (by kernel_rfl) (by kernel_rfl) ?_
              repeat (first
                | (refine wpRel_quick ?_ ?_ ?_ ?_
                   · rfl
                   · rfl
                   · first | exact noEnter rfl | (intro f args W W'; go_simp)
                   intro K hK
                   go_big_quiet_op
                   go_big_quiet_on)
                | (refine wpRel_skip ?_ ?_
                   · rfl
                   simp only [Act.put, List.setIfInBounds_toArray, List.set_cons_zero, List.set_cons_succ]))
              refine wpRel_rich _ rfl rfl (fun W hW => ?_) (fun v W3 hW3 hv => ?_)
              · have hc := HFA.out W (HEM.out.trans ((Ext.refl wr).drew.trans hW.1))
                go_simp
                refine Calls.mono hc ?_
                rintro e w' ⟨rfl, h⟩
                exact ⟨_, rfl, rfl, by first | exact h | (subst h; exact Ext.refl _)⟩
              obtain rfl := hv
              clear hW3
              simp only [Act.put, List.setIfInBounds_toArray, List.set_cons_zero, List.set_cons_succ]
              repeat (first
                | (refine wpRel_quick ?_ ?_ ?_ ?_
                   · rfl
                   · rfl
                   · first | exact noEnter rfl | (intro f args W W'; go_simp)
                   intro K hK
                   go_big_quiet_op
                   go_big_quiet_on)
                | (refine wpRel_skip ?_ ?_
                   · rfl
                   simp only [Act.put, List.setIfInBounds_toArray, List.set_cons_zero, List.set_cons_succ]))
              refine wpRel_nil ?_
              intro W3 hW3
              have hE8 := (Ext.refl wr).drew.trans hW3.1
              have k1' := hE8.cell k1
              have x1' := hE8.cell x1
              have c0' := hE8.cell c0
              have c1' := hE8.cell c1
              have d0' := hE8.cell d0
              have d1' := hE8.cell d1
              have HE8 := Lib.hid (HEM.out.trans hE8)
              clear hW3 hE8 k0 k1 k2 k3 k4 k5 k6 gk0 gk1 gk2 gk3 gk4 gk5 gk6 x1 gx1 c0 gc0 c1 gc1 d0 gd0 d1 gd1
              have gk1 := grow_cell k1'
              have gx1 := grow_cell x1'
              have gc0 := grow_cell c0'
              have gc1 := grow_cell c1'
              have gd0 := grow_cell d0'
              have gd1 := grow_cell d1'
              go_wp2_with fail
              rcases hcase with ⟨q1, q2⟩ | ⟨q1, q2, q3⟩
              all_goals
                try subst q3
                refine wp_region_rel_all (fun _ => none) (by kernel_rfl) (by kernel_rfl) ?_
                repeat (first
                  | (refine wpRel_quick ?_ ?_ ?_ ?_
                     · rfl
                     · rfl
                     · first | exact noEnter rfl | (intro f args W W'; go_simp)
                     intro K hK
                     go_big_quiet_op
                     go_big_quiet_on)
                  | (refine wpRel_skip ?_ ?_
                     · rfl
                     simp only [Act.put, List.setIfInBounds_toArray, List.set_cons_zero, List.set_cons_succ]))
                refine wpRel_nil ?_
                intro W4 hW4
                have HE9 := Lib.hid (HE8.out.trans ((Ext.refl _).drew.trans hW4.1))
                clear hW4 k1' x1' c0' c1' d0' d1' gk1 gx1 gc0 gc1 gd0 gd1
                go_wp2_with fail
                go_roundw
                case rel => exact ⟨q + 1, by go_num, by omega, HE9.out⟩
                case measure => simp [intOf] <;> omega
            · have hqi : ¬ (q : Int) < (c.sm.length : Int) := by omega
              go_wp2_with fail
              go_ret
              exact ⟨rfl, HX0.out.trans (HE7.out.trans HEM.out)⟩
    · go_wp2_with fail
      clear k0 k1 k2 k3 k4 k5 k6
      refine (re_not hre HOK.out d _ (HX.out.ext (HX0.out.trans HE2.out))).mono ?_
      rintro e w3 ⟨g, r, hr, rfl, -, hE3⟩
      have HE3 := Lib.hid (HE2.out.trans hE3)
      clear hE3 hre
      unfold Cat.cells Cat.empty
      simp only [List.length_nil]
      go_wp2_with fail
      go_ret
      exact ⟨rfl, HX0.out.trans (HE3.out.alloc _)⟩
end Go.Proofs.Ytimigpfoflilcaa
