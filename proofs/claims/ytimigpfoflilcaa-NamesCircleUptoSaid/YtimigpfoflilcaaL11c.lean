/- Names: the law Circle. -/
import Derived.Test.YtimigpfoflilcaaLCp
namespace Go.Proofs.Ytimigpfoflilcaa
open Go.RowKit Go.Sz
set_option maxRecDepth 1000000 in
set_option maxHeartbeats 12800000 in
theorem law_circle (c : Cat) (d : Adr) (w : World) (hX : RepX w d c) (hb : ∀ x ∈ c.cs, x.need.parts.length ≤ 1048576 ∧ x.bar.parts.length ≤ 1048576) (hk : c.few → c.Ok) : Calls Try.prog 8 #[.agg (c.cells d).toArray] w fun e w' => e = .returned (.bool true) ∧ Ext w w' := by
  have HKO := Lib.hid hk
  clear hk
  have hXA : Ext w (w.alloc (.cells #[.slice d.a0 c.cs.length d.k0, .slice d.a1 c.sm.length d.k1, .slice d.a2 c.pg.length d.k2, .slice d.a3 c.kl.length d.k3, .slice d.a4 c.fe.length d.k4, .slice d.a5 c.ho.length d.k5, .slice d.a6 c.cu.length d.k6] 29)) := (Ext.refl w).alloc _
  have HCB : Hid (Row (w.alloc (.cells #[.slice d.a0 c.cs.length d.k0, .slice d.a1 c.sm.length d.k1, .slice d.a2 c.pg.length d.k2, .slice d.a3 c.kl.length d.k3, .slice d.a4 c.fe.length d.k4, .slice d.a5 c.ho.length d.k5, .slice d.a6 c.cu.length d.k6] 29)) w.heap.size 29 [.slice d.a0 c.cs.length d.k0, .slice d.a1 c.sm.length d.k1, .slice d.a2 c.pg.length d.k2, .slice d.a3 c.kl.length d.k3, .slice d.a4 c.fe.length d.k4, .slice d.a5 c.ho.length d.k5, .slice d.a6 c.cu.length d.k6]) := Lib.hid (by unfold Row; rw [heap_al, if_pos rfl])
  have HX := Lib.hid hX
  have HB := Lib.hid hb
  have HX0 := Lib.hid hXA
  clear hX hb hXA
  unfold Cat.cells
  go_enter Try.func8, Try.ntmps8
  go_wp2_with fail
  generalize (w.alloc (.cells #[.slice d.a0 c.cs.length d.k0, .slice d.a1 c.sm.length d.k1, .slice d.a2 c.pg.length d.k2, .slice d.a3 c.kl.length d.k3, .slice d.a4 c.fe.length d.k4, .slice d.a5 c.ho.length d.k5, .slice d.a6 c.cu.length d.k6] 29)) = w0 at *
  refine (sane_any _).mono ?_
  rintro e w1 ⟨rfl, hE⟩
  have HE := Lib.hid hE
  clear hE
  have k0 := (HCB.out.kpC HE.out.kpC).cell (j := 0) rfl
  have k1 := (HCB.out.kpC HE.out.kpC).cell (j := 1) rfl
  have k2 := (HCB.out.kpC HE.out.kpC).cell (j := 2) rfl
  have k3 := (HCB.out.kpC HE.out.kpC).cell (j := 3) rfl
  have k4 := (HCB.out.kpC HE.out.kpC).cell (j := 4) rfl
  have k5 := (HCB.out.kpC HE.out.kpC).cell (j := 5) rfl
  have k6 := (HCB.out.kpC HE.out.kpC).cell (j := 6) rfl
  go_wp2_with fail
  clear k0 k1 k2 k3 k4 k5 k6
  refine (refFew_any c d w1 (HX.out.ext (HX0.out.trans HE.out)) HB.out).mono ?_
  rintro e w2 ⟨b, rfl, hiff, hE2⟩
  have HIFF := Lib.hid hiff
  have HE2 := Lib.hid (HE.out.trans hE2)
  clear hiff hE2
  cases b with
  | false =>
    go_wp2_with fail
    go_ret
    exact ⟨rfl, HX0.out.trans HE2.out⟩
  | true =>
    have hfew : c.few := HIFF.out.1 (by simp)
    have HN0 : Hid (c.cs.length ≤ 100000) := Lib.hid (by have := hfew.n0; omega)
    have HBN : Hid (∀ x ∈ c.cs, x.need.parts.length ≤ 1048576) := Lib.hid (fun x hx => (HB.out x hx).1)
    have HOK := Lib.hid (HKO.out hfew)
    clear hfew
    have k0 := (HCB.out.kpC HE2.out.kpC).cell (j := 0) rfl
    have k1 := (HCB.out.kpC HE2.out.kpC).cell (j := 1) rfl
    have k2 := (HCB.out.kpC HE2.out.kpC).cell (j := 2) rfl
    have k3 := (HCB.out.kpC HE2.out.kpC).cell (j := 3) rfl
    have k4 := (HCB.out.kpC HE2.out.kpC).cell (j := 4) rfl
    have k5 := (HCB.out.kpC HE2.out.kpC).cell (j := 5) rfl
    have k6 := (HCB.out.kpC HE2.out.kpC).cell (j := 6) rfl
    have HTW := Lib.hid (fun W hW => refTwice_any c HOK.out d W (HX.out.ext hW))
    go_wp2_with fail
    clear k0 k1 k2 k3 k4 k5 k6
    rcases Classical.em c.once with ho | ho
    rotate_left
    · have t := HTW.out _ (HX0.out.trans HE2.out)
      rw [decide_eq_true ho] at t
      refine t.mono ?_
      rintro e w3 ⟨rfl, hE3⟩
      have HE3 := Lib.hid (HE2.out.trans hE3)
      clear t hE3 ho
      go_wp2_with fail
      go_ret
      exact ⟨rfl, HX0.out.trans HE3.out⟩
    have t := HTW.out _ (HX0.out.trans HE2.out)
    rw [dec_ff ho] at t
    refine t.mono ?_
    rintro e w3 ⟨rfl, hE3⟩
    have HE3 := Lib.hid (HE2.out.trans hE3)
    have HNU : Hid (c.cs.map Cr.nu).Nodup := Lib.hid ho.2.1
    clear t hE3 ho HTW
    have k0 := (HCB.out.kpC HE3.out.kpC).cell (j := 0) rfl
    have k1 := (HCB.out.kpC HE3.out.kpC).cell (j := 1) rfl
    have k2 := (HCB.out.kpC HE3.out.kpC).cell (j := 2) rfl
    have k3 := (HCB.out.kpC HE3.out.kpC).cell (j := 3) rfl
    have k4 := (HCB.out.kpC HE3.out.kpC).cell (j := 4) rfl
    have k5 := (HCB.out.kpC HE3.out.kpC).cell (j := 5) rfl
    have k6 := (HCB.out.kpC HE3.out.kpC).cell (j := 6) rfl
    go_wp2_with fail
    clear k0 k1 k2 k3 k4 k5 k6
    refine (order_any c.cs HN0.out d.a0 d.k0 (.slice d.a1 c.sm.length d.k1) (.slice d.a2 c.pg.length d.k2) (.slice d.a3 c.kl.length d.k3) (.slice d.a4 c.fe.length d.k4) (.slice d.a5 c.ho.length d.k5) (.slice d.a6 c.cu.length d.k6) _ (HX.out.cs.ext (HX0.out.trans HE3.out))).mono ?_
    rintro e w4 ⟨oa, oc, rfl, ho, hE4⟩
    have HO := Lib.hid ho
    have HE4 := Lib.hid (HE3.out.trans hE4)
    clear ho hE4
    have k0 := (HCB.out.kpC HE4.out.kpC).cell (j := 0) rfl
    have k1 := (HCB.out.kpC HE4.out.kpC).cell (j := 1) rfl
    have k2 := (HCB.out.kpC HE4.out.kpC).cell (j := 2) rfl
    have k3 := (HCB.out.kpC HE4.out.kpC).cell (j := 3) rfl
    have k4 := (HCB.out.kpC HE4.out.kpC).cell (j := 4) rfl
    have k5 := (HCB.out.kpC HE4.out.kpC).cell (j := 5) rfl
    have k6 := (HCB.out.kpC HE4.out.kpC).cell (j := 6) rfl
    go_wp2_with fail
    clear k0 k1 k2 k3 k4 k5 k6
    refine (cycle_any c.cs HN0.out d.a0 d.k0 (.slice d.a1 c.sm.length d.k1) (.slice d.a2 c.pg.length d.k2) (.slice d.a3 c.kl.length d.k3) (.slice d.a4 c.fe.length d.k4) (.slice d.a5 c.ho.length d.k5) (.slice d.a6 c.cu.length d.k6) _ (HX.out.cs.ext (HX0.out.trans HE4.out))).mono ?_
    rintro e w5 ⟨ca, cc, rfl, hcy, hE5⟩
    obtain ⟨D, hD, hD0, hDD⟩ := circle_ok HNU.out
    rw [hD] at hcy
    have hcl : (D.map (nuAt c.cs)).length = D.length := List.length_map _
    rw [hD, hcl]
    have HCY := Lib.hid hcy
    have HE5 := Lib.hid (HE4.out.trans hE5)
    have HDD := Lib.hid hDD
    have hs9 := irows_max hcy
    rw [hcl] at hs9
    have hord : ((ordE c.cs == 0) = true ∧ ((D.length : Int) == 0) = true) ∨ ((ordE c.cs == 0) = false ∧ ((D.length : Int) == 0) = false) := by
      by_cases h0 : D = []
      · exact .inl ⟨by rw [hD0.1 h0]; rfl, by rw [h0]; rfl⟩
      · have h1 : ordE c.cs ≠ 0 := fun h => h0 (hD0.2 h)
        have h2 : D.length ≠ 0 := fun h => h0 (List.length_eq_zero_iff.1 h)
        exact .inr ⟨by simpa using h1, by simpa using h2⟩
    obtain ⟨cy, hcyq⟩ : ∃ cy, D.map (nuAt c.cs) = cy := ⟨_, rfl⟩
    have HCV : Hid (∀ (t a : Nat), D[t]? = some a → cy[t]? = some (nuAt c.cs a)) := Lib.hid (fun t a h => by rw [← hcyq, List.getElem?_map, h]; rfl)
    rw [hcyq] at HCY HDD hcl
    have HCL := Lib.hid hcl
    have HPL : Hid (∀ x W, Ext w5 W → Calls Try.prog 23 #[.slice ca D.length cc, .int .i64 x] W fun e w' => e = .returned (.int .i64 (findI cy x)) ∧ Ext W w') := Lib.hid (fun x W hW => by
      have := place_any cy x ca cc W (HCY.out.ext hW)
      rw [HCL.out] at this
      exact this)
    obtain ⟨oe, hoe⟩ : ∃ oe, ordE c.cs = oe := ⟨_, rfl⟩
    rw [hoe] at hord
    rw [hoe]
    have hz0 := HX.out.cs.max
    clear hcy hE5 hD hD0 hDD hcl hcyq hoe
    rcases hord with ⟨q1, q2⟩ | ⟨q1, q2⟩
    all_goals
      go_wp2_with fail
      go_loopw [6] (fun iv wr => ∃ m : Nat, iv = .int .i64 m ∧ m ≤ D.length ∧ Ext w5 wr) (fun iv _ => D.length - (intOf iv).toNat)
      case atStart => exact ⟨0, rfl, by omega, Ext.refl _⟩
      case round =>
        obtain ⟨m, rfl, hm, hEL⟩ := hrel
        have HEL := Lib.hid hEL
        clear hEL
        by_cases hlt : m < D.length
        · have hmi : (m : Int) < (D.length : Int) := by omega
          obtain ⟨a, ha⟩ : ∃ a, D[m]? = some a := ⟨_, List.getElem?_eq_getElem hlt⟩
          obtain ⟨hal, hfa, n, hn, hnl, hnn⟩ := HDD.out m a ha
          obtain ⟨x, hx⟩ : ∃ x, c.cs[a]? = some x := ⟨_, List.getElem?_eq_getElem hal⟩
          obtain ⟨y, hy⟩ : ∃ y, c.cs[n]? = some y := ⟨_, List.getElem?_eq_getElem hnl⟩
          have hva := HCV.out m a ha
          have hvn := HCV.out _ n hn
          rw [nuAt_of hx] at hva hfa
          rw [nuAt_of hy] at hvn
          obtain ⟨b1, o1, eca, c0⟩ := i_at HCY.out HEL.out hva
          obtain ⟨b1', o1', eca', c1⟩ := i_at HCY.out HEL.out hvn
          rw [eca] at eca'
          cases eca'
          have HAN := Lib.hid (And.intro hx (And.intro hy (hnn x hx)))
          have HFA := Lib.hid hfa
          have HCA := Lib.hid (fun W (hW : Ext wr W) => hW.cell c0)
          have hrem : Int.tmod ((m : Int) + 1) (D.length : Int) = (((m + 1) % D.length : Nat) : Int) := by
            rw [Int.tmod_eq_emod_of_nonneg (by omega)]
            rfl
          have hr1 : (((m + 1) % D.length : Nat) : Int) < (D.length : Int) := by
            have := Nat.mod_lt (m + 1) (show 0 < D.length by omega)
            omega
          have hdz : ((D.length : Int) == 0) = false := beq_eq_false_iff_ne.2 (by omega)
          have hdz' : ¬ (D.length : Int) = 0 := by omega
          obtain ⟨r, hr⟩ : ∃ r, (m + 1) % D.length = r := ⟨_, rfl⟩
          rw [hr] at hrem hr1 c1
          clear ha hfa hn hnn hx hy hva hvn hr
          rw [eca]
          go_wp2_with fail
          clear c0 c1 hrem hr1 hdz hdz'
          obtain ⟨w6, rfl⟩ : ∃ w6, w6 = wr := ⟨_, rfl⟩
          go_loopw [8, 9] (fun fv kv wr => ∃ (k : Nat) (b : Bool), fv = .bool b ∧ kv = .int .i64 k ∧ k ≤ c.cs.length ∧ (a < k → b = true) ∧ Ext w6 wr) (fun _ kv _ => c.cs.length - (intOf kv).toNat)
          case atStart => exact ⟨0, false, rfl, rfl, by omega, fun h => by omega, Ext.refl _⟩
          case round =>
            obtain ⟨k, b, rfl, rfl, hk, hab, hEK⟩ := hrel
            have HAB := Lib.hid hab
            have HEK := Lib.hid hEK
            have c0 := HCA.out wr hEK
            have b0 := (HCB.out.kpC (HE5.out.trans (HEL.out.trans hEK)).kpC).cell (j := 0) rfl
            clear hab hEK
            by_cases hlk : k < c.cs.length
            · have hki : (k : Int) < (c.cs.length : Int) := by omega
              obtain ⟨z, hz⟩ : ∃ z, c.cs[k]? = some z := ⟨_, List.getElem?_eq_getElem hlk⟩
              obtain ⟨B, o, _, _, _, _, ea0, -, -, -, -, -, hcells⟩ := (HX.out.cs.ext (HX0.out.trans (HE5.out.trans (HEL.out.trans HEK.out)))).at hz
              have d1 : wr.cell? ⟨B, o + k * 16 + 1, none⟩ = some (.int .i64 z.nu) := hcells 1 _ rfl
              have HEA := Lib.hid ea0
              rw [ea0] at b0
              have gb0 := grow_cell b0
              have gc0 := grow_cell c0
              have gd1 := grow_cell d1
              by_cases hka : k = a
              · have hzx : z = x := by have h1 := HAN.out.1; rw [← hka, hz] at h1; exact Option.some.inj h1
                have HKA := Lib.hid hka
                have hne : (z.nu != x.nu) = false := by rw [hzx]; simp
                have HND := Lib.hid (refNeeds_any c.cs z k hz (HBN.out z (List.mem_of_getElem? hz)) d.a0 d.k0 (.slice d.a1 c.sm.length d.k1) (.slice d.a2 c.pg.length d.k2) (.slice d.a3 c.kl.length d.k3) (.slice d.a4 c.fe.length d.k4) (.slice d.a5 c.ho.length d.k5) (.slice d.a6 c.cu.length d.k6))
                obtain ⟨nds, hnds⟩ : ∃ nds, needsN c.cs z = nds := ⟨_, rfl⟩
                have HNL : Hid (∀ n ∈ nds, n < c.cs.length) := Lib.hid (fun n hn => needsN_lt (by rw [hnds]; exact hn))
                have HNM : Hid (n ∈ nds) := Lib.hid (by rw [← hnds, hzx]; exact HAN.out.2.2)
                rw [hnds] at HND
                clear hcells hz hka hzx hnds ea0
                go_wp2_with fail
                refine wp_region_rel_all (fun _ => none) (by kernel_rfl) (by kernel_rfl) ?_
                repeat (first
                  | (refine wpRel_quick ?_ ?_ ?_ ?_
                     · rfl
                     · rfl
                     · first | exact noEnter rfl | (intro f args W W'; go_simp)
                     intro K hK
                     go_big_quiet_op
                     go_big_quiet_on)
                  | (refine wpRel_skip ?_ ?_
                     · rfl
                     simp only [Act.put, List.setIfInBounds_toArray, List.set_cons_zero, List.set_cons_succ]))
                refine wpRel_nil ?_
                intro W3 hW3
                have HE7 := Lib.hid (HEK.out.trans ((Ext.refl _).drew.trans hW3.1))
                clear hW3 b0 c0 d1 gb0 gc0 gd1
                have k0 := (HCB.out.kpC (HE5.out.trans (HEL.out.trans HE7.out)).kpC).cell (j := 0) rfl
                have k1 := (HCB.out.kpC (HE5.out.trans (HEL.out.trans HE7.out)).kpC).cell (j := 1) rfl
                have k2 := (HCB.out.kpC (HE5.out.trans (HEL.out.trans HE7.out)).kpC).cell (j := 2) rfl
                have k3 := (HCB.out.kpC (HE5.out.trans (HEL.out.trans HE7.out)).kpC).cell (j := 3) rfl
                have k4 := (HCB.out.kpC (HE5.out.trans (HEL.out.trans HE7.out)).kpC).cell (j := 4) rfl
                have k5 := (HCB.out.kpC (HE5.out.trans (HEL.out.trans HE7.out)).kpC).cell (j := 5) rfl
                have k6 := (HCB.out.kpC (HE5.out.trans (HEL.out.trans HE7.out)).kpC).cell (j := 6) rfl
                rw [HEA.out] at k0
                go_wp2_with fail
                clear k0 k1 k2 k3 k4 k5 k6
                have hndc := HND.out W3 (HX.out.cs.ext (HX0.out.trans (HE5.out.trans (HEL.out.trans HE7.out))))
                rw [HEA.out] at hndc
                refine hndc.mono ?_
                clear hndc
                rintro e w7 ⟨na, nc, rfl, hn, hE8⟩
                have HN := Lib.hid hn
                have HE8 := Lib.hid (HE7.out.trans hE8)
                have hs2 := irows_max hn
                rw [ints_length] at hs2
                clear hn hE8
                go_wp2_with fail
                rw [ints_length]
                go_loopw [8, 11] (fun fv jv wr => ∃ (q : Nat) (b' : Bool), fv = .bool b' ∧ jv = .int .i64 q ∧ q ≤ nds.length ∧ (∀ q', q' < q → nds[q']? = some n → b' = true) ∧ Ext w7 wr) (fun _ jv _ => nds.length - (intOf jv).toNat)
                case atStart => exact ⟨0, b, rfl, rfl, by omega, fun q' h => by omega, Ext.refl _⟩
                case round =>
                  obtain ⟨q, b', rfl, rfl, hq, hqb, hEQ⟩ := hrel
                  have HQB := Lib.hid hqb
                  have HEQ := Lib.hid hEQ
                  clear hqb hEQ
                  by_cases hlq : q < nds.length
                  · have hqi : (q : Int) < (nds.length : Int) := by omega
                    cases b' with
                    | true =>
                      go_wp2_with fail
                      refine wp_region_rel_all (fun _ => none) (by kernel_rfl) (by kernel_rfl) ?_
                      repeat (first
                        | (refine wpRel_quick ?_ ?_ ?_ ?_
                           · rfl
                           · rfl
                           · first | exact noEnter rfl | (intro f args W W'; go_simp)
                           intro K hK
                           go_big_quiet_op
                           go_big_quiet_on)
                        | (refine wpRel_skip ?_ ?_
                           · rfl
                           simp only [Act.put, List.setIfInBounds_toArray, List.set_cons_zero, List.set_cons_succ]))
                      refine wpRel_nil ?_
                      intro W4 hW4
                      have HE9 := Lib.hid (HEQ.out.trans ((Ext.refl _).drew.trans hW4.1))
                      clear hW4
                      go_wp2_with fail
                      go_roundw
                      case rel => exact ⟨q + 1, true, rfl, by go_num, by omega, fun _ _ _ => rfl, HE9.out⟩
                      case measure => simp [intOf] <;> omega
                    | false =>
                      obtain ⟨nq, hnq⟩ : ∃ nq, nds[q]? = some nq := ⟨_, List.getElem?_eq_getElem hlq⟩
                      have hnql := HNL.out nq (List.mem_of_getElem? hnq)
                      have hnqi : (nq : Int) < (c.cs.length : Int) := by omega
                      obtain ⟨y2, hy2⟩ : ∃ y2, c.cs[nq]? = some y2 := ⟨_, List.getElem?_eq_getElem hnql⟩
                      obtain ⟨B2, o2, _, _, _, _, ea2, -, -, -, -, -, hcells⟩ := (HX.out.cs.ext (HX0.out.trans (HE5.out.trans (HEL.out.trans (HE8.out.trans HEQ.out))))).at hy2
                      rw [HEA.out] at ea2
                      cases ea2
                      have d1 : wr.cell? ⟨B, o + nq * 16 + 1, none⟩ = some (.int .i64 y2.nu) := hcells 1 _ rfl
                      obtain ⟨b3, o3, ena, c0⟩ := i_at HN.out HEQ.out (ints_all hnq)
                      have b0 := (HCB.out.kpC (HE5.out.trans (HEL.out.trans (HE8.out.trans HEQ.out))).kpC).cell (j := 0) rfl
                      rw [HEA.out] at b0
                      have HB3 : Hid (nq = n → y2.nu = y.nu) := Lib.hid (fun e => by have h1 := HAN.out.2.1; rw [← e, hy2] at h1; rw [Option.some.inj h1])
                      have HNQ := Lib.hid hnq
                      have gb0 := grow_cell b0
                      have gc0 := grow_cell c0
                      have gd1 := grow_cell d1
                      clear hcells hy2 hnq
                      rw [ena]
                      have HENA := Lib.hid ena
                      clear ena
                      cases hbq : (y2.nu == y.nu)
                      all_goals
                        have HBQ := Lib.hid hbq
                        go_wp2_with fail
                        refine wp_region_rel_all (fun _ => none) (by kernel_rfl) (by kernel_rfl) ?_
                        repeat (first
                          | (refine wpRel_quick ?_ ?_ ?_ ?_
                             · rfl
                             · rfl
                             · first | exact noEnter rfl | (intro f args W W'; go_simp)
                             intro K hK
                             go_big_quiet_op
                             go_big_quiet_on)
                          | (refine wpRel_skip ?_ ?_
                             · rfl
                             simp only [Act.put, List.setIfInBounds_toArray, List.set_cons_zero, List.set_cons_succ]))
                        refine wpRel_nil ?_
                        intro W4 hW4
                        have HE9 := Lib.hid (HEQ.out.trans ((Ext.refl _).drew.trans hW4.1))
                        clear hW4 b0 c0 d1 gb0 gc0 gd1 hbq
                        go_wp2_with fail
                        go_roundw
                        case rel =>
                          refine ⟨q + 1, _, rfl, by go_num, by omega, fun q' hq' he => ?_, HE9.out⟩
                          by_cases e : q' = q
                          · subst e
                            first
                              | exact rfl
                              | (rw [HNQ.out] at he
                                 have h1 := HB3.out (Option.some.inj he)
                                 have h2 := HBQ.out
                                 rw [h1] at h2
                                 simp at h2)
                          · have h3 := HQB.out q' (by omega) he
                            exact absurd h3 (by decide)
                        case measure => simp [intOf] <;> omega
                  · have hqi : ¬ (q : Int) < (nds.length : Int) := by omega
                    have hbt : b' = true := by
                      obtain ⟨q', hq'⟩ := List.getElem?_of_mem HNM.out
                      exact HQB.out q' (by have := (List.getElem?_eq_some_iff.1 hq').1; omega) hq'
                    subst hbt
                    go_wp2_with fail
                    go_roundw
                    case rel => exact ⟨k + 1, true, rfl, by go_num, by omega, fun _ => rfl, HE8.out.trans HEQ.out⟩
                    case measure => simp [intOf] <;> omega
              · have hal := (List.getElem?_eq_some_iff.1 HAN.out.1).1
                have hne : (z.nu != x.nu) = true := by
                  rw [bne_iff_ne]
                  intro h
                  exact hka (nu_inj HNU.out hlk hal (by rw [nuAt_of hz, nuAt_of HAN.out.1]; exact h))
                have HKA := Lib.hid hka
                clear hcells hz hka ea0 hal
                go_wp2_with fail
                refine wp_region_rel_all (fun _ => none) (by kernel_rfl) (by kernel_rfl) ?_
                repeat (first
                  | (refine wpRel_quick ?_ ?_ ?_ ?_
                     · rfl
                     · rfl
                     · first | exact noEnter rfl | (intro f args W W'; go_simp)
                     intro K hK
                     go_big_quiet_op
                     go_big_quiet_on)
                  | (refine wpRel_skip ?_ ?_
                     · rfl
                     simp only [Act.put, List.setIfInBounds_toArray, List.set_cons_zero, List.set_cons_succ]))
                refine wpRel_nil ?_
                intro W3 hW3
                have HE7 := Lib.hid (HEK.out.trans ((Ext.refl _).drew.trans hW3.1))
                clear hW3 b0 c0 d1 gb0 gc0 gd1
                go_wp2_with fail
                go_roundw
                case rel => exact ⟨k + 1, b, rfl, by go_num, by omega, fun h => HAB.out (by have := HKA.out; omega), HE7.out⟩
                case measure => simp [intOf] <;> omega
            · have hki : ¬ (k : Int) < (c.cs.length : Int) := by omega
              have hbt : b = true := HAB.out (by have := (List.getElem?_eq_some_iff.1 HAN.out.1).1; omega)
              subst hbt
              have HPX := Lib.hid (HPL.out x.nu wr (HEL.out.trans HEK.out))
              rw [HFA.out, eca] at HPX
              go_wp2_with fail
              refine HPX.out.mono ?_
              rintro e w8 ⟨rfl, hE9⟩
              have HE9 := Lib.hid (HEK.out.trans hE9)
              have hmm : ((m : Int) != (m : Int)) = false := by simp
              clear hE9 c0 b0
              go_wp2_with fail
              go_roundw
              case rel => exact ⟨m + 1, by go_num, by omega, HEL.out.trans HE9.out⟩
              case measure => simp [intOf] <;> omega
        · have hmi : ¬ (m : Int) < (D.length : Int) := by omega
          go_wp2_with fail
          go_ret
          exact ⟨rfl, HX0.out.trans (HE5.out.trans HEL.out)⟩
end Go.Proofs.Ytimigpfoflilcaa
