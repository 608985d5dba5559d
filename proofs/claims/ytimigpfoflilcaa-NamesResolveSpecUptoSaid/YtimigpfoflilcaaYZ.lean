/- Names: Resolve. -/
import Derived.Test.YtimigpfoflilcaaYX
namespace Go.Sz
open Go.RowKit
/-- what Resolve has put together stands wherever its new blocks stand -/
theorem resX {w W V : World} {c : Cat} {d : Adr} {cs : List Cr} {sm : List Pr} {gs : List Pg} {aC aS aP : Option Addr} {kC kS kP D NC NP n tC tS tP : Nat} {rowsC rowsP : List (List Value)} (hX : RepX w d c) (hE : Ext w V)
    (hk : ∀ (b : Nat) (o : Obj), n ≤ b → W.heap[b]? = some o → o.isCells = true → V.heap[b]? = some o) (hD : n ≤ D) (hNC : n ≤ NC) (hNP : n ≤ NP)
    (hcl : rowsC.length = cs.length) (hcr : ∀ (i : Nat) x q, cs[i]? = some x → rowsC[i]? = some q → CrN NC W x q) (hcw : ∀ q ∈ rowsC, q.length = 16) (hco : W.ownsRow D tC 16 (.slice aC cs.length kC) cs.length rowsC.flatten)
    (hso : W.ownsRow D tS 4 (.slice aS sm.length kS) sm.length (sm.map Pr.cells).flatten)
    (hpl : rowsP.length = gs.length) (hpr : ∀ (i : Nat) p r, gs[i]? = some p → rowsP[i]? = some r → PgN w NP W p r) (hpw : ∀ q ∈ rowsP, q.length = 7) (hpo : W.ownsRow D tP 7 (.slice aP gs.length kP) gs.length rowsP.flatten) :
    RepX V ⟨aC, kC, aS, kS, aP, kP, d.a3, d.k3, d.a4, d.k4, d.a5, d.k5, d.a6, d.k6⟩ { c with cs := cs, sm := sm, pg := gs } := by
  have keep : ∀ {e size m k : Nat} {ao : Option Addr} {xs : List Value}, W.ownsRow D e size (.slice ao m k) m xs → V.ownsRow D e size (.slice ao m k) m xs := fun {e size m k ao xs} h =>
    own_keep h fun z hz o h1 h2 => hk _ o (by have := (own_in h z hz).1; omega) h1 h2
  have h0 := hX.ext hE
  refine ⟨?_, ?_, ?_, h0.kl, h0.fe, h0.ho, h0.cu⟩
  · obtain ⟨_, _, e, hs, -⟩ := SL.of_own (keep hco) hcw hcl
    cases e
    exact ⟨rowsC, hs, hcl, fun i x q hx hq => by
      obtain ⟨u, v, e, hu, hv, ho⟩ := (hcr i x q hx hq).keep fun b o hb => hk b o (by omega)
      exact ⟨u, v, e, hu.repU, hv.repU, ho⟩⟩
  · obtain ⟨_, _, e, hs, -⟩ := SL.of_own (keep hso) (fun r hr => by obtain ⟨p, _, rfl⟩ := List.mem_map.1 hr; rfl) (List.length_map _)
    cases e
    exact hs
  · obtain ⟨_, _, e, hs, -⟩ := SL.of_own (keep hpo) hpw hpl
    cases e
    exact ⟨rowsP, hs, hpl, fun i p r hp hr => by
      obtain ⟨a, k, rq, e, hq, hl, hqr, -⟩ := (hpr i p r hp hr).keep fun b o hb => hk b o (by omega)
      exact ⟨a, k, e, rq, hq, hl, fun j q s hj hs => by
        obtain ⟨na, nc, fa, fc, e, h1, h2, -⟩ := hqr j q s hj hs
        exact ⟨na, nc, fa, fc, e, h1.ext hE, h2⟩⟩⟩
end Go.Sz
namespace Go.Proofs.Ytimigpfoflilcaa
open Go.RowKit Go.Sz
theorem lpQ_cases {n : Nat} {c : Cat} {d : Adr} {w : World} {F : Act → World → Prop} {e : Exit} {a : Act} {W : World} (h : lpQ n c d w F e a W) : (∃ ch, e = .panic ch ∧ ResD c d w ch a W) ∨ (e = .exit n ∧ F a W) := by
  cases e with
  | exit k => exact .inr ⟨by rw [h.1], h.2⟩
  | panic ch => exact .inl ⟨ch, rfl, h⟩
  | _ => exact h.elim
theorem gonQ_cases {F : Act → World → Prop} {e : Exit} {a : Act} {W : World} (h : gonQ F e a W) : e = .normal ∧ F a W := by
  cases e with
  | normal => exact ⟨rfl, h⟩
  | _ => exact h.elim
set_option maxRecDepth 1000000 in
set_option maxHeartbeats 6400000 in
theorem resolve_any (c : Cat) (hk : c.Ok) (d : Adr) (w : World) (hX : RepX w d c) : Calls Try.prog 12 #[.agg (c.cells d).toArray] w (resPost c w) := by
  have hE0 : Ext w (((w.alloc (.cells (c.cells d).toArray 29)).alloc (.cells zero7.toArray 29)).alloc (.cells #[.int .i64 0] 32)) := (((Ext.refl w).alloc _).alloc _).alloc _
  have hV0 : ResV (((w.alloc (.cells (c.cells d).toArray 29)).alloc (.cells zero7.toArray 29)).alloc (.cells #[.int .i64 0] 32)) w.heap.size 29 32 (c.cells d) := by
    refine ⟨?_, ?_, ?_⟩
    all_goals
      unfold Row
      simp only [heap_al, World.size_alloc]
      all_goals (repeat rw [if_neg (by omega)])
      all_goals rfl
  have HX := Lib.hid hX
  have HV0 := Lib.hid hV0
  have HE0 := Lib.hid hE0
  have b2 := hV0.1.cell (j := 2) rfl
  have hs2 := hX.pg.max
  have HOK := Lib.hid hk
  clear hX hV0 hE0 hk
  unfold Cat.cells zero7 at b2
  unfold Cat.cells
  go_enter_defers Try.func12, Try.ntmps12
  go_wp2_with fail
  clear b2
  refine Code.wp_mono (Q := lpQ 0 c d w _) (fun e a W h => ?_) (by apply loopA c d w _ HX.out HV0.out HE0.out)
  rcases lpQ_cases h with ⟨ch, rfl, hd⟩ | ⟨rfl, hF⟩
  · exact hd.dies
  clear h HV0 HE0
  obtain ⟨y5, y7, y27, y28, y29, y30, y31, y32, y33, y34, y35, y36, y37, y38, y39, y40, y41, y42, y43, y44, y45, y46, y47, rfl, hV, hE, ha⟩ := hF
  have HV := Lib.hid hV
  have HE := Lib.hid hE
  have HA := Lib.hid ha
  have b0 := hV.1.cell (j := 0) rfl
  clear hV hE ha
  go_wp2_with fail
  clear b0
  refine (uniCs' c.cs d.a0 d.k0 _ (HX.out.cs.ext HE.out) HOK.out.s0 HOK.out.n0).mono ?_
  rintro e w1 ⟨hp, hE⟩
  have hV1 := HV.out.kpC hE.kpC
  have HE1 := Lib.hid (HE.out.trans hE)
  rcases hp with ⟨hb, rfl⟩ | ⟨hb, rfl⟩
  rotate_left
  · exact res_dies (Cat.resN_twice HA.out (fun h => hb h.1)) rfl rfl rfl hV1 HE1.out
  have H1 := Lib.hid hb
  clear hb hE HV HE
  have HV := Lib.hid hV1
  have HE := HE1
  clear HE1
  have b0 := HV.out.1.cell (j := 0) rfl
  go_wp2_with fail
  clear b0
  refine (uniCi' c.cs d.a0 d.k0 _ (HX.out.cs.ext HE.out) HOK.out.n0).mono ?_
  rintro e w2 ⟨hp, hE⟩
  have hV2 := HV.out.kpC hE.kpC
  have HE2 := Lib.hid (HE.out.trans hE)
  rcases hp with ⟨hb, rfl⟩ | ⟨hb, rfl⟩
  rotate_left
  · exact res_dies (Cat.resN_twice HA.out (fun h => hb h.2.1)) rfl rfl rfl hV2 HE2.out
  have H2 := Lib.hid hb
  clear hb hE HV HE
  have HV := Lib.hid hV2
  have HE := HE2
  clear HE2
  have b2 := HV.out.1.cell (j := 2) rfl
  go_wp2_with fail
  clear b2
  refine (uniPs' c.pg d.a2 d.k2 _ (HX.out.pg.ext HE.out) (fun x hx => (HOK.out.s2 x hx).1) HOK.out.n2).mono ?_
  rintro e w3 ⟨hp, hE⟩
  have hV3 := HV.out.kpC hE.kpC
  have HE3 := Lib.hid (HE.out.trans hE)
  rcases hp with ⟨hb, rfl⟩ | ⟨hb, rfl⟩
  rotate_left
  · exact res_dies (Cat.resN_twice HA.out (fun h => hb h.2.2.1)) rfl rfl rfl hV3 HE3.out
  have H3 := Lib.hid hb
  clear hb hE HV HE
  have HV := Lib.hid hV3
  have HE := HE3
  clear HE3
  have b2 := HV.out.1.cell (j := 2) rfl
  go_wp2_with fail
  clear b2
  refine (uniPi' c.pg d.a2 d.k2 _ (HX.out.pg.ext HE.out) (fun x hx => (HOK.out.s2 x hx).2.1) HOK.out.n2).mono ?_
  rintro e w4 ⟨hp, hE⟩
  have hV4 := HV.out.kpC hE.kpC
  have HE4 := Lib.hid (HE.out.trans hE)
  rcases hp with ⟨hb, rfl⟩ | ⟨hb, rfl⟩
  rotate_left
  · exact res_dies (Cat.resN_twice HA.out (fun h => hb h.2.2.2.1)) rfl rfl rfl hV4 HE4.out
  have H4 := Lib.hid hb
  clear hb hE HV HE
  have HV := Lib.hid hV4
  have HE := HE4
  clear HE4
  have b2 := HV.out.1.cell (j := 2) rfl
  go_wp2_with fail
  clear b2
  refine Code.wp_mono (Q := lpQ 4 c d w _) (fun e a W h => ?_) (by apply loopB c HOK.out d w _ HX.out HV.out HE.out HA.out)
  rcases lpQ_cases h with ⟨ch, rfl, hd⟩ | ⟨rfl, hF⟩
  · exact hd.dies
  clear h HV HE
  obtain ⟨y9, y63, y64, y65, y66, y67, y68, y69, y70, rfl, hV, hE, hq5⟩ := hF
  have HV := Lib.hid hV
  have HE := Lib.hid hE
  have H5 := Lib.hid hq5
  have b3 := hV.1.cell (j := 3) rfl
  clear hV hE hq5
  go_wp2_with fail
  clear b3
  refine (uniKs' c.kl d.a3 d.k3 _ (HX.out.kl.ext HE.out) HOK.out.s3 HOK.out.n3).mono ?_
  rintro e w6 ⟨hp, hE⟩
  have hV6 := HV.out.kpC hE.kpC
  have HE6 := Lib.hid (HE.out.trans hE)
  rcases hp with ⟨hb, rfl⟩ | ⟨hb, rfl⟩
  rotate_left
  · exact res_dies (Cat.resN_twice HA.out (fun h => hb h.2.2.2.2.2.1)) rfl rfl rfl hV6 HE6.out
  have H6 := Lib.hid hb
  clear hb hE HV HE
  have HV := Lib.hid hV6
  have HE := HE6
  clear HE6
  have b4 := HV.out.1.cell (j := 4) rfl
  go_wp2_with fail
  clear b4
  refine (uniFs' c.fe d.a4 d.k4 _ (HX.out.fe.ext HE.out) HOK.out.s4 HOK.out.n4).mono ?_
  rintro e w7 ⟨hp, hE⟩
  have hV7 := HV.out.kpC hE.kpC
  have HE7 := Lib.hid (HE.out.trans hE)
  rcases hp with ⟨hb, rfl⟩ | ⟨hb, rfl⟩
  rotate_left
  · exact res_dies (Cat.resN_twice HA.out (fun h => hb h.2.2.2.2.2.2.1)) rfl rfl rfl hV7 HE7.out
  have H7 := Lib.hid hb
  clear hb hE HV HE
  have HV := Lib.hid hV7
  have HE := HE7
  clear HE7
  have b5 := HV.out.1.cell (j := 5) rfl
  go_wp2_with fail
  clear b5
  refine (uniKs' c.ho d.a5 d.k5 _ (HX.out.ho.ext HE.out) HOK.out.s5 HOK.out.n5).mono ?_
  rintro e w8 ⟨hp, hE⟩
  have hV8 := HV.out.kpC hE.kpC
  have HE8 := Lib.hid (HE.out.trans hE)
  rcases hp with ⟨hb, rfl⟩ | ⟨hb, rfl⟩
  rotate_left
  · exact res_dies (Cat.resN_twice HA.out (fun h => hb h.2.2.2.2.2.2.2)) rfl rfl rfl hV8 HE8.out
  have H8 := Lib.hid hb
  clear hb hE HV HE
  have HV := Lib.hid hV8
  have HE := HE8
  clear HE8
  have b0 := HV.out.1.cell (j := 0) rfl
  have b1 := HV.out.1.cell (j := 1) rfl
  have b2 := HV.out.1.cell (j := 2) rfl
  have b3 := HV.out.1.cell (j := 3) rfl
  have b4 := HV.out.1.cell (j := 4) rfl
  have b5 := HV.out.1.cell (j := 5) rfl
  have b6 := HV.out.1.cell (j := 6) rfl
  have HO : Hid c.once := Lib.hid ⟨H1.out, H2.out, H3.out, H4.out, H5.out, H6.out, H7.out, H8.out⟩
  clear H1 H2 H3 H4 H5 H6 H7 H8
  go_wp2_with fail
  clear b0 b1 b2 b3 b4 b5 b6
  have hwY : w.heap.size + 3 ≤ w8.heap.size := by have := (Array.getElem?_eq_some_iff.1 HV.out.2.2).1; omega
  have hVA := HV.out.kpC ((Ext.refl w8).alloc (.cells #[.slice d.a0 c.cs.length d.k0, .slice d.a1 c.sm.length d.k1, .slice d.a2 c.pg.length d.k2, .slice d.a3 c.kl.length d.k3, .slice d.a4 c.fe.length d.k4, .slice d.a5 c.ho.length d.k5, .slice d.a6 c.cu.length d.k6] 29)).kpC
  have hEA := HE.out.alloc (.cells #[.slice d.a0 c.cs.length d.k0, .slice d.a1 c.sm.length d.k1, .slice d.a2 c.pg.length d.k2, .slice d.a3 c.kl.length d.k3, .slice d.a4 c.fe.length d.k4, .slice d.a5 c.ho.length d.k5, .slice d.a6 c.cu.length d.k6] 29)
  have hYA : Row (w8.alloc (.cells #[.slice d.a0 c.cs.length d.k0, .slice d.a1 c.sm.length d.k1, .slice d.a2 c.pg.length d.k2, .slice d.a3 c.kl.length d.k3, .slice d.a4 c.fe.length d.k4, .slice d.a5 c.ho.length d.k5, .slice d.a6 c.cu.length d.k6] 29)) w8.heap.size 29 (c.cells d) := by unfold Row; rw [heap_al, if_pos rfl]; rfl
  obtain ⟨rowsC, hsC, hlC, hwC, hcC, hoC⟩ := HX.out.cs.ones
  obtain ⟨rowsG, hsG, hlG, hcG, hoG⟩ := HX.out.pg.ones
  have hYD : w8.heap.size < (w8.alloc (.cells #[.slice d.a0 c.cs.length d.k0, .slice d.a1 c.sm.length d.k1, .slice d.a2 c.pg.length d.k2, .slice d.a3 c.kl.length d.k3, .slice d.a4 c.fe.length d.k4, .slice d.a5 c.ho.length d.k5, .slice d.a6 c.cu.length d.k6] 29)).heap.size := by simp
  refine Code.wp_mono (Q := gonQ _) (fun e a W h => ?_) (by apply reg24 c HOK.out d w _ HX.out hVA hEA rowsC rowsG hsC hlC hoC hsG hlG hoG w8.heap.size hYA hwY)
  obtain ⟨rfl, hF⟩ := gonQ_cases h
  clear h HV HE hVA hEA hYA hoC hoG hsC hsG
  generalize (w8.alloc (.cells #[.slice d.a0 c.cs.length d.k0, .slice d.a1 c.sm.length d.k1, .slice d.a2 c.pg.length d.k2, .slice d.a3 c.kl.length d.k3, .slice d.a4 c.fe.length d.k4, .slice d.a5 c.ho.length d.k5, .slice d.a6 c.cu.length d.k6] 29)).heap.size = D at *
  generalize w8.heap.size = Y at *
  obtain ⟨y81, y82, y83, y84, y85, y86, y87, y88, y89, y90, y91, y92, rfl, hV, hE, hDW, aC, kC, aS, kS, aP, kP, hYr, hoc, hos, hop, ncs, ncp, nsp⟩ := hF
  have y0 := hYr.cell (j := 0) rfl
  have HV := Lib.hid hV
  have HE := Lib.hid hE
  have HYR := Lib.hid hYr
  have HOC := Lib.hid hoc
  have HOS := Lib.hid hos
  have HOP := Lib.hid hop
  have HROWS := Lib.hid (And.intro hlC (And.intro hwC (And.intro hcC (And.intro hlG hcG))))
  have HNE := Lib.hid (And.intro ncs (And.intro ncp nsp))
  have HNUM := Lib.hid (And.intro hwY (And.intro hYD hDW))
  have hs0 := HX.out.cs.max
  have hs1 : (c.sm.length : Int) ≤ 9223372036854775807 := by have := HX.out.sm.max; have := HX.out.sm.le; rw [List.length_map] at this; omega
  clear hV hE hYr hoc hos hop hlC hwC hcC hlG hcG ncs ncp nsp hwY hYD hDW
  go_wp2_with fail
  clear y0
  refine Code.wp_mono (Q := lpQ 6 c d w _) (fun e a WC h => ?_) (by apply loopC c HOK.out d w _ HX.out HV.out HE.out HA.out HO.out Y D kC aC _ HYR.out rowsC HROWS.out.1 HROWS.out.2.1 HROWS.out.2.2.1 HOC.out HNUM.out.2.1 (by have := HNUM.out; omega) HNUM.out.2.2)
  rcases lpQ_cases h with ⟨ch, rfl, hd⟩ | ⟨rfl, hF⟩
  · exact hd.dies
  clear h HV HE HYR
  obtain ⟨y11, y96, y97, y98, y99, y100, y101, y102, y103, y104, y105, y106, y107, y108, y109, y110, y111, y112, y113, y114, y115, y116, y117, y118, y119, y120, y121, y122, y123, y124, y125, rfl, hV, hE, hYr, hkC, cs', rows', htC, hlC, hcC, hoC⟩ := hF
  have y1 := hYr.cell (j := 1) rfl
  have HV := Lib.hid hV
  have HE := Lib.hid hE
  have HYR := Lib.hid hYr
  have HC1 := Lib.hid (And.intro htC (And.intro hlC hcC))
  have iC := own_in HOC.out
  have iS := own_in HOS.out
  have iP := own_in HOP.out
  have HIN := Lib.hid (And.intro iC (And.intro iS iP))
  have HOC1 := Lib.hid hoC
  have HOS1 := Lib.hid (own_kpB HOS.out hkC (fun z y hz hy => (HNE.out.1 y z hy hz).symm))
  have HOP1 := Lib.hid (own_kpB HOP.out hkC (fun z y hz hy => (HNE.out.2.1 y z hy hz).symm))
  clear hV hE hYr hkC htC hlC hcC hoC iC iS iP HOC HOS HOP
  go_wp2_with fail
  clear y1
  refine Code.wp_mono (Q := lpQ 8 c d w _) (fun e a WD h => ?_) (by apply loopD c HOK.out d w _ HX.out HV.out HE.out HA.out HO.out Y D kS aS _ rfl HYR.out HOS1.out HNUM.out.2.1 (by have := HNUM.out; omega))
  rcases lpQ_cases h with ⟨ch, rfl, hd⟩ | ⟨rfl, hF⟩
  · exact hd.dies
  clear h HV HE HYR
  obtain ⟨y12, y13, y129, y130, y131, y132, y133, y134, y135, y136, y137, y138, y139, y140, y141, y142, y143, y144, y145, y146, y147, y148, y149, y150, y151, y152, y153, y154, y155, y156, rfl, hV, hE, hYr, hkS, sm', htS, hoS⟩ := hF
  have y2 := hYr.cell (j := 2) rfl
  have HV := Lib.hid hV
  have HE := Lib.hid hE
  have HYR := Lib.hid hYr
  have HTS := Lib.hid htS
  have HC2 : Hid (∀ (i : Nat) x q, cs'[i]? = some x → rows'[i]? = some q → CrN W.heap.size WD x q) := Lib.hid fun i x q h1 h2 => (HC1.out.2.2 i x q h1 h2).keep fun b o hb h3 h4 => hkS.2 b o (fun z hz e => by have := (HIN.out.2.1 z hz).2; omega) h3 h4
  have HOC2 := Lib.hid (own_kpB HOC1.out hkS (fun z y hz hy => HNE.out.1 z y hz hy))
  have HOS2 := Lib.hid hoS
  have HOP2 := Lib.hid (own_kpB HOP1.out hkS (fun z y hz hy => (HNE.out.2.2 y z hy hz).symm))
  have hs2' := HX.out.pg.max
  clear hV hE hYr hkS htS hoS HOC1 HOS1 HOP1
  go_wp2_with fail
  clear y2
  refine Code.wp_mono (Q := lpQ 10 c d w _) (fun e a WE h => ?_) (by apply loopE c HOK.out d w _ HX.out HV.out HE.out HA.out HO.out Y D kP aP _ rfl HYR.out rowsG HROWS.out.2.2.2.1 HROWS.out.2.2.2.2 HOP2.out HNUM.out.2.1 (by have := HNUM.out; omega))
  rcases lpQ_cases h with ⟨ch, rfl, hd⟩ | ⟨rfl, hF⟩
  · exact hd.dies
  clear h HYR
  obtain ⟨y14, y15, y16, y17, y18, y19, y20, y160, y161, y162, y163, y164, y165, y166, y167, y168, y169, y170, y171, y172, y173, y174, y175, y176, y177, y178, y179, y180, y181, y182, y183, y184, y185, y186, y187, y188, y189, y190, y191, y192, y193, y194, y195, y196, y197, y198, y199, y200, y201, y202, y203, y204, y205, y206, y207, y208, y209, y210, y211, y212, y213, rfl, hV, hE, hkP, hYr, gs, rowsP, htP, hlP, hcP, hoP⟩ := hF
  have hC3 : ∀ (i : Nat) x q, cs'[i]? = some x → rows'[i]? = some q → CrN W.heap.size WE x q := fun i x q h1 h2 => (HC2.out i x q h1 h2).keep fun b o hb h3 h4 => hkP.2 b o (fun z hz e => by have := (HIN.out.2.2 z hz).2; omega) h3 h4
  have hOC3 := own_kpB HOC2.out hkP (fun z y hz hy => HNE.out.2.1 z y hz hy)
  have hOS3 := own_kpB HOS2.out hkP (fun z y hz hy => HNE.out.2.2 z y hz hy)
  have eC := travO_len HC1.out.1
  have eS := travO_len HTS.out
  have eP := travO_len htP
  have hlC := HC1.out.2.1
  rw [← eC] at hOC3 hlC hYr
  rw [← eS] at hOS3 hYr
  rw [← eP] at hoP hlP hYr
  have hn : c.nums = some { c with cs := cs', sm := sm', pg := gs } := by unfold Cat.nums; rw [HC1.out.1, HTS.out, htP]; rfl
  have hcw : ∀ q ∈ rows', q.length = 16 := fun q hq => by
    obtain ⟨i, hi⟩ := List.getElem?_of_mem hq
    have hil := (List.getElem?_eq_some_iff.1 hi).1
    obtain ⟨x, hx⟩ : ∃ x, cs'[i]? = some x := ⟨_, List.getElem?_eq_getElem (by omega)⟩
    exact (hC3 i x q hx hi).len
  have hpw : ∀ q ∈ rowsP, q.length = 7 := fun q hq => by
    obtain ⟨i, hi⟩ := List.getElem?_of_mem hq
    have hil := (List.getElem?_eq_some_iff.1 hi).1
    obtain ⟨x, hx⟩ : ∃ x, gs[i]? = some x := ⟨_, List.getElem?_eq_getElem (by omega)⟩
    exact (hcP i x q hx hi).len
  have h1 := HNUM.out
  have h2 := HE.out.size
  have h3 := (Array.getElem?_eq_some_iff.1 HV.out.2.2).1
  rename_i K hK
  refine hK _ _ ?_
  apply tail16 c { c with cs := cs', sm := sm', pg := gs } HOK.out d ⟨aC, kC, aS, kS, aP, kP, d.a3, d.k3, d.a4, d.k4, d.a5, d.k5, d.a6, d.k6⟩ w _ HX.out hV hE HA.out HO.out hn Y hYr h1.1
  intro V hEV hkV
  exact resX (W := WE) (n := w.heap.size + 3) HX.out hEV hkV (by omega) (by omega) (by omega) hlC hC3 hcw hOC3 hOS3 hlP hcP hpw hoP
end Go.Proofs.Ytimigpfoflilcaa
