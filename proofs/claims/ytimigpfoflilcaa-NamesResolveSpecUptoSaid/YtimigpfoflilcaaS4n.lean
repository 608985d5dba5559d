/- Names: Same of the syntax, whole. -/
import Derived.Test.YtimigpfoflilcaaS3n
import Derived.Test.YtimigpfoflilcaaYX
namespace Go.Proofs.Ytimigpfoflilcaa
open Go.RowKit Go.Sz
set_option maxRecDepth 100000 in
set_option maxHeartbeats 6400000 in
theorem same_any (x y : Cat) (d g : Adr) (w : World) (hx : RepX w d x) (hy : RepX w g y) : Calls Try.prog 14 #[.agg (x.cells d).toArray, .agg (y.cells g).toArray] w (RetEq (x = y) w) := by
  have hX : Ext w (((w.alloc (.cells #[.slice d.a0 x.cs.length d.k0, .slice d.a1 x.sm.length d.k1, .slice d.a2 x.pg.length d.k2, .slice d.a3 x.kl.length d.k3, .slice d.a4 x.fe.length d.k4, .slice d.a5 x.ho.length d.k5, .slice d.a6 x.cu.length d.k6] 29)).alloc (.cells #[.slice g.a0 y.cs.length g.k0, .slice g.a1 y.sm.length g.k1, .slice g.a2 y.pg.length g.k2, .slice g.a3 y.kl.length g.k3, .slice g.a4 y.fe.length g.k4, .slice g.a5 y.ho.length g.k5, .slice g.a6 y.cu.length g.k6] 29)).alloc (.cells #[.func (Fn.func 55) #[] #[]] 99)) := (((Ext.refl w).alloc _).alloc _).alloc _
  have hrows : Row (((w.alloc (.cells #[.slice d.a0 x.cs.length d.k0, .slice d.a1 x.sm.length d.k1, .slice d.a2 x.pg.length d.k2, .slice d.a3 x.kl.length d.k3, .slice d.a4 x.fe.length d.k4, .slice d.a5 x.ho.length d.k5, .slice d.a6 x.cu.length d.k6] 29)).alloc (.cells #[.slice g.a0 y.cs.length g.k0, .slice g.a1 y.sm.length g.k1, .slice g.a2 y.pg.length g.k2, .slice g.a3 y.kl.length g.k3, .slice g.a4 y.fe.length g.k4, .slice g.a5 y.ho.length g.k5, .slice g.a6 y.cu.length g.k6] 29)).alloc (.cells #[.func (Fn.func 55) #[] #[]] 99)) w.heap.size 29 [.slice d.a0 x.cs.length d.k0, .slice d.a1 x.sm.length d.k1, .slice d.a2 x.pg.length d.k2, .slice d.a3 x.kl.length d.k3, .slice d.a4 x.fe.length d.k4, .slice d.a5 x.ho.length d.k5, .slice d.a6 x.cu.length d.k6] ∧ Row (((w.alloc (.cells #[.slice d.a0 x.cs.length d.k0, .slice d.a1 x.sm.length d.k1, .slice d.a2 x.pg.length d.k2, .slice d.a3 x.kl.length d.k3, .slice d.a4 x.fe.length d.k4, .slice d.a5 x.ho.length d.k5, .slice d.a6 x.cu.length d.k6] 29)).alloc (.cells #[.slice g.a0 y.cs.length g.k0, .slice g.a1 y.sm.length g.k1, .slice g.a2 y.pg.length g.k2, .slice g.a3 y.kl.length g.k3, .slice g.a4 y.fe.length g.k4, .slice g.a5 y.ho.length g.k5, .slice g.a6 y.cu.length g.k6] 29)).alloc (.cells #[.func (Fn.func 55) #[] #[]] 99)) (w.heap.size + 1) 29 [.slice g.a0 y.cs.length g.k0, .slice g.a1 y.sm.length g.k1, .slice g.a2 y.pg.length g.k2, .slice g.a3 y.kl.length g.k3, .slice g.a4 y.fe.length g.k4, .slice g.a5 y.ho.length g.k5, .slice g.a6 y.cu.length g.k6] ∧ Row (((w.alloc (.cells #[.slice d.a0 x.cs.length d.k0, .slice d.a1 x.sm.length d.k1, .slice d.a2 x.pg.length d.k2, .slice d.a3 x.kl.length d.k3, .slice d.a4 x.fe.length d.k4, .slice d.a5 x.ho.length d.k5, .slice d.a6 x.cu.length d.k6] 29)).alloc (.cells #[.slice g.a0 y.cs.length g.k0, .slice g.a1 y.sm.length g.k1, .slice g.a2 y.pg.length g.k2, .slice g.a3 y.kl.length g.k3, .slice g.a4 y.fe.length g.k4, .slice g.a5 y.ho.length g.k5, .slice g.a6 y.cu.length g.k6] 29)).alloc (.cells #[.func (Fn.func 55) #[] #[]] 99)) (w.heap.size + 2) 99 [.func (Fn.func 55) #[] #[]] := by
    refine ⟨?_, ?_, ?_⟩
    all_goals
      unfold Row
      simp only [heap_al, World.size_alloc]
      all_goals (repeat rw [if_neg (by omega)])
      all_goals rfl
  have HR1 := Lib.hid hrows.1
  have HR2 := Lib.hid hrows.2.1
  have HR3 := Lib.hid hrows.2.2
  have HC0 := Lib.hid (fun V (hV : Ext (((w.alloc (.cells #[.slice d.a0 x.cs.length d.k0, .slice d.a1 x.sm.length d.k1, .slice d.a2 x.pg.length d.k2, .slice d.a3 x.kl.length d.k3, .slice d.a4 x.fe.length d.k4, .slice d.a5 x.ho.length d.k5, .slice d.a6 x.cu.length d.k6] 29)).alloc (.cells #[.slice g.a0 y.cs.length g.k0, .slice g.a1 y.sm.length g.k1, .slice g.a2 y.pg.length g.k2, .slice g.a3 y.kl.length g.k3, .slice g.a4 y.fe.length g.k4, .slice g.a5 y.ho.length g.k5, .slice g.a6 y.cu.length g.k6] 29)).alloc (.cells #[.func (Fn.func 55) #[] #[]] 99)) V) => by
    obtain ⟨r1, s1, l1, p1⟩ := hx.cs
    obtain ⟨r2, s2, l2, p2⟩ := hy.cs
    have o1 : ∀ r ∈ r1, ∀ u ∈ r, u.oneCell' = true := fun r hr u hu => by
      obtain ⟨i, hi⟩ := List.getElem?_of_mem hr
      have hil := (List.getElem?_eq_some_iff.1 hi).1
      obtain ⟨q, hq⟩ : ∃ q, x.cs[i]? = some q := ⟨_, List.getElem?_eq_getElem (by rw [← l1]; exact hil)⟩
      obtain ⟨a, b, rfl, ha, hb, -⟩ := p1 i q r hq hi
      rcases List.mem_append.1 hu with hu | hu
      · rcases List.mem_append.1 hu with hu | hu
        · simp only [Cr.head, List.mem_cons, List.not_mem_nil, or_false] at hu
          rcases hu with rfl | rfl | rfl | rfl <;> rfl
        · exact ha.one u hu
      · exact hb.one u hu
    have o2 : ∀ r ∈ r2, ∀ u ∈ r, u.oneCell' = true := fun r hr u hu => by
      obtain ⟨i, hi⟩ := List.getElem?_of_mem hr
      have hil := (List.getElem?_eq_some_iff.1 hi).1
      obtain ⟨q, hq⟩ : ∃ q, y.cs[i]? = some q := ⟨_, List.getElem?_eq_getElem (by rw [← l2]; exact hil)⟩
      obtain ⟨a, b, rfl, ha, hb, -⟩ := p2 i q r hq hi
      rcases List.mem_append.1 hu with hu | hu
      · rcases List.mem_append.1 hu with hu | hu
        · simp only [Cr.head, List.mem_cons, List.not_mem_nil, or_false] at hu
          rcases hu with rfl | rfl | rfl | rfl <;> rfl
        · exact ha.one u hu
      · exact hb.one u hu
    exact eqfC_any x.cs y.cs r1 r2 l1 l2 o1 o2 d.a0 g.a0 d.k0 g.k0 V (s1.ext (hX.trans hV)) (s2.ext (hX.trans hV)) (fun i p q c c' e1 e2 e3 e4 V' hV' => by
      obtain ⟨u, v, rfl, hu, hv, -⟩ := p1 i p c e1 e3
      obtain ⟨u', v', rfl, hu', hv', -⟩ := p2 i q c' e2 e4
      obtain ⟨a, n, rfl, -, -⟩ := hu.out
      obtain ⟨b, m, rfl, -, -⟩ := hv.out
      obtain ⟨a', n', rfl, -, -⟩ := hu'.out
      obtain ⟨b', m', rfl, -, -⟩ := hv'.out
      exact same1_any p q _ _ _ _ _ _ _ _ w V' (hX.trans (hV.trans hV')) hu hv hu' hv'))
  have HC1 := Lib.hid (fun V (hV : Ext (((w.alloc (.cells #[.slice d.a0 x.cs.length d.k0, .slice d.a1 x.sm.length d.k1, .slice d.a2 x.pg.length d.k2, .slice d.a3 x.kl.length d.k3, .slice d.a4 x.fe.length d.k4, .slice d.a5 x.ho.length d.k5, .slice d.a6 x.cu.length d.k6] 29)).alloc (.cells #[.slice g.a0 y.cs.length g.k0, .slice g.a1 y.sm.length g.k1, .slice g.a2 y.pg.length g.k2, .slice g.a3 y.kl.length g.k3, .slice g.a4 y.fe.length g.k4, .slice g.a5 y.ho.length g.k5, .slice g.a6 y.cu.length g.k6] 29)).alloc (.cells #[.func (Fn.func 55) #[] #[]] 99)) V) => (equalPr_any x.sm y.sm d.a1 g.a1 d.k1 g.k1 V (hx.sm.ext (hX.trans hV)) (hy.sm.ext (hX.trans hV))).mono fun e w' h => retEq_dec h)
  have HC3 := Lib.hid (fun V (hV : Ext (((w.alloc (.cells #[.slice d.a0 x.cs.length d.k0, .slice d.a1 x.sm.length d.k1, .slice d.a2 x.pg.length d.k2, .slice d.a3 x.kl.length d.k3, .slice d.a4 x.fe.length d.k4, .slice d.a5 x.ho.length d.k5, .slice d.a6 x.cu.length d.k6] 29)).alloc (.cells #[.slice g.a0 y.cs.length g.k0, .slice g.a1 y.sm.length g.k1, .slice g.a2 y.pg.length g.k2, .slice g.a3 y.kl.length g.k3, .slice g.a4 y.fe.length g.k4, .slice g.a5 y.ho.length g.k5, .slice g.a6 y.cu.length g.k6] 29)).alloc (.cells #[.func (Fn.func 55) #[] #[]] 99)) V) => (equalKl_any x.kl y.kl d.a3 g.a3 d.k3 g.k3 V (hx.kl.ext (hX.trans hV)) (hy.kl.ext (hX.trans hV))).mono fun e w' h => retEq_dec h)
  have HC4 := Lib.hid (fun V (hV : Ext (((w.alloc (.cells #[.slice d.a0 x.cs.length d.k0, .slice d.a1 x.sm.length d.k1, .slice d.a2 x.pg.length d.k2, .slice d.a3 x.kl.length d.k3, .slice d.a4 x.fe.length d.k4, .slice d.a5 x.ho.length d.k5, .slice d.a6 x.cu.length d.k6] 29)).alloc (.cells #[.slice g.a0 y.cs.length g.k0, .slice g.a1 y.sm.length g.k1, .slice g.a2 y.pg.length g.k2, .slice g.a3 y.kl.length g.k3, .slice g.a4 y.fe.length g.k4, .slice g.a5 y.ho.length g.k5, .slice g.a6 y.cu.length g.k6] 29)).alloc (.cells #[.func (Fn.func 55) #[] #[]] 99)) V) => (equalFe_any x.fe y.fe d.a4 g.a4 d.k4 g.k4 V (hx.fe.ext (hX.trans hV)) (hy.fe.ext (hX.trans hV))).mono fun e w' h => retEq_dec h)
  have HC5 := Lib.hid (fun V (hV : Ext (((w.alloc (.cells #[.slice d.a0 x.cs.length d.k0, .slice d.a1 x.sm.length d.k1, .slice d.a2 x.pg.length d.k2, .slice d.a3 x.kl.length d.k3, .slice d.a4 x.fe.length d.k4, .slice d.a5 x.ho.length d.k5, .slice d.a6 x.cu.length d.k6] 29)).alloc (.cells #[.slice g.a0 y.cs.length g.k0, .slice g.a1 y.sm.length g.k1, .slice g.a2 y.pg.length g.k2, .slice g.a3 y.kl.length g.k3, .slice g.a4 y.fe.length g.k4, .slice g.a5 y.ho.length g.k5, .slice g.a6 y.cu.length g.k6] 29)).alloc (.cells #[.func (Fn.func 55) #[] #[]] 99)) V) => (equalKl_any x.ho y.ho d.a5 g.a5 d.k5 g.k5 V (hx.ho.ext (hX.trans hV)) (hy.ho.ext (hX.trans hV))).mono fun e w' h => retEq_dec h)
  have HC6 := Lib.hid (fun V (hV : Ext (((w.alloc (.cells #[.slice d.a0 x.cs.length d.k0, .slice d.a1 x.sm.length d.k1, .slice d.a2 x.pg.length d.k2, .slice d.a3 x.kl.length d.k3, .slice d.a4 x.fe.length d.k4, .slice d.a5 x.ho.length d.k5, .slice d.a6 x.cu.length d.k6] 29)).alloc (.cells #[.slice g.a0 y.cs.length g.k0, .slice g.a1 y.sm.length g.k1, .slice g.a2 y.pg.length g.k2, .slice g.a3 y.kl.length g.k3, .slice g.a4 y.fe.length g.k4, .slice g.a5 y.ho.length g.k5, .slice g.a6 y.cu.length g.k6] 29)).alloc (.cells #[.func (Fn.func 55) #[] #[]] 99)) V) => (equalCu_any x.cu y.cu d.a6 g.a6 d.k6 g.k6 V (hx.cu.ext (hX.trans hV)) (hy.cu.ext (hX.trans hV))).mono fun e w' h => retEq_dec h)
  have HC2 := Lib.hid (fun V (hV : Ext (((w.alloc (.cells #[.slice d.a0 x.cs.length d.k0, .slice d.a1 x.sm.length d.k1, .slice d.a2 x.pg.length d.k2, .slice d.a3 x.kl.length d.k3, .slice d.a4 x.fe.length d.k4, .slice d.a5 x.ho.length d.k5, .slice d.a6 x.cu.length d.k6] 29)).alloc (.cells #[.slice g.a0 y.cs.length g.k0, .slice g.a1 y.sm.length g.k1, .slice g.a2 y.pg.length g.k2, .slice g.a3 y.kl.length g.k3, .slice g.a4 y.fe.length g.k4, .slice g.a5 y.ho.length g.k5, .slice g.a6 y.cu.length g.k6] 29)).alloc (.cells #[.func (Fn.func 55) #[] #[]] 99)) V) => by
    obtain ⟨r1, s1, l1, p1⟩ := hx.pg
    obtain ⟨r2, s2, l2, p2⟩ := hy.pg
    exact eqfG_any x.pg y.pg r1 r2 (w.heap.size + 2) l1 l2 (fun i p c e1 e2 => by obtain ⟨a, n, e, -⟩ := p1 i p c e1 e2; exact ⟨a, n, e⟩) (fun i p c e1 e2 => by obtain ⟨a, n, e, -⟩ := p2 i p c e1 e2; exact ⟨a, n, e⟩) d.a2 g.a2 d.k2 g.k2 V (s1.ext (hX.trans hV)) (s2.ext (hX.trans hV)) (fun i p q c c' e1 e2 e3 e4 V' hV' => by
      obtain ⟨a, n, rfl, h1⟩ := p1 i p c e1 e3
      obtain ⟨a', n', rfl, h2⟩ := p2 i q c' e2 e4
      exact same3_any p q _ _ _ _ _ w V' (hX.trans (hV.trans hV')) h1 h2 ((HR3.out.kpC (hV.trans hV').kpC).cell rfl)))
  have HX := Lib.hid hX
  have e0 := HR1.out.cell (j := 0) rfl
  have f0 := HR2.out.cell (j := 0) rfl
  clear hX hrows hx hy
  unfold Cat.cells
  go_enter Try.func14, Try.ntmps14
  go_wp2_with fail
  refine (HC0.out _ (Ext.refl _)).mono ?_
  rintro e w5 ⟨bb, rfl, hiff, hE⟩
  have HI0 := Lib.hid hiff
  have HB0 := Lib.hid (hE)
  clear hiff hE e0 f0
  cases bb with
  | false =>
    go_wp2_with fail
    go_ret
    exact ⟨false, rfl, ⟨fun h => (by cases h), fun h => by have h1 := HI0.out.2 (by subst h; rfl); cases h1⟩, HX.out.trans HB0.out⟩
  | true =>
    have e1 := (HR1.out.kpC HB0.out.kpC).cell (j := 1) rfl
    have f1 := (HR2.out.kpC HB0.out.kpC).cell (j := 1) rfl
    go_wp2_with fail
    refine (HC1.out _ HB0.out).mono ?_
    rintro e w6 ⟨bb, rfl, hiff, hE⟩
    have HI1 := Lib.hid hiff
    have HB1 := Lib.hid (HB0.out.trans hE)
    clear hiff hE e1 f1
    cases bb with
    | false =>
      go_wp2_with fail
      go_ret
      exact ⟨false, rfl, ⟨fun h => (by cases h), fun h => by have h1 := HI1.out.2 (by subst h; rfl); cases h1⟩, HX.out.trans HB1.out⟩
    | true =>
      have e2 := (HR1.out.kpC HB1.out.kpC).cell (j := 2) rfl
      have f2 := (HR2.out.kpC HB1.out.kpC).cell (j := 2) rfl
      go_wp2_with fail
      refine (HC2.out _ HB1.out).mono ?_
      rintro e w7 ⟨bb, rfl, hiff, hE⟩
      have HI2 := Lib.hid hiff
      have HB2 := Lib.hid (HB1.out.trans hE)
      clear hiff hE e2 f2
      cases bb with
      | false =>
        go_wp2_with fail
        go_ret
        exact ⟨false, rfl, ⟨fun h => (by cases h), fun h => by have h1 := HI2.out.2 (by subst h; rfl); cases h1⟩, HX.out.trans HB2.out⟩
      | true =>
        have e3 := (HR1.out.kpC HB2.out.kpC).cell (j := 3) rfl
        have f3 := (HR2.out.kpC HB2.out.kpC).cell (j := 3) rfl
        go_wp2_with fail
        refine (HC3.out _ HB2.out).mono ?_
        rintro e w8 ⟨bb, rfl, hiff, hE⟩
        have HI3 := Lib.hid hiff
        have HB3 := Lib.hid (HB2.out.trans hE)
        clear hiff hE e3 f3
        cases bb with
        | false =>
          go_wp2_with fail
          go_ret
          exact ⟨false, rfl, ⟨fun h => (by cases h), fun h => by have h1 := HI3.out.2 (by subst h; rfl); cases h1⟩, HX.out.trans HB3.out⟩
        | true =>
          have e4 := (HR1.out.kpC HB3.out.kpC).cell (j := 4) rfl
          have f4 := (HR2.out.kpC HB3.out.kpC).cell (j := 4) rfl
          go_wp2_with fail
          refine (HC4.out _ HB3.out).mono ?_
          rintro e w9 ⟨bb, rfl, hiff, hE⟩
          have HI4 := Lib.hid hiff
          have HB4 := Lib.hid (HB3.out.trans hE)
          clear hiff hE e4 f4
          cases bb with
          | false =>
            go_wp2_with fail
            go_ret
            exact ⟨false, rfl, ⟨fun h => (by cases h), fun h => by have h1 := HI4.out.2 (by subst h; rfl); cases h1⟩, HX.out.trans HB4.out⟩
          | true =>
            have e5 := (HR1.out.kpC HB4.out.kpC).cell (j := 5) rfl
            have f5 := (HR2.out.kpC HB4.out.kpC).cell (j := 5) rfl
            go_wp2_with fail
            refine (HC5.out _ HB4.out).mono ?_
            rintro e w10 ⟨bb, rfl, hiff, hE⟩
            have HI5 := Lib.hid hiff
            have HB5 := Lib.hid (HB4.out.trans hE)
            clear hiff hE e5 f5
            cases bb with
            | false =>
              go_wp2_with fail
              go_ret
              exact ⟨false, rfl, ⟨fun h => (by cases h), fun h => by have h1 := HI5.out.2 (by subst h; rfl); cases h1⟩, HX.out.trans HB5.out⟩
            | true =>
              have e6 := (HR1.out.kpC HB5.out.kpC).cell (j := 6) rfl
              have f6 := (HR2.out.kpC HB5.out.kpC).cell (j := 6) rfl
              go_wp2_with fail
              refine (HC6.out _ HB5.out).mono ?_
              rintro e w11 ⟨bb, rfl, hiff, hE⟩
              have HI6 := Lib.hid hiff
              have HB6 := Lib.hid (HB5.out.trans hE)
              clear hiff hE e6 f6
              cases bb with
              | false =>
                go_wp2_with fail
                go_ret
                exact ⟨false, rfl, ⟨fun h => (by cases h), fun h => by have h1 := HI6.out.2 (by subst h; rfl); cases h1⟩, HX.out.trans HB6.out⟩
              | true =>
                go_wp2_with fail
                go_ret
                exact ⟨true, rfl, ⟨fun _ => Cat.ext_iff'.2 ⟨HI0.out.1 (by simp), HI1.out.1 (by simp), HI2.out.1 (by simp), HI3.out.1 (by simp), HI4.out.1 (by simp), HI5.out.1 (by simp), HI6.out.1 (by simp)⟩, fun _ => rfl⟩, HX.out.trans HB6.out⟩
end Go.Proofs.Ytimigpfoflilcaa
