/- Names: the law ResolveSpec. -/
import Derived.Test.YtimigpfoflilcaaZR5
import Derived.Test.YtimigpfoflilcaaL11b
namespace Go.Proofs.Ytimigpfoflilcaa
open Go.RowKit Go.Sz
/-- Resolve, its answer named -/
theorem rr_prog {c x : Cat} {n : Int} (hc : c.resN = (n, x)) (hk : c.Ok) (d : Adr) (w : World) (hX : RepX w d c) : Calls Try.prog 12 #[.agg (c.cells d).toArray] w fun e w' => ∃ g : Adr, e = .returned (.tuple #[.agg (x.cells g).toArray, .int .i64 n]) ∧ RepX w' g x ∧ Ext w w' := by
  refine (resolve_any c hk d w hX).mono ?_
  rintro e w' ⟨g, rfl, hR, hE⟩
  rw [hc] at hR
  rw [hc]
  exact ⟨g, rfl, hR, hE⟩
theorem rr_ref {c x : Cat} {n : Int} (hc : c.resN = (n, x)) (hk : c.Ok) (hb : ∀ x ∈ c.cs, x.need.parts.length ≤ 1048576 ∧ x.bar.parts.length ≤ 1048576) (d : Adr) (w : World) (hX : RepX w d c) : Calls Try.prog 13 #[.agg (c.cells d).toArray] w fun e w' => ∃ g : Adr, e = .returned (.tuple #[.agg (x.cells g).toArray, .int .i64 n]) ∧ RepX w' g x ∧ Ext w w' := by
  refine (refResolve_any c hk hb d w hX).mono ?_
  rintro e w' ⟨g, rfl, hR, hE⟩
  rw [hc] at hR
  rw [hc]
  exact ⟨g, rfl, hR, hE⟩
set_option maxRecDepth 1000000 in
set_option maxHeartbeats 12800000 in
theorem law_resolve (c : Cat) (d : Adr) (w : World) (hX : RepX w d c) (hb : ∀ x ∈ c.cs, x.need.parts.length ≤ 1048576 ∧ x.bar.parts.length ≤ 1048576) (hk : c.few → c.Ok) : Calls Try.prog 3 #[.agg (c.cells d).toArray] w fun e w' => e = .returned (.bool true) ∧ Ext w w' := by
  have HKO := Lib.hid hk
  clear hk
  have hXA : Ext w (w.alloc (.cells #[.slice d.a0 c.cs.length d.k0, .slice d.a1 c.sm.length d.k1, .slice d.a2 c.pg.length d.k2, .slice d.a3 c.kl.length d.k3, .slice d.a4 c.fe.length d.k4, .slice d.a5 c.ho.length d.k5, .slice d.a6 c.cu.length d.k6] 29)) := (Ext.refl w).alloc _
  have HCB : Hid (Row (w.alloc (.cells #[.slice d.a0 c.cs.length d.k0, .slice d.a1 c.sm.length d.k1, .slice d.a2 c.pg.length d.k2, .slice d.a3 c.kl.length d.k3, .slice d.a4 c.fe.length d.k4, .slice d.a5 c.ho.length d.k5, .slice d.a6 c.cu.length d.k6] 29)) w.heap.size 29 [.slice d.a0 c.cs.length d.k0, .slice d.a1 c.sm.length d.k1, .slice d.a2 c.pg.length d.k2, .slice d.a3 c.kl.length d.k3, .slice d.a4 c.fe.length d.k4, .slice d.a5 c.ho.length d.k5, .slice d.a6 c.cu.length d.k6]) := Lib.hid (by unfold Row; rw [heap_al, if_pos rfl])
  have HX := Lib.hid hX
  have HB := Lib.hid hb
  have HX0 := Lib.hid hXA
  clear hX hb hXA
  unfold Cat.cells
  go_enter Try.func3, Try.ntmps3
  go_wp2_with fail
  generalize (w.alloc (.cells #[.slice d.a0 c.cs.length d.k0, .slice d.a1 c.sm.length d.k1, .slice d.a2 c.pg.length d.k2, .slice d.a3 c.kl.length d.k3, .slice d.a4 c.fe.length d.k4, .slice d.a5 c.ho.length d.k5, .slice d.a6 c.cu.length d.k6] 29)) = w0 at *
  refine (sane_any _).mono ?_
  rintro e w1 ⟨rfl, hE⟩
  have HE := Lib.hid hE
  clear hE
  have k0 := (HCB.out.kpC HE.out.kpC).cell (j := 0) rfl
  have k1 := (HCB.out.kpC HE.out.kpC).cell (j := 1) rfl
  have k2 := (HCB.out.kpC HE.out.kpC).cell (j := 2) rfl
  have k3 := (HCB.out.kpC HE.out.kpC).cell (j := 3) rfl
  have k4 := (HCB.out.kpC HE.out.kpC).cell (j := 4) rfl
  have k5 := (HCB.out.kpC HE.out.kpC).cell (j := 5) rfl
  have k6 := (HCB.out.kpC HE.out.kpC).cell (j := 6) rfl
  go_wp2_with fail
  clear k0 k1 k2 k3 k4 k5 k6
  refine (refFew_any c d w1 (HX.out.ext (HX0.out.trans HE.out)) HB.out).mono ?_
  rintro e w2 ⟨b, rfl, hiff, hE2⟩
  have HIFF := Lib.hid hiff
  have HE2 := Lib.hid (HE.out.trans hE2)
  clear hiff hE2
  cases b with
  | false =>
    go_wp2_with fail
    go_ret
    exact ⟨rfl, HX0.out.trans HE2.out⟩
  | true =>
    have hfew : c.few := HIFF.out.1 (by simp)
    have HN0 : Hid (c.cs.length ≤ 100000) := Lib.hid (by have := hfew.n0; omega)
    have HBN : Hid (∀ x ∈ c.cs, x.need.parts.length ≤ 1048576) := Lib.hid (fun x hx => (HB.out x hx).1)
    have HOK := Lib.hid (HKO.out hfew)
    clear hfew
    have k0 := (HCB.out.kpC HE2.out.kpC).cell (j := 0) rfl
    have k1 := (HCB.out.kpC HE2.out.kpC).cell (j := 1) rfl
    have k2 := (HCB.out.kpC HE2.out.kpC).cell (j := 2) rfl
    have k3 := (HCB.out.kpC HE2.out.kpC).cell (j := 3) rfl
    have k4 := (HCB.out.kpC HE2.out.kpC).cell (j := 4) rfl
    have k5 := (HCB.out.kpC HE2.out.kpC).cell (j := 5) rfl
    have k6 := (HCB.out.kpC HE2.out.kpC).cell (j := 6) rfl
    obtain ⟨⟨n, x⟩, hx⟩ : ∃ y, c.resN = y := ⟨_, rfl⟩
    have HRE := Lib.hid hx
    have hnn : (n == n) = true := by simp
    clear hx
    go_wp2_with fail
    clear k0 k1 k2 k3 k4 k5 k6
    refine (rr_prog HRE.out HOK.out d _ (HX.out.ext (HX0.out.trans HE2.out))).mono ?_
    rintro e w3 ⟨g, rfl, hR, hE3⟩
    have HR := Lib.hid (hR.ext ((Ext.refl w3).alloc (.cells #[.slice g.a0 x.cs.length g.k0, .slice g.a1 x.sm.length g.k1, .slice g.a2 x.pg.length g.k2, .slice g.a3 x.kl.length g.k3, .slice g.a4 x.fe.length g.k4, .slice g.a5 x.ho.length g.k5, .slice g.a6 x.cu.length g.k6] 29)))
    have HE3 := Lib.hid ((HE2.out.trans hE3).alloc (.cells #[.slice g.a0 x.cs.length g.k0, .slice g.a1 x.sm.length g.k1, .slice g.a2 x.pg.length g.k2, .slice g.a3 x.kl.length g.k3, .slice g.a4 x.fe.length g.k4, .slice g.a5 x.ho.length g.k5, .slice g.a6 x.cu.length g.k6] 29))
    have HXB : Hid (Row (w3.alloc (.cells #[.slice g.a0 x.cs.length g.k0, .slice g.a1 x.sm.length g.k1, .slice g.a2 x.pg.length g.k2, .slice g.a3 x.kl.length g.k3, .slice g.a4 x.fe.length g.k4, .slice g.a5 x.ho.length g.k5, .slice g.a6 x.cu.length g.k6] 29)) w3.heap.size 29 [.slice g.a0 x.cs.length g.k0, .slice g.a1 x.sm.length g.k1, .slice g.a2 x.pg.length g.k2, .slice g.a3 x.kl.length g.k3, .slice g.a4 x.fe.length g.k4, .slice g.a5 x.ho.length g.k5, .slice g.a6 x.cu.length g.k6]) := Lib.hid (row_al _ _ _)
    clear hR hE3
    have k0 := (HCB.out.kpC HE3.out.kpC).cell (j := 0) rfl
    have k1 := (HCB.out.kpC HE3.out.kpC).cell (j := 1) rfl
    have k2 := (HCB.out.kpC HE3.out.kpC).cell (j := 2) rfl
    have k3 := (HCB.out.kpC HE3.out.kpC).cell (j := 3) rfl
    have k4 := (HCB.out.kpC HE3.out.kpC).cell (j := 4) rfl
    have k5 := (HCB.out.kpC HE3.out.kpC).cell (j := 5) rfl
    have k6 := (HCB.out.kpC HE3.out.kpC).cell (j := 6) rfl
    unfold Cat.cells
    go_wp2_with fail
    clear k0 k1 k2 k3 k4 k5 k6
    obtain ⟨w4, hw4⟩ : ∃ w4, (w3.alloc (.cells #[.slice g.a0 x.cs.length g.k0, .slice g.a1 x.sm.length g.k1, .slice g.a2 x.pg.length g.k2, .slice g.a3 x.kl.length g.k3, .slice g.a4 x.fe.length g.k4, .slice g.a5 x.ho.length g.k5, .slice g.a6 x.cu.length g.k6] 29)) = w4 := ⟨_, rfl⟩
    rw [hw4] at HR HE3 HXB
    rw [hw4]
    clear hw4
    refine (rr_ref HRE.out HOK.out HB.out d _ (HX.out.ext (HX0.out.trans HE3.out))).mono ?_
    rintro e w5 ⟨g2, rfl, hR2, hE5⟩
    have hE6 : Ext w4 (w5.alloc (.cells #[.slice g2.a0 x.cs.length g2.k0, .slice g2.a1 x.sm.length g2.k1, .slice g2.a2 x.pg.length g2.k2, .slice g2.a3 x.kl.length g2.k3, .slice g2.a4 x.fe.length g2.k4, .slice g2.a5 x.ho.length g2.k5, .slice g2.a6 x.cu.length g2.k6] 29)) := hE5.alloc _
    have HR2 := Lib.hid (hR2.ext ((Ext.refl w5).alloc (.cells #[.slice g2.a0 x.cs.length g2.k0, .slice g2.a1 x.sm.length g2.k1, .slice g2.a2 x.pg.length g2.k2, .slice g2.a3 x.kl.length g2.k3, .slice g2.a4 x.fe.length g2.k4, .slice g2.a5 x.ho.length g2.k5, .slice g2.a6 x.cu.length g2.k6] 29)))
    have HR6 := Lib.hid (HR.out.ext hE6)
    have HXB6 := Lib.hid (HXB.out.kpC hE6.kpC)
    have HE6 := Lib.hid (HE3.out.trans hE6)
    clear hR2 hE5 hE6
    have x0 := (HXB6.out).cell (j := 0) rfl
    have x1 := (HXB6.out).cell (j := 1) rfl
    have x2 := (HXB6.out).cell (j := 2) rfl
    have x3 := (HXB6.out).cell (j := 3) rfl
    have x4 := (HXB6.out).cell (j := 4) rfl
    have x5 := (HXB6.out).cell (j := 5) rfl
    have x6 := (HXB6.out).cell (j := 6) rfl
    unfold Cat.cells
    have hsm := same_any x x g g2 _ HR6.out HR2.out
    unfold Cat.cells at hsm
    have HSM := Lib.hid hsm
    clear hsm
    go_wp2_with (go_at_call 14; refine HSM.out.mono ?_; rintro e w7 ⟨bb, rfl, hiff, hE7⟩; obtain rfl : bb = true := hiff.2 (by first | rfl | trivial); have HE7 := Lib.hid (HE6.out.trans hE7); clear hiff hE7)
    go_ret
    exact ⟨rfl, HX0.out.trans HE7.out⟩
end Go.Proofs.Ytimigpfoflilcaa
