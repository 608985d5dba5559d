/- The law NetworkSpec, walked: it answers true. -/
import Derived.Test.YtdlahgmbilkdcaaNS
namespace Go.Sz
open Go.RowKit
theorem RepN.zero' (w : World) : RepN w (#[Value.slice none 0 0, Value.slice none 0 0]).toList ⟨[], []⟩ := RepN.zero w
end Go.Sz
namespace Go.Proofs.Ytdlahgmbilkdcaa
open Go.RowKit Go.Sz

theorem same_true (n : Nw) (cs ds : List Value) (w : World) (h : RepN w cs n) (h' : RepN w ds n) : Calls Try.prog 15 #[.agg cs.toArray, .agg ds.toArray] w fun e w' => e = .returned (.bool true) ∧ Ext w w' :=
  (same_any n n cs ds w h h').mono fun e w' ⟨⟨b, he, hb⟩, hE⟩ => ⟨by rw [he, hb.2 rfl], hE⟩
theorem samePacket_true (p : Pk) (cs ds : List Value) (w : World) (h : RepP w cs p) (h' : RepP w ds p) : Calls Try.prog 19 #[.agg cs.toArray, .agg ds.toArray] w fun e w' => e = .returned (.bool true) ∧ Ext w w' :=
  (samePacket_any p p cs ds w h h').mono fun e w' ⟨he, hE⟩ => ⟨by rw [he, (samePk_iff p p).2 rfl], hE⟩

set_option maxRecDepth 100000 in
set_option maxHeartbeats 6400000 in
theorem law_spec (n : Nw) (p : Pk) (cs cp : List Value) (w : World) (h : RepN w cs n) (hp : RepP w cp p) : Calls Try.prog 3 #[.agg cs.toArray, .agg cp.toArray] w fun e w' => e = .returned (.bool true) ∧ Ext w w' := by
  have HN := Lib.hid h
  have HP := Lib.hid hp
  obtain ⟨a0, c0, b0, d0, rfl⟩ := h.open
  obtain ⟨p0, q0, rfl⟩ := hp.open
  clear h hp
  go_enter Try.func3, Try.ntmps3
  go_wp2_with fail
  have hX0 := ((Ext.refl w).alloc (.cells #[.slice a0 n.q.length c0, .slice b0 n.a.length d0] 25)).alloc (.cells #[.int .i64 p.f, .int .i64 p.t, .slice p0 p.d.length q0] 28)
  have hbn := (Box2.new w (.slice a0 n.q.length c0) (.slice b0 n.a.length d0) 25).ext ((Ext.refl _).alloc (.cells #[.int .i64 p.f, .int .i64 p.t, .slice p0 p.d.length q0] 28))
  have hbp := Box3.new' (w.alloc (.cells #[.slice a0 n.q.length c0, .slice b0 n.a.length d0] 25)) (.int .i64 p.f) (.int .i64 p.t) (.slice p0 p.d.length q0) 28 (w.heap.size + 1) (by simp)
  generalize ((w.alloc (.cells #[.slice a0 n.q.length c0, .slice b0 n.a.length d0] 25)).alloc (.cells #[.int .i64 p.f, .int .i64 p.t, .slice p0 p.d.length q0] 28)) = u0 at *
  have hhN := HN.out.ext hX0
  have hhP := HP.out.ext hX0
  clear HN HP
  have HN := Lib.hid hhN
  have HP := Lib.hid hhP
  have HX := Lib.hid hX0
  have Hn := Lib.hid hbn
  have Hp := Lib.hid hbp
  clear hhN hhP hX0 hbn hbp
  refine (sane_any _).mono ?_
  rintro e v1 ⟨rfl, hE1⟩
  have yn0 := (Hn.out.ext hE1).c0
  have yn1 := (Hn.out.ext hE1).c1
  go_wp2_with fail
  have hA1 : Ext v1 v1 := (Ext.refl v1)
  have hX1 := hE1.trans hA1
  have hhHN := HN.out.ext hX1
  have hhHP := HP.out.ext hX1
  have hhHn := Hn.out.ext hX1
  have hhHp := Hp.out.ext hX1
  clear HN HP Hn Hp
  have hXX := HX.out.trans hX1
  clear HX
  clear hA1 hX1 hE1 yn0 yn1
  have HX := Lib.hid hXX
  clear hXX
  have HN := Lib.hid hhHN
  clear hhHN
  have HP := Lib.hid hhHP
  clear hhHP
  have Hn := Lib.hid hhHn
  clear hhHn
  have Hp := Lib.hid hhHp
  clear hhHp
  refine (few_any n _ _ HN.out).mono ?_
  rintro e v2 ⟨rfl, hE2⟩
  generalize (decide (n.q.length ≤ 40) && decide (n.a.length ≤ 40)) = few
  cases few with
  | false =>
    go_wp2_with fail
    go_ret
    exact ⟨rfl, HX.out.trans hE2⟩
  | true =>
    have yn0 := (Hn.out.ext hE2).c0
    have yn1 := (Hn.out.ext hE2).c1
    have yp0 := (Hp.out.ext hE2).c0
    have yp1 := (Hp.out.ext hE2).c1
    have yp2 := (Hp.out.ext hE2).c2
    go_wp2_with fail
    have hA2 : Ext v2 v2 := (Ext.refl v2)
    have hX2 := hE2.trans hA2
    have hhHN := HN.out.ext hX2
    have hhHP := HP.out.ext hX2
    have hhHn := Hn.out.ext hX2
    have hhHp := Hp.out.ext hX2
    clear HN HP Hn Hp
    have hXX := HX.out.trans hX2
    clear HX
    clear hA2 hX2 hE2 yn0 yn1 yp0 yp1 yp2
    have HX := Lib.hid hXX
    clear hXX
    have HN := Lib.hid hhHN
    clear hhHN
    have HP := Lib.hid hhHP
    clear hhHP
    have Hn := Lib.hid hhHn
    clear hhHn
    have Hp := Lib.hid hhHp
    clear hhHp
    refine (send_any n p _ _ _ HN.out HP.out).mono ?_
    rintro e v3 ⟨cs3, rfl, hN3, hE3⟩
    generalize hr3 : sendN n p = r3 at *
    have HR := Lib.hid hr3
    clear hr3
    have HR3 := Lib.hid hN3
    obtain ⟨a3, c3, b3, d3, hcs⟩ := hN3.open
    subst hcs
    clear hN3
    have yn0 := fun ob0 => ((Ext.refl v3).alloc ob0).cell (Hn.out.ext hE3).c0
    have yn1 := fun ob0 => ((Ext.refl v3).alloc ob0).cell (Hn.out.ext hE3).c1
    have yp0 := fun ob0 => ((Ext.refl v3).alloc ob0).cell (Hp.out.ext hE3).c0
    have yp1 := fun ob0 => ((Ext.refl v3).alloc ob0).cell (Hp.out.ext hE3).c1
    have yp2 := fun ob0 => ((Ext.refl v3).alloc ob0).cell (Hp.out.ext hE3).c2
    go_wp2_with fail
    have hA3 : Ext v3 (v3.alloc (.cells #[.slice a3 r3.1.q.length c3, .slice b3 r3.1.a.length d3] 25)) := ((Ext.refl v3).alloc (.cells #[.slice a3 r3.1.q.length c3, .slice b3 r3.1.a.length d3] 25))
    have hX3 := hE3.trans hA3
    have hbx := (Box2.new' v3 (.slice a3 r3.1.q.length c3) (.slice b3 r3.1.a.length d3) 25 (v3.heap.size) (by simp))
    have hhHN := HN.out.ext hX3
    have hhHP := HP.out.ext hX3
    have hhHn := Hn.out.ext hX3
    have hhHp := Hp.out.ext hX3
    clear HN HP Hn Hp
    have hhHR3 := HR3.out.ext hA3
    clear HR3
    have hXX := HX.out.trans hX3
    clear HX
    clear hA3 hX3 hE3 yn0 yn1 yp0 yp1 yp2
    generalize (v3.alloc (.cells #[.slice a3 r3.1.q.length c3, .slice b3 r3.1.a.length d3] 25)) = u3 at *
    have HX := Lib.hid hXX
    clear hXX
    have HN := Lib.hid hhHN
    clear hhHN
    have HP := Lib.hid hhHP
    clear hhHP
    have Hn := Lib.hid hhHn
    clear hhHn
    have Hp := Lib.hid hhHp
    clear hhHp
    have HR3 := Lib.hid hhHR3
    clear hhHR3
    have Hx := Lib.hid hbx
    clear hbx
    refine (refSend_any n p _ _ _ HN.out HP.out).mono ?_
    rintro e v4 ⟨cs4, rfl, hN4, hE4⟩
    rw [HR.out] at hN4 ⊢
    have HR4 := Lib.hid hN4
    obtain ⟨a4, c4, b4, d4, hcs⟩ := hN4.open
    subst hcs
    clear hN4
    have yn0 := fun ob0 => ((Ext.refl v4).alloc ob0).cell (Hn.out.ext hE4).c0
    have yn1 := fun ob0 => ((Ext.refl v4).alloc ob0).cell (Hn.out.ext hE4).c1
    go_wp2_with fail
    have hA4 : Ext v4 (v4.alloc (.cells #[.slice a4 r3.1.q.length c4, .slice b4 r3.1.a.length d4] 25)) := ((Ext.refl v4).alloc (.cells #[.slice a4 r3.1.q.length c4, .slice b4 r3.1.a.length d4] 25))
    have hX4 := hE4.trans hA4
    have hby := (Box2.new' v4 (.slice a4 r3.1.q.length c4) (.slice b4 r3.1.a.length d4) 25 (v4.heap.size) (by simp))
    have hhHN := HN.out.ext hX4
    have hhHP := HP.out.ext hX4
    have hhHn := Hn.out.ext hX4
    have hhHp := Hp.out.ext hX4
    have hhHR3 := HR3.out.ext hX4
    have hhHx := Hx.out.ext hX4
    clear HN HP Hn Hp HR3 Hx
    have hhHR4 := HR4.out.ext hA4
    clear HR4
    have hXX := HX.out.trans hX4
    clear HX
    clear hA4 hX4 hE4 yn0 yn1
    generalize (v4.alloc (.cells #[.slice a4 r3.1.q.length c4, .slice b4 r3.1.a.length d4] 25)) = u4 at *
    have HX := Lib.hid hXX
    clear hXX
    have HN := Lib.hid hhHN
    clear hhHN
    have HP := Lib.hid hhHP
    clear hhHP
    have Hn := Lib.hid hhHn
    clear hhHn
    have Hp := Lib.hid hhHp
    clear hhHp
    have HR3 := Lib.hid hhHR3
    clear hhHR3
    have Hx := Lib.hid hhHx
    clear hhHx
    have HR4 := Lib.hid hhHR4
    clear hhHR4
    have Hy := Lib.hid hby
    clear hby
    obtain ⟨n0, n1, _⟩ := Hn.out
    obtain ⟨x0, x1, _⟩ := Hx.out
    obtain ⟨y0, y1, _⟩ := Hy.out
    have gn0 : ∀ X, (u4.drew.grow X).cell? ⟨w.heap.size, 0, none⟩ = some (.slice a0 n.q.length c0) := fun X => ((Ext.refl u4).drew.trans (ext_grow _ X)).cell n0
    have gn1 : ∀ X, (u4.drew.grow X).cell? ⟨w.heap.size, 1, none⟩ = some (.slice b0 n.a.length d0) := fun X => ((Ext.refl u4).drew.trans (ext_grow _ X)).cell n1
    have gx0 : ∀ X, (u4.drew.grow X).cell? ⟨v3.heap.size, 0, none⟩ = some (.slice a3 r3.1.q.length c3) := fun X => ((Ext.refl u4).drew.trans (ext_grow _ X)).cell x0
    have gx1 : ∀ X, (u4.drew.grow X).cell? ⟨v3.heap.size, 1, none⟩ = some (.slice b3 r3.1.a.length d3) := fun X => ((Ext.refl u4).drew.trans (ext_grow _ X)).cell x1
    have gy0 : ∀ X, (u4.drew.grow X).cell? ⟨v4.heap.size, 0, none⟩ = some (.slice a4 r3.1.q.length c4) := fun X => ((Ext.refl u4).drew.trans (ext_grow _ X)).cell y0
    have gy1 : ∀ X, (u4.drew.grow X).cell? ⟨v4.heap.size, 1, none⟩ = some (.slice b4 r3.1.a.length d4) := fun X => ((Ext.refl u4).drew.trans (ext_grow _ X)).cell y1
    clear n0 n1 x0 x1 y0 y1
    have HK1 := Lib.hid fun (W : World) (hE : Ext u4 W) => check_any n _ W (HN.out.ext hE)
    have HK2 := Lib.hid fun (W : World) (hE : Ext u4 W) => refCheck_any n _ W (HN.out.ext hE)
    have HK3 := Lib.hid fun (W : World) (hE : Ext u4 W) => same_true r3.1 _ _ W (HR3.out.ext hE) (HR4.out.ext hE)
    have HK4 := Lib.hid fun (W : World) (_hE : Ext u4 W) => new_any W
    have HK5 := Lib.hid fun (W : World) (_hE : Ext u4 W) => refNew_any W
    have HK6 := Lib.hid fun (W : World) (_hE : Ext u4 W) => same_true ⟨[], []⟩ [.slice none 0 0, .slice none 0 0] [.slice none 0 0, .slice none 0 0] W (RepN.zero W) (RepN.zero W)
    generalize checkN n = ck at *
    generalize hr2 : r3.2 = re at *
    clear hr2
    have q1 : (ck == ck) = true := by simp
    have q2 : (re == re) = true := by simp
    refine wp_region_rel_all (fun j => if j = 1 then some (spV (.int .i64 ck)) else if j = 3 then some (spV (.int .i64 ck)) else if j = 8 then some (spV (.bool true)) else if j = 16 then some (spV (.agg #[.slice none 0 0, .slice none 0 0])) else if j = 17 then some (spV (.agg #[.slice none 0 0, .slice none 0 0])) else if j = 18 then some (spV (.bool true)) else none) (by kernel_rfl) (by kernel_rfl) ?_
    repeat (first
      | (refine wpRel_quick ?_ ?_ ?_ ?_
         · rfl
         · rfl
         · first | exact noEnter rfl | (intro f args W W'; go_simp)
         intro K hK
         go_big_quiet_op
         go_big_quiet_on)
      | (refine wpRel_skip ?_ ?_
         · rfl
         simp only [Act.put, List.setIfInBounds_toArray, List.set_cons_zero, List.set_cons_succ]))
    refine wpRel_rich _ rfl rfl (fun W hW => ?_) (fun v W3 hW3 hv => ?_)
    · have hc := HK1.out W ((Ext.refl u4).drew.trans hW.1)
      go_simp
      exact Calls.mono hc fun e w' h => ⟨_, h.1, rfl, h.2⟩
    obtain rfl := hv
    simp only [Act.put, List.setIfInBounds_toArray, List.set_cons_zero, List.set_cons_succ]
    repeat (first
      | (refine wpRel_quick ?_ ?_ ?_ ?_
         · rfl
         · rfl
         · first | exact noEnter rfl | (intro f args W W'; go_simp)
         intro K hK
         go_big_quiet_op
         go_big_quiet_on)
      | (refine wpRel_skip ?_ ?_
         · rfl
         simp only [Act.put, List.setIfInBounds_toArray, List.set_cons_zero, List.set_cons_succ]))
    refine wpRel_rich _ rfl rfl (fun W hW => ?_) (fun v W3 hW3 hv => ?_)
    · have hc := HK2.out W ((Ext.refl u4).drew.trans hW.1)
      go_simp
      exact Calls.mono hc fun e w' h => ⟨_, h.1, rfl, h.2⟩
    obtain rfl := hv
    simp only [Act.put, List.setIfInBounds_toArray, List.set_cons_zero, List.set_cons_succ]
    repeat (first
      | (refine wpRel_quick ?_ ?_ ?_ ?_
         · rfl
         · rfl
         · first | exact noEnter rfl | (intro f args W W'; go_simp)
         intro K hK
         go_big_quiet_op
         go_big_quiet_on)
      | (refine wpRel_skip ?_ ?_
         · rfl
         simp only [Act.put, List.setIfInBounds_toArray, List.set_cons_zero, List.set_cons_succ]))
    refine wpRel_rich _ rfl rfl (fun W hW => ?_) (fun v W3 hW3 hv => ?_)
    · have hc := HK3.out W ((Ext.refl u4).drew.trans hW.1)
      go_simp
      exact Calls.mono hc fun e w' h => ⟨_, h.1, rfl, h.2⟩
    obtain rfl := hv
    simp only [Act.put, List.setIfInBounds_toArray, List.set_cons_zero, List.set_cons_succ]
    repeat (first
      | (refine wpRel_quick ?_ ?_ ?_ ?_
         · rfl
         · rfl
         · first | exact noEnter rfl | (intro f args W W'; go_simp)
         intro K hK
         go_big_quiet_op
         go_big_quiet_on)
      | (refine wpRel_skip ?_ ?_
         · rfl
         simp only [Act.put, List.setIfInBounds_toArray, List.set_cons_zero, List.set_cons_succ]))
    refine wpRel_rich _ rfl rfl (fun W hW => ?_) (fun v W3 hW3 hv => ?_)
    · have hc := HK4.out W ((Ext.refl u4).drew.trans hW.1)
      go_simp
      exact Calls.mono hc fun e w' h => ⟨_, h.1, rfl, h.2⟩
    obtain rfl := hv
    simp only [Act.put, List.setIfInBounds_toArray, List.set_cons_zero, List.set_cons_succ]
    repeat (first
      | (refine wpRel_quick ?_ ?_ ?_ ?_
         · rfl
         · rfl
         · first | exact noEnter rfl | (intro f args W W'; go_simp)
         intro K hK
         go_big_quiet_op
         go_big_quiet_on)
      | (refine wpRel_skip ?_ ?_
         · rfl
         simp only [Act.put, List.setIfInBounds_toArray, List.set_cons_zero, List.set_cons_succ]))
    refine wpRel_rich _ rfl rfl (fun W hW => ?_) (fun v W3 hW3 hv => ?_)
    · have hc := HK5.out W ((Ext.refl u4).drew.trans hW.1)
      go_simp
      exact Calls.mono hc fun e w' h => ⟨_, h.1, rfl, h.2⟩
    obtain rfl := hv
    simp only [Act.put, List.setIfInBounds_toArray, List.set_cons_zero, List.set_cons_succ]
    repeat (first
      | (refine wpRel_quick ?_ ?_ ?_ ?_
         · rfl
         · rfl
         · first | exact noEnter rfl | (intro f args W W'; go_simp)
         intro K hK
         go_big_quiet_op
         go_big_quiet_on)
      | (refine wpRel_skip ?_ ?_
         · rfl
         simp only [Act.put, List.setIfInBounds_toArray, List.set_cons_zero, List.set_cons_succ]))
    refine wpRel_rich _ rfl rfl (fun W hW => ?_) (fun v W3 hW3 hv => ?_)
    · have hc := HK6.out W ((Ext.refl u4).drew.trans hW.1)
      go_simp
      exact Calls.mono hc fun e w' h => ⟨_, h.1, rfl, h.2⟩
    obtain rfl := hv
    simp only [Act.put, List.setIfInBounds_toArray, List.set_cons_zero, List.set_cons_succ]
    repeat (first
      | (refine wpRel_quick ?_ ?_ ?_ ?_
         · rfl
         · rfl
         · first | exact noEnter rfl | (intro f args W W'; go_simp)
         intro K hK
         go_big_quiet_op
         go_big_quiet_on)
      | (refine wpRel_skip ?_ ?_
         · rfl
         simp only [Act.put, List.setIfInBounds_toArray, List.set_cons_zero, List.set_cons_succ]))
    refine wpRel_nil ?_
    intro W hW
    go_wp2_with fail
    go_ret
    exact ⟨rfl, HX.out.trans ((Ext.refl u4).drew.trans hW.1)⟩
end Go.Proofs.Ytdlahgmbilkdcaa
