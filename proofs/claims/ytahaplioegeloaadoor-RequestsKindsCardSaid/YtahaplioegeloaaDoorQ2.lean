/- Requests: Check of the program. -/
import Derived.Test.YtahaplioegeloaaDoorQA
import Derived.Deep.RegionLaw
namespace Go.Sz
open Go.RowKit
/-- the table of the kinds, as the program's text lays it -/
def kindsV : List Value := [.int .i64 0, .int .i64 0, .bool false, .bool false, .int .i64 1, .int .i64 8, .bool false, .bool true, .int .i64 0, .int .i64 0, .bool true, .bool false, .int .i64 1, .int .i64 1, .bool true, .bool false, .int .i64 1, .int .i64 1, .bool false, .bool false, .int .i64 1, .int .i64 1, .bool false, .bool false]
def Kinds (w : World) : Prop := ∀ i v, kindsV[i]? = some v → w.cell? ⟨0, i, none⟩ = some v
theorem Kinds.ext {w W : World} (h : Kinds w) (hE : Ext w W) : Kinds W := fun i v hv => hE.cell (h i v hv)
def headQ (r : Rq) : Bool := decide (0 ≤ r.c) && decide (r.c < 7) && decide (1 ≤ r.n) && decide (r.n ≤ 1048576) && decide (0 ≤ r.s) && decide (r.s < 20000) && decide (1 ≤ r.t) && decide (r.t ≤ 1048576)
def b0 : Bd := (0, 0)
theorem wp_region_one {P : Program} {c : Code} {a : Act} {w : World} {Q : Exit → Act → World → Prop} (A : Act) (W : World) (h : Code.wp P c (fun e a' w' => e = .normal ∧ a' = A ∧ w' = W) a w) (hQ : Q .normal A W) : Code.wp P c Q a w :=
  Code.wp_mono (fun e a' w' ⟨h1, h2, h3⟩ => by rw [h1, h2, h3]; exact hQ) h
def formAt (l : List Bd) (i : Nat) : Bool := formB (l.getD i b0).1 (l.getD i b0).2
def freshAt (l : List Bd) (i : Nat) : Bool := !(l.take i).contains (l.getD i b0)
def goodL (l : List Bd) (j : Nat) : Bool := (List.range j).all fun i => formAt l i && freshAt l i
def leastQ (k : Int) : Int := if k = 2 then 0 else 1
def mostQ (k : Int) : Int := if k = 1 then 8 else if k = 2 then 0 else 1
def lenB (lo hi : Int) (l : List Bd) : Bool := decide (lo ≤ (l.length : Int)) && decide ((l.length : Int) ≤ hi)
def giveB (gv : Bool) (l : List Bd) (g h : Int) : Bool := if gv = true then formB g h && (l.length == 0 || (l.getD 0 b0).1 != g) else g == 0 && h == 0
def keyB (ky : Bool) (y : Int) : Bool := if ky = true then decide (0 ≤ y) && decide (y ≤ 1048576) else y == 0
def kindQ (r : Rq) : Bool := decide (1 ≤ r.k) && decide (r.k ≤ 5)
def bodyB (lo hi : Int) (gv ky : Bool) (l : List Bd) (g h y : Int) : Bool := lenB lo hi l && goodL l l.length && giveB gv l g h && keyB ky y
def validQ (r : Rq) : Bool := headQ r && kindQ r && bodyB (leastQ r.k) (mostQ r.k) (r.k == 2 || r.k == 3) (r.k == 1) r.ch r.g r.h r.y
def resQ (b : Bool) : Int := if b = true then 0 else 290
def checkQ (r : Rq) : Int := resQ (validQ r)
theorem range_all_succ (f : Nat → Bool) (m : Nat) : (List.range (m + 1)).all f = ((List.range m).all f && f m) := by rw [List.range_succ, List.all_append]; simp
theorem goodL_succ (l : List Bd) (j : Nat) : goodL l (j + 1) = (goodL l j && (formAt l j && freshAt l j)) := range_all_succ _ _
theorem getB {l : List Bd} {i : Nat} (h : i < l.length) : l.getD i b0 = l[i] := by simp [List.getD, h]
theorem RepB.take {w : World} {ao : Option Addr} {cap : Nat} {l : List Bd} (h : RepB w ao cap l) {k : Nat} (hk : k < l.length) : RepB w ao cap (l.take k) := by
  unfold RepB at *
  have hn : ao = none → k = 0 := fun e => by
    obtain ⟨b, o, e2, _⟩ := SL.at h (by omega) k (by rw [brows_length]; exact hk)
    rw [e] at e2
    cases e2
  have h1 := SL.takes h (k := k) (by rw [brows_length]; omega) hn
  have h2 : brows (l.take k) = (brows l).take k := by simp [brows]
  rw [h2]
  exact ⟨by have := SL.le h; have := SL.max h; rw [List.length_take]; omega, SL.max h, fun e => SL.nil h e, h1.wid, h1.cells⟩
end Go.Sz
namespace Go.Proofs.YtahaplioegeloaaDoor
open Go.RowKit Go.Sz
set_option maxRecDepth 100000 in
set_option maxHeartbeats 12800000 in
theorem check_in (c n s t g h y : Int) (ch : List Bd) (ao : Option Addr) (cap : Nat) (w : World) (hr : RepB w ao cap ch) (hl : ch.length ≤ 1000000) (hk : Kinds w) (h1 : 0 ≤ c) (h2 : c < 7) (h3 : 1 ≤ n) (h4 : n ≤ 1048576) (h5 : 0 ≤ s) (h6 : s < 20000) (h7 : 1 ≤ t) (h8 : t ≤ 1048576) (kk : Nat) (q1 : 1 ≤ kk) (q2 : kk ≤ 5) (lo hi : Int) (gv ky : Bool)
    (e0 : kindsV[kk * 4]? = some (.int .i64 lo)) (e1 : kindsV[kk * 4 + 1]? = some (.int .i64 hi)) (e2 : kindsV[kk * 4 + 2]? = some (.bool gv)) (e3 : kindsV[kk * 4 + 3]? = some (.bool ky)) :
    Calls Tryd.prog 15 #[.agg #[.int .i64 c, .int .i64 n, .int .i64 s, .int .i64 (kk : Int), .int .i64 t, .slice ao ch.length cap, .int .i64 g, .int .i64 h, .int .i64 y]] w fun e w' => e = .returned (.int .i64 (resQ (bodyB lo hi gv ky ch g h y))) ∧ Ext w w' := by
  have hs1 := hr.max
  have q1' : (1 : Int) ≤ (kk : Int) := by omega
  have q2' : (kk : Int) ≤ 5 := by omega
  have q3' : (kk : Int) < 6 := by omega
  have q0' : (0 : Int) ≤ (kk : Int) := by omega
  have hbx : BoxQ (w.alloc (.cells #[.int .i64 c, .int .i64 n, .int .i64 s, .int .i64 (kk : Int), .int .i64 t, .slice ao ch.length cap, .int .i64 g, .int .i64 h, .int .i64 y] 26)) w.heap.size ⟨c, n, s, (kk : Int), t, ch, g, h, y⟩ ao cap := BoxQ.new w ⟨c, n, s, (kk : Int), t, ch, g, h, y⟩ ao cap 26 _ rfl
  have HBX := Lib.hid hbx
  have HX0 : Hid (Ext w (w.alloc (.cells #[.int .i64 c, .int .i64 n, .int .i64 s, .int .i64 (kk : Int), .int .i64 t, .slice ao ch.length cap, .int .i64 g, .int .i64 h, .int .i64 y] 26))) := Lib.hid ((Ext.refl w).alloc _)
  have HRB := Lib.hid hr
  have HKI := Lib.hid hk
  have HLL := Lib.hid hl
  obtain ⟨b0', b1, b2, b3, b4, b5, b6, b7, b8, -⟩ := hbx
  dsimp only at b0' b1 b2 b3 b4 b5 b6 b7 b8
  have hK := hk.ext ((Ext.refl w).alloc (.cells #[.int .i64 c, .int .i64 n, .int .i64 s, .int .i64 (kk : Int), .int .i64 t, .slice ao ch.length cap, .int .i64 g, .int .i64 h, .int .i64 y] 26))
  have k0 := hK _ _ e0
  have k1 := hK _ _ e1
  have k2 := hK _ _ e2
  have k3 := hK _ _ e3
  clear hk hK hr hl e0 e1 e2 e3
  go_enter Tryd.func15, Tryd.ntmps15
  go_wp2_with fail
  apply wp_region_one
  · refine wp_region_noPanic ?_
    go_region_law (fail)
    all_goals
      refine NoPanic.normal ?_
      simp only [Act.put, List.setIfInBounds_toArray]
      refine ⟨?_, ?_, ?_⟩ <;> first | rfl | trivial
  have hE1 : Ext w (((w.alloc (.cells #[.int .i64 c, .int .i64 n, .int .i64 s, .int .i64 (kk : Int), .int .i64 t, .slice ao ch.length cap, .int .i64 g, .int .i64 h, .int .i64 y] 26)).alloc (.cells #[.int .i64 lo, .int .i64 hi, .bool gv, .bool ky] 66)).drew) := (HX0.out.alloc (.cells #[.int .i64 lo, .int .i64 hi, .bool gv, .bool ky] 66)).drew
  have hb1 := HBX.out.ext (((Ext.refl (w.alloc (.cells #[.int .i64 c, .int .i64 n, .int .i64 s, .int .i64 (kk : Int), .int .i64 t, .slice ao ch.length cap, .int .i64 g, .int .i64 h, .int .i64 y] 26))).alloc (.cells #[.int .i64 lo, .int .i64 hi, .bool gv, .bool ky] 66)).drew)
  have t0 : (((w.alloc (.cells #[.int .i64 c, .int .i64 n, .int .i64 s, .int .i64 (kk : Int), .int .i64 t, .slice ao ch.length cap, .int .i64 g, .int .i64 h, .int .i64 y] 26)).alloc (.cells #[.int .i64 lo, .int .i64 hi, .bool gv, .bool ky] 66)).drew).cell? ⟨w.heap.size + 1, 0, none⟩ = some (.int .i64 lo) := by simp
  have t1 : (((w.alloc (.cells #[.int .i64 c, .int .i64 n, .int .i64 s, .int .i64 (kk : Int), .int .i64 t, .slice ao ch.length cap, .int .i64 g, .int .i64 h, .int .i64 y] 26)).alloc (.cells #[.int .i64 lo, .int .i64 hi, .bool gv, .bool ky] 66)).drew).cell? ⟨w.heap.size + 1, 1, none⟩ = some (.int .i64 hi) := by simp
  have t2 : (((w.alloc (.cells #[.int .i64 c, .int .i64 n, .int .i64 s, .int .i64 (kk : Int), .int .i64 t, .slice ao ch.length cap, .int .i64 g, .int .i64 h, .int .i64 y] 26)).alloc (.cells #[.int .i64 lo, .int .i64 hi, .bool gv, .bool ky] 66)).drew).cell? ⟨w.heap.size + 1, 2, none⟩ = some (.bool gv) := by simp
  have t3 : (((w.alloc (.cells #[.int .i64 c, .int .i64 n, .int .i64 s, .int .i64 (kk : Int), .int .i64 t, .slice ao ch.length cap, .int .i64 g, .int .i64 h, .int .i64 y] 26)).alloc (.cells #[.int .i64 lo, .int .i64 hi, .bool gv, .bool ky] 66)).drew).cell? ⟨w.heap.size + 1, 3, none⟩ = some (.bool ky) := by simp
  have HKC : Hid (∀ W, Ext (((w.alloc (.cells #[.int .i64 c, .int .i64 n, .int .i64 s, .int .i64 (kk : Int), .int .i64 t, .slice ao ch.length cap, .int .i64 g, .int .i64 h, .int .i64 y] 26)).alloc (.cells #[.int .i64 lo, .int .i64 hi, .bool gv, .bool ky] 66)).drew) W → W.cell? ⟨w.heap.size + 1, 0, none⟩ = some (.int .i64 lo) ∧ W.cell? ⟨w.heap.size + 1, 1, none⟩ = some (.int .i64 hi) ∧ W.cell? ⟨w.heap.size + 1, 2, none⟩ = some (.bool gv) ∧ W.cell? ⟨w.heap.size + 1, 3, none⟩ = some (.bool ky)) := Lib.hid fun W hE => ⟨hE.cell t0, hE.cell t1, hE.cell t2, hE.cell t3⟩
  have HB1 := Lib.hid hb1
  have HX1 := Lib.hid hE1
  have HBODY : Hid (bodyB lo hi gv ky ch g h y = (lenB lo hi ch && goodL ch ch.length && giveB gv ch g h && keyB ky y)) := Lib.hid rfl
  clear b0' b1 b2 b3 b4 b5 b6 b7 b8 k0 k1 k2 k3 HBX
  obtain ⟨b0', b1, b2, b3, b4, b5, b6, b7, b8, -⟩ := hb1
  try dsimp only at b0' b1 b2 b3 b4 b5 b6 b7 b8
  clear hE1
  generalize (((w.alloc (.cells #[.int .i64 c, .int .i64 n, .int .i64 s, .int .i64 (kk : Int), .int .i64 t, .slice ao ch.length cap, .int .i64 g, .int .i64 h, .int .i64 y] 26)).alloc (.cells #[.int .i64 lo, .int .i64 hi, .bool gv, .bool ky] 66)).drew) = w1 at *
  by_cases hlo : lo ≤ (ch.length : Int)
  · by_cases hhi : (ch.length : Int) ≤ hi
    · have HL0 : Hid (lenB lo hi ch = true) := Lib.hid (by unfold lenB; rw [decide_eq_true hlo, decide_eq_true hhi]; rfl)
      go_wp2_with fail
      clear b0' b1 b2 b3 b4 b5 b6 b7 b8 t0 t1 t2 t3
      go_loopw [5, 76] (fun okv jv wr => ∃ j : Nat, jv = .int .i64 j ∧ j ≤ ch.length ∧ okv = .bool (lenB lo hi ch && goodL ch j) ∧ Ext w1 wr) (fun _ jv _ => ch.length - (intOf jv).toNat)
      case atStart => exact ⟨0, rfl, by omega, by rw [HL0.out]; rfl, Ext.refl _⟩
      case round =>
        obtain ⟨j, rfl, hj, rfl, hE⟩ := hrel
        have HE := Lib.hid hE
        clear hE
        obtain ⟨b0', b1, b2, b3, b4, b5, b6, b7, b8, -⟩ := HB1.out.ext HE.out
        try dsimp only at b0' b1 b2 b3 b4 b5 b6 b7 b8
        clear b0' b1 b2 b3 b4 b8
        by_cases hlt : j < ch.length
        · have hji : (j : Int) < (ch.length : Int) := by omega
          obtain ⟨bb, o, hao, c0, c1⟩ := b_cells HRB.out (HX1.out.trans HE.out) hlt
          have HTK := Lib.hid (RepB.take HRB.out hlt)
          have HFA : Hid (formAt ch j = formB ch[j].1 ch[j].2) := Lib.hid (by unfold formAt; rw [getB hlt])
          have HFR : Hid (freshAt ch j = !(ch.take j).contains ch[j]) := Lib.hid (by unfold freshAt; rw [getB hlt])
          have HTL : Hid ((ch.take j).length = j) := Lib.hid (by rw [List.length_take]; omega)
          subst hao
          have hcap : (cap : Int) ≤ 9223372036854775807 := by have := SL.max HRB.out; omega
          have hcap2 : (ch.length : Int) ≤ (cap : Int) := by have := SL.le HRB.out; rw [brows_length] at this; omega
          have hjc : (j : Int) ≤ (cap : Int) := by omega
          generalize ch[j] = x at *
          have hA : Ext wr (wr.alloc (.cells #[.int .i64 x.1, .int .i64 x.2] 24)) := (Ext.refl wr).alloc _
          have x0 : (wr.alloc (.cells #[.int .i64 x.1, .int .i64 x.2] 24)).cell? ⟨wr.heap.size, 0, none⟩ = some (.int .i64 x.1) := by simp
          have x1 : (wr.alloc (.cells #[.int .i64 x.1, .int .i64 x.2] 24)).cell? ⟨wr.heap.size, 1, none⟩ = some (.int .i64 x.2) := by simp
          have gx0 := grow_cell x0
          have gx1 := grow_cell x1
          have gb5 := grow_cell (hA.cell b5)
          cases hok : (lenB lo hi ch && goodL ch j) with
          | false =>
            have HOK := Lib.hid hok
            clear hok
            go_wp2_with fail
            refine wp_region_rel_all (fun i => none) (by kernel_rfl) (by kernel_rfl) ?_
            repeat (first
              | (refine wpRel_quick ?_ ?_ ?_ ?_
                 · rfl
                 · rfl
                 · first | exact noEnter rfl | (intro f args W W'; go_simp)
                 intro K hK
                 go_big_quiet_op
                 go_big_quiet_on)
              | (refine wpRel_skip ?_ ?_
                 · rfl
                 simp only [Act.put, List.setIfInBounds_toArray, List.set_cons_zero, List.set_cons_succ]))
            refine wpRel_nil ?_
            intro W3 hW3
            have HE3 := Lib.hid (HE.out.trans (hA.trans ((Ext.refl _).drew.trans hW3.1)))
            clear hW3 gb5 gx0 gx1 x0 x1 c0 c1 b5 b6 b7
            go_wp2_with fail
            go_roundw
            case rel => exact ⟨j + 1, by go_num, by omega, by rw [goodL_succ, ← Bool.and_assoc, HOK.out]; rfl, HE3.out⟩
            case measure => simp [intOf] <;> omega
          | true =>
            have HOK := Lib.hid hok
            clear hok
            cases hf : formB x.1 x.2 with
            | false =>
              have HF := Lib.hid hf
              clear hf
              go_wp2_with fail
              refine wp_region_rel_all (fun i => if i = 3 then some (spV (.bool false)) else none) (by kernel_rfl) (by kernel_rfl) ?_
              repeat (first
                | (refine wpRel_quick ?_ ?_ ?_ ?_
                   · rfl
                   · rfl
                   · first | exact noEnter rfl | (intro f args W W'; go_simp)
                   intro K hK
                   go_big_quiet_op
                   go_big_quiet_on)
                | (refine wpRel_skip ?_ ?_
                   · rfl
                   simp only [Act.put, List.setIfInBounds_toArray, List.set_cons_zero, List.set_cons_succ]))
              refine wpRel_rich _ rfl rfl (fun W hW => ?_) (fun v W3 hW3 hv => ?_)
              · have hc := (HF.out ▸ formedB_any x.1 x.2 W)
                go_simp
                refine Calls.mono hc ?_
                rintro e w' ⟨rfl, h⟩
                exact ⟨_, rfl, rfl, by first | exact h | (subst h; exact Ext.refl _)⟩
              obtain rfl := hv
              clear hW3
              simp only [Act.put, List.setIfInBounds_toArray, List.set_cons_zero, List.set_cons_succ]
              repeat (first
                | (refine wpRel_quick ?_ ?_ ?_ ?_
                   · rfl
                   · rfl
                   · first | exact noEnter rfl | (intro f args W W'; go_simp)
                   intro K hK
                   go_big_quiet_op
                   go_big_quiet_on)
                | (refine wpRel_skip ?_ ?_
                   · rfl
                   simp only [Act.put, List.setIfInBounds_toArray, List.set_cons_zero, List.set_cons_succ]))
              refine wpRel_nil ?_
              intro W3 hW3
              have HE3 := Lib.hid (HE.out.trans (hA.trans ((Ext.refl _).drew.trans hW3.1)))
              clear hW3 gb5 gx0 gx1 x0 x1 c0 c1 b5 b6 b7
              go_wp2_with fail
              go_roundw
              case rel => exact ⟨j + 1, by go_num, by omega, by rw [goodL_succ, ← Bool.and_assoc, HOK.out, HFA.out, HF.out]; rfl, HE3.out⟩
              case measure => simp [intOf] <;> omega
            | true =>
              have HF := Lib.hid hf
              clear hf
              have HCC : Hid (∀ W, Ext w W → Calls Tryd.prog 37 #[.slice (some ⟨bb, o, none⟩) j cap, .agg #[.int .i64 x.1, .int .i64 x.2]] W fun e w' => e = .returned (.bool ((ch.take j).contains x)) ∧ Ext W w') := Lib.hid fun W hE => by
                have := containsB_any (ch.take j) x (some ⟨bb, o, none⟩) cap W (HTK.out.ext hE)
                rwa [HTL.out] at this
              obtain ⟨ct, hct⟩ : ∃ b, (ch.take j).contains x = b := ⟨_, rfl⟩
              rw [hct] at HFR HCC
              clear hct
              cases ct with
              | false =>
                go_wp2_with fail
                refine wp_region_rel_all (fun i => if i = 3 then some (spV (.bool true)) else if i = 11 then some (spV (.bool false)) else none) (by kernel_rfl) (by kernel_rfl) ?_
                repeat (first
                  | (refine wpRel_quick ?_ ?_ ?_ ?_
                     · rfl
                     · rfl
                     · first | exact noEnter rfl | (intro f args W W'; go_simp)
                     intro K hK
                     go_big_quiet_op
                     go_big_quiet_on)
                  | (refine wpRel_skip ?_ ?_
                     · rfl
                     simp only [Act.put, List.setIfInBounds_toArray, List.set_cons_zero, List.set_cons_succ]))
                refine wpRel_rich _ rfl rfl (fun W hW => ?_) (fun v W3 hW3 hv => ?_)
                · have hc := (HF.out ▸ formedB_any x.1 x.2 W)
                  go_simp
                  refine Calls.mono hc ?_
                  rintro e w' ⟨rfl, h⟩
                  exact ⟨_, rfl, rfl, by first | exact h | (subst h; exact Ext.refl _)⟩
                obtain rfl := hv
                clear hW3
                simp only [Act.put, List.setIfInBounds_toArray, List.set_cons_zero, List.set_cons_succ]
                repeat (first
                  | (refine wpRel_quick ?_ ?_ ?_ ?_
                     · rfl
                     · rfl
                     · first | exact noEnter rfl | (intro f args W W'; go_simp)
                     intro K hK
                     go_big_quiet_op
                     go_big_quiet_on)
                  | (refine wpRel_skip ?_ ?_
                     · rfl
                     simp only [Act.put, List.setIfInBounds_toArray, List.set_cons_zero, List.set_cons_succ]))
                refine wpRel_rich _ rfl rfl (fun W hW => ?_) (fun v W3 hW3 hv => ?_)
                · have hc := (HCC.out W (HX1.out.trans (HE.out.trans (hA.trans ((Ext.refl _).drew.trans hW.1)))))
                  go_simp
                  refine Calls.mono hc ?_
                  rintro e w' ⟨rfl, h⟩
                  exact ⟨_, rfl, rfl, by first | exact h | (subst h; exact Ext.refl _)⟩
                obtain rfl := hv
                clear hW3
                simp only [Act.put, List.setIfInBounds_toArray, List.set_cons_zero, List.set_cons_succ]
                repeat (first
                  | (refine wpRel_quick ?_ ?_ ?_ ?_
                     · rfl
                     · rfl
                     · first | exact noEnter rfl | (intro f args W W'; go_simp)
                     intro K hK
                     go_big_quiet_op
                     go_big_quiet_on)
                  | (refine wpRel_skip ?_ ?_
                     · rfl
                     simp only [Act.put, List.setIfInBounds_toArray, List.set_cons_zero, List.set_cons_succ]))
                refine wpRel_nil ?_
                intro W3 hW3
                have HE3 := Lib.hid (HE.out.trans (hA.trans ((Ext.refl _).drew.trans hW3.1)))
                clear hW3 gb5 gx0 gx1 x0 x1 c0 c1 b5 b6 b7
                go_wp2_with fail
                go_roundw
                case rel => exact ⟨j + 1, by go_num, by omega, by rw [goodL_succ, ← Bool.and_assoc, HOK.out, HFA.out, HF.out, HFR.out]; rfl, HE3.out⟩
                case measure => simp [intOf] <;> omega
              | true =>
                go_wp2_with fail
                refine wp_region_rel_all (fun i => if i = 3 then some (spV (.bool true)) else if i = 11 then some (spV (.bool true)) else none) (by kernel_rfl) (by kernel_rfl) ?_
                repeat (first
                  | (refine wpRel_quick ?_ ?_ ?_ ?_
                     · rfl
                     · rfl
                     · first | exact noEnter rfl | (intro f args W W'; go_simp)
                     intro K hK
                     go_big_quiet_op
                     go_big_quiet_on)
                  | (refine wpRel_skip ?_ ?_
                     · rfl
                     simp only [Act.put, List.setIfInBounds_toArray, List.set_cons_zero, List.set_cons_succ]))
                refine wpRel_rich _ rfl rfl (fun W hW => ?_) (fun v W3 hW3 hv => ?_)
                · have hc := (HF.out ▸ formedB_any x.1 x.2 W)
                  go_simp
                  refine Calls.mono hc ?_
                  rintro e w' ⟨rfl, h⟩
                  exact ⟨_, rfl, rfl, by first | exact h | (subst h; exact Ext.refl _)⟩
                obtain rfl := hv
                clear hW3
                simp only [Act.put, List.setIfInBounds_toArray, List.set_cons_zero, List.set_cons_succ]
                repeat (first
                  | (refine wpRel_quick ?_ ?_ ?_ ?_
                     · rfl
                     · rfl
                     · first | exact noEnter rfl | (intro f args W W'; go_simp)
                     intro K hK
                     go_big_quiet_op
                     go_big_quiet_on)
                  | (refine wpRel_skip ?_ ?_
                     · rfl
                     simp only [Act.put, List.setIfInBounds_toArray, List.set_cons_zero, List.set_cons_succ]))
                refine wpRel_rich _ rfl rfl (fun W hW => ?_) (fun v W3 hW3 hv => ?_)
                · have hc := (HCC.out W (HX1.out.trans (HE.out.trans (hA.trans ((Ext.refl _).drew.trans hW.1)))))
                  go_simp
                  refine Calls.mono hc ?_
                  rintro e w' ⟨rfl, h⟩
                  exact ⟨_, rfl, rfl, by first | exact h | (subst h; exact Ext.refl _)⟩
                obtain rfl := hv
                clear hW3
                simp only [Act.put, List.setIfInBounds_toArray, List.set_cons_zero, List.set_cons_succ]
                repeat (first
                  | (refine wpRel_quick ?_ ?_ ?_ ?_
                     · rfl
                     · rfl
                     · first | exact noEnter rfl | (intro f args W W'; go_simp)
                     intro K hK
                     go_big_quiet_op
                     go_big_quiet_on)
                  | (refine wpRel_skip ?_ ?_
                     · rfl
                     simp only [Act.put, List.setIfInBounds_toArray, List.set_cons_zero, List.set_cons_succ]))
                refine wpRel_nil ?_
                intro W3 hW3
                have HE3 := Lib.hid (HE.out.trans (hA.trans ((Ext.refl _).drew.trans hW3.1)))
                clear hW3 gb5 gx0 gx1 x0 x1 c0 c1 b5 b6 b7
                go_wp2_with fail
                go_roundw
                case rel => exact ⟨j + 1, by go_num, by omega, by rw [goodL_succ, ← Bool.and_assoc, HOK.out, HFA.out, HF.out, HFR.out]; rfl, HE3.out⟩
                case measure => simp [intOf] <;> omega
        · have hji : ¬ (j : Int) < (ch.length : Int) := by omega
          obtain rfl : j = ch.length := by omega
          obtain ⟨kd0, kd1, kd2, kd3⟩ := HKC.out _ HE.out
          cases hok : (lenB lo hi ch && goodL ch ch.length) with
          | false =>
            have HO2 : Hid ((lenB lo hi ch && goodL ch ch.length && giveB gv ch g h) = false) := Lib.hid (by rw [hok]; rfl)
            clear hok
            cases gv with
            | true =>
              have gb5 := grow_cell b5
              go_wp2_with fail
              refine wp_region_rel_all (fun _ => none) (by kernel_rfl) (by kernel_rfl) ?_
              repeat (first
                | (refine wpRel_quick ?_ ?_ ?_ ?_
                   · rfl
                   · rfl
                   · first | exact noEnter rfl | (intro f args W W'; go_simp)
                   intro K hK
                   go_big_quiet_op
                   go_big_quiet_on)
                | (refine wpRel_skip ?_ ?_
                   · rfl
                   simp only [Act.put, List.setIfInBounds_toArray, List.set_cons_zero, List.set_cons_succ]))
              refine wpRel_nil ?_
              intro W3 hW3
              have HE := Lib.hid (HE.out.trans ((Ext.refl _).drew.trans hW3.1))
              clear hW3 gb5 b5 b6 b7 kd0 kd1 kd2 kd3
              have HXX := Lib.hid (HX1.out.trans HE.out)
              obtain ⟨b0', b1, b2, b3, b4, b5, b6, b7, b8, -⟩ := HB1.out.ext HE.out
              try dsimp only at b0' b1 b2 b3 b4 b5 b6 b7 b8
              obtain ⟨kd0, kd1, kd2, kd3⟩ := HKC.out _ HE.out
              cases ky with
              | true =>
                go_wp2_with fail
                go_ret
                exact ⟨ret_i64 (by rw [HBODY.out, HO2.out]; rfl), HXX.out⟩
              | false =>
                go_wp2_with fail
                go_ret
                exact ⟨ret_i64 (by rw [HBODY.out, HO2.out]; rfl), HXX.out⟩
            | false =>
              clear b5 kd0 kd1 kd3
              have HXX := Lib.hid (HX1.out.trans HE.out)
              clear b6 b7 kd2
              obtain ⟨b0', b1, b2, b3, b4, b5, b6, b7, b8, -⟩ := HB1.out.ext HE.out
              try dsimp only at b0' b1 b2 b3 b4 b5 b6 b7 b8
              obtain ⟨kd0, kd1, kd2, kd3⟩ := HKC.out _ HE.out
              cases ky with
              | true =>
                go_wp2_with fail
                go_ret
                exact ⟨ret_i64 (by rw [HBODY.out, HO2.out]; rfl), HXX.out⟩
              | false =>
                go_wp2_with fail
                go_ret
                exact ⟨ret_i64 (by rw [HBODY.out, HO2.out]; rfl), HXX.out⟩
          | true =>
            have HOK := Lib.hid hok
            clear hok
            cases gv with
            | true =>
              have gb5 := grow_cell b5
              have gb6 := grow_cell b6
              have gb7 := grow_cell b7
              have HGV : Hid (giveB true ch g h = (formB g h && (ch.length == 0 || (ch.getD 0 b0).1 != g))) := Lib.hid rfl
              cases hf : formB g h with
              | false =>
                have HF := Lib.hid hf
                clear hf
                have HO2 : Hid ((lenB lo hi ch && goodL ch ch.length && giveB true ch g h) = false) := Lib.hid (by rw [HOK.out, HGV.out, HF.out]; rfl)
                go_wp2_with fail
                refine wp_region_rel_all (fun i => if i = 4 then some (spV (.bool false)) else none) (by kernel_rfl) (by kernel_rfl) ?_
                repeat (first
                  | (refine wpRel_quick ?_ ?_ ?_ ?_
                     · rfl
                     · rfl
                     · first | exact noEnter rfl | (intro f args W W'; go_simp)
                     intro K hK
                     go_big_quiet_op
                     go_big_quiet_on)
                  | (refine wpRel_skip ?_ ?_
                     · rfl
                     simp only [Act.put, List.setIfInBounds_toArray, List.set_cons_zero, List.set_cons_succ]))
                refine wpRel_rich _ rfl rfl (fun W hW => ?_) (fun v W3 hW3 hv => ?_)
                · have hc := (HF.out ▸ formedB_any g h W)
                  go_simp
                  refine Calls.mono hc ?_
                  rintro e w' ⟨rfl, h⟩
                  exact ⟨_, rfl, rfl, by first | exact h | (subst h; exact Ext.refl _)⟩
                obtain rfl := hv
                clear hW3
                simp only [Act.put, List.setIfInBounds_toArray, List.set_cons_zero, List.set_cons_succ]
                repeat (first
                  | (refine wpRel_quick ?_ ?_ ?_ ?_
                     · rfl
                     · rfl
                     · first | exact noEnter rfl | (intro f args W W'; go_simp)
                     intro K hK
                     go_big_quiet_op
                     go_big_quiet_on)
                  | (refine wpRel_skip ?_ ?_
                     · rfl
                     simp only [Act.put, List.setIfInBounds_toArray, List.set_cons_zero, List.set_cons_succ]))
                refine wpRel_nil ?_
                intro W3 hW3
                have HE := Lib.hid (HE.out.trans ((Ext.refl _).drew.trans hW3.1))
                clear hW3 gb5 gb6 gb7 b5 b6 b7 kd0 kd1 kd2 kd3
                have HXX := Lib.hid (HX1.out.trans HE.out)
                obtain ⟨b0', b1, b2, b3, b4, b5, b6, b7, b8, -⟩ := HB1.out.ext HE.out
                try dsimp only at b0' b1 b2 b3 b4 b5 b6 b7 b8
                obtain ⟨kd0, kd1, kd2, kd3⟩ := HKC.out _ HE.out
                cases ky with
                | true =>
                  go_wp2_with fail
                  go_ret
                  exact ⟨ret_i64 (by rw [HBODY.out, HO2.out]; rfl), HXX.out⟩
                | false =>
                  go_wp2_with fail
                  go_ret
                  exact ⟨ret_i64 (by rw [HBODY.out, HO2.out]; rfl), HXX.out⟩
              | true =>
                have HF := Lib.hid hf
                clear hf
                rcases Nat.eq_zero_or_pos ch.length with hz | hz
                · have hzb : ((ch.length : Int) == 0) = true := by rw [hz]; rfl
                  have HO2 : Hid ((lenB lo hi ch && goodL ch ch.length && giveB true ch g h) = true) := Lib.hid (by rw [HOK.out, HGV.out, HF.out, hz]; rfl)
                  clear hz
                  go_wp2_with fail
                  refine wp_region_rel_all (fun i => if i = 4 then some (spV (.bool true)) else none) (by kernel_rfl) (by kernel_rfl) ?_
                  repeat (first
                    | (refine wpRel_quick ?_ ?_ ?_ ?_
                       · rfl
                       · rfl
                       · first | exact noEnter rfl | (intro f args W W'; go_simp)
                       intro K hK
                       go_big_quiet_op
                       go_big_quiet_on)
                    | (refine wpRel_skip ?_ ?_
                       · rfl
                       simp only [Act.put, List.setIfInBounds_toArray, List.set_cons_zero, List.set_cons_succ]))
                  refine wpRel_rich _ rfl rfl (fun W hW => ?_) (fun v W3 hW3 hv => ?_)
                  · have hc := (HF.out ▸ formedB_any g h W)
                    go_simp
                    refine Calls.mono hc ?_
                    rintro e w' ⟨rfl, h⟩
                    exact ⟨_, rfl, rfl, by first | exact h | (subst h; exact Ext.refl _)⟩
                  obtain rfl := hv
                  clear hW3
                  simp only [Act.put, List.setIfInBounds_toArray, List.set_cons_zero, List.set_cons_succ]
                  repeat (first
                    | (refine wpRel_quick ?_ ?_ ?_ ?_
                       · rfl
                       · rfl
                       · first | exact noEnter rfl | (intro f args W W'; go_simp)
                       intro K hK
                       go_big_quiet_op
                       go_big_quiet_on)
                    | (refine wpRel_skip ?_ ?_
                       · rfl
                       simp only [Act.put, List.setIfInBounds_toArray, List.set_cons_zero, List.set_cons_succ]))
                  refine wpRel_nil ?_
                  intro W3 hW3
                  have HE := Lib.hid (HE.out.trans ((Ext.refl _).drew.trans hW3.1))
                  clear hW3 gb5 gb6 gb7 b5 b6 b7 kd0 kd1 kd2 kd3
                  have HXX := Lib.hid (HX1.out.trans HE.out)
                  obtain ⟨b0', b1, b2, b3, b4, b5, b6, b7, b8, -⟩ := HB1.out.ext HE.out
                  try dsimp only at b0' b1 b2 b3 b4 b5 b6 b7 b8
                  obtain ⟨kd0, kd1, kd2, kd3⟩ := HKC.out _ HE.out
                  cases ky with
                  | true =>
                    by_cases hy1 : 0 ≤ y
                    · by_cases hy2 : y ≤ 1048576
                      · have HK2 : Hid (keyB true y = true) := Lib.hid (by unfold keyB; simp [hy1, hy2])
                        go_wp2_with fail
                        go_ret
                        exact ⟨ret_i64 (by rw [HBODY.out, HO2.out, HK2.out]; rfl), HXX.out⟩
                      · have HK2 : Hid (keyB true y = false) := Lib.hid (by unfold keyB; simp [hy2])
                        have hy3 : 1048576 < y := by omega
                        go_wp2_with fail
                        go_ret
                        exact ⟨ret_i64 (by rw [HBODY.out, HO2.out, HK2.out]; rfl), HXX.out⟩
                    · have HK2 : Hid (keyB true y = false) := Lib.hid (by unfold keyB; simp [hy1])
                      have hy3 : y < 0 := by omega
                      go_wp2_with fail
                      go_ret
                      exact ⟨ret_i64 (by rw [HBODY.out, HO2.out, HK2.out]; rfl), HXX.out⟩
                  | false =>
                    cases hy : (y == 0) with
                    | true =>
                      have HK2 : Hid (keyB false y = true) := Lib.hid (by unfold keyB; simpa using hy)
                      go_wp2_with fail
                      go_ret
                      exact ⟨ret_i64 (by rw [HBODY.out, HO2.out, HK2.out]; rfl), HXX.out⟩
                    | false =>
                      have HK2 : Hid (keyB false y = false) := Lib.hid (by unfold keyB; simpa using hy)
                      go_wp2_with fail
                      go_ret
                      exact ⟨ret_i64 (by rw [HBODY.out, HO2.out, HK2.out]; rfl), HXX.out⟩
                · have hzb : ((ch.length : Int) == 0) = false := by rw [beq_eq_false_iff_ne]; omega
                  have hzi : (0 : Int) < (ch.length : Int) := by omega
                  obtain ⟨bb, o, hao, c0, c1⟩ := b_cells HRB.out (HX1.out.trans HE.out) hz
                  subst hao
                  simp only [Nat.zero_mul, Nat.add_zero] at c0 c1
                  have gc0 := grow_cell c0
                  have HG0 : Hid ((ch.getD 0 b0).1 = ch[0].1) := Lib.hid (by rw [getB hz])
                  have HZN : Hid ((ch.length == 0) = false) := Lib.hid (by rw [beq_eq_false_iff_ne]; omega)
                  generalize ch[0] = z at *
                  cases hzg : (z.1 != g) with
                  | true =>
                    have HO2 : Hid ((lenB lo hi ch && goodL ch ch.length && giveB true ch g h) = true) := Lib.hid (by rw [HOK.out, HGV.out, HF.out, HZN.out, HG0.out, hzg]; rfl)
                    go_wp2_with fail
                    refine wp_region_rel_all (fun i => if i = 4 then some (spV (.bool true)) else none) (by kernel_rfl) (by kernel_rfl) ?_
                    repeat (first
                      | (refine wpRel_quick ?_ ?_ ?_ ?_
                         · rfl
                         · rfl
                         · first | exact noEnter rfl | (intro f args W W'; go_simp)
                         intro K hK
                         go_big_quiet_op
                         go_big_quiet_on)
                      | (refine wpRel_skip ?_ ?_
                         · rfl
                         simp only [Act.put, List.setIfInBounds_toArray, List.set_cons_zero, List.set_cons_succ]))
                    refine wpRel_rich _ rfl rfl (fun W hW => ?_) (fun v W3 hW3 hv => ?_)
                    · have hc := (HF.out ▸ formedB_any g h W)
                      go_simp
                      refine Calls.mono hc ?_
                      rintro e w' ⟨rfl, h⟩
                      exact ⟨_, rfl, rfl, by first | exact h | (subst h; exact Ext.refl _)⟩
                    obtain rfl := hv
                    clear hW3
                    simp only [Act.put, List.setIfInBounds_toArray, List.set_cons_zero, List.set_cons_succ]
                    repeat (first
                      | (refine wpRel_quick ?_ ?_ ?_ ?_
                         · rfl
                         · rfl
                         · first | exact noEnter rfl | (intro f args W W'; go_simp)
                         intro K hK
                         go_big_quiet_op
                         go_big_quiet_on)
                      | (refine wpRel_skip ?_ ?_
                         · rfl
                         simp only [Act.put, List.setIfInBounds_toArray, List.set_cons_zero, List.set_cons_succ]))
                    refine wpRel_nil ?_
                    intro W3 hW3
                    have HE := Lib.hid (HE.out.trans ((Ext.refl _).drew.trans hW3.1))
                    clear hW3 gb5 gb6 gb7 b5 b6 b7 kd0 kd1 kd2 kd3 c0 c1 gc0 hzg
                    have HXX := Lib.hid (HX1.out.trans HE.out)
                    obtain ⟨b0', b1, b2, b3, b4, b5, b6, b7, b8, -⟩ := HB1.out.ext HE.out
                    try dsimp only at b0' b1 b2 b3 b4 b5 b6 b7 b8
                    obtain ⟨kd0, kd1, kd2, kd3⟩ := HKC.out _ HE.out
                    cases ky with
                    | true =>
                      by_cases hy1 : 0 ≤ y
                      · by_cases hy2 : y ≤ 1048576
                        · have HK2 : Hid (keyB true y = true) := Lib.hid (by unfold keyB; simp [hy1, hy2])
                          go_wp2_with fail
                          go_ret
                          exact ⟨ret_i64 (by rw [HBODY.out, HO2.out, HK2.out]; rfl), HXX.out⟩
                        · have HK2 : Hid (keyB true y = false) := Lib.hid (by unfold keyB; simp [hy2])
                          have hy3 : 1048576 < y := by omega
                          go_wp2_with fail
                          go_ret
                          exact ⟨ret_i64 (by rw [HBODY.out, HO2.out, HK2.out]; rfl), HXX.out⟩
                      · have HK2 : Hid (keyB true y = false) := Lib.hid (by unfold keyB; simp [hy1])
                        have hy3 : y < 0 := by omega
                        go_wp2_with fail
                        go_ret
                        exact ⟨ret_i64 (by rw [HBODY.out, HO2.out, HK2.out]; rfl), HXX.out⟩
                    | false =>
                      cases hy : (y == 0) with
                      | true =>
                        have HK2 : Hid (keyB false y = true) := Lib.hid (by unfold keyB; simpa using hy)
                        go_wp2_with fail
                        go_ret
                        exact ⟨ret_i64 (by rw [HBODY.out, HO2.out, HK2.out]; rfl), HXX.out⟩
                      | false =>
                        have HK2 : Hid (keyB false y = false) := Lib.hid (by unfold keyB; simpa using hy)
                        go_wp2_with fail
                        go_ret
                        exact ⟨ret_i64 (by rw [HBODY.out, HO2.out, HK2.out]; rfl), HXX.out⟩
                  | false =>
                    have HO2 : Hid ((lenB lo hi ch && goodL ch ch.length && giveB true ch g h) = false) := Lib.hid (by rw [HOK.out, HGV.out, HF.out, HZN.out, HG0.out, hzg]; rfl)
                    go_wp2_with fail
                    refine wp_region_rel_all (fun i => if i = 4 then some (spV (.bool true)) else none) (by kernel_rfl) (by kernel_rfl) ?_
                    repeat (first
                      | (refine wpRel_quick ?_ ?_ ?_ ?_
                         · rfl
                         · rfl
                         · first | exact noEnter rfl | (intro f args W W'; go_simp)
                         intro K hK
                         go_big_quiet_op
                         go_big_quiet_on)
                      | (refine wpRel_skip ?_ ?_
                         · rfl
                         simp only [Act.put, List.setIfInBounds_toArray, List.set_cons_zero, List.set_cons_succ]))
                    refine wpRel_rich _ rfl rfl (fun W hW => ?_) (fun v W3 hW3 hv => ?_)
                    · have hc := (HF.out ▸ formedB_any g h W)
                      go_simp
                      refine Calls.mono hc ?_
                      rintro e w' ⟨rfl, h⟩
                      exact ⟨_, rfl, rfl, by first | exact h | (subst h; exact Ext.refl _)⟩
                    obtain rfl := hv
                    clear hW3
                    simp only [Act.put, List.setIfInBounds_toArray, List.set_cons_zero, List.set_cons_succ]
                    repeat (first
                      | (refine wpRel_quick ?_ ?_ ?_ ?_
                         · rfl
                         · rfl
                         · first | exact noEnter rfl | (intro f args W W'; go_simp)
                         intro K hK
                         go_big_quiet_op
                         go_big_quiet_on)
                      | (refine wpRel_skip ?_ ?_
                         · rfl
                         simp only [Act.put, List.setIfInBounds_toArray, List.set_cons_zero, List.set_cons_succ]))
                    refine wpRel_nil ?_
                    intro W3 hW3
                    have HE := Lib.hid (HE.out.trans ((Ext.refl _).drew.trans hW3.1))
                    clear hW3 gb5 gb6 gb7 b5 b6 b7 kd0 kd1 kd2 kd3 c0 c1 gc0 hzg
                    have HXX := Lib.hid (HX1.out.trans HE.out)
                    obtain ⟨b0', b1, b2, b3, b4, b5, b6, b7, b8, -⟩ := HB1.out.ext HE.out
                    try dsimp only at b0' b1 b2 b3 b4 b5 b6 b7 b8
                    obtain ⟨kd0, kd1, kd2, kd3⟩ := HKC.out _ HE.out
                    cases ky with
                    | true =>
                      go_wp2_with fail
                      go_ret
                      exact ⟨ret_i64 (by rw [HBODY.out, HO2.out]; rfl), HXX.out⟩
                    | false =>
                      go_wp2_with fail
                      go_ret
                      exact ⟨ret_i64 (by rw [HBODY.out, HO2.out]; rfl), HXX.out⟩
            | false =>
              have he := eqB g h 0 0
              have HGV : Hid (giveB false ch g h = (g == 0 && h == 0)) := Lib.hid rfl
              clear b5 kd0 kd1
              cases hg0 : (g == 0 && h == 0) with
              | true =>
                rw [hg0] at he
                have HO2 : Hid ((lenB lo hi ch && goodL ch ch.length && giveB false ch g h) = true) := Lib.hid (by rw [HOK.out, HGV.out, hg0]; rfl)
                clear hg0
                have HXX := Lib.hid (HX1.out.trans HE.out)
                clear b6 b7 kd2 kd3
                obtain ⟨b0', b1, b2, b3, b4, b5, b6, b7, b8, -⟩ := HB1.out.ext HE.out
                try dsimp only at b0' b1 b2 b3 b4 b5 b6 b7 b8
                obtain ⟨kd0, kd1, kd2, kd3⟩ := HKC.out _ HE.out
                cases ky with
                | true =>
                  by_cases hy1 : 0 ≤ y
                  · by_cases hy2 : y ≤ 1048576
                    · have HK2 : Hid (keyB true y = true) := Lib.hid (by unfold keyB; simp [hy1, hy2])
                      go_wp2_with fail
                      go_ret
                      exact ⟨ret_i64 (by rw [HBODY.out, HO2.out, HK2.out]; rfl), HXX.out⟩
                    · have HK2 : Hid (keyB true y = false) := Lib.hid (by unfold keyB; simp [hy2])
                      have hy3 : 1048576 < y := by omega
                      go_wp2_with fail
                      go_ret
                      exact ⟨ret_i64 (by rw [HBODY.out, HO2.out, HK2.out]; rfl), HXX.out⟩
                  · have HK2 : Hid (keyB true y = false) := Lib.hid (by unfold keyB; simp [hy1])
                    have hy3 : y < 0 := by omega
                    go_wp2_with fail
                    go_ret
                    exact ⟨ret_i64 (by rw [HBODY.out, HO2.out, HK2.out]; rfl), HXX.out⟩
                | false =>
                  cases hy : (y == 0) with
                  | true =>
                    have HK2 : Hid (keyB false y = true) := Lib.hid (by unfold keyB; simpa using hy)
                    go_wp2_with fail
                    go_ret
                    exact ⟨ret_i64 (by rw [HBODY.out, HO2.out, HK2.out]; rfl), HXX.out⟩
                  | false =>
                    have HK2 : Hid (keyB false y = false) := Lib.hid (by unfold keyB; simpa using hy)
                    go_wp2_with fail
                    go_ret
                    exact ⟨ret_i64 (by rw [HBODY.out, HO2.out, HK2.out]; rfl), HXX.out⟩
              | false =>
                rw [hg0] at he
                have HO2 : Hid ((lenB lo hi ch && goodL ch ch.length && giveB false ch g h) = false) := Lib.hid (by rw [HOK.out, HGV.out, hg0]; rfl)
                clear hg0
                have HXX := Lib.hid (HX1.out.trans HE.out)
                clear b6 b7 kd2 kd3
                obtain ⟨b0', b1, b2, b3, b4, b5, b6, b7, b8, -⟩ := HB1.out.ext HE.out
                try dsimp only at b0' b1 b2 b3 b4 b5 b6 b7 b8
                obtain ⟨kd0, kd1, kd2, kd3⟩ := HKC.out _ HE.out
                cases ky with
                | true =>
                  go_wp2_with fail
                  go_ret
                  exact ⟨ret_i64 (by rw [HBODY.out, HO2.out]; rfl), HXX.out⟩
                | false =>
                  go_wp2_with fail
                  go_ret
                  exact ⟨ret_i64 (by rw [HBODY.out, HO2.out]; rfl), HXX.out⟩
    · have HL0 : Hid (lenB lo hi ch = false) := Lib.hid (by unfold lenB; rw [decide_eq_false hhi]; simp)
      have hhi2 : hi < (ch.length : Int) := by omega
      go_wp2_with fail
      clear b0' b1 b2 b3 b4 b5 b6 b7 b8 t0 t1 t2 t3
      go_loopw [5, 76] (fun okv jv wr => ∃ j : Nat, jv = .int .i64 j ∧ j ≤ ch.length ∧ okv = .bool false ∧ Ext w1 wr) (fun _ jv _ => ch.length - (intOf jv).toNat)
      case atStart => exact ⟨0, rfl, by omega, rfl, Ext.refl _⟩
      case round =>
        obtain ⟨j, rfl, hj, rfl, hE⟩ := hrel
        have HE := Lib.hid hE
        clear hE
        obtain ⟨b0', b1, b2, b3, b4, b5, b6, b7, b8, -⟩ := HB1.out.ext HE.out
        try dsimp only at b0' b1 b2 b3 b4 b5 b6 b7 b8
        clear b0' b1 b2 b3 b4 b8
        by_cases hlt : j < ch.length
        · have hji : (j : Int) < (ch.length : Int) := by omega
          obtain ⟨bb, o, hao, c0, c1⟩ := b_cells HRB.out (HX1.out.trans HE.out) hlt
          have HTK := Lib.hid (RepB.take HRB.out hlt)
          have HFA : Hid (formAt ch j = formB ch[j].1 ch[j].2) := Lib.hid (by unfold formAt; rw [getB hlt])
          have HFR : Hid (freshAt ch j = !(ch.take j).contains ch[j]) := Lib.hid (by unfold freshAt; rw [getB hlt])
          have HTL : Hid ((ch.take j).length = j) := Lib.hid (by rw [List.length_take]; omega)
          subst hao
          have hcap : (cap : Int) ≤ 9223372036854775807 := by have := SL.max HRB.out; omega
          have hcap2 : (ch.length : Int) ≤ (cap : Int) := by have := SL.le HRB.out; rw [brows_length] at this; omega
          have hjc : (j : Int) ≤ (cap : Int) := by omega
          generalize ch[j] = x at *
          have hA : Ext wr (wr.alloc (.cells #[.int .i64 x.1, .int .i64 x.2] 24)) := (Ext.refl wr).alloc _
          have x0 : (wr.alloc (.cells #[.int .i64 x.1, .int .i64 x.2] 24)).cell? ⟨wr.heap.size, 0, none⟩ = some (.int .i64 x.1) := by simp
          have x1 : (wr.alloc (.cells #[.int .i64 x.1, .int .i64 x.2] 24)).cell? ⟨wr.heap.size, 1, none⟩ = some (.int .i64 x.2) := by simp
          have gx0 := grow_cell x0
          have gx1 := grow_cell x1
          have gb5 := grow_cell (hA.cell b5)
          go_wp2_with fail
          refine wp_region_rel_all (fun _ => none) (by kernel_rfl) (by kernel_rfl) ?_
          repeat (first
            | (refine wpRel_quick ?_ ?_ ?_ ?_
               · rfl
               · rfl
               · first | exact noEnter rfl | (intro f args W W'; go_simp)
               intro K hK
               go_big_quiet_op
               go_big_quiet_on)
            | (refine wpRel_skip ?_ ?_
               · rfl
               simp only [Act.put, List.setIfInBounds_toArray, List.set_cons_zero, List.set_cons_succ]))
          refine wpRel_nil ?_
          intro W3 hW3
          have HE3 := Lib.hid (HE.out.trans (hA.trans ((Ext.refl _).drew.trans hW3.1)))
          clear hW3 gb5 gx0 gx1 x0 x1 c0 c1 b5 b6 b7
          go_wp2_with fail
          go_roundw
          case rel => exact ⟨j + 1, by go_num, by omega, rfl, HE3.out⟩
          case measure => simp [intOf] <;> omega
        · have hji : ¬ (j : Int) < (ch.length : Int) := by omega
          obtain rfl : j = ch.length := by omega
          obtain ⟨kd0, kd1, kd2, kd3⟩ := HKC.out _ HE.out
          have hok : (lenB lo hi ch && goodL ch ch.length) = false := by rw [HL0.out]; rfl
          have HO2 : Hid ((lenB lo hi ch && goodL ch ch.length && giveB gv ch g h) = false) := Lib.hid (by rw [hok]; rfl)
          clear hok
          cases gv with
          | true =>
            have gb5 := grow_cell b5
            go_wp2_with fail
            refine wp_region_rel_all (fun _ => none) (by kernel_rfl) (by kernel_rfl) ?_
            repeat (first
              | (refine wpRel_quick ?_ ?_ ?_ ?_
                 · rfl
                 · rfl
                 · first | exact noEnter rfl | (intro f args W W'; go_simp)
                 intro K hK
                 go_big_quiet_op
                 go_big_quiet_on)
              | (refine wpRel_skip ?_ ?_
                 · rfl
                 simp only [Act.put, List.setIfInBounds_toArray, List.set_cons_zero, List.set_cons_succ]))
            refine wpRel_nil ?_
            intro W3 hW3
            have HE := Lib.hid (HE.out.trans ((Ext.refl _).drew.trans hW3.1))
            clear hW3 gb5 b5 b6 b7 kd0 kd1 kd2 kd3
            have HXX := Lib.hid (HX1.out.trans HE.out)
            obtain ⟨b0', b1, b2, b3, b4, b5, b6, b7, b8, -⟩ := HB1.out.ext HE.out
            try dsimp only at b0' b1 b2 b3 b4 b5 b6 b7 b8
            obtain ⟨kd0, kd1, kd2, kd3⟩ := HKC.out _ HE.out
            cases ky with
            | true =>
              go_wp2_with fail
              go_ret
              exact ⟨ret_i64 (by rw [HBODY.out, HO2.out]; rfl), HXX.out⟩
            | false =>
              go_wp2_with fail
              go_ret
              exact ⟨ret_i64 (by rw [HBODY.out, HO2.out]; rfl), HXX.out⟩
          | false =>
            clear b5 kd0 kd1 kd3
            have HXX := Lib.hid (HX1.out.trans HE.out)
            clear b6 b7 kd2
            obtain ⟨b0', b1, b2, b3, b4, b5, b6, b7, b8, -⟩ := HB1.out.ext HE.out
            try dsimp only at b0' b1 b2 b3 b4 b5 b6 b7 b8
            obtain ⟨kd0, kd1, kd2, kd3⟩ := HKC.out _ HE.out
            cases ky with
            | true =>
              go_wp2_with fail
              go_ret
              exact ⟨ret_i64 (by rw [HBODY.out, HO2.out]; rfl), HXX.out⟩
            | false =>
              go_wp2_with fail
              go_ret
              exact ⟨ret_i64 (by rw [HBODY.out, HO2.out]; rfl), HXX.out⟩
  · have HL0 : Hid (lenB lo hi ch = false) := Lib.hid (by unfold lenB; rw [decide_eq_false hlo]; rfl)
    have hlo2 : (ch.length : Int) < lo := by omega
    go_wp2_with fail
    clear b0' b1 b2 b3 b4 b5 b6 b7 b8 t0 t1 t2 t3
    go_loopw [5, 76] (fun okv jv wr => ∃ j : Nat, jv = .int .i64 j ∧ j ≤ ch.length ∧ okv = .bool false ∧ Ext w1 wr) (fun _ jv _ => ch.length - (intOf jv).toNat)
    case atStart => exact ⟨0, rfl, by omega, rfl, Ext.refl _⟩
    case round =>
      obtain ⟨j, rfl, hj, rfl, hE⟩ := hrel
      have HE := Lib.hid hE
      clear hE
      obtain ⟨b0', b1, b2, b3, b4, b5, b6, b7, b8, -⟩ := HB1.out.ext HE.out
      try dsimp only at b0' b1 b2 b3 b4 b5 b6 b7 b8
      clear b0' b1 b2 b3 b4 b8
      by_cases hlt : j < ch.length
      · have hji : (j : Int) < (ch.length : Int) := by omega
        obtain ⟨bb, o, hao, c0, c1⟩ := b_cells HRB.out (HX1.out.trans HE.out) hlt
        have HTK := Lib.hid (RepB.take HRB.out hlt)
        have HFA : Hid (formAt ch j = formB ch[j].1 ch[j].2) := Lib.hid (by unfold formAt; rw [getB hlt])
        have HFR : Hid (freshAt ch j = !(ch.take j).contains ch[j]) := Lib.hid (by unfold freshAt; rw [getB hlt])
        have HTL : Hid ((ch.take j).length = j) := Lib.hid (by rw [List.length_take]; omega)
        subst hao
        have hcap : (cap : Int) ≤ 9223372036854775807 := by have := SL.max HRB.out; omega
        have hcap2 : (ch.length : Int) ≤ (cap : Int) := by have := SL.le HRB.out; rw [brows_length] at this; omega
        have hjc : (j : Int) ≤ (cap : Int) := by omega
        generalize ch[j] = x at *
        have hA : Ext wr (wr.alloc (.cells #[.int .i64 x.1, .int .i64 x.2] 24)) := (Ext.refl wr).alloc _
        have x0 : (wr.alloc (.cells #[.int .i64 x.1, .int .i64 x.2] 24)).cell? ⟨wr.heap.size, 0, none⟩ = some (.int .i64 x.1) := by simp
        have x1 : (wr.alloc (.cells #[.int .i64 x.1, .int .i64 x.2] 24)).cell? ⟨wr.heap.size, 1, none⟩ = some (.int .i64 x.2) := by simp
        have gx0 := grow_cell x0
        have gx1 := grow_cell x1
        have gb5 := grow_cell (hA.cell b5)
        go_wp2_with fail
        refine wp_region_rel_all (fun _ => none) (by kernel_rfl) (by kernel_rfl) ?_
        repeat (first
          | (refine wpRel_quick ?_ ?_ ?_ ?_
             · rfl
             · rfl
             · first | exact noEnter rfl | (intro f args W W'; go_simp)
             intro K hK
             go_big_quiet_op
             go_big_quiet_on)
          | (refine wpRel_skip ?_ ?_
             · rfl
             simp only [Act.put, List.setIfInBounds_toArray, List.set_cons_zero, List.set_cons_succ]))
        refine wpRel_nil ?_
        intro W3 hW3
        have HE3 := Lib.hid (HE.out.trans (hA.trans ((Ext.refl _).drew.trans hW3.1)))
        clear hW3 gb5 gx0 gx1 x0 x1 c0 c1 b5 b6 b7
        go_wp2_with fail
        go_roundw
        case rel => exact ⟨j + 1, by go_num, by omega, rfl, HE3.out⟩
        case measure => simp [intOf] <;> omega
      · have hji : ¬ (j : Int) < (ch.length : Int) := by omega
        obtain rfl : j = ch.length := by omega
        obtain ⟨kd0, kd1, kd2, kd3⟩ := HKC.out _ HE.out
        have hok : (lenB lo hi ch && goodL ch ch.length) = false := by rw [HL0.out]; rfl
        have HO2 : Hid ((lenB lo hi ch && goodL ch ch.length && giveB gv ch g h) = false) := Lib.hid (by rw [hok]; rfl)
        clear hok
        cases gv with
        | true =>
          have gb5 := grow_cell b5
          go_wp2_with fail
          refine wp_region_rel_all (fun _ => none) (by kernel_rfl) (by kernel_rfl) ?_
          repeat (first
            | (refine wpRel_quick ?_ ?_ ?_ ?_
               · rfl
               · rfl
               · first | exact noEnter rfl | (intro f args W W'; go_simp)
               intro K hK
               go_big_quiet_op
               go_big_quiet_on)
            | (refine wpRel_skip ?_ ?_
               · rfl
               simp only [Act.put, List.setIfInBounds_toArray, List.set_cons_zero, List.set_cons_succ]))
          refine wpRel_nil ?_
          intro W3 hW3
          have HE := Lib.hid (HE.out.trans ((Ext.refl _).drew.trans hW3.1))
          clear hW3 gb5 b5 b6 b7 kd0 kd1 kd2 kd3
          have HXX := Lib.hid (HX1.out.trans HE.out)
          obtain ⟨b0', b1, b2, b3, b4, b5, b6, b7, b8, -⟩ := HB1.out.ext HE.out
          try dsimp only at b0' b1 b2 b3 b4 b5 b6 b7 b8
          obtain ⟨kd0, kd1, kd2, kd3⟩ := HKC.out _ HE.out
          cases ky with
          | true =>
            go_wp2_with fail
            go_ret
            exact ⟨ret_i64 (by rw [HBODY.out, HO2.out]; rfl), HXX.out⟩
          | false =>
            go_wp2_with fail
            go_ret
            exact ⟨ret_i64 (by rw [HBODY.out, HO2.out]; rfl), HXX.out⟩
        | false =>
          clear b5 kd0 kd1 kd3
          have HXX := Lib.hid (HX1.out.trans HE.out)
          clear b6 b7 kd2
          obtain ⟨b0', b1, b2, b3, b4, b5, b6, b7, b8, -⟩ := HB1.out.ext HE.out
          try dsimp only at b0' b1 b2 b3 b4 b5 b6 b7 b8
          obtain ⟨kd0, kd1, kd2, kd3⟩ := HKC.out _ HE.out
          cases ky with
          | true =>
            go_wp2_with fail
            go_ret
            exact ⟨ret_i64 (by rw [HBODY.out, HO2.out]; rfl), HXX.out⟩
          | false =>
            go_wp2_with fail
            go_ret
            exact ⟨ret_i64 (by rw [HBODY.out, HO2.out]; rfl), HXX.out⟩
end Go.Proofs.YtahaplioegeloaaDoor
