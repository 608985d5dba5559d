/- Offers: the law Parts. -/
import Derived.Test.YtbnaoefmjmlfbaaOV
import Derived.Test.YtbnaoefmjmlfbaaOL3
import Derived.Test.YtbnaoefmjmlfbaaOL6
namespace Go.Proofs.Ytbnaoefmjmlfbaa
open Go.RowKit Go.Sz
theorem i64_add (n m : Int) (h : 0 ≤ n ∧ n ≤ 4000000) (h2 : 0 ≤ m ∧ m ≤ 4000000) : IntKind.i64.wrap (n + m) = n + m := by
  have h3 : -4611686018427387904 ≤ n + m ∧ n + m ≤ 4611686018427387904 := by omega
  generalize n + m = q at *
  simp [IntKind.wrap, IntKind.bits, IntKind.signed]; omega
/-- what the loop holds -/
def TP (l : List Off) (now : Int) (av bv kv : Value) (w0 wr : World) : Prop := ∃ a b i : Nat, av = .int .i64 a ∧ bv = .int .i64 b ∧ kv = .int .i64 i ∧ i ≤ l.length ∧ Cnt l now a b i ∧ a ≤ i ∧ b ≤ i ∧ Ext w0 wr
theorem Cnt.le {l : List Off} {now : Int} {a b i : Nat} (h : Cnt l now a b i) : a ≤ i ∧ b ≤ i := ⟨h.a ▸ countP_take_le _ _ _, h.b ▸ countP_take_le _ _ _⟩
set_option maxRecDepth 100000 in
set_option maxHeartbeats 12800000 in
theorem law_parts (l : List Off) (now d m : Int) (ao : Option Addr) (cap : Nat) (w : World) (h : RepO w ao cap l) (hd : 0 ≤ d ∧ d ≤ 65535) : Calls Try.prog 7 #[.slice ao l.length cap, .int .i64 now, .int .u16 d, .int .i64 m] w fun e w' => e = .returned (.bool true) ∧ Ext w w' := by
  have HDD := Lib.hid hd
  have HX0 := Lib.hid (Ext.refl w)
  have HR := Lib.hid h
  have HX := Lib.hid (Ext.refl w)
  clear h hd
  go_enter Try.func7, Try.ntmps7
  go_wp2_with fail
  refine (sane_any _).mono ?_
  rintro e v1 ⟨rfl, hE1⟩
  have HR := Lib.hid (HR.out.ext hE1)
  have HX := Lib.hid (HX.out.trans hE1)
  clear hE1
  go_wp2_with fail
  by_cases hl : l.length ≤ 40
  · have hf := decide_eq_true hl
    have HF := Lib.hid hl
    have HB : Hid (l.length ≤ 100000) := Lib.hid (by omega)
    clear hl
    by_cases hn1 : now ≤ 1048576
    · have hn2 : ¬ 1048576 < now := by omega
      clear hn1
      by_cases hn0 : 0 ≤ now
      · have hn3 : ¬ now < 0 := by omega
        have HN : Hid (0 ≤ now ∧ now ≤ 1048576) := Lib.hid ⟨hn0, by omega⟩
        clear hn0
        refine (fw_as hf HR.out).mono ?_
        rintro e v2 ⟨rfl, hE2⟩
        have HR := Lib.hid (HR.out.ext hE2)
        have HX := Lib.hid (HX.out.trans hE2)
        clear hE2
        go_wp2_with fail
        clear hf hn2 hn3
        obtain ⟨X, G, hXG⟩ : ∃ X G, expO l now = (X, G) := ⟨_, _, rfl⟩
        obtain ⟨Y, O, hYO⟩ : ∃ Y O, expO l (now + d) = (Y, O) := ⟨_, _, rfl⟩
        obtain ⟨Z, M, hZM⟩ : ∃ Z M, expO X (now + d) = (Z, M) := ⟨_, _, rfl⟩
        obtain rfl := exp_later hXG hYO hZM HDD.out.1
        have hlG := exp_len hXG
        have hlZ := exp_len hZM
        have HLX := Lib.hid hlG
        have HLZ := Lib.hid hlZ
        have HXG := Lib.hid hXG
        have HYO := Lib.hid hYO
        have HZM := Lib.hid hZM
        clear hlG hlZ hXG hYO hZM
        refine (ex_as HXG.out HR.out HB.out).mono ?_
        rintro e v3 ⟨a1, c1, b1, g1, rfl, hR1, hS1, hE3⟩
        have HR := Lib.hid (HR.out.ext hE3)
        have HX := Lib.hid (HX.out.trans hE3)
        have H1 := Lib.hid hR1
        have K1 := Lib.hid hS1
        clear hE3
        have hwd : IntKind.i64.wrap d = d := by have := HDD.out; simp [IntKind.wrap, IntKind.bits, IntKind.signed]; omega
        have hwn : IntKind.i64.wrap (now + d) = now + d := i64_add _ _ (by have := HN.out; omega) (by have := HDD.out; omega)
        go_wp2_with fail
        refine (ex_as HYO.out HR.out HB.out).mono ?_
        rintro e v4 ⟨a2, c2, b2, g2, rfl, hR2, hS2, hE4⟩
        have HR := Lib.hid (HR.out.ext hE4)
        have H1 := Lib.hid (H1.out.ext hE4)
        have K1 := Lib.hid (K1.out.ext hE4)
        have HX := Lib.hid (HX.out.trans hE4)
        have H2 := Lib.hid hR2
        clear hE4
        go_wp2_with fail
        clear hwd hwn
        refine (ex_as HZM.out H1.out (by have := HLX.out; have := HF.out; omega)).mono ?_
        rintro e v5 ⟨a3, c3, b3, g3, rfl, hR3, hS3, hE5⟩
        have HR := Lib.hid (HR.out.ext hE5)
        have H1 := Lib.hid (H1.out.ext hE5)
        have K1 := Lib.hid (K1.out.ext hE5)
        have H2 := Lib.hid (H2.out.ext hE5)
        have HX := Lib.hid (HX.out.trans hE5)
        have H3 := Lib.hid hR3
        clear hE5
        go_wp2_with fail
        have hw1 : IntKind.i64.wrap ((X.length : Int) + G.length) = l.length := by rw [i64_add _ _ (by have := HLX.out; have := HF.out; omega) (by have := HLX.out; have := HF.out; omega)]; have := HLX.out; omega
        have hw2 : IntKind.i64.wrap ((Z.length : Int) + M.length) = X.length := by rw [i64_add _ _ (by have := HLX.out; have := HLZ.out; have := HF.out; omega) (by have := HLX.out; have := HLZ.out; have := HF.out; omega)]; have := HLZ.out; omega
        refine (sm_as (same_self _) H2.out H3.out).mono ?_
        rintro e v6 ⟨rfl, hE6⟩
        have HR := Lib.hid (HR.out.ext hE6)
        have H1 := Lib.hid (H1.out.ext hE6)
        have K1 := Lib.hid (K1.out.ext hE6)
        have H2 := Lib.hid (H2.out.ext hE6)
        have H3 := Lib.hid (H3.out.ext hE6)
        have HX := Lib.hid (HX.out.trans hE6)
        clear hE6
        go_wp2_with fail
        clear hw1 hw2
        refine (hd_as rfl H1.out).mono ?_
        rintro e v7 ⟨rfl, hE7⟩
        have HR := Lib.hid (HR.out.ext hE7)
        have H1 := Lib.hid (H1.out.ext hE7)
        have K1 := Lib.hid (K1.out.ext hE7)
        have H2 := Lib.hid (H2.out.ext hE7)
        have H3 := Lib.hid (H3.out.ext hE7)
        have HX := Lib.hid (HX.out.trans hE7)
        clear hE7
        go_wp2_with fail
        refine (hd_as rfl K1.out).mono ?_
        rintro e v8 ⟨rfl, hE8⟩
        have HR := Lib.hid (HR.out.ext hE8)
        have H1 := Lib.hid (H1.out.ext hE8)
        have K1 := Lib.hid (K1.out.ext hE8)
        have H2 := Lib.hid (H2.out.ext hE8)
        have H3 := Lib.hid (H3.out.ext hE8)
        have HX := Lib.hid (HX.out.trans hE8)
        clear hE8
        go_wp2_with fail
        have hh1 : IntKind.i64.wrap (heldO X m + heldO G m) = heldO l m := by have h1 := heldO_bound X m; have h2 := heldO_bound G m; have h3 := HLX.out; have h4 := HF.out; rw [i64_add _ _ (by omega) (by omega)]; exact exp_held HXG.out m
        have hh2 : wrap64 (heldO X m + heldO G m) = heldO l m := by rw [← IntWalk.i64_left]; exact hh1
        refine (hd_as rfl HR.out).mono ?_
        rintro e v9 ⟨rfl, hE9⟩
        have HR := Lib.hid (HR.out.ext hE9)
        have H1 := Lib.hid (H1.out.ext hE9)
        have K1 := Lib.hid (K1.out.ext hE9)
        have H2 := Lib.hid (H2.out.ext hE9)
        have H3 := Lib.hid (H3.out.ext hE9)
        have HX := Lib.hid (HX.out.trans hE9)
        clear hE9
        go_wp2_with fail
        clear hh1 hh2
        generalize v9 = w1 at *
        go_loopw [15, 16, 17] (fun av bv kv wr => TP l now av bv kv w1 wr) (fun _ _ kv _ => l.length - (intOf kv).toNat)
        case atStart => exact ⟨0, 0, 0, rfl, rfl, rfl, by omega, Cnt.start l now, by omega, by omega, Ext.refl _⟩
        case round =>
          obtain ⟨a, b, i, rfl, rfl, rfl, hi, hC, hai, hbi, hE⟩ := hrel
          have HC := Lib.hid hC
          have HEr := Lib.hid hE
          have HRr := Lib.hid (HR.out.ext hE)
          have H1r := Lib.hid (H1.out.ext hE)
          have K1r := Lib.hid (K1.out.ext hE)
          have HAB := Lib.hid (And.intro hai hbi)
          clear hE hC hai hbi
          by_cases hil : i < l.length
          · have hii : (i : Int) < (l.length : Int) := by omega
            obtain ⟨y, hy⟩ : ∃ y, l[i] = y := ⟨_, rfl⟩
            obtain ⟨bb, oo, hao, d0, d1, d2, d3⟩ := off_cells HRr.out hil hy
            subst hao
            have gd0 := grow_cell d0
            have gd1 := grow_cell d1
            have gd2 := grow_cell d2
            have gd3 := grow_cell d3
            have HIL := Lib.hid hil
            have hw : IntKind.i64.wrap ((i : Int) + 1) = (i : Int) + 1 := i64_add _ _ (by have := HF.out; omega) (by omega)
            have hwa : IntKind.i64.wrap ((a : Int) + 1) = (a : Int) + 1 := i64_add _ _ (by have := HF.out; have := HAB.out; omega) (by omega)
            have hwb : IntKind.i64.wrap ((b : Int) + 1) = (b : Int) + 1 := i64_add _ _ (by have := HF.out; have := HAB.out; omega) (by omega)
            have HW := Lib.hid (And.intro hw (And.intro hwa hwb))
            clear hw hwa hwb
            by_cases hu : now < y.u
            · obtain ⟨hC2, hax, hxa⟩ := Cnt.stand HXG.out HC.out hil hy hu
              have HC2 := Lib.hid hC2
              have hai : (a : Int) < (X.length : Int) := by omega
              obtain ⟨xb, xo, hxo, x0, x1, x2, x3⟩ := off_cells H1r.out hax hxa
              subst hxo
              have gx0 := grow_cell x0
              have gx1 := grow_cell x1
              have gx2 := grow_cell x2
              have gx3 := grow_cell x3
              have he := eqO y y
              rw [show eqOff y y = true from decide_eq_true rfl] at he
              clear hC2 hax hxa hy hil hi
              go_wp2_with fail
              refine wp_region_rel_all (fun _ => none) (by kernel_rfl) (by kernel_rfl) ?_
              repeat (first
                | (refine wpRel_quick ?_ ?_ ?_ ?_
                   · rfl
                   · rfl
                   · first | exact noEnter rfl | (intro f args W W'; go_simp)
                   intro K hK
                   go_big_quiet_op
                   go_big_quiet_on)
                | (refine wpRel_skip ?_ ?_
                   · rfl
                   simp only [Act.put, List.setIfInBounds_toArray, List.set_cons_zero, List.set_cons_succ]))
              refine wpRel_nil ?_
              intro W3 hW3
              have HE3 := Lib.hid (HEr.out.trans ((Ext.refl _).drew.trans hW3.1))
              clear hW3 gd0 gd1 gd2 gd3 gx0 gx1 gx2 gx3 d0 d1 d2 d3 x0 x1 x2 x3 he
              obtain ⟨hw, hwa, -⟩ := HW.out
              go_wp2_with fail
              go_roundw
              case rel => exact ⟨a + 1, b, i + 1, by go_num, rfl, by go_num, by have := HIL.out; omega, HC2.out, by have := HAB.out; omega, by have := HAB.out; omega, HE3.out⟩
              case measure => have := HIL.out; simp [intOf] <;> omega
            · obtain ⟨hC2, ⟨hbx, hgb⟩, hxn⟩ := Cnt.gone HXG.out HC.out hil hy hu
              have HC2 := Lib.hid hC2
              have hbi : (b : Int) < (G.length : Int) := by omega
              obtain ⟨xb, xo, hxo, x0, x1, x2, x3⟩ := off_cells K1r.out hbx hgb
              subst hxo
              have hu2 : y.u ≤ now := by omega
              have HG : Hid (∀ W, Ext wr W → (W.cell? ⟨xb, xo + b * 4, none⟩ = some (.int .i64 y.s) ∧ W.cell? ⟨xb, xo + b * 4 + 1, none⟩ = some (.int .i64 y.a) ∧ W.cell? ⟨xb, xo + b * 4 + 2, none⟩ = some (.int .i64 y.b) ∧ W.cell? ⟨xb, xo + b * 4 + 3, none⟩ = some (.int .i64 y.u)) ∧ (W.cell? ⟨bb, oo + i * 4, none⟩ = some (.int .i64 y.s) ∧ W.cell? ⟨bb, oo + i * 4 + 1, none⟩ = some (.int .i64 y.a) ∧ W.cell? ⟨bb, oo + i * 4 + 2, none⟩ = some (.int .i64 y.b) ∧ W.cell? ⟨bb, oo + i * 4 + 3, none⟩ = some (.int .i64 y.u))) := Lib.hid fun W hE => ⟨⟨hE.cell x0, hE.cell x1, hE.cell x2, hE.cell x3⟩, ⟨hE.cell d0, hE.cell d1, hE.cell d2, hE.cell d3⟩⟩
              have HXN := Lib.hid hxn
              clear hC2 hbx hgb hy hil hi x0 x1 x2 x3 hxn
              by_cases hax : a < X.length
              · have hai : (a : Int) < (X.length : Int) := by omega
                obtain ⟨z, hz⟩ : ∃ z, X[a] = z := ⟨_, rfl⟩
                have hzy : eqOff z y = false := decide_eq_false (by rw [← hz]; exact HXN.out hax)
                obtain ⟨zb, zo, hzo, z0, z1, z2, z3⟩ := off_cells H1r.out hax hz
                subst hzo
                have gz0 := grow_cell z0
                have gz1 := grow_cell z1
                have gz2 := grow_cell z2
                have gz3 := grow_cell z3
                have he := eqO z y
                rw [hzy] at he
                clear hz hax hzy
                go_wp2_with fail
                refine wp_region_rel_all (fun _ => none) (by kernel_rfl) (by kernel_rfl) ?_
                repeat (first
                  | (refine wpRel_quick ?_ ?_ ?_ ?_
                     · rfl
                     · rfl
                     · first | exact noEnter rfl | (intro f args W W'; go_simp)
                     intro K hK
                     go_big_quiet_op
                     go_big_quiet_on)
                  | (refine wpRel_skip ?_ ?_
                     · rfl
                     simp only [Act.put, List.setIfInBounds_toArray, List.set_cons_zero, List.set_cons_succ]))
                refine wpRel_nil ?_
                intro W3 hW3
                clear gd0 gd1 gd2 gd3 gz0 gz1 gz2 gz3 d0 d1 d2 d3 z0 z1 z2 z3 he
                have hEW := (Ext.refl wr).drew.trans hW3.1
                have HE3 := Lib.hid hEW
                obtain ⟨⟨x0, x1, x2, x3⟩, ⟨d0, d1, d2, d3⟩⟩ := HG.out W3 hEW
                have gd0 := grow_cell d0
                have gd1 := grow_cell d1
                have gd2 := grow_cell d2
                have gd3 := grow_cell d3
                have gx0 := grow_cell x0
                have gx1 := grow_cell x1
                have gx2 := grow_cell x2
                have gx3 := grow_cell x3
                have he := eqO y y
                rw [show eqOff y y = true from decide_eq_true rfl] at he
                clear hW3 hEW
                go_wp2_with fail
                refine wp_region_rel_all (fun _ => none) (by kernel_rfl) (by kernel_rfl) ?_
                repeat (first
                  | (refine wpRel_quick ?_ ?_ ?_ ?_
                     · rfl
                     · rfl
                     · first | exact noEnter rfl | (intro f args W W'; go_simp)
                     intro K hK
                     go_big_quiet_op
                     go_big_quiet_on)
                  | (refine wpRel_skip ?_ ?_
                     · rfl
                     simp only [Act.put, List.setIfInBounds_toArray, List.set_cons_zero, List.set_cons_succ]))
                refine wpRel_nil ?_
                intro W4 hW4
                have HE4 := Lib.hid (HE3.out.trans ((Ext.refl _).drew.trans hW4.1))
                clear hW4 gd0 gd1 gd2 gd3 gx0 gx1 gx2 gx3 d0 d1 d2 d3 x0 x1 x2 x3 he
                obtain ⟨hw, -, hwb⟩ := HW.out
                go_wp2_with fail
                go_roundw
                case rel => exact ⟨a, b + 1, i + 1, rfl, by go_num, by go_num, by have := HIL.out; omega, HC2.out, by have := HAB.out; omega, by have := HAB.out; omega, HEr.out.trans HE4.out⟩
                case measure => have := HIL.out; simp [intOf] <;> omega
              · have hai : ¬ (a : Int) < (X.length : Int) := by omega
                have hai2 : (X.length : Int) ≤ (a : Int) := by omega
                have hai4 : X.length ≤ a := by omega
                go_wp2_with fail
                refine wp_region_rel_all (fun _ => none) (by kernel_rfl) (by kernel_rfl) ?_
                repeat (first
                  | (refine wpRel_quick ?_ ?_ ?_ ?_
                     · rfl
                     · rfl
                     · first | exact noEnter rfl | (intro f args W W'; go_simp)
                     intro K hK
                     go_big_quiet_op
                     go_big_quiet_on)
                  | (refine wpRel_skip ?_ ?_
                     · rfl
                     simp only [Act.put, List.setIfInBounds_toArray, List.set_cons_zero, List.set_cons_succ]))
                refine wpRel_nil ?_
                intro W3 hW3
                clear gd0 gd1 gd2 gd3 d0 d1 d2 d3
                have hEW := (Ext.refl wr).drew.trans hW3.1
                have HE3 := Lib.hid hEW
                obtain ⟨⟨x0, x1, x2, x3⟩, ⟨d0, d1, d2, d3⟩⟩ := HG.out W3 hEW
                have gd0 := grow_cell d0
                have gd1 := grow_cell d1
                have gd2 := grow_cell d2
                have gd3 := grow_cell d3
                have gx0 := grow_cell x0
                have gx1 := grow_cell x1
                have gx2 := grow_cell x2
                have gx3 := grow_cell x3
                have he := eqO y y
                rw [show eqOff y y = true from decide_eq_true rfl] at he
                clear hW3 hEW
                go_wp2_with fail
                refine wp_region_rel_all (fun _ => none) (by kernel_rfl) (by kernel_rfl) ?_
                repeat (first
                  | (refine wpRel_quick ?_ ?_ ?_ ?_
                     · rfl
                     · rfl
                     · first | exact noEnter rfl | (intro f args W W'; go_simp)
                     intro K hK
                     go_big_quiet_op
                     go_big_quiet_on)
                  | (refine wpRel_skip ?_ ?_
                     · rfl
                     simp only [Act.put, List.setIfInBounds_toArray, List.set_cons_zero, List.set_cons_succ]))
                refine wpRel_nil ?_
                intro W4 hW4
                have HE4 := Lib.hid (HE3.out.trans ((Ext.refl _).drew.trans hW4.1))
                clear hW4 gd0 gd1 gd2 gd3 gx0 gx1 gx2 gx3 d0 d1 d2 d3 x0 x1 x2 x3 he
                obtain ⟨hw, -, hwb⟩ := HW.out
                go_wp2_with fail
                go_roundw
                case rel => exact ⟨a, b + 1, i + 1, rfl, by go_num, by go_num, by have := HIL.out; omega, HC2.out, by have := HAB.out; omega, by have := HAB.out; omega, HEr.out.trans HE4.out⟩
                case measure => have := HIL.out; simp [intOf] <;> omega
          · have hii : ¬ (i : Int) < (l.length : Int) := by omega
            clear hil hi
            go_wp2_with fail
            cases hok : okLO l with
            | false =>
              have hc : checkO l = 310 := by unfold checkO; rw [hok]; rfl
              clear hok
              refine (ck_as hc HRr.out).mono ?_
              rintro e y1 ⟨rfl, hE4⟩
              have HE4 := Lib.hid hE4
              clear hE4
              go_wp2_with fail
              go_ret
              exact ⟨rfl, HX0.out.trans (HX.out.trans (HEr.out.trans HE4.out))⟩
            | true =>
              obtain ⟨hk1, hk2⟩ := exp_ok HXG.out hok
              have hc := checkO_zero.2 hok
              have hc1 := checkO_zero.2 hk1
              have hc2 := checkO_zero.2 hk2
              have HC0 := Lib.hid hc
              have HC1 := Lib.hid hc1
              have HC2 := Lib.hid hc2
              clear hok hk1 hk2 hc hc1 hc2
              refine (ck_as HC0.out HRr.out).mono ?_
              rintro e y1 ⟨rfl, hE4⟩
              have HE4 := Lib.hid hE4
              clear hE4
              go_wp2_with fail
              refine (ck_as HC1.out (H1r.out.ext HE4.out)).mono ?_
              rintro e y2 ⟨rfl, hE5⟩
              have HE5 := Lib.hid (HE4.out.trans hE5)
              clear hE5
              go_wp2_with fail
              refine (ck_as HC2.out (K1r.out.ext HE5.out)).mono ?_
              rintro e y3 ⟨rfl, hE6⟩
              have HE6 := Lib.hid (HE5.out.trans hE6)
              clear hE6
              go_wp2_with fail
              go_ret
              exact ⟨rfl, HX0.out.trans (HX.out.trans (HEr.out.trans HE6.out))⟩
      · have hn3 : now < 0 := by omega
        clear hn0
        refine (fw_as hf HR.out).mono ?_
        rintro e v2 ⟨rfl, hE2⟩
        have HR := Lib.hid (HR.out.ext hE2)
        have HX := Lib.hid (HX.out.trans hE2)
        clear hE2
        go_wp2_with fail
        go_ret
        exact ⟨rfl, HX0.out.trans HX.out⟩
    · have hn2 : 1048576 < now := by omega
      clear hn1
      refine (fw_as hf HR.out).mono ?_
      rintro e v2 ⟨rfl, hE2⟩
      have HR := Lib.hid (HR.out.ext hE2)
      have HX := Lib.hid (HX.out.trans hE2)
      clear hE2
      go_wp2_with fail
      go_ret
      exact ⟨rfl, HX0.out.trans HX.out⟩
  · have hf := decide_eq_false hl
    clear hl
    refine (fw_as hf HR.out).mono ?_
    rintro e v2 ⟨rfl, hE2⟩
    have HR := Lib.hid (HR.out.ext hE2)
    have HX := Lib.hid (HX.out.trans hE2)
    clear hE2
    go_wp2_with fail
    go_ret
    exact ⟨rfl, HX0.out.trans HX.out⟩
end Go.Proofs.Ytbnaoefmjmlfbaa
