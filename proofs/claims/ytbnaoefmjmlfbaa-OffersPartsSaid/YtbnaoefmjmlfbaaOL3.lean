/- Offers: the law Held. -/
import Derived.Test.YtbnaoefmjmlfbaaOQ
namespace Go.Sz
theorem heldO_bound (l : List Off) (n : Int) : 0 ≤ heldO l n ∧ heldO l n ≤ l.length := by
  unfold heldO
  split
  · omega
  · have := List.countP_le_length (p := fun o : Off => o.a == n || o.b == n) (l := l)
    omega
end Go.Sz
namespace Go.Proofs.Ytbnaoefmjmlfbaa
open Go.RowKit Go.Sz
set_option maxRecDepth 100000 in
set_option maxHeartbeats 12800000 in
theorem law_held (l : List Off) (x : Off) (m : Int) (ao : Option Addr) (cap : Nat) (w : World) (h : RepO w ao cap l) : Calls Try.prog 9 #[.slice ao l.length cap, .agg x.enc.toArray, .int .i64 m] w fun e w' => e = .returned (.bool true) ∧ Ext w w' := by
  have hX0 : Ext w (w.alloc (.cells x.enc.toArray 26)) := (Ext.refl w).alloc _
  have d0 : (w.alloc (.cells x.enc.toArray 26)).cell? ⟨w.heap.size, 0, none⟩ = some (.int .i64 x.s) := by simp [Off.enc]
  have d1 : (w.alloc (.cells x.enc.toArray 26)).cell? ⟨w.heap.size, 1, none⟩ = some (.int .i64 x.a) := by simp [Off.enc]
  have d2 : (w.alloc (.cells x.enc.toArray 26)).cell? ⟨w.heap.size, 2, none⟩ = some (.int .i64 x.b) := by simp [Off.enc]
  have d3 : (w.alloc (.cells x.enc.toArray 26)).cell? ⟨w.heap.size, 3, none⟩ = some (.int .i64 x.u) := by simp [Off.enc]
  have HD : Hid (∀ W, Ext (w.alloc (.cells x.enc.toArray 26)) W → W.cell? ⟨w.heap.size, 0, none⟩ = some (.int .i64 x.s) ∧ W.cell? ⟨w.heap.size, 1, none⟩ = some (.int .i64 x.a) ∧ W.cell? ⟨w.heap.size, 2, none⟩ = some (.int .i64 x.b) ∧ W.cell? ⟨w.heap.size, 3, none⟩ = some (.int .i64 x.u)) := Lib.hid fun W hE => ⟨hE.cell d0, hE.cell d1, hE.cell d2, hE.cell d3⟩
  have HX0 := Lib.hid hX0
  have HR := Lib.hid (h.ext hX0)
  have HX := Lib.hid (Ext.refl (w.alloc (.cells x.enc.toArray 26)))
  clear hX0 d0 d1 d2 d3 h
  go_enter Try.func9, Try.ntmps9
  go_wp2_with fail
  generalize (w.alloc (.cells x.enc.toArray 26)) = w0 at *
  refine (sane_any _).mono ?_
  rintro e v1 ⟨rfl, hE1⟩
  have HR := Lib.hid (HR.out.ext hE1)
  have HX := Lib.hid (HX.out.trans hE1)
  clear hE1
  go_wp2_with fail
  by_cases hl : l.length ≤ 40
  · have hb : l.length ≤ 100000 := by omega
    have hf := decide_eq_true hl
    have HF := Lib.hid hl
    have HB := Lib.hid hb
    clear hb hl
    refine (fw_as hf HR.out).mono ?_
    rintro e v2 ⟨rfl, hE2⟩
    have HR := Lib.hid (HR.out.ext hE2)
    have HX := Lib.hid (HX.out.trans hE2)
    clear hE2
    obtain ⟨d0, d1, d2, d3⟩ := HD.out v2 HX.out
    go_wp2_with fail
    clear d0 d1 d2 d3
    clear hf
    rcases makeO_cases l x with hM | ⟨hk, ho, hh, hM⟩
    · refine (mk_as hM HR.out HB.out).mono ?_
      rintro e v3 ⟨a1, c1, rfl, hR1, hE3⟩
      have HR := Lib.hid (HR.out.ext hE3)
      have HX := Lib.hid (HX.out.trans hE3)
      clear hE3
      go_wp2_with fail
      go_ret
      exact ⟨rfl, HX0.out.trans HX.out⟩
    · have HH := Lib.hid (fun n => heldO_ins l (posN l x) x n)
      clear hk ho hh
      generalize hX : insO l (posN l x) x = X at *
      clear hX
      refine (mk_as hM HR.out HB.out).mono ?_
      rintro e v3 ⟨a1, c1, rfl, hR1, hE3⟩
      have HR := Lib.hid (HR.out.ext hE3)
      have HX := Lib.hid (HX.out.trans hE3)
      have H1 := Lib.hid hR1
      clear hE3
      obtain ⟨d0, d1, d2, d3⟩ := HD.out v3 HX.out
      go_wp2_with fail
      clear d0 d1 d2 d3
      have hs4 : SL (v3.alloc (.cells #[.int .i64 m, .int .i64 x.a, .int .i64 x.b, .int .i64 (-1)] 3)) 1 (some ⟨v3.heap.size, 0, none⟩) 4 (irows [m, x.a, x.b, -1]) := sl_news v3 [[.int .i64 m], [.int .i64 x.a], [.int .i64 x.b], [.int .i64 (-1)]] 1 4 _ (by simp) rfl (by omega)
      have hA : Ext v3 (v3.alloc (.cells #[.int .i64 m, .int .i64 x.a, .int .i64 x.b, .int .i64 (-1)] 3)) := (Ext.refl _).alloc _
      have HX := Lib.hid (HX.out.trans hA)
      have HR := Lib.hid (HR.out.ext hA)
      have H1 := Lib.hid (H1.out.ext hA)
      have HS := Lib.hid hs4
      generalize v3.alloc (.cells #[.int .i64 m, .int .i64 x.a, .int .i64 x.b, .int .i64 (-1)] 3) = wb at *
      clear hs4 hA
      have HLEN : Hid ([m, x.a, x.b, -1].length = 4) := Lib.hid rfl
      generalize [m, x.a, x.b, -1] = ns at *
      go_loopw [34] (fun k wr => ∃ j : Nat, k = .int .i64 j ∧ j ≤ 4 ∧ Ext wb wr) (fun k _ => 4 - (intOf k).toNat)
      case atStart => exact ⟨0, rfl, by omega, Ext.refl _⟩
      case round =>
        obtain ⟨j, rfl, hj, hB⟩ := hrel
        have HXr := Lib.hid (HX.out.trans hB)
        have HRr := Lib.hid (HR.out.ext hB)
        have H1r := Lib.hid (H1.out.ext hB)
        have HEB := Lib.hid hB
        by_cases hjl : j < 4
        · have hji : (j : Int) < 4 := by omega
          have hjn : j < ns.length := by rw [HLEN.out]; exact hjl
          obtain ⟨gb, oo, hga, gz⟩ := irows_cell HS.out hB hjn
          cases hga
          rw [Nat.zero_add] at gz
          generalize ns[j] = z at gz
          clear hB hj
          have HJL := Lib.hid hjl
          clear hjl hjn
          obtain ⟨d0, d1, d2, d3⟩ := HD.out wr HXr.out
          obtain ⟨q, hq⟩ : ∃ q, heldO l z = q := ⟨_, rfl⟩
          have hI := HH.out z
          have hqb := heldO_bound l z
          have hl := HF.out
          rw [hq] at hqb hI
          have hw : IntKind.i64.wrap (q + 1) = q + 1 := by simp [IntKind.wrap, IntKind.bits, IntKind.signed]; omega
          have hw0 : IntKind.i64.wrap q = q := by simp [IntKind.wrap, IntKind.bits, IntKind.signed]; omega
          have HI := Lib.hid hI
          have HQ := Lib.hid hq
          clear hI hq hqb hl
          by_cases h0 : 0 ≤ z
          · by_cases h1 : z = x.a
            · subst h1
              have HW := Lib.hid (And.intro hw hw0)
              clear hw hw0
              have hI : heldO X x.a = q + 1 := by have := HI.out; rw [if_pos (by omega)] at this; exact this
              have HI2 := Lib.hid hI
              clear hI
              go_wp2_with fail
              refine (hd_as HI2.out H1r.out).mono ?_
              rintro e y1 ⟨rfl, hy1⟩
              have HY1 := Lib.hid hy1
              clear hy1
              clear h0 d0 d1 d2 d3 gz
              go_wp2_with fail
              refine (hd_as HQ.out (HRr.out.ext HY1.out)).mono ?_
              rintro e y2 ⟨rfl, hy2⟩
              have HY2 := Lib.hid (HY1.out.trans hy2)
              clear hy2
              obtain ⟨hw, hw0⟩ := HW.out
              go_wp2_with fail
              go_roundw
              case rel => exact ⟨j + 1, by go_num, by have := HJL.out; omega, HEB.out.trans HY2.out⟩
              case measure => have := HJL.out; simp [intOf] <;> omega
            · by_cases h2 : z = x.b
              · subst h2
                have HW := Lib.hid (And.intro hw hw0)
                clear hw hw0
                have hI : heldO X x.b = q + 1 := by have := HI.out; rw [if_pos (by omega)] at this; exact this
                have HI2 := Lib.hid hI
                clear hI
                go_wp2_with fail
                refine (hd_as HI2.out H1r.out).mono ?_
                rintro e y1 ⟨rfl, hy1⟩
                have HY1 := Lib.hid hy1
                clear hy1
                clear h0 h1 d0 d1 d2 d3 gz
                go_wp2_with fail
                refine (hd_as HQ.out (HRr.out.ext HY1.out)).mono ?_
                rintro e y2 ⟨rfl, hy2⟩
                have HY2 := Lib.hid (HY1.out.trans hy2)
                clear hy2
                obtain ⟨hw, hw0⟩ := HW.out
                go_wp2_with fail
                go_roundw
                case rel => exact ⟨j + 1, by go_num, by have := HJL.out; omega, HEB.out.trans HY2.out⟩
                case measure => have := HJL.out; simp [intOf] <;> omega
              · have HW := Lib.hid (And.intro hw hw0)
                clear hw hw0
                have hI : heldO X z = q + 0 := by have := HI.out; rw [if_neg (by omega)] at this; exact this
                have HI2 := Lib.hid hI
                clear hI
                go_wp2_with fail
                · exact absurd ‹(z == x.a) = true ∨ (z == x.b) = true› (by simp [h1, h2])
                refine (hd_as HI2.out H1r.out).mono ?_
                rintro e y1 ⟨rfl, hy1⟩
                have HY1 := Lib.hid hy1
                clear hy1
                clear h0 h1 h2 d0 d1 d2 d3 gz
                go_wp2_with fail
                refine (hd_as HQ.out (HRr.out.ext HY1.out)).mono ?_
                rintro e y2 ⟨rfl, hy2⟩
                have HY2 := Lib.hid (HY1.out.trans hy2)
                clear hy2
                obtain ⟨hw, hw0⟩ := HW.out
                go_wp2_with fail
                go_roundw
                case rel => exact ⟨j + 1, by go_num, by have := HJL.out; omega, HEB.out.trans HY2.out⟩
                case measure => have := HJL.out; simp [intOf] <;> omega
          · have HW := Lib.hid (And.intro hw hw0)
            clear hw hw0
            have hI : heldO X z = q + 0 := by have := HI.out; rw [if_neg (by omega)] at this; exact this
            have HI2 := Lib.hid hI
            clear hI
            go_wp2_with fail
            refine (hd_as HI2.out H1r.out).mono ?_
            rintro e y1 ⟨rfl, hy1⟩
            have HY1 := Lib.hid hy1
            clear hy1
            clear h0 d0 d1 d2 d3 gz
            go_wp2_with fail
            refine (hd_as HQ.out (HRr.out.ext HY1.out)).mono ?_
            rintro e y2 ⟨rfl, hy2⟩
            have HY2 := Lib.hid (HY1.out.trans hy2)
            clear hy2
            obtain ⟨hw, hw0⟩ := HW.out
            go_wp2_with fail
            go_roundw
            case rel => exact ⟨j + 1, by go_num, by have := HJL.out; omega, HEB.out.trans HY2.out⟩
            case measure => have := HJL.out; simp [intOf] <;> omega
        · have hji : ¬ (j : Int) < 4 := by omega
          clear hB hj hjl
          go_wp2_with fail
          go_ret
          exact ⟨rfl, HX0.out.trans HXr.out⟩
  · have hf := decide_eq_false hl
    clear hl
    refine (fw_as hf HR.out).mono ?_
    rintro e v2 ⟨rfl, hE2⟩
    have HR := Lib.hid (HR.out.ext hE2)
    have HX := Lib.hid (HX.out.trans hE2)
    clear hE2
    go_wp2_with fail
    go_ret
    exact ⟨rfl, HX0.out.trans HX.out⟩
end Go.Proofs.Ytbnaoefmjmlfbaa
