/- Offers: the law Turned. -/
import Derived.Test.YtbnaoefmjmlfbaaOU
namespace Go.Proofs.Ytbnaoefmjmlfbaa
open Go.RowKit Go.Sz
theorem off_cells {l : List Off} {ao : Option Addr} {cap : Nat} {w : World} (h : RepO w ao cap l) {i : Nat} {y : Off} (hi : i < l.length) (hy : l[i] = y) : ∃ b o, ao = some ⟨b, o, none⟩ ∧ w.cell? ⟨b, o + i * 4, none⟩ = some (.int .i64 y.s) ∧ w.cell? ⟨b, o + i * 4 + 1, none⟩ = some (.int .i64 y.a) ∧ w.cell? ⟨b, o + i * 4 + 2, none⟩ = some (.int .i64 y.b) ∧ w.cell? ⟨b, o + i * 4 + 3, none⟩ = some (.int .i64 y.u) := by
  subst hy
  exact o_cells h (Ext.refl _) hi
theorem emod_nat {t : Int} {n : Nat} (h : 0 ≤ t) : ∃ m : Nat, t % (n : Int) = (m : Int) := by
  obtain ⟨u, rfl⟩ := Int.eq_ofNat_of_zero_le h
  exact ⟨u % n, by omega⟩
/-- what the two loops hold -/
def TI (l : List Off) (lv fv kv : Value) (w0 wr : World) : Prop := ∃ (x : List Off) (a : Option Addr) (c : Nat) (f : Bool) (i : Nat), lv = .slice a x.length c ∧ fv = .bool f ∧ kv = .int .i64 i ∧ i ≤ l.length ∧ Inv1 l x f i ∧ RepO wr a c x ∧ Ext w0 wr
def TJ (l : List Off) (t : Nat) (lv kv : Value) (w0 wr : World) : Prop := ∃ (x : List Off) (a : Option Addr) (c : Nat) (i : Nat), lv = .slice a x.length c ∧ kv = .int .i64 i ∧ i ≤ l.length ∧ Inv2 l x t i ∧ RepO wr a c x ∧ Ext w0 wr
set_option maxRecDepth 100000 in
set_option maxHeartbeats 12800000 in
theorem law_turned (l : List Off) (t : Int) (ao : Option Addr) (cap : Nat) (w : World) (h : RepO w ao cap l) (ht : 0 ≤ t ∧ t ≤ 18446744073709551615) : Calls Try.prog 8 #[.slice ao l.length cap, .int .u64 t] w fun e w' => e = .returned (.bool true) ∧ Ext w w' := by
  have HT := Lib.hid ht
  have HX0 := Lib.hid (Ext.refl w)
  have HR := Lib.hid h
  have HX := Lib.hid (Ext.refl w)
  clear h ht
  go_enter Try.func8, Try.ntmps8
  go_wp2_with fail
  refine (sane_any _).mono ?_
  rintro e v1 ⟨rfl, hE1⟩
  have HR := Lib.hid (HR.out.ext hE1)
  have HX := Lib.hid (HX.out.trans hE1)
  clear hE1
  go_wp2_with fail
  by_cases hl : l.length ≤ 40
  · have hf := decide_eq_true hl
    have HF := Lib.hid hl
    clear hl
    refine (fw_as hf HR.out).mono ?_
    rintro e v2 ⟨rfl, hE2⟩
    have HR := Lib.hid (HR.out.ext hE2)
    have HX := Lib.hid (HX.out.trans hE2)
    clear hE2
    go_wp2_with fail
    have hA : Ext v2 ((v2.alloc (.cells #[] 26)).alloc (.cells #[] 26)) := ((Ext.refl _).alloc _).alloc _
    have he1 : RepO ((v2.alloc (.cells #[] 26)).alloc (.cells #[] 26)) (some ⟨v2.heap.size, 0, none⟩) 0 [] := SL.ext (sl_news v2 [] 4 0 26 (by simp) rfl (by omega)) ((Ext.refl _).alloc _)
    have he2 : RepO ((v2.alloc (.cells #[] 26)).alloc (.cells #[] 26)) (some ⟨v2.heap.size + 1, 0, none⟩) 0 [] := by have h := sl_news (v2.alloc (.cells #[] 26)) [] 4 0 26 (by simp) rfl (by omega); simpa [RepO, orows] using h
    have HE1 := Lib.hid he1
    have HE2 := Lib.hid he2
    have HX := Lib.hid (HX.out.trans hA)
    have HR := Lib.hid (HR.out.ext hA)
    generalize ((v2.alloc (.cells #[] 26)).alloc (.cells #[] 26)) = w1 at *
    clear he1 he2 hA hf
    go_loopw [5, 7, 8] (fun lv fv kv wr => TI l lv fv kv w1 wr) (fun _ _ kv _ => l.length - (intOf kv).toNat)
    case atStart => exact ⟨[], _, _, true, 0, rfl, rfl, rfl, by omega, Inv1.start l, HE1.out, Ext.refl _⟩
    case round =>
      obtain ⟨x, ax, cx, f, i, rfl, rfl, rfl, hi, hI, hx, hE⟩ := hrel
      have HI := Lib.hid hI
      have HXX := Lib.hid hx
      have HEr := Lib.hid hE
      have HRr := Lib.hid (HR.out.ext hE)
      by_cases hil : i < l.length
      · have hii : (i : Int) < (l.length : Int) := by omega
        have hi0 : (0 : Int) ≤ (i : Int) := by omega
        obtain ⟨y, hy⟩ : ∃ y, l[i] = y := ⟨_, rfl⟩
        obtain ⟨bb, oo, hao, d0, d1, d2, d3⟩ := off_cells HRr.out hil hy
        subst hao
        have HMADE := Lib.hid (fun z (hz : okLO z = true) (hp : z.Perm (y :: x)) => hI.made hil hy hz hp)
        have HIL := Lib.hid hil
        have hxb : x.length ≤ 100000 := by have := hI.len; have := HF.out; omega
        have HXB := Lib.hid hxb
        have hw : IntKind.i64.wrap ((i : Int) + 1) = (i : Int) + 1 := by have := HF.out; simp [IntKind.wrap, IntKind.bits, IntKind.signed]; omega
        have HW := Lib.hid hw
        clear hy hil hxb hw hi hI hx hE
        go_wp2_with fail
        clear d0 d1 d2 d3
        rcases make_step (l := x) (y := y) with ⟨z, hm, hz, hp, -⟩ | hm
        · have HZ := Lib.hid hz
          have HP := Lib.hid hp
          clear hz hp
          refine (mk_as hm HXX.out HXB.out).mono ?_
          rintro e y1 ⟨az, cz, rfl, hR1, hE1⟩
          have H1 := Lib.hid hR1
          have HE3 := Lib.hid hE1
          clear hR1 hE1
          have hw := HW.out
          go_wp2_with fail
          go_roundw
          case rel => exact ⟨z, az, cz, f, i + 1, rfl, rfl, by go_num, by have := HIL.out; omega, HMADE.out z HZ.out HP.out, H1.out, HEr.out.trans HE3.out⟩
          case measure => have := HIL.out; simp [intOf] <;> omega
        · refine (mk_as hm HXX.out HXB.out).mono ?_
          rintro e y1 ⟨az, cz, rfl, hR1, hE1⟩
          have HE3 := Lib.hid hE1
          clear hR1 hE1
          have hw := HW.out
          go_wp2_with fail
          go_roundw
          case rel => exact ⟨x, ax, cx, false, i + 1, rfl, rfl, by go_num, by have := HIL.out; omega, HI.out.lost, HXX.out.ext HE3.out, HEr.out.trans HE3.out⟩
          case measure => have := HIL.out; simp [intOf] <;> omega
      · have hii : ¬ (i : Int) < (l.length : Int) := by omega
        have hil2 : i = l.length := by omega
        have HIL := Lib.hid hil2
        clear hil2 hil hi hI hx hE
        have HE2r := Lib.hid (HE2.out.ext HEr.out)
        cases f with
        | false =>
          go_wp2_with fail
          go_loopw [6, 11] (fun lv kv wr2 => TJ l 0 lv kv wr wr2) (fun _ kv _ => l.length - (intOf kv).toNat)
          case atStart => exact ⟨[], _, _, 0, rfl, rfl, by omega, Inv2.start l 0, HE2r.out, Ext.refl _⟩
          case round =>
            obtain ⟨y, ay, cy, j, rfl, rfl, hj, hJ, hy, hE3⟩ := hrel
            have HE3 := Lib.hid hE3
            clear hj hJ hy hE3
            go_wp2_with fail
            go_ret
            exact ⟨rfl, HX0.out.trans (HX.out.trans (HEr.out.trans HE3.out))⟩
        | true =>
          go_wp2_with fail
          obtain ⟨tm, htm⟩ : ∃ tm : Nat, t % (l.length : Int) = (tm : Int) := emod_nat HT.out.1
          have HTM := Lib.hid htm
          clear htm
          go_loopw [6, 11] (fun lv kv wr2 => TJ l tm lv kv wr wr2) (fun _ kv _ => l.length - (intOf kv).toNat)
          case atStart => exact ⟨[], _, _, 0, rfl, rfl, by omega, Inv2.start l tm, HE2r.out, Ext.refl _⟩
          case round =>
            obtain ⟨y, ay, cy, j, rfl, rfl, hj, hJ, hy, hE3⟩ := hrel
            have HE3 := Lib.hid hE3
            have HJ := Lib.hid hJ
            have HYY := Lib.hid hy
            have HRr2 := Lib.hid (HRr.out.ext hE3)
            have HXX2 := Lib.hid (HXX.out.ext hE3)
            by_cases hjl : j < l.length
            · have hjj : (j : Int) < (l.length : Int) := by omega
              have hl0 : 0 < l.length := by omega
              have hn0 : (0 : Int) < (l.length : Int) := by omega
              have htt := HTM.out
              have hF := HF.out
              have htl : tm < l.length := by have h1 := Int.emod_lt_of_pos t hn0; omega
              obtain ⟨k, hk⟩ : ∃ k, (j + tm) % l.length = k := ⟨_, rfl⟩
              have hkl : k < l.length := by rw [← hk]; exact Nat.mod_lt _ hl0
              obtain ⟨e, he⟩ : ∃ e, l[k] = e := ⟨_, rfl⟩
              have hek : l[(j + tm) % l.length]? = some e := by rw [hk, List.getElem?_eq_getElem hkl, he]
              obtain ⟨z, hm, hz, hzl⟩ := Inv2.step HI.out.ok (HI.out.all HIL.out) hJ hjl htl hek
              have hyl : y.length ≤ 100000 := by have h1 := hJ.perm.length_eq; rw [List.length_take] at h1; omega
              obtain ⟨bb, oo, hao, d0, d1, d2, d3⟩ := off_cells HRr2.out hkl he
              subst hao
              have hu : IntKind.u64.wrap (l.length : Int) = (l.length : Int) := u64_small _ (by omega) (by omega)
              have hne : ¬ (l.length : Int) = 0 := by omega
              have hki : (k : Int) < (l.length : Int) := by omega
              have hk0 : (0 : Int) ≤ (k : Int) := by omega
              have hm1 : Int.tmod t (l.length : Int) = (tm : Int) := by rw [Int.tmod_eq_emod_of_nonneg HT.out.1]; exact htt
              have hk1 : ((j : Int) + (tm : Int)) % (l.length : Int) = (k : Int) := by rw [← hk]; rfl
              have hk2 : Int.tmod ((j : Int) + (tm : Int)) (l.length : Int) = (k : Int) := by rw [Int.tmod_eq_emod_of_nonneg (by omega)]; exact hk1
              have hwt : IntKind.i64.wrap (tm : Int) = (tm : Int) := by simp [IntKind.wrap, IntKind.bits, IntKind.signed]; omega
              have hwu : IntKind.u64.wrap (tm : Int) = (tm : Int) := u64_small _ (by omega) (by omega)
              have hwk : IntKind.i64.wrap (k : Int) = (k : Int) := by simp [IntKind.wrap, IntKind.bits, IntKind.signed]; omega
              have hwa : IntKind.i64.wrap ((j : Int) + (tm : Int)) = (j : Int) + (tm : Int) := by simp [IntKind.wrap, IntKind.bits, IntKind.signed]; omega
              have hw : IntKind.i64.wrap ((j : Int) + 1) = (j : Int) + 1 := by simp [IntKind.wrap, IntKind.bits, IntKind.signed]; omega
              have HM := Lib.hid hm
              have HZ := Lib.hid hz
              have HZL := Lib.hid hzl
              have HYL := Lib.hid hyl
              have HJL := Lib.hid hjl
              have HW := Lib.hid hw
              clear hm hz hzl hyl he hek hk hjl hj hJ hy hE3 hF hkl htl hl0 hw
              go_wp2_with fail
              clear d0 d1 d2 d3 hu hne hki hk0 hm1 hk1 hk2 hwt hwu hwk hwa
              refine (mk_as HM.out HYY.out HYL.out).mono ?_
              rintro e y1 ⟨az, cz, rfl, hR1, hE4⟩
              have H1 := Lib.hid hR1
              have HE4 := Lib.hid hE4
              clear hR1 hE4
              have hw := HW.out
              go_wp2_with fail
              go_roundw
              case rel => exact ⟨z, az, cz, j + 1, rfl, by go_num, by have := HJL.out; omega, HZ.out, H1.out, HE3.out.trans HE4.out⟩
              case measure => have := HJL.out; simp [intOf] <;> omega
            · have hjj : ¬ (j : Int) < (l.length : Int) := by omega
              have hjl2 : j = l.length := by omega
              subst hjl2
              have hxy := HJ.out.all HI.out.ok (HI.out.all HIL.out)
              subst hxy
              have hxl : x.length = l.length := (HI.out.all HIL.out).length_eq
              have hok : checkO x = 0 := checkO_zero.2 HI.out.ok
              have HOK := Lib.hid hok
              have HXL := Lib.hid (congrArg Int.ofNat hxl)
              clear hok hxl hjl hj hJ hy hE3 hjj
              have hjj : ¬ (l.length : Int) < (l.length : Int) := by omega
              go_wp2_with fail
              refine (sm_as (same_self _) HXX2.out HYY.out).mono ?_
              rintro e y1 ⟨rfl, hE4⟩
              have HE4 := Lib.hid hE4
              clear hE4
              go_wp2_with fail
              refine (ck_as HOK.out (HXX2.out.ext HE4.out)).mono ?_
              rintro e y2 ⟨rfl, hE5⟩
              have HE5 := Lib.hid (HE4.out.trans hE5)
              clear hE5
              have hxl : (x.length : Int) = (l.length : Int) := HXL.out
              go_wp2_with fail
              go_ret
              exact ⟨rfl, HX0.out.trans (HX.out.trans (HEr.out.trans (HE3.out.trans HE5.out)))⟩
  · have hf := decide_eq_false hl
    clear hl
    refine (fw_as hf HR.out).mono ?_
    rintro e v2 ⟨rfl, hE2⟩
    have HR := Lib.hid (HR.out.ext hE2)
    have HX := Lib.hid (HX.out.trans hE2)
    clear hE2
    go_wp2_with fail
    go_ret
    exact ⟨rfl, HX0.out.trans HX.out⟩
end Go.Proofs.Ytbnaoefmjmlfbaa
