/- Names: equality of pairs, classes, fees and clauses. -/
import Derived.Test.YtimigpfoflilcaaYN
import Derived.Laws.StructEq
namespace Go.Sz
open Go.RowKit
deriving instance DecidableEq for Pr
deriving instance DecidableEq for Kl
deriving instance DecidableEq for Fe
deriving instance DecidableEq for Cu
theorem toList_iff {x y : ByteArray} : x.toList = y.toList ↔ x = y := ⟨toList_inj', fun e => by rw [e]⟩
theorem SL.rowAt' {w : World} {n : Nat} {ao : Option Addr} {cap : Nat} {rows : List (List Value)} (h : SL w n ao cap rows) {i : Nat} {r : List Value} (hr : rows[i]? = some r) (hn : r ≠ []) :
    ∃ B o, ao = some ⟨B, o, none⟩ ∧ ∀ (j : Nat) (v : Value), r[j]? = some v → w.cell? ⟨B, o + i * n + j, none⟩ = some v := by
  obtain ⟨v, hv⟩ : ∃ v, r[0]? = some v := by cases r with | nil => exact absurd rfl hn | cons x l => exact ⟨x, rfl⟩
  obtain ⟨B, o, e, -⟩ := h.cells i 0 _ _ hr hv
  refine ⟨B, o, e, fun j u hj => ?_⟩
  obtain ⟨b', o', e2, hw⟩ := h.cells i j _ _ hr hj
  rw [e] at e2
  cases e2
  exact hw
theorem map_max {α : Type} {f : α → List Value} {w : World} {n : Nat} {ao : Option Addr} {cap : Nat} {l : List α} (h : SL w n ao cap (l.map f)) : (l.length : Int) ≤ 9223372036854775807 := by
  have h1 := h.max
  have h2 := h.le
  rw [List.length_map] at h2
  omega
end Go.Sz
namespace Go.Proofs.Ytimigpfoflilcaa
open Go.RowKit Go.Sz
theorem eqMn (d : Nat) (x y x' y' : Int) (w : World) : (Op.equalIn (d + 2) 59 (.agg #[.int .i64 x, .int .i64 y]) (.agg #[.int .i64 x', .int .i64 y'])).run Try.prog w = .ok ((x == x') && (y == y')) w := by
  rw [run_equalIn_struct w (d + 1) 59 _ _ (by kernel_rfl) (by kernel_rfl)]
  have h1 : ∀ w, (Op.equalIn (d + 1) 3 (.int .i64 x) (.int .i64 x')).run Try.prog w = .ok (x == x') w := fun w => run_equalIn_int w d _ .i64 .i64 _ _ Try.underlying3
  have h2 : ∀ w, (Op.equalIn (d + 1) 3 (.int .i64 y) (.int .i64 y')).run Try.prog w = .ok (y == y') w := fun w => run_equalIn_int w d _ .i64 .i64 _ _ Try.underlying3
  simp [Program.fieldsOf, Try.underlying59, Op.eqFields, part]
  simp only [h1, h2, Result.andThen_ok]
  cases (x == x') <;> cases (y == y') <;> rfl
set_option maxRecDepth 100000 in
set_option maxHeartbeats 6400000 in
theorem eqPr (x y : Pr) (w : World) : (Op.equalIn 10000 51 (.agg #[.string x.a, .string x.b, .int .i64 x.x, .int .i64 x.y]) (.agg #[.string y.a, .string y.b, .int .i64 y.x, .int .i64 y.y])).run Try.prog w = .ok (decide (x = y)) w := by
  rw [show (10000 : Nat) = 9998 + 1 + 1 from rfl, run_equalIn_struct w (9998 + 1) 51 _ _ (by kernel_rfl) (by kernel_rfl)]
  have hd : decide (x = y) = ((x.a.toList == y.a.toList) && (x.b.toList == y.b.toList) && (x.x == y.x) && (x.y == y.y)) := by
    obtain ⟨pa, pb, px, py⟩ := x
    obtain ⟨qa, qb, qx, qy⟩ := y
    rw [Bool.eq_iff_iff]
    simp [and_assoc, toList_iff]
  rw [hd]
  have ha : ∀ w, (Op.equalIn 9999 9 (.string x.a) (.string y.a)).run Try.prog w = .ok (x.a.toList == y.a.toList) w := fun w => run_equalIn_string w 9998 _ _ _ Try.underlying9
  have hb : ∀ w, (Op.equalIn 9999 9 (.string x.b) (.string y.b)).run Try.prog w = .ok (x.b.toList == y.b.toList) w := fun w => run_equalIn_string w 9998 _ _ _ Try.underlying9
  have hx : ∀ w, (Op.equalIn 9999 3 (.int .i64 x.x) (.int .i64 y.x)).run Try.prog w = .ok (x.x == y.x) w := fun w => run_equalIn_int w 9998 _ .i64 .i64 _ _ Try.underlying3
  have hy : ∀ w, (Op.equalIn 9999 3 (.int .i64 x.y) (.int .i64 y.y)).run Try.prog w = .ok (x.y == y.y) w := fun w => run_equalIn_int w 9998 _ .i64 .i64 _ _ Try.underlying3
  simp [Program.fieldsOf, Try.underlying51, Op.eqFields, part]
  simp only [ha, hb, hx, hy, Result.andThen_ok]
  cases (x.a.toList == y.a.toList) <;> cases (x.b.toList == y.b.toList) <;> cases (x.x == y.x) <;> cases (x.y == y.y) <;> rfl
set_option maxRecDepth 100000 in
set_option maxHeartbeats 6400000 in
theorem eqKl (x y : Kl) (w : World) : (Op.equalIn 10000 80 (.agg #[.string x.nm, .int .i64 x.ea, .int .i64 x.mn, .int .i64 x.md]) (.agg #[.string y.nm, .int .i64 y.ea, .int .i64 y.mn, .int .i64 y.md])).run Try.prog w = .ok (decide (x = y)) w := by
  rw [show (10000 : Nat) = 9998 + 1 + 1 from rfl, run_equalIn_struct w (9998 + 1) 80 _ _ (by kernel_rfl) (by kernel_rfl)]
  have hd : decide (x = y) = ((x.nm.toList == y.nm.toList) && (x.ea == y.ea) && ((x.mn == y.mn) && (x.md == y.md))) := by
    obtain ⟨pnm, pea, pmn, pmd⟩ := x
    obtain ⟨qnm, qea, qmn, qmd⟩ := y
    rw [Bool.eq_iff_iff]
    simp [and_assoc, toList_iff]
  rw [hd]
  have hnm : ∀ w, (Op.equalIn 9999 9 (.string x.nm) (.string y.nm)).run Try.prog w = .ok (x.nm.toList == y.nm.toList) w := fun w => run_equalIn_string w 9998 _ _ _ Try.underlying9
  have hea : ∀ w, (Op.equalIn 9999 3 (.int .i64 x.ea) (.int .i64 y.ea)).run Try.prog w = .ok (x.ea == y.ea) w := fun w => run_equalIn_int w 9998 _ .i64 .i64 _ _ Try.underlying3
  have hmean : ∀ w, (Op.equalIn 9999 59 (.agg #[.int .i64 x.mn, .int .i64 x.md]) (.agg #[.int .i64 y.mn, .int .i64 y.md])).run Try.prog w = .ok ((x.mn == y.mn) && (x.md == y.md)) w := fun w => eqMn 9997 _ _ _ _ w
  simp [Program.fieldsOf, Try.underlying80, Op.eqFields, part]
  simp only [hnm, hea, hmean, Result.andThen_ok]
  cases (x.nm.toList == y.nm.toList) <;> cases (x.ea == y.ea) <;> cases (x.mn == y.mn) <;> cases (x.md == y.md) <;> rfl
set_option maxRecDepth 100000 in
set_option maxHeartbeats 6400000 in
theorem eqFe (x y : Fe) (w : World) : (Op.equalIn 10000 84 (.agg #[.string x.nm, .int .i64 x.cr]) (.agg #[.string y.nm, .int .i64 y.cr])).run Try.prog w = .ok (decide (x = y)) w := by
  rw [show (10000 : Nat) = 9998 + 1 + 1 from rfl, run_equalIn_struct w (9998 + 1) 84 _ _ (by kernel_rfl) (by kernel_rfl)]
  have hd : decide (x = y) = ((x.nm.toList == y.nm.toList) && (x.cr == y.cr)) := by
    obtain ⟨pnm, pcr⟩ := x
    obtain ⟨qnm, qcr⟩ := y
    rw [Bool.eq_iff_iff]
    simp [toList_iff]
  rw [hd]
  have hnm : ∀ w, (Op.equalIn 9999 9 (.string x.nm) (.string y.nm)).run Try.prog w = .ok (x.nm.toList == y.nm.toList) w := fun w => run_equalIn_string w 9998 _ _ _ Try.underlying9
  have hcr : ∀ w, (Op.equalIn 9999 3 (.int .i64 x.cr) (.int .i64 y.cr)).run Try.prog w = .ok (x.cr == y.cr) w := fun w => run_equalIn_int w 9998 _ .i64 .i64 _ _ Try.underlying3
  simp [Program.fieldsOf, Try.underlying84, Op.eqFields, part]
  simp only [hnm, hcr, Result.andThen_ok]
  cases (x.nm.toList == y.nm.toList) <;> cases (x.cr == y.cr) <;> rfl
set_option maxRecDepth 100000 in
set_option maxHeartbeats 6400000 in
theorem eqCu (x y : Cu) (w : World) : (Op.equalIn 10000 109 (.agg #[.int .i64 x.k, .int .i64 x.w, .int .i64 x.a, .int .i64 x.u]) (.agg #[.int .i64 y.k, .int .i64 y.w, .int .i64 y.a, .int .i64 y.u])).run Try.prog w = .ok (decide (x = y)) w := by
  rw [show (10000 : Nat) = 9998 + 1 + 1 from rfl, run_equalIn_struct w (9998 + 1) 109 _ _ (by kernel_rfl) (by kernel_rfl)]
  have hd : decide (x = y) = ((x.k == y.k) && (x.w == y.w) && (x.a == y.a) && (x.u == y.u)) := by
    obtain ⟨pk, pw, pa, pu⟩ := x
    obtain ⟨qk, qw, qa, qu⟩ := y
    rw [Bool.eq_iff_iff]
    simp [and_assoc]
  rw [hd]
  have hk : ∀ w, (Op.equalIn 9999 3 (.int .i64 x.k) (.int .i64 y.k)).run Try.prog w = .ok (x.k == y.k) w := fun w => run_equalIn_int w 9998 _ .i64 .i64 _ _ Try.underlying3
  have hw : ∀ w, (Op.equalIn 9999 3 (.int .i64 x.w) (.int .i64 y.w)).run Try.prog w = .ok (x.w == y.w) w := fun w => run_equalIn_int w 9998 _ .i64 .i64 _ _ Try.underlying3
  have ha : ∀ w, (Op.equalIn 9999 3 (.int .i64 x.a) (.int .i64 y.a)).run Try.prog w = .ok (x.a == y.a) w := fun w => run_equalIn_int w 9998 _ .i64 .i64 _ _ Try.underlying3
  have hu : ∀ w, (Op.equalIn 9999 3 (.int .i64 x.u) (.int .i64 y.u)).run Try.prog w = .ok (x.u == y.u) w := fun w => run_equalIn_int w 9998 _ .i64 .i64 _ _ Try.underlying3
  simp [Program.fieldsOf, Try.underlying109, Op.eqFields, part]
  simp only [hk, hw, ha, hu, Result.andThen_ok]
  cases (x.k == y.k) <;> cases (x.w == y.w) <;> cases (x.a == y.a) <;> cases (x.u == y.u) <;> rfl
set_option maxRecDepth 100000 in
set_option maxHeartbeats 6400000 in
theorem equalPr_any (l l' : List Pr) (ao ao' : Option Addr) (cap cap' : Nat) (w : World) (h : SL w 4 ao cap (l.map Pr.cells)) (h' : SL w 4 ao' cap' (l'.map Pr.cells)) : Calls Try.prog 61 #[.slice ao l.length cap, .slice ao' l'.length cap'] w fun e w' => e = .returned (.bool (decide (l = l'))) ∧ Ext w w' := by
  have HL := Lib.hid h
  have HL' := Lib.hid h'
  have hs1 := map_max h
  have hs2 := map_max h'
  clear h h'
  by_cases hl : l.length = l'.length
  · have g1 : ((l.length : Int) != (l'.length : Int)) = false := by simp; omega
    have HLE := Lib.hid hl
    clear hl
    go_enter Try.func61, Try.ntmps61
    go_wp2_with fail
    go_loopw [13] (fun iv wr => ∃ k : Nat, iv = .int .i64 k ∧ k ≤ l.length ∧ l.take k = l'.take k ∧ Ext w wr) (fun iv _ => l.length - (intOf iv).toNat)
    case atStart => exact ⟨0, rfl, by omega, by simp, Ext.refl _⟩
    case round =>
      obtain ⟨k, rfl, hk, ht, hB⟩ := hrel
      have HT := Lib.hid ht
      have HB := Lib.hid hB
      clear ht hB
      by_cases hlt : k < l.length
      · have hki : (k : Int) < (l.length : Int) := by omega
        have hk' : k < l'.length := by have := HLE.out; omega
        have hki' : (k : Int) < (l'.length : Int) := by omega
        obtain ⟨x, hx⟩ : ∃ x, l[k]? = some x := ⟨_, List.getElem?_eq_getElem hlt⟩
        obtain ⟨y, hy⟩ : ∃ y, l'[k]? = some y := ⟨_, List.getElem?_eq_getElem hk'⟩
        obtain ⟨b, o, rfl, hc⟩ := (HL.out.ext HB.out).rowAt' (i := k) (r := x.cells) (by rw [List.getElem?_map, hx]; rfl) (by simp [Pr.cells])
        obtain ⟨b', o', rfl, hd⟩ := (HL'.out.ext HB.out).rowAt' (i := k) (r := y.cells) (by rw [List.getElem?_map, hy]; rfl) (by simp [Pr.cells])
        have c0 : wr.cell? ⟨b, o + k * 4, none⟩ = some (.string x.a) := hc 0 _ rfl
        have c1 : wr.cell? ⟨b, o + k * 4 + 1, none⟩ = some (.string x.b) := hc 1 _ rfl
        have c2 : wr.cell? ⟨b, o + k * 4 + 2, none⟩ = some (.int .i64 x.x) := hc 2 _ rfl
        have c3 : wr.cell? ⟨b, o + k * 4 + 3, none⟩ = some (.int .i64 x.y) := hc 3 _ rfl
        have d0 : wr.cell? ⟨b', o' + k * 4, none⟩ = some (.string y.a) := hd 0 _ rfl
        have d1 : wr.cell? ⟨b', o' + k * 4 + 1, none⟩ = some (.string y.b) := hd 1 _ rfl
        have d2 : wr.cell? ⟨b', o' + k * 4 + 2, none⟩ = some (.int .i64 y.x) := hd 2 _ rfl
        have d3 : wr.cell? ⟨b', o' + k * 4 + 3, none⟩ = some (.int .i64 y.y) := hd 3 _ rfl
        have HNX := Lib.hid (take_eq_next hx hy HT.out)
        have HNE := Lib.hid (ne_at hx hy)
        clear hx hy hc hd
        have he := eqPr x y
        have gc0 := grow_cell c0
        have gd0 := grow_cell d0
        have gc1 := grow_cell c1
        have gd1 := grow_cell d1
        have gc2 := grow_cell c2
        have gd2 := grow_cell d2
        have gc3 := grow_cell c3
        have gd3 := grow_cell d3
        by_cases hc : x = y
        · have HXY := Lib.hid hc
          rw [decide_eq_true hc] at he
          clear hc
          go_wp2_with fail
          refine wp_region_rel_all (fun _ => none) (by kernel_rfl) (by kernel_rfl) ?_
          repeat (first
            | (refine wpRel_quick ?_ ?_ ?_ ?_
               · rfl
               · rfl
               · first | exact noEnter rfl | (intro f args W W'; go_simp)
               intro K hK
               go_big_quiet_op
               go_big_quiet_on)
            | (refine wpRel_skip ?_ ?_
               · rfl
               simp only [Act.put, List.setIfInBounds_toArray, List.set_cons_zero, List.set_cons_succ]))
          refine wpRel_nil ?_
          intro W3 hW3
          have HE3 := Lib.hid (HB.out.trans ((Ext.refl _).drew.trans hW3.1))
          clear hW3 gc0 gd0 c0 d0 gc1 gd1 c1 d1 gc2 gd2 c2 d2 gc3 gd3 c3 d3 he
          go_wp2_with fail
          go_roundw
          case rel => exact ⟨k + 1, by go_num, by omega, HNX.out HXY.out, HE3.out⟩
          case measure => simp [intOf] <;> omega
        · have HXY := Lib.hid hc
          rw [decide_eq_false hc] at he
          clear hc
          go_wp2_with fail
          refine wp_region_rel_all (fun _ => none) (by kernel_rfl) (by kernel_rfl) ?_
          repeat (first
            | (refine wpRel_quick ?_ ?_ ?_ ?_
               · rfl
               · rfl
               · first | exact noEnter rfl | (intro f args W W'; go_simp)
               intro K hK
               go_big_quiet_op
               go_big_quiet_on)
            | (refine wpRel_skip ?_ ?_
               · rfl
               simp only [Act.put, List.setIfInBounds_toArray, List.set_cons_zero, List.set_cons_succ]))
          refine wpRel_nil ?_
          intro W3 hW3
          have HE3 := Lib.hid (HB.out.trans ((Ext.refl _).drew.trans hW3.1))
          clear hW3 gc0 gd0 c0 d0 gc1 gd1 c1 d1 gc2 gd2 c2 d2 gc3 gd3 c3 d3 he
          go_wp2_with fail
          go_ret
          exact ⟨ret_bool (decide_eq_false (HNE.out HXY.out)).symm, HE3.out⟩
      · have hki : ¬ (k : Int) < (l.length : Int) := by omega
        have HEQ : Hid (l = l') := Lib.hid (by
          have h1 := HT.out
          rw [List.take_of_length_le (by omega), List.take_of_length_le (by have := HLE.out; omega)] at h1
          exact h1)
        go_wp2_with fail
        go_ret
        exact ⟨ret_bool (decide_eq_true HEQ.out).symm, HB.out⟩
  · have g1 : ((l.length : Int) != (l'.length : Int)) = true := by simp; omega
    have HLE : Hid (l ≠ l') := Lib.hid fun e => hl (by rw [e])
    clear hl
    go_enter Try.func61, Try.ntmps61
    go_wp2_with fail
    go_ret
    exact ⟨ret_bool (decide_eq_false HLE.out).symm, Ext.refl _⟩
set_option maxRecDepth 100000 in
set_option maxHeartbeats 6400000 in
theorem equalKl_any (l l' : List Kl) (ao ao' : Option Addr) (cap cap' : Nat) (w : World) (h : SL w 4 ao cap (l.map Kl.cells)) (h' : SL w 4 ao' cap' (l'.map Kl.cells)) : Calls Try.prog 63 #[.slice ao l.length cap, .slice ao' l'.length cap'] w fun e w' => e = .returned (.bool (decide (l = l'))) ∧ Ext w w' := by
  have HL := Lib.hid h
  have HL' := Lib.hid h'
  have hs1 := map_max h
  have hs2 := map_max h'
  clear h h'
  by_cases hl : l.length = l'.length
  · have g1 : ((l.length : Int) != (l'.length : Int)) = false := by simp; omega
    have HLE := Lib.hid hl
    clear hl
    go_enter Try.func63, Try.ntmps63
    go_wp2_with fail
    go_loopw [13] (fun iv wr => ∃ k : Nat, iv = .int .i64 k ∧ k ≤ l.length ∧ l.take k = l'.take k ∧ Ext w wr) (fun iv _ => l.length - (intOf iv).toNat)
    case atStart => exact ⟨0, rfl, by omega, by simp, Ext.refl _⟩
    case round =>
      obtain ⟨k, rfl, hk, ht, hB⟩ := hrel
      have HT := Lib.hid ht
      have HB := Lib.hid hB
      clear ht hB
      by_cases hlt : k < l.length
      · have hki : (k : Int) < (l.length : Int) := by omega
        have hk' : k < l'.length := by have := HLE.out; omega
        have hki' : (k : Int) < (l'.length : Int) := by omega
        obtain ⟨x, hx⟩ : ∃ x, l[k]? = some x := ⟨_, List.getElem?_eq_getElem hlt⟩
        obtain ⟨y, hy⟩ : ∃ y, l'[k]? = some y := ⟨_, List.getElem?_eq_getElem hk'⟩
        obtain ⟨b, o, rfl, hc⟩ := (HL.out.ext HB.out).rowAt' (i := k) (r := x.cells) (by rw [List.getElem?_map, hx]; rfl) (by simp [Kl.cells])
        obtain ⟨b', o', rfl, hd⟩ := (HL'.out.ext HB.out).rowAt' (i := k) (r := y.cells) (by rw [List.getElem?_map, hy]; rfl) (by simp [Kl.cells])
        have c0 : wr.cell? ⟨b, o + k * 4, none⟩ = some (.string x.nm) := hc 0 _ rfl
        have c1 : wr.cell? ⟨b, o + k * 4 + 1, none⟩ = some (.int .i64 x.ea) := hc 1 _ rfl
        have c2 : wr.cell? ⟨b, o + k * 4 + 2, none⟩ = some (.int .i64 x.mn) := hc 2 _ rfl
        have c3 : wr.cell? ⟨b, o + k * 4 + 3, none⟩ = some (.int .i64 x.md) := hc 3 _ rfl
        have d0 : wr.cell? ⟨b', o' + k * 4, none⟩ = some (.string y.nm) := hd 0 _ rfl
        have d1 : wr.cell? ⟨b', o' + k * 4 + 1, none⟩ = some (.int .i64 y.ea) := hd 1 _ rfl
        have d2 : wr.cell? ⟨b', o' + k * 4 + 2, none⟩ = some (.int .i64 y.mn) := hd 2 _ rfl
        have d3 : wr.cell? ⟨b', o' + k * 4 + 3, none⟩ = some (.int .i64 y.md) := hd 3 _ rfl
        have HNX := Lib.hid (take_eq_next hx hy HT.out)
        have HNE := Lib.hid (ne_at hx hy)
        clear hx hy hc hd
        have he := eqKl x y
        have gc0 := grow_cell c0
        have gd0 := grow_cell d0
        have gc1 := grow_cell c1
        have gd1 := grow_cell d1
        have gc2 := grow_cell c2
        have gd2 := grow_cell d2
        have gc3 := grow_cell c3
        have gd3 := grow_cell d3
        by_cases hc : x = y
        · have HXY := Lib.hid hc
          rw [decide_eq_true hc] at he
          clear hc
          go_wp2_with fail
          refine wp_region_rel_all (fun _ => none) (by kernel_rfl) (by kernel_rfl) ?_
          repeat (first
            | (refine wpRel_quick ?_ ?_ ?_ ?_
               · rfl
               · rfl
               · first | exact noEnter rfl | (intro f args W W'; go_simp)
               intro K hK
               go_big_quiet_op
               go_big_quiet_on)
            | (refine wpRel_skip ?_ ?_
               · rfl
               simp only [Act.put, List.setIfInBounds_toArray, List.set_cons_zero, List.set_cons_succ]))
          refine wpRel_nil ?_
          intro W3 hW3
          have HE3 := Lib.hid (HB.out.trans ((Ext.refl _).drew.trans hW3.1))
          clear hW3 gc0 gd0 c0 d0 gc1 gd1 c1 d1 gc2 gd2 c2 d2 gc3 gd3 c3 d3 he
          go_wp2_with fail
          go_roundw
          case rel => exact ⟨k + 1, by go_num, by omega, HNX.out HXY.out, HE3.out⟩
          case measure => simp [intOf] <;> omega
        · have HXY := Lib.hid hc
          rw [decide_eq_false hc] at he
          clear hc
          go_wp2_with fail
          refine wp_region_rel_all (fun _ => none) (by kernel_rfl) (by kernel_rfl) ?_
          repeat (first
            | (refine wpRel_quick ?_ ?_ ?_ ?_
               · rfl
               · rfl
               · first | exact noEnter rfl | (intro f args W W'; go_simp)
               intro K hK
               go_big_quiet_op
               go_big_quiet_on)
            | (refine wpRel_skip ?_ ?_
               · rfl
               simp only [Act.put, List.setIfInBounds_toArray, List.set_cons_zero, List.set_cons_succ]))
          refine wpRel_nil ?_
          intro W3 hW3
          have HE3 := Lib.hid (HB.out.trans ((Ext.refl _).drew.trans hW3.1))
          clear hW3 gc0 gd0 c0 d0 gc1 gd1 c1 d1 gc2 gd2 c2 d2 gc3 gd3 c3 d3 he
          go_wp2_with fail
          go_ret
          exact ⟨ret_bool (decide_eq_false (HNE.out HXY.out)).symm, HE3.out⟩
      · have hki : ¬ (k : Int) < (l.length : Int) := by omega
        have HEQ : Hid (l = l') := Lib.hid (by
          have h1 := HT.out
          rw [List.take_of_length_le (by omega), List.take_of_length_le (by have := HLE.out; omega)] at h1
          exact h1)
        go_wp2_with fail
        go_ret
        exact ⟨ret_bool (decide_eq_true HEQ.out).symm, HB.out⟩
  · have g1 : ((l.length : Int) != (l'.length : Int)) = true := by simp; omega
    have HLE : Hid (l ≠ l') := Lib.hid fun e => hl (by rw [e])
    clear hl
    go_enter Try.func63, Try.ntmps63
    go_wp2_with fail
    go_ret
    exact ⟨ret_bool (decide_eq_false HLE.out).symm, Ext.refl _⟩
set_option maxRecDepth 100000 in
set_option maxHeartbeats 6400000 in
theorem equalFe_any (l l' : List Fe) (ao ao' : Option Addr) (cap cap' : Nat) (w : World) (h : SL w 2 ao cap (l.map Fe.cells)) (h' : SL w 2 ao' cap' (l'.map Fe.cells)) : Calls Try.prog 64 #[.slice ao l.length cap, .slice ao' l'.length cap'] w fun e w' => e = .returned (.bool (decide (l = l'))) ∧ Ext w w' := by
  have HL := Lib.hid h
  have HL' := Lib.hid h'
  have hs1 := map_max h
  have hs2 := map_max h'
  clear h h'
  by_cases hl : l.length = l'.length
  · have g1 : ((l.length : Int) != (l'.length : Int)) = false := by simp; omega
    have HLE := Lib.hid hl
    clear hl
    go_enter Try.func64, Try.ntmps64
    go_wp2_with fail
    go_loopw [13] (fun iv wr => ∃ k : Nat, iv = .int .i64 k ∧ k ≤ l.length ∧ l.take k = l'.take k ∧ Ext w wr) (fun iv _ => l.length - (intOf iv).toNat)
    case atStart => exact ⟨0, rfl, by omega, by simp, Ext.refl _⟩
    case round =>
      obtain ⟨k, rfl, hk, ht, hB⟩ := hrel
      have HT := Lib.hid ht
      have HB := Lib.hid hB
      clear ht hB
      by_cases hlt : k < l.length
      · have hki : (k : Int) < (l.length : Int) := by omega
        have hk' : k < l'.length := by have := HLE.out; omega
        have hki' : (k : Int) < (l'.length : Int) := by omega
        obtain ⟨x, hx⟩ : ∃ x, l[k]? = some x := ⟨_, List.getElem?_eq_getElem hlt⟩
        obtain ⟨y, hy⟩ : ∃ y, l'[k]? = some y := ⟨_, List.getElem?_eq_getElem hk'⟩
        obtain ⟨b, o, rfl, hc⟩ := (HL.out.ext HB.out).rowAt' (i := k) (r := x.cells) (by rw [List.getElem?_map, hx]; rfl) (by simp [Fe.cells])
        obtain ⟨b', o', rfl, hd⟩ := (HL'.out.ext HB.out).rowAt' (i := k) (r := y.cells) (by rw [List.getElem?_map, hy]; rfl) (by simp [Fe.cells])
        have c0 : wr.cell? ⟨b, o + k * 2, none⟩ = some (.string x.nm) := hc 0 _ rfl
        have c1 : wr.cell? ⟨b, o + k * 2 + 1, none⟩ = some (.int .i64 x.cr) := hc 1 _ rfl
        have d0 : wr.cell? ⟨b', o' + k * 2, none⟩ = some (.string y.nm) := hd 0 _ rfl
        have d1 : wr.cell? ⟨b', o' + k * 2 + 1, none⟩ = some (.int .i64 y.cr) := hd 1 _ rfl
        have HNX := Lib.hid (take_eq_next hx hy HT.out)
        have HNE := Lib.hid (ne_at hx hy)
        clear hx hy hc hd
        have he := eqFe x y
        have gc0 := grow_cell c0
        have gd0 := grow_cell d0
        have gc1 := grow_cell c1
        have gd1 := grow_cell d1
        by_cases hc : x = y
        · have HXY := Lib.hid hc
          rw [decide_eq_true hc] at he
          clear hc
          go_wp2_with fail
          refine wp_region_rel_all (fun _ => none) (by kernel_rfl) (by kernel_rfl) ?_
          repeat (first
            | (refine wpRel_quick ?_ ?_ ?_ ?_
               · rfl
               · rfl
               · first | exact noEnter rfl | (intro f args W W'; go_simp)
               intro K hK
               go_big_quiet_op
               go_big_quiet_on)
            | (refine wpRel_skip ?_ ?_
               · rfl
               simp only [Act.put, List.setIfInBounds_toArray, List.set_cons_zero, List.set_cons_succ]))
          refine wpRel_nil ?_
          intro W3 hW3
          have HE3 := Lib.hid (HB.out.trans ((Ext.refl _).drew.trans hW3.1))
          clear hW3 gc0 gd0 c0 d0 gc1 gd1 c1 d1 he
          go_wp2_with fail
          go_roundw
          case rel => exact ⟨k + 1, by go_num, by omega, HNX.out HXY.out, HE3.out⟩
          case measure => simp [intOf] <;> omega
        · have HXY := Lib.hid hc
          rw [decide_eq_false hc] at he
          clear hc
          go_wp2_with fail
          refine wp_region_rel_all (fun _ => none) (by kernel_rfl) (by kernel_rfl) ?_
          repeat (first
            | (refine wpRel_quick ?_ ?_ ?_ ?_
               · rfl
               · rfl
               · first | exact noEnter rfl | (intro f args W W'; go_simp)
               intro K hK
               go_big_quiet_op
               go_big_quiet_on)
            | (refine wpRel_skip ?_ ?_
               · rfl
               simp only [Act.put, List.setIfInBounds_toArray, List.set_cons_zero, List.set_cons_succ]))
          refine wpRel_nil ?_
          intro W3 hW3
          have HE3 := Lib.hid (HB.out.trans ((Ext.refl _).drew.trans hW3.1))
          clear hW3 gc0 gd0 c0 d0 gc1 gd1 c1 d1 he
          go_wp2_with fail
          go_ret
          exact ⟨ret_bool (decide_eq_false (HNE.out HXY.out)).symm, HE3.out⟩
      · have hki : ¬ (k : Int) < (l.length : Int) := by omega
        have HEQ : Hid (l = l') := Lib.hid (by
          have h1 := HT.out
          rw [List.take_of_length_le (by omega), List.take_of_length_le (by have := HLE.out; omega)] at h1
          exact h1)
        go_wp2_with fail
        go_ret
        exact ⟨ret_bool (decide_eq_true HEQ.out).symm, HB.out⟩
  · have g1 : ((l.length : Int) != (l'.length : Int)) = true := by simp; omega
    have HLE : Hid (l ≠ l') := Lib.hid fun e => hl (by rw [e])
    clear hl
    go_enter Try.func64, Try.ntmps64
    go_wp2_with fail
    go_ret
    exact ⟨ret_bool (decide_eq_false HLE.out).symm, Ext.refl _⟩
set_option maxRecDepth 100000 in
set_option maxHeartbeats 6400000 in
theorem equalCu_any (l l' : List Cu) (ao ao' : Option Addr) (cap cap' : Nat) (w : World) (h : SL w 4 ao cap (l.map Cu.cells)) (h' : SL w 4 ao' cap' (l'.map Cu.cells)) : Calls Try.prog 65 #[.slice ao l.length cap, .slice ao' l'.length cap'] w fun e w' => e = .returned (.bool (decide (l = l'))) ∧ Ext w w' := by
  have HL := Lib.hid h
  have HL' := Lib.hid h'
  have hs1 := map_max h
  have hs2 := map_max h'
  clear h h'
  by_cases hl : l.length = l'.length
  · have g1 : ((l.length : Int) != (l'.length : Int)) = false := by simp; omega
    have HLE := Lib.hid hl
    clear hl
    go_enter Try.func65, Try.ntmps65
    go_wp2_with fail
    go_loopw [13] (fun iv wr => ∃ k : Nat, iv = .int .i64 k ∧ k ≤ l.length ∧ l.take k = l'.take k ∧ Ext w wr) (fun iv _ => l.length - (intOf iv).toNat)
    case atStart => exact ⟨0, rfl, by omega, by simp, Ext.refl _⟩
    case round =>
      obtain ⟨k, rfl, hk, ht, hB⟩ := hrel
      have HT := Lib.hid ht
      have HB := Lib.hid hB
      clear ht hB
      by_cases hlt : k < l.length
      · have hki : (k : Int) < (l.length : Int) := by omega
        have hk' : k < l'.length := by have := HLE.out; omega
        have hki' : (k : Int) < (l'.length : Int) := by omega
        obtain ⟨x, hx⟩ : ∃ x, l[k]? = some x := ⟨_, List.getElem?_eq_getElem hlt⟩
        obtain ⟨y, hy⟩ : ∃ y, l'[k]? = some y := ⟨_, List.getElem?_eq_getElem hk'⟩
        obtain ⟨b, o, rfl, hc⟩ := (HL.out.ext HB.out).rowAt' (i := k) (r := x.cells) (by rw [List.getElem?_map, hx]; rfl) (by simp [Cu.cells])
        obtain ⟨b', o', rfl, hd⟩ := (HL'.out.ext HB.out).rowAt' (i := k) (r := y.cells) (by rw [List.getElem?_map, hy]; rfl) (by simp [Cu.cells])
        have c0 : wr.cell? ⟨b, o + k * 4, none⟩ = some (.int .i64 x.k) := hc 0 _ rfl
        have c1 : wr.cell? ⟨b, o + k * 4 + 1, none⟩ = some (.int .i64 x.w) := hc 1 _ rfl
        have c2 : wr.cell? ⟨b, o + k * 4 + 2, none⟩ = some (.int .i64 x.a) := hc 2 _ rfl
        have c3 : wr.cell? ⟨b, o + k * 4 + 3, none⟩ = some (.int .i64 x.u) := hc 3 _ rfl
        have d0 : wr.cell? ⟨b', o' + k * 4, none⟩ = some (.int .i64 y.k) := hd 0 _ rfl
        have d1 : wr.cell? ⟨b', o' + k * 4 + 1, none⟩ = some (.int .i64 y.w) := hd 1 _ rfl
        have d2 : wr.cell? ⟨b', o' + k * 4 + 2, none⟩ = some (.int .i64 y.a) := hd 2 _ rfl
        have d3 : wr.cell? ⟨b', o' + k * 4 + 3, none⟩ = some (.int .i64 y.u) := hd 3 _ rfl
        have HNX := Lib.hid (take_eq_next hx hy HT.out)
        have HNE := Lib.hid (ne_at hx hy)
        clear hx hy hc hd
        have he := eqCu x y
        have gc0 := grow_cell c0
        have gd0 := grow_cell d0
        have gc1 := grow_cell c1
        have gd1 := grow_cell d1
        have gc2 := grow_cell c2
        have gd2 := grow_cell d2
        have gc3 := grow_cell c3
        have gd3 := grow_cell d3
        by_cases hc : x = y
        · have HXY := Lib.hid hc
          rw [decide_eq_true hc] at he
          clear hc
          go_wp2_with fail
          refine wp_region_rel_all (fun _ => none) (by kernel_rfl) (by kernel_rfl) ?_
          repeat (first
            | (refine wpRel_quick ?_ ?_ ?_ ?_
               · rfl
               · rfl
               · first | exact noEnter rfl | (intro f args W W'; go_simp)
               intro K hK
               go_big_quiet_op
               go_big_quiet_on)
            | (refine wpRel_skip ?_ ?_
               · rfl
               simp only [Act.put, List.setIfInBounds_toArray, List.set_cons_zero, List.set_cons_succ]))
          refine wpRel_nil ?_
          intro W3 hW3
          have HE3 := Lib.hid (HB.out.trans ((Ext.refl _).drew.trans hW3.1))
          clear hW3 gc0 gd0 c0 d0 gc1 gd1 c1 d1 gc2 gd2 c2 d2 gc3 gd3 c3 d3 he
          go_wp2_with fail
          go_roundw
          case rel => exact ⟨k + 1, by go_num, by omega, HNX.out HXY.out, HE3.out⟩
          case measure => simp [intOf] <;> omega
        · have HXY := Lib.hid hc
          rw [decide_eq_false hc] at he
          clear hc
          go_wp2_with fail
          refine wp_region_rel_all (fun _ => none) (by kernel_rfl) (by kernel_rfl) ?_
          repeat (first
            | (refine wpRel_quick ?_ ?_ ?_ ?_
               · rfl
               · rfl
               · first | exact noEnter rfl | (intro f args W W'; go_simp)
               intro K hK
               go_big_quiet_op
               go_big_quiet_on)
            | (refine wpRel_skip ?_ ?_
               · rfl
               simp only [Act.put, List.setIfInBounds_toArray, List.set_cons_zero, List.set_cons_succ]))
          refine wpRel_nil ?_
          intro W3 hW3
          have HE3 := Lib.hid (HB.out.trans ((Ext.refl _).drew.trans hW3.1))
          clear hW3 gc0 gd0 c0 d0 gc1 gd1 c1 d1 gc2 gd2 c2 d2 gc3 gd3 c3 d3 he
          go_wp2_with fail
          go_ret
          exact ⟨ret_bool (decide_eq_false (HNE.out HXY.out)).symm, HE3.out⟩
      · have hki : ¬ (k : Int) < (l.length : Int) := by omega
        have HEQ : Hid (l = l') := Lib.hid (by
          have h1 := HT.out
          rw [List.take_of_length_le (by omega), List.take_of_length_le (by have := HLE.out; omega)] at h1
          exact h1)
        go_wp2_with fail
        go_ret
        exact ⟨ret_bool (decide_eq_true HEQ.out).symm, HB.out⟩
  · have g1 : ((l.length : Int) != (l'.length : Int)) = true := by simp; omega
    have HLE : Hid (l ≠ l') := Lib.hid fun e => hl (by rw [e])
    clear hl
    go_enter Try.func65, Try.ntmps65
    go_wp2_with fail
    go_ret
    exact ⟨ret_bool (decide_eq_false HLE.out).symm, Ext.refl _⟩
end Go.Proofs.Ytimigpfoflilcaa
