/- Names: twice, meant, Find, number of the reference. -/
import Derived.Test.YtimigpfoflilcaaYI
namespace Go.Sz
open Go.RowKit
theorem nodup_take {α : Type} {l : List α} {m : Nat} {x : α} (hx : l[m]? = some x) (h : (l.take m).Nodup) (hn : x ∉ l.take m) : (l.take (m + 1)).Nodup := by
  rw [List.take_add_one, hx]
  show (l.take m ++ [x]).Nodup
  rw [List.nodup_append]
  refine ⟨h, by simp, fun a ha b hb e => ?_⟩
  obtain rfl := List.mem_singleton.1 hb
  exact hn (e ▸ ha)
theorem nodup_not {α : Type} {l : List α} {m k : Nat} {x : α} (hx : l[m]? = some x) (hk : l[k]? = some x) (h : k < m) : ¬ l.Nodup := fun hn => by
  have := (List.getElem?_inj (by have := (List.getElem?_eq_some_iff.1 hk).1; omega) hn).1 (hk.trans hx.symm)
  omega
theorem notMem_take {α : Type} {l : List α} {k : Nat} {x z : α} (hz : l[k]? = some z) (h : x ∉ l.take k) (hn : x ≠ z) : x ∉ l.take (k + 1) := by
  rw [List.take_add_one, hz]
  intro hm
  rcases List.mem_append.1 hm with h1 | h1
  · exact h h1
  · exact hn (List.mem_singleton.1 h1)
/-- the first course that fits, by rounds -/
theorem findC_skip {l : List Cr} {P : Cr → Bool} {k : Nat} {x : Cr} (hx : l[k]? = some x) (hb : ∀ j y, j < k → l[j]? = some y → P y = false) (h : P x = true) : findC l P = (k : Int) := by
  obtain ⟨hk, rfl⟩ := List.getElem?_eq_some_iff.1 hx
  exact findC_some hk (fun j hj => hb j _ hj (List.getElem?_eq_getElem (by omega))) h
theorem findC_end {l : List Cr} {P : Cr → Bool} (hb : ∀ j y, j < l.length → l[j]? = some y → P y = false) : findC l P = -1 :=
  findC_none fun j hj => hb j _ hj (List.getElem?_eq_getElem hj)
theorem find_skip {l : List Cr} {P : Cr → Bool} {k : Nat} {x : Cr} (hx : l[k]? = some x) (hb : ∀ j y, j < k → l[j]? = some y → P y = false) (h : P x = true) : l.find? P = some x := by
  obtain ⟨hk, rfl⟩ := List.getElem?_eq_some_iff.1 hx
  rw [List.find?_eq_some_iff_getElem]
  exact ⟨h, k, hk, rfl, fun j hj => by rw [hb j _ hj (List.getElem?_eq_getElem (by omega))]; rfl⟩
theorem find_end {l : List Cr} {P : Cr → Bool} (hb : ∀ j y, j < l.length → l[j]? = some y → P y = false) : l.find? P = none := by
  rw [List.find?_eq_none]
  intro x hx
  obtain ⟨j, hj, rfl⟩ := List.mem_iff_getElem.1 hx
  rw [hb j _ hj (List.getElem?_eq_getElem hj)]
  simp
theorem before_next {l : List Cr} {P : Cr → Bool} {k : Nat} {x : Cr} (hx : l[k]? = some x) (hb : ∀ j y, j < k → l[j]? = some y → P y = false) (h : P x = false) : ∀ j y, j < k + 1 → l[j]? = some y → P y = false := fun j y hj hy => by
  by_cases e : j = k
  · subst e
    rw [hx] at hy
    cases hy
    exact h
  · exact hb j y (by omega) hy
end Go.Sz
namespace Go.Proofs.Ytimigpfoflilcaa
open Go.RowKit Go.Sz
set_option maxRecDepth 100000 in
set_option maxHeartbeats 6400000 in
theorem twiceS_any (l : List ByteArray) (ao : Option Addr) (cap : Nat) (w : World) (h : SL w 1 ao cap (srows l)) : Calls Try.prog 75 #[.slice ao l.length cap] w fun e w' => e = .returned (.bool (decide (¬ l.Nodup))) ∧ Ext w w' := by
  have HL := Lib.hid h
  have hs1 := srows_max h
  clear h
  go_enter Try.func75, Try.ntmps75
  go_wp2_with fail
  go_loopw [3] (fun iv wr => ∃ m : Nat, iv = .int .i64 m ∧ m ≤ l.length ∧ (l.take m).Nodup ∧ Ext w wr) (fun iv _ => l.length - (intOf iv).toNat)
  case atStart => exact ⟨0, rfl, by omega, by simp, Ext.refl _⟩
  case round =>
    obtain ⟨m, rfl, hm, hn, hE⟩ := hrel
    have HN := Lib.hid hn
    have HE := Lib.hid hE
    clear hn hE
    by_cases hlt : m < l.length
    · have hki : (m : Int) < (l.length : Int) := by omega
      obtain ⟨x, hx⟩ : ∃ x, l[m]? = some x := ⟨_, List.getElem?_eq_getElem hlt⟩
      have HXM := Lib.hid hx
      clear hx
      obtain ⟨w0, rfl⟩ : ∃ w0, w0 = wr := ⟨_, rfl⟩
      go_wp2_with fail
      go_loopw [4] (fun iv wr => ∃ k : Nat, iv = .int .i64 k ∧ k ≤ m ∧ x ∉ l.take k ∧ Ext w0 wr) (fun iv _ => m - (intOf iv).toNat)
      case atStart => exact ⟨0, rfl, by omega, by simp, Ext.refl _⟩
      case round =>
        obtain ⟨k, rfl, hk, hn, hE⟩ := hrel
        have HN2 := Lib.hid hn
        have HE2 := Lib.hid (HE.out.trans hE)
        have HE3 := Lib.hid hE
        clear hn hE
        by_cases hlk : k < m
        · have hkm : (k : Int) < (m : Int) := by omega
          have hkl : (k : Int) < (l.length : Int) := by omega
          obtain ⟨z, hz⟩ : ∃ z, l[k]? = some z := ⟨_, List.getElem?_eq_getElem (by omega)⟩
          obtain ⟨b, o, eao, c0⟩ := s_at HL.out HE2.out HXM.out
          obtain ⟨b', o', eao', d0⟩ := s_at HL.out HE2.out hz
          rw [eao] at eao'
          cases eao'
          have HZ := Lib.hid hz
          clear hz
          rw [eao]
          clear eao
          have gc0 := grow_cell c0
          have gd0 := grow_cell d0
          by_cases hc : x = z
          · have HXZ := Lib.hid hc
            have q1 : (x.toList == z.toList) = true := by simp [hc]
            clear hc
            go_wp2_with fail
            refine wp_region_rel_all (fun _ => none) (by kernel_rfl) (by kernel_rfl) ?_
            repeat (first
              | (refine wpRel_quick ?_ ?_ ?_ ?_
                 · rfl
                 · rfl
                 · first | exact noEnter rfl | (intro f args W W'; go_simp)
                 intro K hK
                 go_big_quiet_op
                 go_big_quiet_on)
              | (refine wpRel_skip ?_ ?_
                 · rfl
                 simp only [Act.put, List.setIfInBounds_toArray, List.set_cons_zero, List.set_cons_succ]))
            refine wpRel_nil ?_
            intro W3 hW3
            have HE4 := Lib.hid (HE2.out.trans ((Ext.refl _).drew.trans hW3.1))
            clear hW3 gc0 gd0 c0 d0
            go_wp2_with fail
            go_ret
            exact ⟨ret_bool (decide_eq_true (nodup_not HXM.out (by rw [HXZ.out]; exact HZ.out) hlk)).symm, HE4.out⟩
          · have HXZ := Lib.hid hc
            have q1 : (x.toList == z.toList) = false := by simpa using fun e => hc (toList_inj' e)
            clear hc
            go_wp2_with fail
            refine wp_region_rel_all (fun _ => none) (by kernel_rfl) (by kernel_rfl) ?_
            repeat (first
              | (refine wpRel_quick ?_ ?_ ?_ ?_
                 · rfl
                 · rfl
                 · first | exact noEnter rfl | (intro f args W W'; go_simp)
                 intro K hK
                 go_big_quiet_op
                 go_big_quiet_on)
              | (refine wpRel_skip ?_ ?_
                 · rfl
                 simp only [Act.put, List.setIfInBounds_toArray, List.set_cons_zero, List.set_cons_succ]))
            refine wpRel_nil ?_
            intro W3 hW3
            have HE4 := Lib.hid (HE3.out.trans ((Ext.refl _).drew.trans hW3.1))
            clear hW3 gc0 gd0 c0 d0
            go_wp2_with fail
            go_roundw
            case rel => exact ⟨k + 1, by go_num, by omega, notMem_take HZ.out HN2.out HXZ.out, HE4.out⟩
            case measure => simp [intOf] <;> omega
        · have hkm : ¬ (k : Int) < (m : Int) := by omega
          obtain rfl : k = m := by omega
          go_wp2_with fail
          go_roundw
          case rel => exact ⟨k + 1, by go_num, by omega, nodup_take HXM.out HN.out HN2.out, HE2.out⟩
          case measure => simp [intOf] <;> omega
    · have hki : ¬ (m : Int) < (l.length : Int) := by omega
      obtain rfl : m = l.length := by omega
      rw [List.take_length] at HN
      go_wp2_with fail
      go_ret
      exact ⟨ret_bool (by rw [decide_eq_true HN.out]; rfl), HE.out⟩
set_option maxRecDepth 100000 in
set_option maxHeartbeats 6400000 in
theorem twiceI_any (l : List Int) (ao : Option Addr) (cap : Nat) (w : World) (h : SL w 1 ao cap (irows l)) : Calls Try.prog 76 #[.slice ao l.length cap] w fun e w' => e = .returned (.bool (decide (¬ l.Nodup))) ∧ Ext w w' := by
  have HL := Lib.hid h
  have hs1 := irows_max h
  clear h
  go_enter Try.func76, Try.ntmps76
  go_wp2_with fail
  go_loopw [3] (fun iv wr => ∃ m : Nat, iv = .int .i64 m ∧ m ≤ l.length ∧ (l.take m).Nodup ∧ Ext w wr) (fun iv _ => l.length - (intOf iv).toNat)
  case atStart => exact ⟨0, rfl, by omega, by simp, Ext.refl _⟩
  case round =>
    obtain ⟨m, rfl, hm, hn, hE⟩ := hrel
    have HN := Lib.hid hn
    have HE := Lib.hid hE
    clear hn hE
    by_cases hlt : m < l.length
    · have hki : (m : Int) < (l.length : Int) := by omega
      obtain ⟨x, hx⟩ : ∃ x, l[m]? = some x := ⟨_, List.getElem?_eq_getElem hlt⟩
      have HXM := Lib.hid hx
      clear hx
      obtain ⟨w0, rfl⟩ : ∃ w0, w0 = wr := ⟨_, rfl⟩
      go_wp2_with fail
      go_loopw [4] (fun iv wr => ∃ k : Nat, iv = .int .i64 k ∧ k ≤ m ∧ x ∉ l.take k ∧ Ext w0 wr) (fun iv _ => m - (intOf iv).toNat)
      case atStart => exact ⟨0, rfl, by omega, by simp, Ext.refl _⟩
      case round =>
        obtain ⟨k, rfl, hk, hn, hE⟩ := hrel
        have HN2 := Lib.hid hn
        have HE2 := Lib.hid (HE.out.trans hE)
        have HE3 := Lib.hid hE
        clear hn hE
        by_cases hlk : k < m
        · have hkm : (k : Int) < (m : Int) := by omega
          have hkl : (k : Int) < (l.length : Int) := by omega
          obtain ⟨z, hz⟩ : ∃ z, l[k]? = some z := ⟨_, List.getElem?_eq_getElem (by omega)⟩
          obtain ⟨b, o, eao, c0⟩ := i_at HL.out HE2.out HXM.out
          obtain ⟨b', o', eao', d0⟩ := i_at HL.out HE2.out hz
          rw [eao] at eao'
          cases eao'
          have HZ := Lib.hid hz
          clear hz
          rw [eao]
          clear eao
          have gc0 := grow_cell c0
          have gd0 := grow_cell d0
          by_cases hc : x = z
          · have HXZ := Lib.hid hc
            have q1 : (x == z) = true := by simp [hc]
            clear hc
            go_wp2_with fail
            refine wp_region_rel_all (fun _ => none) (by kernel_rfl) (by kernel_rfl) ?_
            repeat (first
              | (refine wpRel_quick ?_ ?_ ?_ ?_
                 · rfl
                 · rfl
                 · first | exact noEnter rfl | (intro f args W W'; go_simp)
                 intro K hK
                 go_big_quiet_op
                 go_big_quiet_on)
              | (refine wpRel_skip ?_ ?_
                 · rfl
                 simp only [Act.put, List.setIfInBounds_toArray, List.set_cons_zero, List.set_cons_succ]))
            refine wpRel_nil ?_
            intro W3 hW3
            have HE4 := Lib.hid (HE2.out.trans ((Ext.refl _).drew.trans hW3.1))
            clear hW3 gc0 gd0 c0 d0
            go_wp2_with fail
            go_ret
            exact ⟨ret_bool (decide_eq_true (nodup_not HXM.out (by rw [HXZ.out]; exact HZ.out) hlk)).symm, HE4.out⟩
          · have HXZ := Lib.hid hc
            have q1 : (x == z) = false := by simpa using hc
            clear hc
            go_wp2_with fail
            refine wp_region_rel_all (fun _ => none) (by kernel_rfl) (by kernel_rfl) ?_
            repeat (first
              | (refine wpRel_quick ?_ ?_ ?_ ?_
                 · rfl
                 · rfl
                 · first | exact noEnter rfl | (intro f args W W'; go_simp)
                 intro K hK
                 go_big_quiet_op
                 go_big_quiet_on)
              | (refine wpRel_skip ?_ ?_
                 · rfl
                 simp only [Act.put, List.setIfInBounds_toArray, List.set_cons_zero, List.set_cons_succ]))
            refine wpRel_nil ?_
            intro W3 hW3
            have HE4 := Lib.hid (HE3.out.trans ((Ext.refl _).drew.trans hW3.1))
            clear hW3 gc0 gd0 c0 d0
            go_wp2_with fail
            go_roundw
            case rel => exact ⟨k + 1, by go_num, by omega, notMem_take HZ.out HN2.out HXZ.out, HE4.out⟩
            case measure => simp [intOf] <;> omega
        · have hkm : ¬ (k : Int) < (m : Int) := by omega
          obtain rfl : k = m := by omega
          go_wp2_with fail
          go_roundw
          case rel => exact ⟨k + 1, by go_num, by omega, nodup_take HXM.out HN.out HN2.out, HE2.out⟩
          case measure => simp [intOf] <;> omega
    · have hki : ¬ (m : Int) < (l.length : Int) := by omega
      obtain rfl : m = l.length := by omega
      rw [List.take_length] at HN
      go_wp2_with fail
      go_ret
      exact ⟨ret_bool (by rw [decide_eq_true HN.out]; rfl), HE.out⟩
set_option maxRecDepth 100000 in
set_option maxHeartbeats 6400000 in
theorem refFind_any (l : List Cr) (nm : ByteArray) (ao : Option Addr) (cap : Nat) (v1 v2 v3 v4 v5 v6 : Value) (w : World) (h : RepC w ao cap l) : Calls Try.prog 16 #[.agg #[.slice ao l.length cap, v1, v2, v3, v4, v5, v6], .string nm] w fun e w' => e = .returned (.tuple #[.int .i64 (findR l nm).1, .bool (findR l nm).2]) ∧ Ext w w' := by
  have hX : Ext w (w.alloc (.cells #[.slice ao l.length cap, v1, v2, v3, v4, v5, v6] 29)) := (Ext.refl w).alloc _
  have hc0 : (w.alloc (.cells #[.slice ao l.length cap, v1, v2, v3, v4, v5, v6] 29)).cell? ⟨w.heap.size, 0, none⟩ = some (.slice ao l.length cap) := by simp
  have HX := Lib.hid hX
  have HG := Lib.hid hc0
  have HL := Lib.hid h
  have hs1 := h.max
  clear hX hc0 h
  go_enter Try.func16, Try.ntmps16
  go_wp2_with fail
  generalize (w.alloc (.cells #[.slice ao l.length cap, v1, v2, v3, v4, v5, v6] 29)) = w1 at *
  go_loopw [6] (fun iv wr => ∃ k : Nat, iv = .int .i64 k ∧ k ≤ l.length ∧ (∀ j y, j < k → l[j]? = some y → isF nm y = false) ∧ Ext w1 wr) (fun iv _ => l.length - (intOf iv).toNat)
  case atStart => exact ⟨0, rfl, by omega, fun j _ h => by omega, Ext.refl _⟩
  case round =>
    obtain ⟨k, rfl, hk, hb, hE⟩ := hrel
    have HB := Lib.hid hb
    have HE := Lib.hid hE
    have g0 := hE.cell HG.out
    clear hb hE
    by_cases hlt : k < l.length
    · have hki : (k : Int) < (l.length : Int) := by omega
      obtain ⟨x, hx⟩ : ∃ x, l[k]? = some x := ⟨_, List.getElem?_eq_getElem hlt⟩
      obtain ⟨bb, o, a, n, b, m, rfl, -, -, -, -, -, hcells⟩ := (HL.out.ext (HX.out.trans HE.out)).at hx
      have HXK := Lib.hid hx
      have c0 : wr.cell? ⟨bb, o + k * 16, none⟩ = some (.string x.nm) := hcells 0 _ rfl
      have c1 : wr.cell? ⟨bb, o + k * 16 + 1, none⟩ = some (.int .i64 x.nu) := hcells 1 _ rfl
      clear hx hcells
      cases hc : (x.nm.toList == nm.toList) with
      | true =>
        have HR : Hid (isF nm x = true) := Lib.hid (hc)
        go_wp2_with fail
        go_ret2
        exact ⟨by rw [show findR l nm = (x.nu, true) from by unfold findR; rw [find_skip HXK.out HB.out HR.out]]; rfl, HX.out.trans HE.out⟩
      | false =>
        have HR : Hid (isF nm x = false) := Lib.hid (hc)
        go_wp2_with fail
        go_roundw
        case rel => exact ⟨k + 1, by go_num, by omega, before_next HXK.out HB.out HR.out, HE.out⟩
        case measure => simp [intOf] <;> omega
    · have hki : ¬ (k : Int) < (l.length : Int) := by omega
      obtain rfl : k = l.length := by omega
      go_wp2_with fail
      go_ret2
      exact ⟨by rw [show findR l nm = (0, false) from by unfold findR; rw [find_end HB.out]]; rfl, HX.out.trans HE.out⟩
set_option maxRecDepth 100000 in
set_option maxHeartbeats 6400000 in
theorem refMeant_e (l : List Cr) (nm : ByteArray) (nu : Int) (ao : Option Addr) (cap : Nat) (v1 v2 v3 v4 v5 v6 : Value) (w : World) (h : RepC w ao cap l) (hn : nm.toList.isEmpty = true) : Calls Try.prog 78 #[.agg #[.slice ao l.length cap, v1, v2, v3, v4, v5, v6], .string nm, .int .i64 nu] w fun e w' => e = .returned (.int .i64 (findC l (isM nm nu))) ∧ Ext w w' := by
  have hX : Ext w (w.alloc (.cells #[.slice ao l.length cap, v1, v2, v3, v4, v5, v6] 29)) := (Ext.refl w).alloc _
  have hc0 : (w.alloc (.cells #[.slice ao l.length cap, v1, v2, v3, v4, v5, v6] 29)).cell? ⟨w.heap.size, 0, none⟩ = some (.slice ao l.length cap) := by simp
  have HX := Lib.hid hX
  have HG := Lib.hid hc0
  have HL := Lib.hid h
  have hs1 := h.max
  clear hX hc0 h
  have HNE := Lib.hid hn
  go_enter Try.func78, Try.ntmps78
  go_wp2_with fail
  generalize (w.alloc (.cells #[.slice ao l.length cap, v1, v2, v3, v4, v5, v6] 29)) = w1 at *
  go_loopw [7] (fun iv wr => ∃ k : Nat, iv = .int .i64 k ∧ k ≤ l.length ∧ (∀ j y, j < k → l[j]? = some y → isM nm nu y = false) ∧ Ext w1 wr) (fun iv _ => l.length - (intOf iv).toNat)
  case atStart => exact ⟨0, rfl, by omega, fun j _ h => by omega, Ext.refl _⟩
  case round =>
    obtain ⟨k, rfl, hk, hb, hE⟩ := hrel
    have HB := Lib.hid hb
    have HE := Lib.hid hE
    have g0 := hE.cell HG.out
    clear hb hE
    by_cases hlt : k < l.length
    · have hki : (k : Int) < (l.length : Int) := by omega
      obtain ⟨x, hx⟩ : ∃ x, l[k]? = some x := ⟨_, List.getElem?_eq_getElem hlt⟩
      obtain ⟨bb, o, a, n, b, m, rfl, -, -, -, -, -, hcells⟩ := (HL.out.ext (HX.out.trans HE.out)).at hx
      have HXK := Lib.hid hx
      have c0 : wr.cell? ⟨bb, o + k * 16, none⟩ = some (.string x.nm) := hcells 0 _ rfl
      have c1 : wr.cell? ⟨bb, o + k * 16 + 1, none⟩ = some (.int .i64 x.nu) := hcells 1 _ rfl
      clear hx hcells
      cases hc : (x.nu == nu) with
      | true =>
        have HR : Hid (isM nm nu x = true) := Lib.hid ((isM_none HNE.out nu x).trans hc)
        go_wp2_with fail
        go_ret
        exact ⟨by rw [findC_skip HXK.out HB.out HR.out]; rfl, HX.out.trans HE.out⟩
      | false =>
        have HR : Hid (isM nm nu x = false) := Lib.hid ((isM_none HNE.out nu x).trans hc)
        go_wp2_with fail
        go_roundw
        case rel => exact ⟨k + 1, by go_num, by omega, before_next HXK.out HB.out HR.out, HE.out⟩
        case measure => simp [intOf] <;> omega
    · have hki : ¬ (k : Int) < (l.length : Int) := by omega
      obtain rfl : k = l.length := by omega
      go_wp2_with fail
      go_ret
      exact ⟨by rw [findC_end HB.out]; rfl, HX.out.trans HE.out⟩
set_option maxRecDepth 100000 in
set_option maxHeartbeats 6400000 in
theorem refMeant_s (l : List Cr) (nm : ByteArray) (nu : Int) (ao : Option Addr) (cap : Nat) (v1 v2 v3 v4 v5 v6 : Value) (w : World) (h : RepC w ao cap l) (hn : nm.toList.isEmpty = false) : Calls Try.prog 78 #[.agg #[.slice ao l.length cap, v1, v2, v3, v4, v5, v6], .string nm, .int .i64 nu] w fun e w' => e = .returned (.int .i64 (findC l (isM nm nu))) ∧ Ext w w' := by
  have hX : Ext w (w.alloc (.cells #[.slice ao l.length cap, v1, v2, v3, v4, v5, v6] 29)) := (Ext.refl w).alloc _
  have hc0 : (w.alloc (.cells #[.slice ao l.length cap, v1, v2, v3, v4, v5, v6] 29)).cell? ⟨w.heap.size, 0, none⟩ = some (.slice ao l.length cap) := by simp
  have HX := Lib.hid hX
  have HG := Lib.hid hc0
  have HL := Lib.hid h
  have hs1 := h.max
  clear hX hc0 h
  have HNE := Lib.hid hn
  go_enter Try.func78, Try.ntmps78
  go_wp2_with fail
  generalize (w.alloc (.cells #[.slice ao l.length cap, v1, v2, v3, v4, v5, v6] 29)) = w1 at *
  go_loopw [7] (fun iv wr => ∃ k : Nat, iv = .int .i64 k ∧ k ≤ l.length ∧ (∀ j y, j < k → l[j]? = some y → isM nm nu y = false) ∧ Ext w1 wr) (fun iv _ => l.length - (intOf iv).toNat)
  case atStart => exact ⟨0, rfl, by omega, fun j _ h => by omega, Ext.refl _⟩
  case round =>
    obtain ⟨k, rfl, hk, hb, hE⟩ := hrel
    have HB := Lib.hid hb
    have HE := Lib.hid hE
    have g0 := hE.cell HG.out
    clear hb hE
    by_cases hlt : k < l.length
    · have hki : (k : Int) < (l.length : Int) := by omega
      obtain ⟨x, hx⟩ : ∃ x, l[k]? = some x := ⟨_, List.getElem?_eq_getElem hlt⟩
      obtain ⟨bb, o, a, n, b, m, rfl, -, -, -, -, -, hcells⟩ := (HL.out.ext (HX.out.trans HE.out)).at hx
      have HXK := Lib.hid hx
      have c0 : wr.cell? ⟨bb, o + k * 16, none⟩ = some (.string x.nm) := hcells 0 _ rfl
      have c1 : wr.cell? ⟨bb, o + k * 16 + 1, none⟩ = some (.int .i64 x.nu) := hcells 1 _ rfl
      clear hx hcells
      cases hc : (x.nm.toList == nm.toList) with
      | true =>
        have HR : Hid (isM nm nu x = true) := Lib.hid ((isM_some HNE.out nu x).trans hc)
        go_wp2_with fail
        go_ret
        exact ⟨by rw [findC_skip HXK.out HB.out HR.out]; rfl, HX.out.trans HE.out⟩
      | false =>
        have HR : Hid (isM nm nu x = false) := Lib.hid ((isM_some HNE.out nu x).trans hc)
        go_wp2_with fail
        go_roundw
        case rel => exact ⟨k + 1, by go_num, by omega, before_next HXK.out HB.out HR.out, HE.out⟩
        case measure => simp [intOf] <;> omega
    · have hki : ¬ (k : Int) < (l.length : Int) := by omega
      obtain rfl : k = l.length := by omega
      go_wp2_with fail
      go_ret
      exact ⟨by rw [findC_end HB.out]; rfl, HX.out.trans HE.out⟩
theorem refMeant_any (l : List Cr) (nm : ByteArray) (nu : Int) (ao : Option Addr) (cap : Nat) (v1 v2 v3 v4 v5 v6 : Value) (w : World) (h : RepC w ao cap l) : Calls Try.prog 78 #[.agg #[.slice ao l.length cap, v1, v2, v3, v4, v5, v6], .string nm, .int .i64 nu] w fun e w' => e = .returned (.int .i64 (findC l (isM nm nu))) ∧ Ext w w' := by
  cases hn : nm.toList.isEmpty with
  | true => exact refMeant_e l nm nu ao cap v1 v2 v3 v4 v5 v6 w h hn
  | false => exact refMeant_s l nm nu ao cap v1 v2 v3 v4 v5 v6 w h hn
set_option maxRecDepth 100000 in
set_option maxHeartbeats 6400000 in
theorem refNumber_any (l : List Cr) (nm : ByteArray) (old : Int) (ao : Option Addr) (cap : Nat) (v1 v2 v3 v4 v5 v6 : Value) (w : World) (h : RepC w ao cap l) : Calls Try.prog 52 #[.agg #[.slice ao l.length cap, v1, v2, v3, v4, v5, v6], .string nm, .int .i64 old] w fun e w' => e = .returned (.tuple #[.int .i64 ((numR l nm old).getD 0), .bool (numR l nm old).isSome]) ∧ Ext w w' := by
  have hX : Ext w (w.alloc (.cells #[.slice ao l.length cap, v1, v2, v3, v4, v5, v6] 29)) := (Ext.refl w).alloc _
  cases hn : nm.toList.isEmpty with
  | true =>
    have HF : Hid (numR l nm old = some old) := Lib.hid (by unfold numR; rw [if_pos hn])
    have HX := Lib.hid hX
    clear hX h
    go_enter Try.func52, Try.ntmps52
    go_wp2_with fail
    go_ret2
    exact ⟨by rw [HF.out]; rfl, HX.out⟩
  | false =>
    have g0 : (w.alloc (.cells #[.slice ao l.length cap, v1, v2, v3, v4, v5, v6] 29)).cell? ⟨w.heap.size, 0, none⟩ = some (.slice ao l.length cap) := by simp
    have HC := Lib.hid (findC_congr (l := l) (isM_some hn old) ▸ refMeant_any l nm old ao cap v1 v2 v3 v4 v5 v6 _ (h.ext hX))
    have HF : Hid (numR l nm old = (l.find? (isF nm)).map Cr.nu) := Lib.hid (by unfold numR; rw [if_neg (by rw [hn]; simp)])
    have HQ : Hid (findC l (fun x => x.nm.toList == nm.toList) = findC l (isF nm)) := Lib.hid rfl
    have HG := Lib.hid g0
    have HX := Lib.hid hX
    have HL := Lib.hid h
    have hs1 := h.max
    clear hX h g0
    go_enter Try.func52, Try.ntmps52
    go_wp2_with fail
    generalize (w.alloc (.cells #[.slice ao l.length cap, v1, v2, v3, v4, v5, v6] 29)) = w1 at *
    refine HC.out.mono ?_
    rintro e w2 ⟨rfl, hE⟩
    rw [HQ.out]
    have HE := Lib.hid hE
    have g0 := hE.cell HG.out
    clear hE
    by_cases hp : 0 ≤ findC l (isF nm)
    · obtain ⟨k, hk, e, hf⟩ := findC_lt hp
      have HR : Hid (numR l nm old = some l[k].nu) := Lib.hid (by rw [HF.out, hf]; rfl)
      obtain ⟨bb, o, a, n, b, m, rfl, -, -, -, -, -, hc⟩ := (HL.out.ext (HX.out.trans HE.out)).at (List.getElem?_eq_getElem hk)
      generalize l[k] = x at *
      have c1 : w2.cell? ⟨bb, o + k * 16 + 1, none⟩ = some (.int .i64 x.nu) := hc 1 _ rfl
      have hk0 : (k : Int) < (l.length : Int) := by omega
      clear hc hf hp
      rw [e]
      clear e
      go_wp2_with fail
      go_ret2
      exact ⟨by rw [HR.out]; rfl, HX.out.trans HE.out⟩
    · have HR : Hid (numR l nm old = none) := Lib.hid (by rw [HF.out, findC_no hp]; rfl)
      generalize findC l (isF nm) = r at *
      have hr0 : r < 0 := by omega
      clear hp
      go_wp2_with fail
      go_ret2
      exact ⟨by rw [HR.out]; rfl, HX.out.trans HE.out⟩
theorem mentions_any (x : Int) (w : World) : Calls Try.prog 81 #[.int .i64 x] w fun e w' => e = .returned (.bool (x == 5 || x == 6 || x == 9)) ∧ w' = w := by
  cases h1 : x == 5 <;> cases h2 : x == 6 <;> cases h3 : x == 9
  all_goals
    go_enter Try.func81, Try.ntmps81
    go_wp2_with fail
    go_ret
    exact ⟨rfl, rfl⟩
set_option maxRecDepth 100000 in
set_option maxHeartbeats 6400000 in
theorem place_any (l : List Int) (x : Int) (ao : Option Addr) (cap : Nat) (w : World) (h : SL w 1 ao cap (irows l)) : Calls Try.prog 23 #[.slice ao l.length cap, .int .i64 x] w fun e w' => e = .returned (.int .i64 (findI l x)) ∧ Ext w w' := by
  have HL := Lib.hid h
  have hs1 := irows_max h
  clear h
  go_enter Try.func23, Try.ntmps23
  go_wp2_with fail
  go_loopw [5] (fun iv wr => ∃ k : Nat, iv = .int .i64 k ∧ k ≤ l.length ∧ (∀ j (h : j < l.length), j < k → l[j] ≠ x) ∧ Ext w wr) (fun iv _ => l.length - (intOf iv).toNat)
  case atStart => exact ⟨0, rfl, by omega, fun j _ h => by omega, Ext.refl _⟩
  case round =>
    obtain ⟨k, rfl, hk, hn, hE⟩ := hrel
    have HN := Lib.hid hn
    have HE := Lib.hid hE
    clear hn hE
    by_cases hlt : k < l.length
    · have hki : (k : Int) < (l.length : Int) := by omega
      obtain ⟨bb, o, rfl, c0⟩ := irows_cell HL.out HE.out hlt
      have HNX : Hid (l[k] ≠ x → ∀ j (h : j < l.length), j < k + 1 → l[j] ≠ x) := Lib.hid fun hi j hj hjk => by
        by_cases hjk' : j = k
        · subst hjk'; exact hi
        · exact HN.out j hj (by omega)
      have HFD : Hid (l[k] = x → findI l x = (k : Int)) := Lib.hid fun hi => findI_some hlt (fun j hj => HN.out j (by omega) hj) hi
      generalize l[k] = z at *
      cases hc : (z == x) with
      | true =>
        have HR := Lib.hid (HFD.out (eq_of_beq hc))
        go_wp2_with fail
        go_ret
        exact ⟨by rw [HR.out]; rfl, HE.out⟩
      | false =>
        have HR := Lib.hid (HNX.out (fun e => by subst e; simp at hc))
        go_wp2_with fail
        go_roundw
        case rel => exact ⟨k + 1, by go_num, by omega, HR.out, HE.out⟩
        case measure => simp [intOf] <;> omega
    · have hki : ¬ (k : Int) < (l.length : Int) := by omega
      have HR : Hid (findI l x = -1) := Lib.hid (findI_none (l := l) (x := x) fun j hj => HN.out j hj (by omega))
      go_wp2_with fail
      go_ret
      exact ⟨by rw [HR.out]; rfl, HE.out⟩
end Go.Proofs.Ytimigpfoflilcaa
