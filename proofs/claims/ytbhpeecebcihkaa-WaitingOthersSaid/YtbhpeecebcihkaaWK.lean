/- Waiting: Check of the reference. -/
import Derived.Test.YtbhpeecebcihkaaWP
namespace Go.Sz
open Go.RowKit
/-- the first of its place -/
theorem findW_met {l : List Wt} {k : Nat} (h : k < l.length) : findW l (isW l[k].s l[k].a l[k].b) = (k : Int) ↔ metB l k = false := by
  have hat : ∀ (j : Nat) (hj : j < l.length), isW l[k].s l[k].a l[k].b l[j] = true ↔ plOf l[j] = plOf l[k] := fun j hj => by
    simp [isW, plOf]
  rw [metB_at h]
  constructor
  · intro hf
    rw [Bool.eq_false_iff]
    intro hc
    rw [List.contains_iff_mem] at hc
    obtain ⟨x, hx, hxe⟩ := List.mem_map.1 hc
    obtain ⟨j, hj, rfl⟩ := List.mem_iff_getElem.1 hx
    rw [List.length_take] at hj
    rw [List.getElem_take] at hxe
    have hj' : j < l.length := by omega
    have hp := (hat j hj').2 hxe
    unfold findW at hf
    cases hfi : l.findIdx? (isW l[k].s l[k].a l[k].b) with
    | none =>
      rw [hfi] at hf
      simp only at hf
      omega
    | some i =>
      rw [hfi] at hf
      simp only at hf
      have hik : i = k := by omega
      subst hik
      obtain ⟨_, _, h3⟩ := List.findIdx?_eq_some_iff_getElem.1 hfi
      have := h3 j (by omega)
      simp [hp] at this
  · intro hm
    refine findW_some h (fun j hj => ?_) ((hat k h).2 rfl)
    rw [Bool.eq_false_iff]
    intro hc
    have := (hat j (by omega)).1 hc
    rw [Bool.eq_false_iff] at hm
    apply hm
    rw [List.contains_iff_mem]
    refine List.mem_map.2 ⟨l[j], ?_, this⟩
    exact List.mem_iff_getElem.2 ⟨j, by rw [List.length_take]; omega, by rw [List.getElem_take]⟩
end Go.Sz
namespace Go.Proofs.Ytbhpeecebcihkaa
open Go.RowKit Go.Sz
set_option maxRecDepth 100000 in
set_option maxHeartbeats 6400000 in
theorem refCheckW_any (l : List Wt) (ao : Option Addr) (cap : Nat) (w : World) (h : RepW w ao cap l) : Calls Try.prog 18 #[.slice ao l.length cap] w fun e w' => e = .returned (.int .i64 (checkW l)) ∧ Ext w w' := by
  have HL := Lib.hid h
  have hs1 := h.max
  clear h
  go_enter Try.func18, Try.ntmps18
  go_wp2_with fail
  go_loopw [3] (fun iv wr => ∃ k : Nat, iv = .int .i64 k ∧ k ≤ l.length ∧ (List.range k).all (okAtW l) = true ∧ Ext w wr) (fun iv _ => l.length - (intOf iv).toNat)
  case atStart => exact ⟨0, rfl, by omega, rfl, Ext.refl _⟩
  case round =>
    obtain ⟨k, rfl, hk, ho, hB⟩ := hrel
    have HO := Lib.hid ho
    have HB := Lib.hid hB
    clear ho hB
    by_cases hlt : k < l.length
    · have hki : (k : Int) < (l.length : Int) := by omega
      have HIX : Hid (∀ W, Ext wr W → Calls Try.prog 35 #[.slice ao l.length cap, .int .i64 l[k].s, .agg #[.int .i64 l[k].a, .int .i64 l[k].b]] W fun e w' => e = .returned (.int .i64 (findW l (isW l[k].s l[k].a l[k].b))) ∧ Ext W w') := Lib.hid fun W hE => index_any l _ _ _ ao cap W (HL.out.ext (HB.out.trans hE))
      have HFI : Hid (findW l (isW l[k].s l[k].a l[k].b) = (k : Int) ↔ metB l k = false) := Lib.hid (findW_met hlt)
      obtain ⟨b, o, rfl, c0, c1, c2, c3, c4⟩ := w_cells HL.out HB.out hlt
      have HZ : Hid (k = 0 → okAtW l k = (okW l[k] && !metB l k)) := Lib.hid fun h => by subst h; exact okAtW_zero hlt
      have HS := Lib.hid (okAtW_succ hlt)
      have HBAD := Lib.hid (okAtW_bad hlt)
      have HP : Hid (0 < k → ∃ y, y = l[k - 1] ∧ wr.cell? ⟨b, o + (k - 1) * 5, none⟩ = some (.int .i64 y.s) ∧ wr.cell? ⟨b, o + (k - 1) * 5 + 1, none⟩ = some (.int .i64 y.a) ∧ wr.cell? ⟨b, o + (k - 1) * 5 + 2, none⟩ = some (.int .i64 y.b) ∧ wr.cell? ⟨b, o + (k - 1) * 5 + 3, none⟩ = some (.int .i64 y.k) ∧ wr.cell? ⟨b, o + (k - 1) * 5 + 4, none⟩ = some (.int .i64 y.t)) := Lib.hid fun h0 => ⟨l[k - 1], rfl, by
        obtain ⟨b', o', e, h1⟩ := w_cells HL.out HB.out (i := k - 1) (by omega)
        cases e
        exact h1⟩
      generalize l[k] = x at *
      obtain ⟨n, hn⟩ : ∃ n, findW l (isW x.s x.a x.b) = n := ⟨_, rfl⟩
      rw [hn] at HIX HFI
      clear hn
      obtain ⟨mb, hmb⟩ : ∃ m, metB l k = m := ⟨_, rfl⟩
      rw [hmb] at HFI HZ HS
      clear hmb
      have gc0 := grow_cell c0
      have gc1 := grow_cell c1
      have gc2 := grow_cell c2
      have gc3 := grow_cell c3
      have gc4 := grow_cell c4
      cases hf : okW x with
      | false =>
        have HBD := Lib.hid (okLW_false hlt (HBAD.out hf))
        go_wp2_with fail
        refine wp_region_rel_all (fun i => if i = 4 then some (spV (.bool false)) else none) (by kernel_rfl) (by kernel_rfl) ?_
        repeat (first
          | (refine wpRel_quick ?_ ?_ ?_ ?_
             · rfl
             · rfl
             · first | exact noEnter rfl | (intro f args W W'; go_simp)
             intro K hK
             go_big_quiet_op
             go_big_quiet_on)
          | (refine wpRel_skip ?_ ?_
             · rfl
             simp only [Act.put, List.setIfInBounds_toArray, List.set_cons_zero, List.set_cons_succ]))
        refine wpRel_rich _ rfl rfl (fun W hW => ?_) (fun v W3 hW3 hv => ?_)
        · have hc := (hf ▸ validR_any x W)
          go_simp
          refine Calls.mono hc ?_
          rintro e w' ⟨rfl, h⟩
          exact ⟨_, rfl, rfl, by first | exact h | (subst h; exact Ext.refl _)⟩
        obtain rfl := hv
        clear hW3
        simp only [Act.put, List.setIfInBounds_toArray, List.set_cons_zero, List.set_cons_succ]
        repeat (first
          | (refine wpRel_quick ?_ ?_ ?_ ?_
             · rfl
             · rfl
             · first | exact noEnter rfl | (intro f args W W'; go_simp)
             intro K hK
             go_big_quiet_op
             go_big_quiet_on)
          | (refine wpRel_skip ?_ ?_
             · rfl
             simp only [Act.put, List.setIfInBounds_toArray, List.set_cons_zero, List.set_cons_succ]))
        refine wpRel_nil ?_
        intro W3 hW3
        have HE3 := Lib.hid (HB.out.trans ((Ext.refl _).drew.trans hW3.1))
        clear hW3 c0 c1 c2 c3 c4 gc0 gc1 gc2 gc3 gc4 
        go_wp2_with fail
        go_ret
        exact ⟨by rw [HBD.out]; rfl, HE3.out⟩
      | true =>
        have HF := Lib.hid hf
        clear hf
        rcases Nat.eq_zero_or_pos k with h0 | h0
        · subst h0
          simp only [Nat.zero_mul, Nat.add_zero] at c0 c1 c2 c3 c4 gc0 gc1 gc2 gc3 gc4
          cases mb with
          | false =>
            have hnk : (n != ((0 : Nat) : Int)) = false := by rw [HFI.out.2 rfl]; simp
            go_wp2_with fail
            refine wp_region_rel_all (fun i => if i = 4 then some (spV (.bool true)) else if i = 35 then some (spV (.int .i64 n)) else none) (by kernel_rfl) (by kernel_rfl) ?_
            repeat (first
              | (refine wpRel_quick ?_ ?_ ?_ ?_
                 · rfl
                 · rfl
                 · first | exact noEnter rfl | (intro f args W W'; go_simp)
                 intro K hK
                 go_big_quiet_op
                 go_big_quiet_on)
              | (refine wpRel_skip ?_ ?_
                 · rfl
                 simp only [Act.put, List.setIfInBounds_toArray, List.set_cons_zero, List.set_cons_succ]))
            refine wpRel_rich _ rfl rfl (fun W hW => ?_) (fun v W3 hW3 hv => ?_)
            · have hc := (HF.out ▸ validR_any x W)
              go_simp
              refine Calls.mono hc ?_
              rintro e w' ⟨rfl, h⟩
              exact ⟨_, rfl, rfl, by first | exact h | (subst h; exact Ext.refl _)⟩
            obtain rfl := hv
            clear hW3
            simp only [Act.put, List.setIfInBounds_toArray, List.set_cons_zero, List.set_cons_succ]
            repeat (first
              | (refine wpRel_quick ?_ ?_ ?_ ?_
                 · rfl
                 · rfl
                 · first | exact noEnter rfl | (intro f args W W'; go_simp)
                 intro K hK
                 go_big_quiet_op
                 go_big_quiet_on)
              | (refine wpRel_skip ?_ ?_
                 · rfl
                 simp only [Act.put, List.setIfInBounds_toArray, List.set_cons_zero, List.set_cons_succ]))
            refine wpRel_rich _ rfl rfl (fun W hW => ?_) (fun v W3 hW3 hv => ?_)
            · have hc := HIX.out W ((Ext.refl wr).drew.trans hW.1)
              go_simp
              refine Calls.mono hc ?_
              rintro e w' ⟨rfl, h⟩
              exact ⟨_, rfl, rfl, by first | exact h | (subst h; exact Ext.refl _)⟩
            obtain rfl := hv
            clear hW3
            simp only [Act.put, List.setIfInBounds_toArray, List.set_cons_zero, List.set_cons_succ]
            repeat (first
              | (refine wpRel_quick ?_ ?_ ?_ ?_
                 · rfl
                 · rfl
                 · first | exact noEnter rfl | (intro f args W W'; go_simp)
                 intro K hK
                 go_big_quiet_op
                 go_big_quiet_on)
              | (refine wpRel_skip ?_ ?_
                 · rfl
                 simp only [Act.put, List.setIfInBounds_toArray, List.set_cons_zero, List.set_cons_succ]))
            refine wpRel_nil ?_
            intro W3 hW3
            have HE3 := Lib.hid (HB.out.trans ((Ext.refl _).drew.trans hW3.1))
            clear hW3 c0 c1 c2 c3 c4 gc0 gc1 gc2 gc3 gc4 
            go_wp2_with fail
            go_roundw
            case rel => exact ⟨1, by go_num, by omega, by rw [range_all_succ, HZ.out (by first | rfl | trivial), HF.out]; rfl, HE3.out⟩
            case measure => simp [intOf] <;> omega
          | true =>
            have hnk : (n != ((0 : Nat) : Int)) = true := by rw [bne_iff_ne]; exact fun h => absurd (HFI.out.1 h) (by simp)
            have HBD := Lib.hid (okLW_false hlt (by rw [HZ.out (by first | rfl | trivial)]; simp))
            go_wp2_with fail
            refine wp_region_rel_all (fun i => if i = 4 then some (spV (.bool true)) else if i = 35 then some (spV (.int .i64 n)) else none) (by kernel_rfl) (by kernel_rfl) ?_
            repeat (first
              | (refine wpRel_quick ?_ ?_ ?_ ?_
                 · rfl
                 · rfl
                 · first | exact noEnter rfl | (intro f args W W'; go_simp)
                 intro K hK
                 go_big_quiet_op
                 go_big_quiet_on)
              | (refine wpRel_skip ?_ ?_
                 · rfl
                 simp only [Act.put, List.setIfInBounds_toArray, List.set_cons_zero, List.set_cons_succ]))
            refine wpRel_rich _ rfl rfl (fun W hW => ?_) (fun v W3 hW3 hv => ?_)
            · have hc := (HF.out ▸ validR_any x W)
              go_simp
              refine Calls.mono hc ?_
              rintro e w' ⟨rfl, h⟩
              exact ⟨_, rfl, rfl, by first | exact h | (subst h; exact Ext.refl _)⟩
            obtain rfl := hv
            clear hW3
            simp only [Act.put, List.setIfInBounds_toArray, List.set_cons_zero, List.set_cons_succ]
            repeat (first
              | (refine wpRel_quick ?_ ?_ ?_ ?_
                 · rfl
                 · rfl
                 · first | exact noEnter rfl | (intro f args W W'; go_simp)
                 intro K hK
                 go_big_quiet_op
                 go_big_quiet_on)
              | (refine wpRel_skip ?_ ?_
                 · rfl
                 simp only [Act.put, List.setIfInBounds_toArray, List.set_cons_zero, List.set_cons_succ]))
            refine wpRel_rich _ rfl rfl (fun W hW => ?_) (fun v W3 hW3 hv => ?_)
            · have hc := HIX.out W ((Ext.refl wr).drew.trans hW.1)
              go_simp
              refine Calls.mono hc ?_
              rintro e w' ⟨rfl, h⟩
              exact ⟨_, rfl, rfl, by first | exact h | (subst h; exact Ext.refl _)⟩
            obtain rfl := hv
            clear hW3
            simp only [Act.put, List.setIfInBounds_toArray, List.set_cons_zero, List.set_cons_succ]
            repeat (first
              | (refine wpRel_quick ?_ ?_ ?_ ?_
                 · rfl
                 · rfl
                 · first | exact noEnter rfl | (intro f args W W'; go_simp)
                 intro K hK
                 go_big_quiet_op
                 go_big_quiet_on)
              | (refine wpRel_skip ?_ ?_
                 · rfl
                 simp only [Act.put, List.setIfInBounds_toArray, List.set_cons_zero, List.set_cons_succ]))
            refine wpRel_nil ?_
            intro W3 hW3
            have HE3 := Lib.hid (HB.out.trans ((Ext.refl _).drew.trans hW3.1))
            clear hW3 c0 c1 c2 c3 c4 gc0 gc1 gc2 gc3 gc4 
            go_wp2_with fail
            go_ret
            exact ⟨by rw [HBD.out]; rfl, HE3.out⟩
        · obtain ⟨y, hy, e0, e1, e2, e3, e4⟩ := HP.out h0
          have HCC := Lib.hid (HS.out h0)
          have HY := Lib.hid hy
          have ge0 := grow_cell e0
          have ge1 := grow_cell e1
          have ge2 := grow_cell e2
          have ge3 := grow_cell e3
          have ge4 := grow_cell e4
          clear hy
          have hk1 : (0 : Int) < (k : Int) := by omega
          by_cases hc : cmpW y x < 0
          · have hd : decide (cmpW y x < 0) = true := decide_eq_true hc
            have HCD := Lib.hid hc
            clear hc
            cases mb with
            | false =>
              have hnk : (n != (k : Int)) = false := by rw [HFI.out.2 rfl]; simp
              go_wp2_with fail
              refine wp_region_rel_all (fun i => if i = 4 then some (spV (.bool true)) else if i = 19 then some (spV (.bool true)) else if i = 35 then some (spV (.int .i64 n)) else none) (by kernel_rfl) (by kernel_rfl) ?_
              repeat (first
                | (refine wpRel_quick ?_ ?_ ?_ ?_
                   · rfl
                   · rfl
                   · first | exact noEnter rfl | (intro f args W W'; go_simp)
                   intro K hK
                   go_big_quiet_op
                   go_big_quiet_on)
                | (refine wpRel_skip ?_ ?_
                   · rfl
                   simp only [Act.put, List.setIfInBounds_toArray, List.set_cons_zero, List.set_cons_succ]))
              refine wpRel_rich _ rfl rfl (fun W hW => ?_) (fun v W3 hW3 hv => ?_)
              · have hc := (HF.out ▸ validR_any x W)
                go_simp
                refine Calls.mono hc ?_
                rintro e w' ⟨rfl, h⟩
                exact ⟨_, rfl, rfl, by first | exact h | (subst h; exact Ext.refl _)⟩
              obtain rfl := hv
              clear hW3
              simp only [Act.put, List.setIfInBounds_toArray, List.set_cons_zero, List.set_cons_succ]
              repeat (first
                | (refine wpRel_quick ?_ ?_ ?_ ?_
                   · rfl
                   · rfl
                   · first | exact noEnter rfl | (intro f args W W'; go_simp)
                   intro K hK
                   go_big_quiet_op
                   go_big_quiet_on)
                | (refine wpRel_skip ?_ ?_
                   · rfl
                   simp only [Act.put, List.setIfInBounds_toArray, List.set_cons_zero, List.set_cons_succ]))
              refine wpRel_rich _ rfl rfl (fun W hW => ?_) (fun v W3 hW3 hv => ?_)
              · have hc := (hd ▸ prec_any y x W)
                go_simp
                refine Calls.mono hc ?_
                rintro e w' ⟨rfl, h⟩
                exact ⟨_, rfl, rfl, by first | exact h | (subst h; exact Ext.refl _)⟩
              obtain rfl := hv
              clear hW3
              simp only [Act.put, List.setIfInBounds_toArray, List.set_cons_zero, List.set_cons_succ]
              repeat (first
                | (refine wpRel_quick ?_ ?_ ?_ ?_
                   · rfl
                   · rfl
                   · first | exact noEnter rfl | (intro f args W W'; go_simp)
                   intro K hK
                   go_big_quiet_op
                   go_big_quiet_on)
                | (refine wpRel_skip ?_ ?_
                   · rfl
                   simp only [Act.put, List.setIfInBounds_toArray, List.set_cons_zero, List.set_cons_succ]))
              refine wpRel_rich _ rfl rfl (fun W hW => ?_) (fun v W3 hW3 hv => ?_)
              · have hc := HIX.out W ((Ext.refl wr).drew.trans hW.1)
                go_simp
                refine Calls.mono hc ?_
                rintro e w' ⟨rfl, h⟩
                exact ⟨_, rfl, rfl, by first | exact h | (subst h; exact Ext.refl _)⟩
              obtain rfl := hv
              clear hW3
              simp only [Act.put, List.setIfInBounds_toArray, List.set_cons_zero, List.set_cons_succ]
              repeat (first
                | (refine wpRel_quick ?_ ?_ ?_ ?_
                   · rfl
                   · rfl
                   · first | exact noEnter rfl | (intro f args W W'; go_simp)
                   intro K hK
                   go_big_quiet_op
                   go_big_quiet_on)
                | (refine wpRel_skip ?_ ?_
                   · rfl
                   simp only [Act.put, List.setIfInBounds_toArray, List.set_cons_zero, List.set_cons_succ]))
              refine wpRel_nil ?_
              intro W3 hW3
              have HE3 := Lib.hid (HB.out.trans ((Ext.refl _).drew.trans hW3.1))
              clear hW3 c0 c1 c2 c3 c4 gc0 gc1 gc2 gc3 gc4 e0 e1 e2 e3 e4 ge0 ge1 ge2 ge3 ge4
              go_wp2_with fail
              go_roundw
              case rel => exact ⟨k + 1, by go_num, by omega, by rw [range_all_succ, HCC.out, HF.out, ← HY.out, HO.out]; simpa using HCD.out, HE3.out⟩
              case measure => simp [intOf] <;> omega
            | true =>
              have hnk : (n != (k : Int)) = true := by rw [bne_iff_ne]; exact fun h => absurd (HFI.out.1 h) (by simp)
              have HBD := Lib.hid (okLW_false hlt (by rw [HCC.out]; simp))
              go_wp2_with fail
              refine wp_region_rel_all (fun i => if i = 4 then some (spV (.bool true)) else if i = 19 then some (spV (.bool true)) else if i = 35 then some (spV (.int .i64 n)) else none) (by kernel_rfl) (by kernel_rfl) ?_
              repeat (first
                | (refine wpRel_quick ?_ ?_ ?_ ?_
                   · rfl
                   · rfl
                   · first | exact noEnter rfl | (intro f args W W'; go_simp)
                   intro K hK
                   go_big_quiet_op
                   go_big_quiet_on)
                | (refine wpRel_skip ?_ ?_
                   · rfl
                   simp only [Act.put, List.setIfInBounds_toArray, List.set_cons_zero, List.set_cons_succ]))
              refine wpRel_rich _ rfl rfl (fun W hW => ?_) (fun v W3 hW3 hv => ?_)
              · have hc := (HF.out ▸ validR_any x W)
                go_simp
                refine Calls.mono hc ?_
                rintro e w' ⟨rfl, h⟩
                exact ⟨_, rfl, rfl, by first | exact h | (subst h; exact Ext.refl _)⟩
              obtain rfl := hv
              clear hW3
              simp only [Act.put, List.setIfInBounds_toArray, List.set_cons_zero, List.set_cons_succ]
              repeat (first
                | (refine wpRel_quick ?_ ?_ ?_ ?_
                   · rfl
                   · rfl
                   · first | exact noEnter rfl | (intro f args W W'; go_simp)
                   intro K hK
                   go_big_quiet_op
                   go_big_quiet_on)
                | (refine wpRel_skip ?_ ?_
                   · rfl
                   simp only [Act.put, List.setIfInBounds_toArray, List.set_cons_zero, List.set_cons_succ]))
              refine wpRel_rich _ rfl rfl (fun W hW => ?_) (fun v W3 hW3 hv => ?_)
              · have hc := (hd ▸ prec_any y x W)
                go_simp
                refine Calls.mono hc ?_
                rintro e w' ⟨rfl, h⟩
                exact ⟨_, rfl, rfl, by first | exact h | (subst h; exact Ext.refl _)⟩
              obtain rfl := hv
              clear hW3
              simp only [Act.put, List.setIfInBounds_toArray, List.set_cons_zero, List.set_cons_succ]
              repeat (first
                | (refine wpRel_quick ?_ ?_ ?_ ?_
                   · rfl
                   · rfl
                   · first | exact noEnter rfl | (intro f args W W'; go_simp)
                   intro K hK
                   go_big_quiet_op
                   go_big_quiet_on)
                | (refine wpRel_skip ?_ ?_
                   · rfl
                   simp only [Act.put, List.setIfInBounds_toArray, List.set_cons_zero, List.set_cons_succ]))
              refine wpRel_rich _ rfl rfl (fun W hW => ?_) (fun v W3 hW3 hv => ?_)
              · have hc := HIX.out W ((Ext.refl wr).drew.trans hW.1)
                go_simp
                refine Calls.mono hc ?_
                rintro e w' ⟨rfl, h⟩
                exact ⟨_, rfl, rfl, by first | exact h | (subst h; exact Ext.refl _)⟩
              obtain rfl := hv
              clear hW3
              simp only [Act.put, List.setIfInBounds_toArray, List.set_cons_zero, List.set_cons_succ]
              repeat (first
                | (refine wpRel_quick ?_ ?_ ?_ ?_
                   · rfl
                   · rfl
                   · first | exact noEnter rfl | (intro f args W W'; go_simp)
                   intro K hK
                   go_big_quiet_op
                   go_big_quiet_on)
                | (refine wpRel_skip ?_ ?_
                   · rfl
                   simp only [Act.put, List.setIfInBounds_toArray, List.set_cons_zero, List.set_cons_succ]))
              refine wpRel_nil ?_
              intro W3 hW3
              have HE3 := Lib.hid (HB.out.trans ((Ext.refl _).drew.trans hW3.1))
              clear hW3 c0 c1 c2 c3 c4 gc0 gc1 gc2 gc3 gc4 e0 e1 e2 e3 e4 ge0 ge1 ge2 ge3 ge4
              go_wp2_with fail
              go_ret
              exact ⟨by rw [HBD.out]; rfl, HE3.out⟩
          · have hd : decide (cmpW y x < 0) = false := decide_eq_false hc
            have HBD : Hid (checkW l = 260) := Lib.hid (okLW_false hlt (by rw [HCC.out, HF.out, ← HY.out]; simp; intro h; exact absurd h hc))
            clear hc
            go_wp2_with fail
            refine wp_region_rel_all (fun i => if i = 4 then some (spV (.bool true)) else if i = 19 then some (spV (.bool false)) else none) (by kernel_rfl) (by kernel_rfl) ?_
            repeat (first
              | (refine wpRel_quick ?_ ?_ ?_ ?_
                 · rfl
                 · rfl
                 · first | exact noEnter rfl | (intro f args W W'; go_simp)
                 intro K hK
                 go_big_quiet_op
                 go_big_quiet_on)
              | (refine wpRel_skip ?_ ?_
                 · rfl
                 simp only [Act.put, List.setIfInBounds_toArray, List.set_cons_zero, List.set_cons_succ]))
            refine wpRel_rich _ rfl rfl (fun W hW => ?_) (fun v W3 hW3 hv => ?_)
            · have hc := (HF.out ▸ validR_any x W)
              go_simp
              refine Calls.mono hc ?_
              rintro e w' ⟨rfl, h⟩
              exact ⟨_, rfl, rfl, by first | exact h | (subst h; exact Ext.refl _)⟩
            obtain rfl := hv
            clear hW3
            simp only [Act.put, List.setIfInBounds_toArray, List.set_cons_zero, List.set_cons_succ]
            repeat (first
              | (refine wpRel_quick ?_ ?_ ?_ ?_
                 · rfl
                 · rfl
                 · first | exact noEnter rfl | (intro f args W W'; go_simp)
                 intro K hK
                 go_big_quiet_op
                 go_big_quiet_on)
              | (refine wpRel_skip ?_ ?_
                 · rfl
                 simp only [Act.put, List.setIfInBounds_toArray, List.set_cons_zero, List.set_cons_succ]))
            refine wpRel_rich _ rfl rfl (fun W hW => ?_) (fun v W3 hW3 hv => ?_)
            · have hc := (hd ▸ prec_any y x W)
              go_simp
              refine Calls.mono hc ?_
              rintro e w' ⟨rfl, h⟩
              exact ⟨_, rfl, rfl, by first | exact h | (subst h; exact Ext.refl _)⟩
            obtain rfl := hv
            clear hW3
            simp only [Act.put, List.setIfInBounds_toArray, List.set_cons_zero, List.set_cons_succ]
            repeat (first
              | (refine wpRel_quick ?_ ?_ ?_ ?_
                 · rfl
                 · rfl
                 · first | exact noEnter rfl | (intro f args W W'; go_simp)
                 intro K hK
                 go_big_quiet_op
                 go_big_quiet_on)
              | (refine wpRel_skip ?_ ?_
                 · rfl
                 simp only [Act.put, List.setIfInBounds_toArray, List.set_cons_zero, List.set_cons_succ]))
            refine wpRel_nil ?_
            intro W3 hW3
            have HE3 := Lib.hid (HB.out.trans ((Ext.refl _).drew.trans hW3.1))
            clear hW3 c0 c1 c2 c3 c4 gc0 gc1 gc2 gc3 gc4 e0 e1 e2 e3 e4 ge0 ge1 ge2 ge3 ge4
            go_wp2_with fail
            go_ret
            exact ⟨by rw [HBD.out]; rfl, HE3.out⟩
    · have hki : ¬ (k : Int) < (l.length : Int) := by omega
      have HBD : Hid (checkW l = 0) := Lib.hid (by
        have : k = l.length := by omega
        unfold checkW okLW
        rw [← this, HO.out, if_pos rfl])
      go_wp2_with fail
      go_ret
      exact ⟨by rw [HBD.out]; rfl, HB.out⟩
end Go.Proofs.Ytbhpeecebcihkaa
