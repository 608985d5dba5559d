/- Waiting: Join of the reference. -/
import Derived.Test.YtbhpeecebcihkaaW9
import Derived.Test.YtbhpeecebcihkaaRG3
namespace Go.Sz
open Go.RowKit
theorem hasW_find {l : List Wt} {x : Wt} : (hasW l x = true → ∃ i : Nat, findW l (isW x.s x.a x.b) = i) ∧ (hasW l x = false → findW l (isW x.s x.a x.b) = -1) := by
  unfold hasW
  rcases findW_or l (isW x.s x.a x.b) with h | ⟨i, hi, h, hp⟩
  · refine ⟨fun h1 => ?_, fun _ => h⟩
    have := (findW_neg (l := l) (P := isW x.s x.a x.b)).1 (by omega)
    rw [this] at h1
    cases h1
  · refine ⟨fun _ => ⟨i, h⟩, fun h1 => ?_⟩
    rw [List.any_eq_false] at h1
    exact absurd hp (h1 _ (List.getElem_mem hi))
theorem PosW.of {l : List Wt} {x : Wt} {k : Nat} (hs : SortW l) (hk : k ≤ l.length) (hlt : ∀ t (h : t < l.length), t < k → cmpW l[t] x < 0) (hge : ∀ h : k < l.length, ¬ cmpW l[k] x < 0) : PosW l x k :=
  ⟨hk, hlt, fun t ht hkt => Int.not_lt.1 fun hc => hge (by omega) (hs.mono x k t ht hkt hc)⟩
theorem sl_flat {w : World} {n b : Nat} : ∀ (rows : List (List Value)) (o : Nat), (∀ r ∈ rows, r.length = n) → (∀ (i j : Nat) (r : List Value) (u : Value), rows[i]? = some r → r[j]? = some u → w.cell? ⟨b, o + i * n + j, none⟩ = some u) → ∀ (j : Nat) (u : Value), rows.flatten[j]? = some u → w.cell? ⟨b, o + j, none⟩ = some u
  | [], _, _, _, j, u, hu => by simp at hu
  | r :: rs, o, hw, hc, j, u, hu => by
    have hr := hw r (by simp)
    rw [List.flatten_cons] at hu
    by_cases hj : j < r.length
    · rw [List.getElem?_append_left hj] at hu
      simpa using hc 0 j r u rfl hu
    · rw [List.getElem?_append_right (by omega)] at hu
      have := sl_flat rs (o + n) (fun x hx => hw x (by simp [hx])) (fun i j r u h1 h2 => by
        have := hc (i + 1) j r u (by simpa using h1) h2
        rwa [show o + n + i * n + j = o + (i + 1) * n + j by rw [Nat.add_mul]; omega]) (j - r.length) u hu
      rwa [show o + n + (j - r.length) = o + j by omega] at this
theorem w_flat {w : World} {b o cap : Nat} {l : List Wt} (h : RepW w (some ⟨b, o, none⟩) cap l) {j : Nat} {u : Value} (hu : (wrows l).flatten[j]? = some u) : w.cell? ⟨b, o + j, none⟩ = some u :=
  sl_flat (wrows l) o (wrows_wid l) (fun _ _ _ _ h1 h2 => SL.cellAt h h1 h2) j u hu
theorem l_cases {w : World} {ao : Option Addr} {cap : Nat} {l : List Wt} (h : RepW w ao cap l) : l = [] ∨ ∃ b o, ao = some ⟨b, o, none⟩ := by
  cases l with
  | nil => exact .inl rfl
  | cons x l =>
    obtain ⟨b, o, e, _⟩ := SL.at h (by omega) 0 (by simp [wrows])
    exact .inr ⟨b, o, e⟩
end Go.Sz
namespace Go.Proofs.Ytbhpeecebcihkaa
open Go.RowKit Go.Sz
theorem o_src {w : World} {ao : Option Addr} {cap : Nat} {l : List Wt} (h : RepW w ao cap l) : Src Try.prog 5 22 (.slice ao l.length cap) l.length (wrows l).flatten w := by
  have := SL.src (P := Try.prog) h (by omega) (tx := 22) Try.underlying22 (wrows_one l)
  rwa [wrows_length] at this
theorem o_src_take {w : World} {b o cap k : Nat} {l : List Wt} (h : RepW w (some ⟨b, o, none⟩) cap l) (hk : k ≤ l.length) (c : Nat) : Src Try.prog 5 22 (.slice (some ⟨b, o, none⟩) k c) k (wrows (l.take k)).flatten w :=
  Src.ofSlice w Try.underlying22 _ k c _ (by rw [wflat_len, List.length_take, Nat.min_eq_left hk]) (fun j u hu => by
    rw [wrows_take, flatten_take (wrows_wid l), List.getElem?_take] at hu
    rw [Addr.add_lit]
    split at hu
    · exact w_flat h hu
    · cases hu) (wflat_one _)
theorem o_src_drop {w : World} {b o cap k : Nat} {l : List Wt} (h : RepW w (some ⟨b, o, none⟩) cap l) (c : Nat) : Src Try.prog 5 22 (.slice (some ⟨b, o + k * 5, none⟩) (l.length - k) c) (l.length - k) (wrows (l.drop k)).flatten w :=
  Src.ofSlice w Try.underlying22 _ _ c _ (by rw [wflat_len, List.length_drop]) (fun j u hu => by
    rw [wrows_drop, flatten_drop (wrows_wid l), List.getElem?_drop] at hu
    rw [Addr.add_lit, Nat.add_assoc]
    exact w_flat h hu) (wflat_one _)
theorem o_src_none {w : World} {b o k : Nat} {l : List Wt} (hk : l.length ≤ k) (c : Nat) : Src Try.prog 5 22 (.slice (some ⟨b, o, none⟩) (l.length - k) c) (l.length - k) (wrows (l.drop k)).flatten w := by
  rw [List.drop_of_length_le hk, show l.length - k = 0 by omega]
  exact Src.ofSlice w Try.underlying22 _ 0 c [] (by simp) (by simp) (by simp)
set_option maxRecDepth 100000 in
set_option maxHeartbeats 6400000 in
theorem refJoin_any (l : List Wt) (x : Wt) (ao : Option Addr) (cap : Nat) (w : World) (h : RepW w ao cap l) (hb : l.length ≤ 100000) : Calls Try.prog 13 #[.slice ao l.length cap, .agg x.enc.toArray] w (RetLE (joinW l x) w) := by
  obtain ⟨i0, hi, hz0, hz1, hz2⟩ := info_parts infoW
  have hX0 : Ext w (w.alloc (.cells #[.int .i64 x.s, .int .i64 x.a, .int .i64 x.b, .int .i64 x.k, .int .i64 x.t] 26)) := (Ext.refl w).alloc _
  have HL := Lib.hid (h.ext hX0)
  have hs1 := h.max
  have hc1 : (cap : Int) ≤ 9223372036854775807 := by have := SL.max h; omega
  have hc2 : (l.length : Int) ≤ (cap : Int) := by have := SL.le h; rw [wrows_length] at this; omega
  have d0 : (w.alloc (.cells #[.int .i64 x.s, .int .i64 x.a, .int .i64 x.b, .int .i64 x.k, .int .i64 x.t] 26)).cell? ⟨w.heap.size, 0, none⟩ = some (.int .i64 x.s) := by simp
  have d1 : (w.alloc (.cells #[.int .i64 x.s, .int .i64 x.a, .int .i64 x.b, .int .i64 x.k, .int .i64 x.t] 26)).cell? ⟨w.heap.size, 1, none⟩ = some (.int .i64 x.a) := by simp
  have d2 : (w.alloc (.cells #[.int .i64 x.s, .int .i64 x.a, .int .i64 x.b, .int .i64 x.k, .int .i64 x.t] 26)).cell? ⟨w.heap.size, 2, none⟩ = some (.int .i64 x.b) := by simp
  have d3 : (w.alloc (.cells #[.int .i64 x.s, .int .i64 x.a, .int .i64 x.b, .int .i64 x.k, .int .i64 x.t] 26)).cell? ⟨w.heap.size, 3, none⟩ = some (.int .i64 x.k) := by simp
  have d4 : (w.alloc (.cells #[.int .i64 x.s, .int .i64 x.a, .int .i64 x.b, .int .i64 x.k, .int .i64 x.t] 26)).cell? ⟨w.heap.size, 4, none⟩ = some (.int .i64 x.t) := by simp
  have HD : Hid (∀ W, Ext (w.alloc (.cells #[.int .i64 x.s, .int .i64 x.a, .int .i64 x.b, .int .i64 x.k, .int .i64 x.t] 26)) W → W.cell? ⟨w.heap.size, 0, none⟩ = some (.int .i64 x.s) ∧ W.cell? ⟨w.heap.size, 1, none⟩ = some (.int .i64 x.a) ∧ W.cell? ⟨w.heap.size, 2, none⟩ = some (.int .i64 x.b) ∧ W.cell? ⟨w.heap.size, 3, none⟩ = some (.int .i64 x.k) ∧ W.cell? ⟨w.heap.size, 4, none⟩ = some (.int .i64 x.t)) := Lib.hid fun W hE => ⟨hE.cell d0, hE.cell d1, hE.cell d2, hE.cell d3, hE.cell d4⟩
  have HX0 := Lib.hid hX0
  have HBB := Lib.hid hb
  have HMK : Hid (joinW l x = if okLW l = true then (if okW x = true then (if hasW l x = true then ([], 260) else (insW l (posW l x) x, 0)) else ([], 260)) else ([], 260)) := Lib.hid rfl
  have HCV : Hid (checkW l = if okLW l = true then 0 else 260) := Lib.hid rfl
  have HHF := Lib.hid (hasW_find (l := l) (x := x))
  clear h hX0 d0 d1 d2 d3 d4 hb
  unfold Wt.enc
  generalize joinW l x = r at *
  cases hok : okLW l with
  | false =>
    have HR : Hid (r = ([], 260)) := Lib.hid (by rw [HMK.out, hok]; rfl)
    have HC : Hid (checkW l = 260) := Lib.hid (by rw [HCV.out, hok]; rfl)
    clear hok
    go_enter Try.func13, Try.ntmps13
    go_wp2_with (go_at_call 18; refine (refCheckW_any l _ _ _ HL.out).mono ?_; rintro e w1 ⟨rfl, hE1⟩; rw [HC.out])
    go_ret2
    exact ⟨none, 0, by rw [HR.out]; rfl, by rw [HR.out]; exact RepW.empty _, HX0.out.trans hE1⟩
  | true =>
    have HOK := Lib.hid hok
    have HC : Hid (checkW l = 0) := Lib.hid (by rw [HCV.out, hok]; rfl)
    have HST := Lib.hid (okLW_iff.1 hok).2.1
    clear hok
    cases hf : okW x with
    | false =>
      have HR : Hid (r = ([], 260)) := Lib.hid (by rw [HMK.out, HOK.out, hf]; rfl)
      have HF := Lib.hid hf
      clear hf
      go_enter Try.func13, Try.ntmps13
      go_wp2_with (first
        | (go_at_call 18; refine (refCheckW_any l _ _ _ HL.out).mono ?_; rintro e w1' ⟨rfl, hE1⟩; rw [HC.out]; have HE1 := Lib.hid hE1; clear hE1; obtain ⟨d0, d1, d2, d3, d4⟩ := HD.out _ HE1.out)
        | (go_at_call 34; refine (validR_any x _).mono ?_; rintro e w2 ⟨rfl, hE2⟩; rw [HF.out]; have HE2 := Lib.hid (HE1.out.trans hE2); clear hE2))
      go_ret2
      exact ⟨none, 0, by rw [HR.out]; rfl, by rw [HR.out]; exact RepW.empty _, HX0.out.trans HE2.out⟩
    | true =>
      have HF := Lib.hid hf
      clear hf
      cases hh : hasW l x with
      | true =>
        have HR : Hid (r = ([], 260)) := Lib.hid (by rw [HMK.out, HOK.out, HF.out, hh]; rfl)
        obtain ⟨i, hfi⟩ := HHF.out.1 hh
        have HFI := Lib.hid hfi
        clear hh hfi
        go_enter Try.func13, Try.ntmps13
        go_wp2_with (first
        | (go_at_call 18; refine (refCheckW_any l _ _ _ HL.out).mono ?_; rintro e w1' ⟨rfl, hE1⟩; rw [HC.out]; have HE1 := Lib.hid hE1; clear hE1; obtain ⟨d0, d1, d2, d3, d4⟩ := HD.out _ HE1.out)
        | (go_at_call 34; refine (validR_any x _).mono ?_; rintro e w2 ⟨rfl, hE2⟩; rw [HF.out]; have HE2 := Lib.hid (HE1.out.trans hE2); clear hE2 d0 d1 d2 d3 d4; obtain ⟨d0, d1, d2, d3, d4⟩ := HD.out _ HE2.out)
        | (go_at_call 35; refine (index_any l x.s x.a x.b _ _ _ (HL.out.ext HE2.out)).mono ?_; rintro e w3 ⟨rfl, hE3⟩; rw [HFI.out]; have HE3 := Lib.hid (HE2.out.trans hE3); clear hE3 d0 d1 d2 d3 d4))
        go_ret2
        exact ⟨none, 0, by rw [HR.out]; rfl, by rw [HR.out]; exact RepW.empty _, HX0.out.trans HE3.out⟩
      | false =>
        have HR : Hid (r = (insW l (posW l x) x, 0)) := Lib.hid (by rw [HMK.out, HOK.out, HF.out, hh]; rfl)
        have HFI := Lib.hid (HHF.out.2 hh)
        clear hh
        go_enter Try.func13, Try.ntmps13
        go_wp2_with (first
        | (go_at_call 18; refine (refCheckW_any l _ _ _ HL.out).mono ?_; rintro e w1' ⟨rfl, hE1⟩; rw [HC.out]; have HE1 := Lib.hid hE1; clear hE1; obtain ⟨d0, d1, d2, d3, d4⟩ := HD.out _ HE1.out)
        | (go_at_call 34; refine (validR_any x _).mono ?_; rintro e w2 ⟨rfl, hE2⟩; rw [HF.out]; have HE2 := Lib.hid (HE1.out.trans hE2); clear hE2 d0 d1 d2 d3 d4; obtain ⟨d0, d1, d2, d3, d4⟩ := HD.out _ HE2.out)
        | (go_at_call 35; refine (index_any l x.s x.a x.b _ _ _ (HL.out.ext HE2.out)).mono ?_; rintro e w3 ⟨rfl, hE3⟩; rw [HFI.out]; have HE3 := Lib.hid (HE2.out.trans hE3); clear hE3 d0 d1 d2 d3 d4))
        generalize (w.alloc (.cells #[.int .i64 x.s, .int .i64 x.a, .int .i64 x.b, .int .i64 x.k, .int .i64 x.t] 26)) = w1 at *
        rcases l_cases HL.out with hl0 | ⟨bb, o, rfl⟩
        · have hlen : l.length = 0 := by rw [hl0]; rfl
          have HL0 := Lib.hid hl0
          have HP : Hid (PosW l x 0) := Lib.hid ⟨by omega, fun t h => by omega, fun t h => by omega⟩
          clear hl0
          go_loopw [6] (fun iv wr => iv = .int .i64 0 ∧ Ext w1 wr) (fun _ _ => 0)
          case atStart => exact ⟨rfl, HE3.out⟩
          case round =>
            obtain ⟨rfl, hB⟩ := hrel
            have HBW := Lib.hid hB
            clear hB HE1 HE2 HE3
            obtain ⟨d0, d1, d2, d3, d4⟩ := HD.out wr HBW.out
            have gd0 := grow_cell d0
            have gd1 := grow_cell d1
            have gd2 := grow_cell d2
            have gd3 := grow_cell d3
            have gd4 := grow_cell d4
            go_wp2_with fail
            refine wp_region_rel_all (fun _ => none) (by kernel_rfl) (by kernel_rfl) ?_
            repeat (first
              | (refine wpRel_quick ?_ ?_ ?_ ?_
                 · rfl
                 · rfl
                 · first | exact noEnter rfl | (intro f args W W'; go_simp)
                 intro K hK
                 go_big_quiet_op
                 go_big_quiet_on)
              | (refine wpRel_skip ?_ ?_
                 · rfl
                 simp only [Act.put, List.setIfInBounds_toArray, List.set_cons_zero, List.set_cons_succ]))
            refine wpRel_nil ?_
            intro W3 hW3
            have HE3 := Lib.hid (HBW.out.trans ((Ext.refl _).drew.trans hW3.1))
            clear hW3 gd0 gd1 gd2 gd3 gd4 d0 d1 d2 d3 d4 HBW
            have HBW := HE3
            go_wp2_with fail
            obtain ⟨wo, hwo⟩ : ∃ wo, wo = wr := ⟨_, rfl⟩
            subst hwo
            obtain ⟨wr, hwr⟩ : ∃ wr, wr = W3 := ⟨_, rfl⟩
            subst hwr
            cases ao with
            | none =>
              have HSRC1 : Hid (∀ W, Ext w1 W → Src Try.prog 5 22 (.slice none 0 cap) 0 (wrows (l.take 0)).flatten W) := Lib.hid fun W hE => Src.ofNil W Try.underlying22 cap
              have HSRC2 : Hid (∀ W, Ext w1 W → Src Try.prog 5 22 (.slice none 0 cap) 0 (wrows (l.drop 0)).flatten W) := Lib.hid fun W hE => by rw [HL0.out]; exact Src.ofNil W Try.underlying22 cap
              obtain ⟨d0, d1, d2, d3, d4⟩ := HD.out wr HBW.out
              have gd0 := grow_cell d0
              have gd1 := grow_cell d1
              have gd2 := grow_cell d2
              have gd3 := grow_cell d3
              have gd4 := grow_cell d4
              have hkl := HP.out.le
              have hki2 : (0 : Int) ≤ (l.length : Int) := by omega
              have hk0 : (0 : Int) ≤ (0 : Int) := by omega
              have HR2 : Hid (r = (insW l 0 x, 0)) := Lib.hid (by rw [HR.out, HP.out.eq])
              refine wp_region_noPanic ?_
              refine wp_region_relE (fun i => if i = 0 then some (spE wr.heap.size 26 5) else if i = 4 then some (spOwn wr.heap.size 26 5 0 (wrows (l.take 0))) else if i = 6 then some (spVar5 wr.heap.size 26 x) else none) 7 4 [8, 9, 10] (by kernel_rfl) (by kernel_rfl) (fun _ _ _ _ _ h => h) ?_
              apply earlyOK.cons (.slice none 0 cap)
              · simp only [List.getElem?_toArray, List.getElem?_cons_succ, List.getElem?_cons_zero]
                rfl
              · exact .inl ⟨rfl, fun w => by go_simp⟩
              simp only [Act.put, List.setIfInBounds_toArray, List.set_cons_zero, List.set_cons_succ]
              apply earlyOK.cons (.int .i64 (0))
              · simp only [List.getElem?_toArray, List.getElem?_cons_succ, List.getElem?_cons_zero]
                rfl
              · exact .inl ⟨rfl, fun w => by go_simp⟩
              simp only [Act.put, List.setIfInBounds_toArray, List.set_cons_zero, List.set_cons_succ]
              apply earlyOK.cons (.slice none 0 cap)
              · simp only [List.getElem?_toArray, List.getElem?_cons_succ, List.getElem?_cons_zero]
                rfl
              · exact .inl ⟨rfl, fun w => by go_simp⟩
              simp only [Act.put, List.setIfInBounds_toArray, List.set_cons_zero, List.set_cons_succ]
              simp only [List.take_succ_cons, List.take_zero]
              refine wpRel_rich _ rfl rfl (fun W hW => ?_) (fun v W1 hW1 hv => ?_)
              · go_simp
                exact ⟨⟨_, rfl, own_empty W _ hW.1.size _ _⟩, (Ext.refl _).alloc _⟩
              obtain ⟨g0, rfl, _⟩ := hv
              clear hW1
              simp only [Act.put, List.setIfInBounds_toArray, List.set_cons_zero, List.set_cons_succ]
              repeat (first
                | (refine wpRel_quick ?_ ?_ ?_ ?_
                   · rfl
                   · rfl
                   · first | exact noEnter rfl | (intro f args W W'; go_simp)
                   intro K hK
                   go_big_quiet_op
                   go_big_quiet_on)
                | (refine wpRel_skip ?_ ?_
                   · rfl
                   simp only [Act.put, List.setIfInBounds_toArray, List.set_cons_zero, List.set_cons_succ]))
              refine wpRel_rich _ rfl rfl (fun W hW => ?_) (fun v W2 hW2 hv => ?_)
              · obtain ⟨g1, hg1, ho⟩ := hW.2 0 (by unfold Anc; kernel_rfl) _ _ rfl rfl
                have hx : Ext wr W := (Ext.refl wr).drew.trans hW.1
                refine g_append_fresh _ _ 22 22 rfl 26 i0 _ 5 40 Try.underlying22 hi hz0 hz1 hz2 rfl (by omega) _ hx.size g0 rfl ho _ 0 (wrows (l.take 0)) rfl ?_ (wrows_wid _) (by rw [wrows_length, List.length_take]; omega) (by have := HBB.out; unfold maxLen; omega) (by have := HBB.out; omega)
                exact HSRC1.out W (HBW.out.trans hx)
              clear hW2
              have hv' : W2.ownsRow wr.heap.size 26 5 v 0 (wrows (l.take 0)).flatten := hv
              obtain ⟨ac, cc, rfl, _, _⟩ := RepW.of_own hv' (by rw [List.length_take]; omega)
              clear hv hv'
              simp only [Act.put, List.setIfInBounds_toArray, List.set_cons_zero, List.set_cons_succ]
              repeat (first
                | (refine wpRel_quick ?_ ?_ ?_ ?_
                   · rfl
                   · rfl
                   · first | exact noEnter rfl | (intro f args W W'; go_simp)
                   intro K hK
                   go_big_quiet_op
                   go_big_quiet_on)
                | (refine wpRel_skip ?_ ?_
                   · rfl
                   simp only [Act.put, List.setIfInBounds_toArray, List.set_cons_zero, List.set_cons_succ]))
              refine wpRel_rich _ rfl rfl (fun W hW => ?_) (fun v3 W3 hW3 hv3 => ?_)
              · have hx : Ext wr W := (Ext.refl wr).drew.trans hW.1
                go_simp
                exact ⟨⟨_, rfl, hx.size, heap_alloc_new W _⟩, (Ext.refl _).alloc _⟩
              obtain ⟨vb, rfl, _, _⟩ := hv3
              clear hW3
              simp only [Act.put, List.setIfInBounds_toArray, List.set_cons_zero, List.set_cons_succ]
              refine wpRel_nil ?_
              intro W hW
              have ho3 : W.ownsRow wr.heap.size 26 5 (.slice ac 0 cc) 0 (wrows (l.take 0)).flatten := hW.2 4 trivial _ _ rfl rfl
              obtain ⟨vb', he, _, hvb⟩ := hW.2 6 trivial _ _ rfl rfl
              cases he
              have hE : Ext wr W := (Ext.refl wr).drew.trans hW.1
              have HSV : Hid (Src Try.prog 5 22 (.slice (some ⟨vb, 0, none⟩) 1 1) 1 x.enc W) := Lib.hid (Src.ofSlice W Try.underlying22 _ 1 1 _ (by rw [enc_len]) (fun j u hu => cells_of_heap hvb 0 j u (by simpa using hu)) (enc_one x))
              have HO3 := Lib.hid ho3
              have HE := Lib.hid hE
              clear hW ho3 hvb hE gd0 gd1 gd2 gd3 gd4 d0 d1 d2 d3 d4
              refine wpAny_ready (rs := [7]) (by kernel_rfl) (by simp) ?_
              refine AllReady.cons rfl (fun K hK => ?_) AllReady.nil
              refine step_append_S rfl _ _ 22 22 rfl wr.heap.size 26 i0 _ 5 40 Try.underlying22 hi hz0 hz1 hz2 rfl _ 0 _ rfl HO3.out _ 1 x.enc rfl HSV.out (by have := HBB.out; unfold maxLen; omega) (by have := HBB.out; omega) HE.out.size ?_
              intro v6 w6 ho6 hg6
              refine hK _ _ ?_
              clear hK K
              have hB6 : Below wr.heap.size wr w6 := Below.trans HE.out ((Below.refl _ W).grown hg6.by_ HE.out.size (ownsRow_blocks HO3.out))
              have HO6 := Lib.hid ho6
              have HB6 := Lib.hid hB6
              clear ho6 hg6 hB6
              have HSRC3 := Lib.hid (HSRC2.out w6 (HBW.out.trans HB6.out))
              refine wpAny_ready (rs := [11]) (by kernel_rfl) (by simp) ?_
              refine AllReady.cons rfl (fun K hK => ?_) AllReady.nil
              refine step_append_S rfl _ _ 22 22 rfl wr.heap.size 26 i0 _ 5 40 Try.underlying22 hi hz0 hz1 hz2 rfl _ (0 + 1) _ rfl HO6.out _ 0 (wrows (l.drop 0)).flatten rfl HSRC3.out (by have := HBB.out; unfold maxLen; omega) (by have := HBB.out; omega) HB6.out.size ?_
              intro v7 w7 ho7 hg7
              refine hK _ _ ?_
              clear hK K
              have HO7 := Lib.hid ho7
              have HG7 := Lib.hid hg7
              clear ho7 hg7
              refine wpAny_ready (rs := [12]) (by kernel_rfl) (by simp) ?_
              refine AllReady.cons rfl (fun K hK => ?_) AllReady.nil
              go_simp
              refine hK _ _ ?_
              clear hK K
              refine wpAny_ready (rs := [13]) (by kernel_rfl) (by simp) ?_
              refine AllReady.cons rfl (fun K hK => ?_) AllReady.nil
              go_simp
              refine hK _ _ ?_
              clear hK K
              refine wpAny_done (by kernel_rfl) ?_ _
              refine NoPanic.normal ?_
              go_wp2_with fail
              go_ret2
              have ho8 : w7.ownsRow wr.heap.size 26 5 v7 (insW l 0 x).length (wrows (insW l 0 x)).flatten := by
                rw [insW_len, wins_flat, show l.length + 1 = 0 + 1 + 0 by omega]
                exact HO7.out
              obtain ⟨ao5, cap5, hv5, hR5, _⟩ := RepW.of_own ho8 rfl
              refine ⟨ao5, cap5, by rw [HR2.out, hv5]; rfl, by rw [HR2.out]; exact hR5, HX0.out.trans (HBW.out.trans (Below.trans HB6.out ((Below.refl _ w6).grown HG7.out.by_ HB6.out.size (ownsRow_blocks HO6.out))))⟩
            | some a =>
              have HSRC1 : Hid (∀ W, Ext w1 W → Src Try.prog 5 22 (.slice (some a) 0 cap) 0 (wrows (l.take 0)).flatten W) := Lib.hid fun W hE => Src.ofSlice W Try.underlying22 a 0 cap [] (by simp) (by simp) (by simp)
              have HSRC2 : Hid (∀ W, Ext w1 W → Src Try.prog 5 22 (.slice (some a) 0 cap) 0 (wrows (l.drop 0)).flatten W) := Lib.hid fun W hE => by rw [HL0.out]; exact Src.ofSlice W Try.underlying22 a 0 cap [] (by simp) (by simp) (by simp)
              obtain ⟨d0, d1, d2, d3, d4⟩ := HD.out wr HBW.out
              have gd0 := grow_cell d0
              have gd1 := grow_cell d1
              have gd2 := grow_cell d2
              have gd3 := grow_cell d3
              have gd4 := grow_cell d4
              have hkl := HP.out.le
              have hki2 : (0 : Int) ≤ (l.length : Int) := by omega
              have hk0 : (0 : Int) ≤ (0 : Int) := by omega
              have HR2 : Hid (r = (insW l 0 x, 0)) := Lib.hid (by rw [HR.out, HP.out.eq])
              refine wp_region_noPanic ?_
              refine wp_region_relE (fun i => if i = 0 then some (spE wr.heap.size 26 5) else if i = 4 then some (spOwn wr.heap.size 26 5 0 (wrows (l.take 0))) else if i = 6 then some (spVar5 wr.heap.size 26 x) else none) 7 4 [8, 9, 10] (by kernel_rfl) (by kernel_rfl) (fun _ _ _ _ _ h => h) ?_
              apply earlyOK.cons (.slice (some a) 0 cap)
              · simp only [List.getElem?_toArray, List.getElem?_cons_succ, List.getElem?_cons_zero]
                rfl
              · exact .inl ⟨rfl, fun w => by go_simp⟩
              simp only [Act.put, List.setIfInBounds_toArray, List.set_cons_zero, List.set_cons_succ]
              apply earlyOK.cons (.int .i64 (0))
              · simp only [List.getElem?_toArray, List.getElem?_cons_succ, List.getElem?_cons_zero]
                rfl
              · exact .inl ⟨rfl, fun w => by go_simp⟩
              simp only [Act.put, List.setIfInBounds_toArray, List.set_cons_zero, List.set_cons_succ]
              apply earlyOK.cons (.slice (some a) 0 cap)
              · simp only [List.getElem?_toArray, List.getElem?_cons_succ, List.getElem?_cons_zero]
                rfl
              · exact .inl ⟨rfl, fun w => by go_simp⟩
              simp only [Act.put, List.setIfInBounds_toArray, List.set_cons_zero, List.set_cons_succ]
              simp only [List.take_succ_cons, List.take_zero]
              refine wpRel_rich _ rfl rfl (fun W hW => ?_) (fun v W1 hW1 hv => ?_)
              · go_simp
                exact ⟨⟨_, rfl, own_empty W _ hW.1.size _ _⟩, (Ext.refl _).alloc _⟩
              obtain ⟨g0, rfl, _⟩ := hv
              clear hW1
              simp only [Act.put, List.setIfInBounds_toArray, List.set_cons_zero, List.set_cons_succ]
              repeat (first
                | (refine wpRel_quick ?_ ?_ ?_ ?_
                   · rfl
                   · rfl
                   · first | exact noEnter rfl | (intro f args W W'; go_simp)
                   intro K hK
                   go_big_quiet_op
                   go_big_quiet_on)
                | (refine wpRel_skip ?_ ?_
                   · rfl
                   simp only [Act.put, List.setIfInBounds_toArray, List.set_cons_zero, List.set_cons_succ]))
              refine wpRel_rich _ rfl rfl (fun W hW => ?_) (fun v W2 hW2 hv => ?_)
              · obtain ⟨g1, hg1, ho⟩ := hW.2 0 (by unfold Anc; kernel_rfl) _ _ rfl rfl
                have hx : Ext wr W := (Ext.refl wr).drew.trans hW.1
                refine g_append_fresh _ _ 22 22 rfl 26 i0 _ 5 40 Try.underlying22 hi hz0 hz1 hz2 rfl (by omega) _ hx.size g0 rfl ho _ 0 (wrows (l.take 0)) rfl ?_ (wrows_wid _) (by rw [wrows_length, List.length_take]; omega) (by have := HBB.out; unfold maxLen; omega) (by have := HBB.out; omega)
                exact HSRC1.out W (HBW.out.trans hx)
              clear hW2
              have hv' : W2.ownsRow wr.heap.size 26 5 v 0 (wrows (l.take 0)).flatten := hv
              obtain ⟨ac, cc, rfl, _, _⟩ := RepW.of_own hv' (by rw [List.length_take]; omega)
              clear hv hv'
              simp only [Act.put, List.setIfInBounds_toArray, List.set_cons_zero, List.set_cons_succ]
              repeat (first
                | (refine wpRel_quick ?_ ?_ ?_ ?_
                   · rfl
                   · rfl
                   · first | exact noEnter rfl | (intro f args W W'; go_simp)
                   intro K hK
                   go_big_quiet_op
                   go_big_quiet_on)
                | (refine wpRel_skip ?_ ?_
                   · rfl
                   simp only [Act.put, List.setIfInBounds_toArray, List.set_cons_zero, List.set_cons_succ]))
              refine wpRel_rich _ rfl rfl (fun W hW => ?_) (fun v3 W3 hW3 hv3 => ?_)
              · have hx : Ext wr W := (Ext.refl wr).drew.trans hW.1
                go_simp
                exact ⟨⟨_, rfl, hx.size, heap_alloc_new W _⟩, (Ext.refl _).alloc _⟩
              obtain ⟨vb, rfl, _, _⟩ := hv3
              clear hW3
              simp only [Act.put, List.setIfInBounds_toArray, List.set_cons_zero, List.set_cons_succ]
              refine wpRel_nil ?_
              intro W hW
              have ho3 : W.ownsRow wr.heap.size 26 5 (.slice ac 0 cc) 0 (wrows (l.take 0)).flatten := hW.2 4 trivial _ _ rfl rfl
              obtain ⟨vb', he, _, hvb⟩ := hW.2 6 trivial _ _ rfl rfl
              cases he
              have hE : Ext wr W := (Ext.refl wr).drew.trans hW.1
              have HSV : Hid (Src Try.prog 5 22 (.slice (some ⟨vb, 0, none⟩) 1 1) 1 x.enc W) := Lib.hid (Src.ofSlice W Try.underlying22 _ 1 1 _ (by rw [enc_len]) (fun j u hu => cells_of_heap hvb 0 j u (by simpa using hu)) (enc_one x))
              have HO3 := Lib.hid ho3
              have HE := Lib.hid hE
              clear hW ho3 hvb hE gd0 gd1 gd2 gd3 gd4 d0 d1 d2 d3 d4
              refine wpAny_ready (rs := [7]) (by kernel_rfl) (by simp) ?_
              refine AllReady.cons rfl (fun K hK => ?_) AllReady.nil
              refine step_append_S rfl _ _ 22 22 rfl wr.heap.size 26 i0 _ 5 40 Try.underlying22 hi hz0 hz1 hz2 rfl _ 0 _ rfl HO3.out _ 1 x.enc rfl HSV.out (by have := HBB.out; unfold maxLen; omega) (by have := HBB.out; omega) HE.out.size ?_
              intro v6 w6 ho6 hg6
              refine hK _ _ ?_
              clear hK K
              have hB6 : Below wr.heap.size wr w6 := Below.trans HE.out ((Below.refl _ W).grown hg6.by_ HE.out.size (ownsRow_blocks HO3.out))
              have HO6 := Lib.hid ho6
              have HB6 := Lib.hid hB6
              clear ho6 hg6 hB6
              have HSRC3 := Lib.hid (HSRC2.out w6 (HBW.out.trans HB6.out))
              refine wpAny_ready (rs := [11]) (by kernel_rfl) (by simp) ?_
              refine AllReady.cons rfl (fun K hK => ?_) AllReady.nil
              refine step_append_S rfl _ _ 22 22 rfl wr.heap.size 26 i0 _ 5 40 Try.underlying22 hi hz0 hz1 hz2 rfl _ (0 + 1) _ rfl HO6.out _ 0 (wrows (l.drop 0)).flatten rfl HSRC3.out (by have := HBB.out; unfold maxLen; omega) (by have := HBB.out; omega) HB6.out.size ?_
              intro v7 w7 ho7 hg7
              refine hK _ _ ?_
              clear hK K
              have HO7 := Lib.hid ho7
              have HG7 := Lib.hid hg7
              clear ho7 hg7
              refine wpAny_ready (rs := [12]) (by kernel_rfl) (by simp) ?_
              refine AllReady.cons rfl (fun K hK => ?_) AllReady.nil
              go_simp
              refine hK _ _ ?_
              clear hK K
              refine wpAny_ready (rs := [13]) (by kernel_rfl) (by simp) ?_
              refine AllReady.cons rfl (fun K hK => ?_) AllReady.nil
              go_simp
              refine hK _ _ ?_
              clear hK K
              refine wpAny_done (by kernel_rfl) ?_ _
              refine NoPanic.normal ?_
              go_wp2_with fail
              go_ret2
              have ho8 : w7.ownsRow wr.heap.size 26 5 v7 (insW l 0 x).length (wrows (insW l 0 x)).flatten := by
                rw [insW_len, wins_flat, show l.length + 1 = 0 + 1 + 0 by omega]
                exact HO7.out
              obtain ⟨ao5, cap5, hv5, hR5, _⟩ := RepW.of_own ho8 rfl
              refine ⟨ao5, cap5, by rw [HR2.out, hv5]; rfl, by rw [HR2.out]; exact hR5, HX0.out.trans (HBW.out.trans (Below.trans HB6.out ((Below.refl _ w6).grown HG7.out.by_ HB6.out.size (ownsRow_blocks HO6.out))))⟩
        · go_loopw [6] (fun iv wr => ∃ k : Nat, iv = .int .i64 k ∧ k ≤ l.length ∧ (∀ t (h : t < l.length), t < k → cmpW l[t] x < 0) ∧ Ext w1 wr) (fun iv _ => l.length - (intOf iv).toNat)
          case atStart => exact ⟨0, rfl, by omega, fun t _ h => by omega, HE3.out⟩
          case round =>
            obtain ⟨k, rfl, hk, hlo, hB⟩ := hrel
            have HLO := Lib.hid hlo
            have HBW := Lib.hid hB
            clear hlo hB HE1 HE2 HE3
            obtain ⟨d0, d1, d2, d3, d4⟩ := HD.out wr HBW.out
            have gd0 := grow_cell d0
            have gd1 := grow_cell d1
            have gd2 := grow_cell d2
            have gd3 := grow_cell d3
            have gd4 := grow_cell d4
            have HSRC1 : Hid (∀ W, Ext w1 W → Src Try.prog 5 22 (.slice (some ⟨bb, o, none⟩) k cap) k (wrows (l.take k)).flatten W) := Lib.hid fun W hE => o_src_take (HL.out.ext hE) hk cap
            by_cases hlt : k < l.length
            · have hki : (k : Int) < (l.length : Int) := by omega
              obtain ⟨bb', o', he, c0, c1, c2, c3, c4⟩ := w_cells HL.out HBW.out hlt
              cases he
              have HLT : Hid (cmpW l[k] x < 0 → ∀ t (h : t < l.length), t < k + 1 → cmpW l[t] x < 0) := Lib.hid fun hc t h ht => by
                by_cases htk : t = k
                · subst htk; exact hc
                · exact HLO.out t h (by omega)
              have HPK : Hid (¬ cmpW l[k] x < 0 → PosW l x k) := Lib.hid fun hc => PosW.of HST.out hk HLO.out fun _ => hc
              generalize l[k] = y at *
              have gc0 := grow_cell c0
              have gc1 := grow_cell c1
              have gc2 := grow_cell c2
              have gc3 := grow_cell c3
              have gc4 := grow_cell c4
              by_cases hc : cmpW y x < 0
              · have hd : decide (cmpW y x < 0) = true := decide_eq_true hc
                have HLX := Lib.hid (HLT.out hc)
                clear hc
                go_wp2_with fail
                refine wp_region_rel_all (fun i => if i = 10 then some (spV (.bool true)) else none) (by kernel_rfl) (by kernel_rfl) ?_
                repeat (first
                  | (refine wpRel_quick ?_ ?_ ?_ ?_
                     · rfl
                     · rfl
                     · first | exact noEnter rfl | (intro f args W W'; go_simp)
                     intro K hK
                     go_big_quiet_op
                     go_big_quiet_on)
                  | (refine wpRel_skip ?_ ?_
                     · rfl
                     simp only [Act.put, List.setIfInBounds_toArray, List.set_cons_zero, List.set_cons_succ]))
                refine wpRel_rich _ rfl rfl (fun W hW => ?_) (fun v W3 hW3 hv => ?_)
                · have hc := (hd ▸ prec_any y x W)
                  go_simp
                  refine Calls.mono hc ?_
                  rintro e w' ⟨rfl, h⟩
                  exact ⟨_, rfl, rfl, by first | exact h | (subst h; exact Ext.refl _)⟩
                obtain rfl := hv
                clear hW3
                simp only [Act.put, List.setIfInBounds_toArray, List.set_cons_zero, List.set_cons_succ]
                repeat (first
                  | (refine wpRel_quick ?_ ?_ ?_ ?_
                     · rfl
                     · rfl
                     · first | exact noEnter rfl | (intro f args W W'; go_simp)
                     intro K hK
                     go_big_quiet_op
                     go_big_quiet_on)
                  | (refine wpRel_skip ?_ ?_
                     · rfl
                     simp only [Act.put, List.setIfInBounds_toArray, List.set_cons_zero, List.set_cons_succ]))
                refine wpRel_nil ?_
                intro W3 hW3
                have HE3 := Lib.hid (HBW.out.trans ((Ext.refl _).drew.trans hW3.1))
                clear hW3 gc0 gc1 gc2 gc3 gc4 gd0 gd1 gd2 gd3 gd4 c0 c1 c2 c3 c4 d0 d1 d2 d3 d4
                go_wp2_with fail
                go_roundw
                case rel => exact ⟨k + 1, by go_num, by omega, HLX.out, HE3.out⟩
                case measure => simp [intOf] <;> omega
              · have hd : decide (cmpW y x < 0) = false := decide_eq_false hc
                have HP := Lib.hid (HPK.out hc)
                clear hc
                go_wp2_with fail
                refine wp_region_rel_all (fun i => if i = 10 then some (spV (.bool false)) else none) (by kernel_rfl) (by kernel_rfl) ?_
                repeat (first
                  | (refine wpRel_quick ?_ ?_ ?_ ?_
                     · rfl
                     · rfl
                     · first | exact noEnter rfl | (intro f args W W'; go_simp)
                     intro K hK
                     go_big_quiet_op
                     go_big_quiet_on)
                  | (refine wpRel_skip ?_ ?_
                     · rfl
                     simp only [Act.put, List.setIfInBounds_toArray, List.set_cons_zero, List.set_cons_succ]))
                refine wpRel_rich _ rfl rfl (fun W hW => ?_) (fun v W3 hW3 hv => ?_)
                · have hc := (hd ▸ prec_any y x W)
                  go_simp
                  refine Calls.mono hc ?_
                  rintro e w' ⟨rfl, h⟩
                  exact ⟨_, rfl, rfl, by first | exact h | (subst h; exact Ext.refl _)⟩
                obtain rfl := hv
                clear hW3
                simp only [Act.put, List.setIfInBounds_toArray, List.set_cons_zero, List.set_cons_succ]
                repeat (first
                  | (refine wpRel_quick ?_ ?_ ?_ ?_
                     · rfl
                     · rfl
                     · first | exact noEnter rfl | (intro f args W W'; go_simp)
                     intro K hK
                     go_big_quiet_op
                     go_big_quiet_on)
                  | (refine wpRel_skip ?_ ?_
                     · rfl
                     simp only [Act.put, List.setIfInBounds_toArray, List.set_cons_zero, List.set_cons_succ]))
                refine wpRel_nil ?_
                intro W3 hW3
                have HE3 := Lib.hid (HBW.out.trans ((Ext.refl _).drew.trans hW3.1))
                clear hW3 gc0 gc1 gc2 gc3 gc4 gd0 gd1 gd2 gd3 gd4 c0 c1 c2 c3 c4 d0 d1 d2 d3 d4 HBW
                go_wp2_with fail
                have HSRC2 : Hid (∀ W, Ext w1 W → Src Try.prog 5 22 (.slice (some ⟨bb, o + k * 5, none⟩) (l.length - k) (cap - k)) (l.length - k) (wrows (l.drop k)).flatten W) := Lib.hid fun W hE => o_src_drop (HL.out.ext hE) _
                have hck : ¬ (cap = k) := by omega
                have HBW := HE3
                obtain ⟨wo, hwo⟩ : ∃ wo, wo = wr := ⟨_, rfl⟩
                subst hwo
                obtain ⟨wr, hwr⟩ : ∃ wr, wr = W3 := ⟨_, rfl⟩
                subst hwr
                obtain ⟨d0, d1, d2, d3, d4⟩ := HD.out wr HBW.out
                have gd0 := grow_cell d0
                have gd1 := grow_cell d1
                have gd2 := grow_cell d2
                have gd3 := grow_cell d3
                have gd4 := grow_cell d4
                have hkl := HP.out.le
                have hki2 : (k : Int) ≤ (l.length : Int) := by omega
                have hk0 : (0 : Int) ≤ (k : Int) := by omega
                have HR2 : Hid (r = (insW l k x, 0)) := Lib.hid (by rw [HR.out, HP.out.eq])
                refine wp_region_noPanic ?_
                refine wp_region_relE (fun i => if i = 0 then some (spE wr.heap.size 26 5) else if i = 4 then some (spOwn wr.heap.size 26 5 k (wrows (l.take k))) else if i = 6 then some (spVar5 wr.heap.size 26 x) else none) 7 4 [8, 9, 10] (by kernel_rfl) (by kernel_rfl) (fun _ _ _ _ _ h => h) ?_
                apply earlyOK.cons (.slice (some ⟨bb, o, none⟩) l.length cap)
                · simp only [List.getElem?_toArray, List.getElem?_cons_succ, List.getElem?_cons_zero]
                  rfl
                · exact .inl ⟨rfl, fun w => by go_simp⟩
                simp only [Act.put, List.setIfInBounds_toArray, List.set_cons_zero, List.set_cons_succ]
                apply earlyOK.cons (.int .i64 (k))
                · simp only [List.getElem?_toArray, List.getElem?_cons_succ, List.getElem?_cons_zero]
                  rfl
                · exact .inl ⟨rfl, fun w => by go_simp⟩
                simp only [Act.put, List.setIfInBounds_toArray, List.set_cons_zero, List.set_cons_succ]
                apply earlyOK.cons (.slice (some ⟨bb, o + k * 5, none⟩) (l.length - k) (cap - k))
                · simp only [List.getElem?_toArray, List.getElem?_cons_succ, List.getElem?_cons_zero]
                  rfl
                · exact .inl ⟨rfl, fun w => by go_simp⟩
                simp only [Act.put, List.setIfInBounds_toArray, List.set_cons_zero, List.set_cons_succ]
                simp only [List.take_succ_cons, List.take_zero]
                refine wpRel_rich _ rfl rfl (fun W hW => ?_) (fun v W1 hW1 hv => ?_)
                · go_simp
                  exact ⟨⟨_, rfl, own_empty W _ hW.1.size _ _⟩, (Ext.refl _).alloc _⟩
                obtain ⟨g0, rfl, _⟩ := hv
                clear hW1
                simp only [Act.put, List.setIfInBounds_toArray, List.set_cons_zero, List.set_cons_succ]
                repeat (first
                  | (refine wpRel_quick ?_ ?_ ?_ ?_
                     · rfl
                     · rfl
                     · first | exact noEnter rfl | (intro f args W W'; go_simp)
                     intro K hK
                     go_big_quiet_op
                     go_big_quiet_on)
                  | (refine wpRel_skip ?_ ?_
                     · rfl
                     simp only [Act.put, List.setIfInBounds_toArray, List.set_cons_zero, List.set_cons_succ]))
                refine wpRel_rich _ rfl rfl (fun W hW => ?_) (fun v W2 hW2 hv => ?_)
                · obtain ⟨g1, hg1, ho⟩ := hW.2 0 (by unfold Anc; kernel_rfl) _ _ rfl rfl
                  have hx : Ext wr W := (Ext.refl wr).drew.trans hW.1
                  refine g_append_fresh _ _ 22 22 rfl 26 i0 _ 5 40 Try.underlying22 hi hz0 hz1 hz2 rfl (by omega) _ hx.size g0 rfl ho _ k (wrows (l.take k)) rfl ?_ (wrows_wid _) (by rw [wrows_length, List.length_take]; omega) (by have := HBB.out; unfold maxLen; omega) (by have := HBB.out; omega)
                  exact HSRC1.out W (HBW.out.trans hx)
                clear hW2
                have hv' : W2.ownsRow wr.heap.size 26 5 v k (wrows (l.take k)).flatten := hv
                obtain ⟨ac, cc, rfl, _, _⟩ := RepW.of_own hv' (by rw [List.length_take]; omega)
                clear hv hv'
                simp only [Act.put, List.setIfInBounds_toArray, List.set_cons_zero, List.set_cons_succ]
                repeat (first
                  | (refine wpRel_quick ?_ ?_ ?_ ?_
                     · rfl
                     · rfl
                     · first | exact noEnter rfl | (intro f args W W'; go_simp)
                     intro K hK
                     go_big_quiet_op
                     go_big_quiet_on)
                  | (refine wpRel_skip ?_ ?_
                     · rfl
                     simp only [Act.put, List.setIfInBounds_toArray, List.set_cons_zero, List.set_cons_succ]))
                refine wpRel_rich _ rfl rfl (fun W hW => ?_) (fun v3 W3 hW3 hv3 => ?_)
                · have hx : Ext wr W := (Ext.refl wr).drew.trans hW.1
                  go_simp
                  exact ⟨⟨_, rfl, hx.size, heap_alloc_new W _⟩, (Ext.refl _).alloc _⟩
                obtain ⟨vb, rfl, _, _⟩ := hv3
                clear hW3
                simp only [Act.put, List.setIfInBounds_toArray, List.set_cons_zero, List.set_cons_succ]
                refine wpRel_nil ?_
                intro W hW
                have ho3 : W.ownsRow wr.heap.size 26 5 (.slice ac k cc) k (wrows (l.take k)).flatten := hW.2 4 trivial _ _ rfl rfl
                obtain ⟨vb', he, _, hvb⟩ := hW.2 6 trivial _ _ rfl rfl
                cases he
                have hE : Ext wr W := (Ext.refl wr).drew.trans hW.1
                have HSV : Hid (Src Try.prog 5 22 (.slice (some ⟨vb, 0, none⟩) 1 1) 1 x.enc W) := Lib.hid (Src.ofSlice W Try.underlying22 _ 1 1 _ (by rw [enc_len]) (fun j u hu => cells_of_heap hvb 0 j u (by simpa using hu)) (enc_one x))
                have HO3 := Lib.hid ho3
                have HE := Lib.hid hE
                clear hW ho3 hvb hE gd0 gd1 gd2 gd3 gd4 d0 d1 d2 d3 d4
                refine wpAny_ready (rs := [7]) (by kernel_rfl) (by simp) ?_
                refine AllReady.cons rfl (fun K hK => ?_) AllReady.nil
                refine step_append_S rfl _ _ 22 22 rfl wr.heap.size 26 i0 _ 5 40 Try.underlying22 hi hz0 hz1 hz2 rfl _ k _ rfl HO3.out _ 1 x.enc rfl HSV.out (by have := HBB.out; unfold maxLen; omega) (by have := HBB.out; omega) HE.out.size ?_
                intro v6 w6 ho6 hg6
                refine hK _ _ ?_
                clear hK K
                have hB6 : Below wr.heap.size wr w6 := Below.trans HE.out ((Below.refl _ W).grown hg6.by_ HE.out.size (ownsRow_blocks HO3.out))
                have HO6 := Lib.hid ho6
                have HB6 := Lib.hid hB6
                clear ho6 hg6 hB6
                have HSRC3 := Lib.hid (HSRC2.out w6 (HBW.out.trans HB6.out))
                refine wpAny_ready (rs := [11]) (by kernel_rfl) (by simp) ?_
                refine AllReady.cons rfl (fun K hK => ?_) AllReady.nil
                refine step_append_S rfl _ _ 22 22 rfl wr.heap.size 26 i0 _ 5 40 Try.underlying22 hi hz0 hz1 hz2 rfl _ (k + 1) _ rfl HO6.out _ (l.length - k) (wrows (l.drop k)).flatten rfl HSRC3.out (by have := HBB.out; unfold maxLen; omega) (by have := HBB.out; omega) HB6.out.size ?_
                intro v7 w7 ho7 hg7
                refine hK _ _ ?_
                clear hK K
                have HO7 := Lib.hid ho7
                have HG7 := Lib.hid hg7
                clear ho7 hg7
                refine wpAny_ready (rs := [12]) (by kernel_rfl) (by simp) ?_
                refine AllReady.cons rfl (fun K hK => ?_) AllReady.nil
                go_simp
                refine hK _ _ ?_
                clear hK K
                refine wpAny_ready (rs := [13]) (by kernel_rfl) (by simp) ?_
                refine AllReady.cons rfl (fun K hK => ?_) AllReady.nil
                go_simp
                refine hK _ _ ?_
                clear hK K
                refine wpAny_done (by kernel_rfl) ?_ _
                refine NoPanic.normal ?_
                go_wp2_with fail
                go_ret2
                have ho8 : w7.ownsRow wr.heap.size 26 5 v7 (insW l k x).length (wrows (insW l k x)).flatten := by
                  rw [insW_len, wins_flat, show l.length + 1 = k + 1 + (l.length - k) by omega]
                  exact HO7.out
                obtain ⟨ao5, cap5, hv5, hR5, _⟩ := RepW.of_own ho8 rfl
                refine ⟨ao5, cap5, by rw [HR2.out, hv5]; rfl, by rw [HR2.out]; exact hR5, HX0.out.trans (HBW.out.trans (Below.trans HB6.out ((Below.refl _ w6).grown HG7.out.by_ HB6.out.size (ownsRow_blocks HO6.out))))⟩
            · have hki : ¬ (k : Int) < (l.length : Int) := by omega
              have HP : Hid (PosW l x k) := Lib.hid (PosW.of HST.out hk HLO.out fun h => absurd h hlt)
              go_wp2_with fail
              refine wp_region_rel_all (fun _ => none) (by kernel_rfl) (by kernel_rfl) ?_
              repeat (first
                | (refine wpRel_quick ?_ ?_ ?_ ?_
                   · rfl
                   · rfl
                   · first | exact noEnter rfl | (intro f args W W'; go_simp)
                   intro K hK
                   go_big_quiet_op
                   go_big_quiet_on)
                | (refine wpRel_skip ?_ ?_
                   · rfl
                   simp only [Act.put, List.setIfInBounds_toArray, List.set_cons_zero, List.set_cons_succ]))
              refine wpRel_nil ?_
              intro W3 hW3
              have HE3 := Lib.hid (HBW.out.trans ((Ext.refl _).drew.trans hW3.1))
              clear hW3 gd0 gd1 gd2 gd3 gd4 d0 d1 d2 d3 d4 HBW
              have HBW := HE3
              obtain rfl : k = l.length := by omega
              clear HLO
              go_wp2_with fail
              obtain ⟨wo, hwo⟩ : ∃ wo, wo = wr := ⟨_, rfl⟩
              subst hwo
              obtain ⟨wr, hwr⟩ : ∃ wr, wr = W3 := ⟨_, rfl⟩
              subst hwr
              by_cases hcl : cap = l.length
              · subst hcl
                have HSRC2 : Hid (∀ W, Ext w1 W → Src Try.prog 5 22 (.slice (some ⟨bb, o, none⟩) 0 0) 0 (wrows (l.drop l.length)).flatten W) := Lib.hid fun W hE => by rw [List.drop_length]; exact Src.ofSlice W Try.underlying22 _ 0 0 [] (by simp) (by simp) (by simp)
                obtain ⟨d0, d1, d2, d3, d4⟩ := HD.out wr HBW.out
                have gd0 := grow_cell d0
                have gd1 := grow_cell d1
                have gd2 := grow_cell d2
                have gd3 := grow_cell d3
                have gd4 := grow_cell d4
                have hkl := HP.out.le
                have hki2 : (l.length : Int) ≤ (l.length : Int) := by omega
                have hk0 : (0 : Int) ≤ (l.length : Int) := by omega
                have HR2 : Hid (r = (insW l l.length x, 0)) := Lib.hid (by rw [HR.out, HP.out.eq])
                refine wp_region_noPanic ?_
                refine wp_region_relE (fun i => if i = 0 then some (spE wr.heap.size 26 5) else if i = 4 then some (spOwn wr.heap.size 26 5 l.length (wrows (l.take l.length))) else if i = 6 then some (spVar5 wr.heap.size 26 x) else none) 7 4 [8, 9, 10] (by kernel_rfl) (by kernel_rfl) (fun _ _ _ _ _ h => h) ?_
                apply earlyOK.cons (.slice (some ⟨bb, o, none⟩) l.length l.length)
                · simp only [List.getElem?_toArray, List.getElem?_cons_succ, List.getElem?_cons_zero]
                  rfl
                · exact .inl ⟨rfl, fun w => by go_simp⟩
                simp only [Act.put, List.setIfInBounds_toArray, List.set_cons_zero, List.set_cons_succ]
                apply earlyOK.cons (.int .i64 (l.length))
                · simp only [List.getElem?_toArray, List.getElem?_cons_succ, List.getElem?_cons_zero]
                  rfl
                · exact .inl ⟨rfl, fun w => by go_simp⟩
                simp only [Act.put, List.setIfInBounds_toArray, List.set_cons_zero, List.set_cons_succ]
                apply earlyOK.cons (.slice (some ⟨bb, o, none⟩) 0 0)
                · simp only [List.getElem?_toArray, List.getElem?_cons_succ, List.getElem?_cons_zero]
                  rfl
                · exact .inl ⟨rfl, fun w => by go_simp⟩
                simp only [Act.put, List.setIfInBounds_toArray, List.set_cons_zero, List.set_cons_succ]
                simp only [List.take_succ_cons, List.take_zero]
                refine wpRel_rich _ rfl rfl (fun W hW => ?_) (fun v W1 hW1 hv => ?_)
                · go_simp
                  exact ⟨⟨_, rfl, own_empty W _ hW.1.size _ _⟩, (Ext.refl _).alloc _⟩
                obtain ⟨g0, rfl, _⟩ := hv
                clear hW1
                simp only [Act.put, List.setIfInBounds_toArray, List.set_cons_zero, List.set_cons_succ]
                repeat (first
                  | (refine wpRel_quick ?_ ?_ ?_ ?_
                     · rfl
                     · rfl
                     · first | exact noEnter rfl | (intro f args W W'; go_simp)
                     intro K hK
                     go_big_quiet_op
                     go_big_quiet_on)
                  | (refine wpRel_skip ?_ ?_
                     · rfl
                     simp only [Act.put, List.setIfInBounds_toArray, List.set_cons_zero, List.set_cons_succ]))
                refine wpRel_rich _ rfl rfl (fun W hW => ?_) (fun v W2 hW2 hv => ?_)
                · obtain ⟨g1, hg1, ho⟩ := hW.2 0 (by unfold Anc; kernel_rfl) _ _ rfl rfl
                  have hx : Ext wr W := (Ext.refl wr).drew.trans hW.1
                  refine g_append_fresh _ _ 22 22 rfl 26 i0 _ 5 40 Try.underlying22 hi hz0 hz1 hz2 rfl (by omega) _ hx.size g0 rfl ho _ l.length (wrows (l.take l.length)) rfl ?_ (wrows_wid _) (by rw [wrows_length, List.length_take]; omega) (by have := HBB.out; unfold maxLen; omega) (by have := HBB.out; omega)
                  exact HSRC1.out W (HBW.out.trans hx)
                clear hW2
                have hv' : W2.ownsRow wr.heap.size 26 5 v l.length (wrows (l.take l.length)).flatten := hv
                obtain ⟨ac, cc, rfl, _, _⟩ := RepW.of_own hv' (by rw [List.length_take]; omega)
                clear hv hv'
                simp only [Act.put, List.setIfInBounds_toArray, List.set_cons_zero, List.set_cons_succ]
                repeat (first
                  | (refine wpRel_quick ?_ ?_ ?_ ?_
                     · rfl
                     · rfl
                     · first | exact noEnter rfl | (intro f args W W'; go_simp)
                     intro K hK
                     go_big_quiet_op
                     go_big_quiet_on)
                  | (refine wpRel_skip ?_ ?_
                     · rfl
                     simp only [Act.put, List.setIfInBounds_toArray, List.set_cons_zero, List.set_cons_succ]))
                refine wpRel_rich _ rfl rfl (fun W hW => ?_) (fun v3 W3 hW3 hv3 => ?_)
                · have hx : Ext wr W := (Ext.refl wr).drew.trans hW.1
                  go_simp
                  exact ⟨⟨_, rfl, hx.size, heap_alloc_new W _⟩, (Ext.refl _).alloc _⟩
                obtain ⟨vb, rfl, _, _⟩ := hv3
                clear hW3
                simp only [Act.put, List.setIfInBounds_toArray, List.set_cons_zero, List.set_cons_succ]
                refine wpRel_nil ?_
                intro W hW
                have ho3 : W.ownsRow wr.heap.size 26 5 (.slice ac l.length cc) l.length (wrows (l.take l.length)).flatten := hW.2 4 trivial _ _ rfl rfl
                obtain ⟨vb', he, _, hvb⟩ := hW.2 6 trivial _ _ rfl rfl
                cases he
                have hE : Ext wr W := (Ext.refl wr).drew.trans hW.1
                have HSV : Hid (Src Try.prog 5 22 (.slice (some ⟨vb, 0, none⟩) 1 1) 1 x.enc W) := Lib.hid (Src.ofSlice W Try.underlying22 _ 1 1 _ (by rw [enc_len]) (fun j u hu => cells_of_heap hvb 0 j u (by simpa using hu)) (enc_one x))
                have HO3 := Lib.hid ho3
                have HE := Lib.hid hE
                clear hW ho3 hvb hE gd0 gd1 gd2 gd3 gd4 d0 d1 d2 d3 d4
                refine wpAny_ready (rs := [7]) (by kernel_rfl) (by simp) ?_
                refine AllReady.cons rfl (fun K hK => ?_) AllReady.nil
                refine step_append_S rfl _ _ 22 22 rfl wr.heap.size 26 i0 _ 5 40 Try.underlying22 hi hz0 hz1 hz2 rfl _ l.length _ rfl HO3.out _ 1 x.enc rfl HSV.out (by have := HBB.out; unfold maxLen; omega) (by have := HBB.out; omega) HE.out.size ?_
                intro v6 w6 ho6 hg6
                refine hK _ _ ?_
                clear hK K
                have hB6 : Below wr.heap.size wr w6 := Below.trans HE.out ((Below.refl _ W).grown hg6.by_ HE.out.size (ownsRow_blocks HO3.out))
                have HO6 := Lib.hid ho6
                have HB6 := Lib.hid hB6
                clear ho6 hg6 hB6
                have HSRC3 := Lib.hid (HSRC2.out w6 (HBW.out.trans HB6.out))
                refine wpAny_ready (rs := [11]) (by kernel_rfl) (by simp) ?_
                refine AllReady.cons rfl (fun K hK => ?_) AllReady.nil
                refine step_append_S rfl _ _ 22 22 rfl wr.heap.size 26 i0 _ 5 40 Try.underlying22 hi hz0 hz1 hz2 rfl _ (l.length + 1) _ rfl HO6.out _ 0 (wrows (l.drop l.length)).flatten rfl HSRC3.out (by have := HBB.out; unfold maxLen; omega) (by have := HBB.out; omega) HB6.out.size ?_
                intro v7 w7 ho7 hg7
                refine hK _ _ ?_
                clear hK K
                have HO7 := Lib.hid ho7
                have HG7 := Lib.hid hg7
                clear ho7 hg7
                refine wpAny_ready (rs := [12]) (by kernel_rfl) (by simp) ?_
                refine AllReady.cons rfl (fun K hK => ?_) AllReady.nil
                go_simp
                refine hK _ _ ?_
                clear hK K
                refine wpAny_ready (rs := [13]) (by kernel_rfl) (by simp) ?_
                refine AllReady.cons rfl (fun K hK => ?_) AllReady.nil
                go_simp
                refine hK _ _ ?_
                clear hK K
                refine wpAny_done (by kernel_rfl) ?_ _
                refine NoPanic.normal ?_
                go_wp2_with fail
                go_ret2
                have ho8 : w7.ownsRow wr.heap.size 26 5 v7 (insW l l.length x).length (wrows (insW l l.length x)).flatten := by
                  rw [insW_len, wins_flat, show l.length + 1 = l.length + 1 + 0 by omega]
                  exact HO7.out
                obtain ⟨ao5, cap5, hv5, hR5, _⟩ := RepW.of_own ho8 rfl
                refine ⟨ao5, cap5, by rw [HR2.out, hv5]; rfl, by rw [HR2.out]; exact hR5, HX0.out.trans (HBW.out.trans (Below.trans HB6.out ((Below.refl _ w6).grown HG7.out.by_ HB6.out.size (ownsRow_blocks HO6.out))))⟩
              · have HSRC2 : Hid (∀ W, Ext w1 W → Src Try.prog 5 22 (.slice (some ⟨bb, o + l.length * 5, none⟩) 0 (cap - l.length)) 0 (wrows (l.drop l.length)).flatten W) := Lib.hid fun W hE => by rw [List.drop_length]; exact Src.ofSlice W Try.underlying22 _ 0 _ [] (by simp) (by simp) (by simp)
                obtain ⟨d0, d1, d2, d3, d4⟩ := HD.out wr HBW.out
                have gd0 := grow_cell d0
                have gd1 := grow_cell d1
                have gd2 := grow_cell d2
                have gd3 := grow_cell d3
                have gd4 := grow_cell d4
                have hkl := HP.out.le
                have hki2 : (l.length : Int) ≤ (l.length : Int) := by omega
                have hk0 : (0 : Int) ≤ (l.length : Int) := by omega
                have HR2 : Hid (r = (insW l l.length x, 0)) := Lib.hid (by rw [HR.out, HP.out.eq])
                refine wp_region_noPanic ?_
                refine wp_region_relE (fun i => if i = 0 then some (spE wr.heap.size 26 5) else if i = 4 then some (spOwn wr.heap.size 26 5 l.length (wrows (l.take l.length))) else if i = 6 then some (spVar5 wr.heap.size 26 x) else none) 7 4 [8, 9, 10] (by kernel_rfl) (by kernel_rfl) (fun _ _ _ _ _ h => h) ?_
                apply earlyOK.cons (.slice (some ⟨bb, o, none⟩) l.length cap)
                · simp only [List.getElem?_toArray, List.getElem?_cons_succ, List.getElem?_cons_zero]
                  rfl
                · exact .inl ⟨rfl, fun w => by go_simp⟩
                simp only [Act.put, List.setIfInBounds_toArray, List.set_cons_zero, List.set_cons_succ]
                apply earlyOK.cons (.int .i64 (l.length))
                · simp only [List.getElem?_toArray, List.getElem?_cons_succ, List.getElem?_cons_zero]
                  rfl
                · exact .inl ⟨rfl, fun w => by go_simp⟩
                simp only [Act.put, List.setIfInBounds_toArray, List.set_cons_zero, List.set_cons_succ]
                apply earlyOK.cons (.slice (some ⟨bb, o + l.length * 5, none⟩) 0 (cap - l.length))
                · simp only [List.getElem?_toArray, List.getElem?_cons_succ, List.getElem?_cons_zero]
                  rfl
                · exact .inl ⟨rfl, fun w => by go_simp⟩
                simp only [Act.put, List.setIfInBounds_toArray, List.set_cons_zero, List.set_cons_succ]
                simp only [List.take_succ_cons, List.take_zero]
                refine wpRel_rich _ rfl rfl (fun W hW => ?_) (fun v W1 hW1 hv => ?_)
                · go_simp
                  exact ⟨⟨_, rfl, own_empty W _ hW.1.size _ _⟩, (Ext.refl _).alloc _⟩
                obtain ⟨g0, rfl, _⟩ := hv
                clear hW1
                simp only [Act.put, List.setIfInBounds_toArray, List.set_cons_zero, List.set_cons_succ]
                repeat (first
                  | (refine wpRel_quick ?_ ?_ ?_ ?_
                     · rfl
                     · rfl
                     · first | exact noEnter rfl | (intro f args W W'; go_simp)
                     intro K hK
                     go_big_quiet_op
                     go_big_quiet_on)
                  | (refine wpRel_skip ?_ ?_
                     · rfl
                     simp only [Act.put, List.setIfInBounds_toArray, List.set_cons_zero, List.set_cons_succ]))
                refine wpRel_rich _ rfl rfl (fun W hW => ?_) (fun v W2 hW2 hv => ?_)
                · obtain ⟨g1, hg1, ho⟩ := hW.2 0 (by unfold Anc; kernel_rfl) _ _ rfl rfl
                  have hx : Ext wr W := (Ext.refl wr).drew.trans hW.1
                  refine g_append_fresh _ _ 22 22 rfl 26 i0 _ 5 40 Try.underlying22 hi hz0 hz1 hz2 rfl (by omega) _ hx.size g0 rfl ho _ l.length (wrows (l.take l.length)) rfl ?_ (wrows_wid _) (by rw [wrows_length, List.length_take]; omega) (by have := HBB.out; unfold maxLen; omega) (by have := HBB.out; omega)
                  exact HSRC1.out W (HBW.out.trans hx)
                clear hW2
                have hv' : W2.ownsRow wr.heap.size 26 5 v l.length (wrows (l.take l.length)).flatten := hv
                obtain ⟨ac, cc, rfl, _, _⟩ := RepW.of_own hv' (by rw [List.length_take]; omega)
                clear hv hv'
                simp only [Act.put, List.setIfInBounds_toArray, List.set_cons_zero, List.set_cons_succ]
                repeat (first
                  | (refine wpRel_quick ?_ ?_ ?_ ?_
                     · rfl
                     · rfl
                     · first | exact noEnter rfl | (intro f args W W'; go_simp)
                     intro K hK
                     go_big_quiet_op
                     go_big_quiet_on)
                  | (refine wpRel_skip ?_ ?_
                     · rfl
                     simp only [Act.put, List.setIfInBounds_toArray, List.set_cons_zero, List.set_cons_succ]))
                refine wpRel_rich _ rfl rfl (fun W hW => ?_) (fun v3 W3 hW3 hv3 => ?_)
                · have hx : Ext wr W := (Ext.refl wr).drew.trans hW.1
                  go_simp
                  exact ⟨⟨_, rfl, hx.size, heap_alloc_new W _⟩, (Ext.refl _).alloc _⟩
                obtain ⟨vb, rfl, _, _⟩ := hv3
                clear hW3
                simp only [Act.put, List.setIfInBounds_toArray, List.set_cons_zero, List.set_cons_succ]
                refine wpRel_nil ?_
                intro W hW
                have ho3 : W.ownsRow wr.heap.size 26 5 (.slice ac l.length cc) l.length (wrows (l.take l.length)).flatten := hW.2 4 trivial _ _ rfl rfl
                obtain ⟨vb', he, _, hvb⟩ := hW.2 6 trivial _ _ rfl rfl
                cases he
                have hE : Ext wr W := (Ext.refl wr).drew.trans hW.1
                have HSV : Hid (Src Try.prog 5 22 (.slice (some ⟨vb, 0, none⟩) 1 1) 1 x.enc W) := Lib.hid (Src.ofSlice W Try.underlying22 _ 1 1 _ (by rw [enc_len]) (fun j u hu => cells_of_heap hvb 0 j u (by simpa using hu)) (enc_one x))
                have HO3 := Lib.hid ho3
                have HE := Lib.hid hE
                clear hW ho3 hvb hE gd0 gd1 gd2 gd3 gd4 d0 d1 d2 d3 d4
                refine wpAny_ready (rs := [7]) (by kernel_rfl) (by simp) ?_
                refine AllReady.cons rfl (fun K hK => ?_) AllReady.nil
                refine step_append_S rfl _ _ 22 22 rfl wr.heap.size 26 i0 _ 5 40 Try.underlying22 hi hz0 hz1 hz2 rfl _ l.length _ rfl HO3.out _ 1 x.enc rfl HSV.out (by have := HBB.out; unfold maxLen; omega) (by have := HBB.out; omega) HE.out.size ?_
                intro v6 w6 ho6 hg6
                refine hK _ _ ?_
                clear hK K
                have hB6 : Below wr.heap.size wr w6 := Below.trans HE.out ((Below.refl _ W).grown hg6.by_ HE.out.size (ownsRow_blocks HO3.out))
                have HO6 := Lib.hid ho6
                have HB6 := Lib.hid hB6
                clear ho6 hg6 hB6
                have HSRC3 := Lib.hid (HSRC2.out w6 (HBW.out.trans HB6.out))
                refine wpAny_ready (rs := [11]) (by kernel_rfl) (by simp) ?_
                refine AllReady.cons rfl (fun K hK => ?_) AllReady.nil
                refine step_append_S rfl _ _ 22 22 rfl wr.heap.size 26 i0 _ 5 40 Try.underlying22 hi hz0 hz1 hz2 rfl _ (l.length + 1) _ rfl HO6.out _ 0 (wrows (l.drop l.length)).flatten rfl HSRC3.out (by have := HBB.out; unfold maxLen; omega) (by have := HBB.out; omega) HB6.out.size ?_
                intro v7 w7 ho7 hg7
                refine hK _ _ ?_
                clear hK K
                have HO7 := Lib.hid ho7
                have HG7 := Lib.hid hg7
                clear ho7 hg7
                refine wpAny_ready (rs := [12]) (by kernel_rfl) (by simp) ?_
                refine AllReady.cons rfl (fun K hK => ?_) AllReady.nil
                go_simp
                refine hK _ _ ?_
                clear hK K
                refine wpAny_ready (rs := [13]) (by kernel_rfl) (by simp) ?_
                refine AllReady.cons rfl (fun K hK => ?_) AllReady.nil
                go_simp
                refine hK _ _ ?_
                clear hK K
                refine wpAny_done (by kernel_rfl) ?_ _
                refine NoPanic.normal ?_
                go_wp2_with fail
                go_ret2
                have ho8 : w7.ownsRow wr.heap.size 26 5 v7 (insW l l.length x).length (wrows (insW l l.length x)).flatten := by
                  rw [insW_len, wins_flat, show l.length + 1 = l.length + 1 + 0 by omega]
                  exact HO7.out
                obtain ⟨ao5, cap5, hv5, hR5, _⟩ := RepW.of_own ho8 rfl
                refine ⟨ao5, cap5, by rw [HR2.out, hv5]; rfl, by rw [HR2.out]; exact hR5, HX0.out.trans (HBW.out.trans (Below.trans HB6.out ((Below.refl _ w6).grown HG7.out.by_ HB6.out.size (ownsRow_blocks HO6.out))))⟩
end Go.Proofs.Ytbhpeecebcihkaa
