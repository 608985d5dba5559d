/- Names: Cycle of the reference. -/
import Derived.Test.YtimigpfoflilcaaZ6
namespace Go.Sz
open Go.RowKit
theorem findI_first {l : List Int} {x : Int} (h : x ∈ l) : ∃ k : Nat, l[k]? = some x ∧ findI l x = (k : Int) ∧ ∀ j, j < k → l[j]? ≠ some x := by
  unfold findI
  cases e : l.findIdx? fun y => y == x with
  | none => exact absurd (List.findIdx?_eq_none_iff.1 e x h) (by simp)
  | some k =>
    obtain ⟨hk, hp, hb⟩ := List.findIdx?_eq_some_iff_getElem.1 e
    refine ⟨k, by rw [List.getElem?_eq_getElem hk, eq_of_beq hp], rfl, fun j hj e2 => ?_⟩
    obtain ⟨hjl, e3⟩ := List.getElem?_eq_some_iff.1 e2
    have := hb j hj
    rw [e3] at this
    simp at this
theorem ints_at' {o : List Nat} {k n : Nat} (h : (ints o)[k]? = some (n : Int)) : o[k]? = some n := by
  unfold ints at h
  rw [List.getElem?_map] at h
  obtain ⟨m, h1, h2⟩ := Option.map_eq_some_iff.1 h
  rw [h1, Int.ofNat_inj.1 h2]
theorem drop_take_none {α : Type} {l : List α} {m k : Nat} (h : m ≤ k) : (l.take m).drop k = [] := List.drop_of_length_le (by rw [List.length_take]; omega)
theorem drop_take_snoc {α : Type} {l : List α} {m k : Nat} {x : α} (hx : l[m]? = some x) (h : k ≤ m) : (l.take (m + 1)).drop k = (l.take m).drop k ++ [x] := by
  have hm := (List.getElem?_eq_some_iff.1 hx).1
  rw [List.take_add_one, hx, List.drop_append_of_le_length (by rw [List.length_take]; omega)]
  rfl
end Go.Sz
namespace Go.Proofs.Ytimigpfoflilcaa
open Go.RowKit Go.Sz
set_option maxRecDepth 100000 in
set_option maxHeartbeats 6400000 in
theorem refCycle_any (l : List Cr) (h8 : l.length ≤ 100000) (hb : ∀ c ∈ l, c.need.parts.length ≤ 1048576) (ao : Option Addr) (cap : Nat) (v1 v2 v3 v4 v5 v6 : Value) (w : World) (h : RepC w ao cap l) : Calls Try.prog 21 #[.agg #[.slice ao l.length cap, v1, v2, v3, v4, v5, v6]] w (RetIs (cycL l) w) := by
  obtain ⟨ii, hi0, hi1, hi2, hi3⟩ := info_parts infoI
  have HII := Lib.hid (And.intro hi0 (And.intro hi1 (And.intro hi2 hi3)))
  have hX : Ext w (w.alloc (.cells #[.slice ao l.length cap, v1, v2, v3, v4, v5, v6] 29)) := (Ext.refl w).alloc _
  have hct : (w.alloc (.cells #[.slice ao l.length cap, v1, v2, v3, v4, v5, v6] 29)).heap[w.heap.size]? = some (.cells #[.slice ao l.length cap, v1, v2, v3, v4, v5, v6] 29 (0, 0)) := by rw [heap_al, if_pos rfl]
  have hcb : CatBox (w.alloc (.cells #[.slice ao l.length cap, v1, v2, v3, v4, v5, v6] 29)) w.heap.size ao l.length cap v1 v2 v3 v4 v5 v6 := CatBox.of hct
  have HCB := Lib.hid hcb
  have HXA := Lib.hid hX
  have HL := Lib.hid h
  have HL8 := Lib.hid h8
  have HLI := Lib.hid (refListed_any l h8 hb ao cap v1 v2 v3 v4 v5 v6 (w.alloc (.cells #[.slice ao l.length cap, v1, v2, v3, v4, v5, v6] 29)) (h.ext hX))
  have HBB := Lib.hid hb
  have hs1 := h.max
  have k0 := hcb.c0
  have k1 := hcb.c1
  have k2 := hcb.c2
  have k3 := hcb.c3
  have k4 := hcb.c4
  have k5 := hcb.c5
  have k6 := hcb.c6
  obtain ⟨o, hol⟩ : ∃ o, (listedN l).1 = o := ⟨_, rfl⟩
  have HOL := Lib.hid hol
  have HLT : Hid (∀ i, i ∈ o → i < l.length) := Lib.hid fun i h => listedN_lt (by rw [hol]; exact h)
  have HLE : Hid (o.length ≤ l.length) := Lib.hid (by have := (listedN_len l).2; rw [hol] at this; omega)
  rw [hol] at HLI
  clear hX hct h hb h8 hcb hol hi0 hi1 hi2 hi3
  have HNN := Lib.hid (fun i c (h : l[i]? = some c) (hi : i ∉ o) => next_ex h (by rw [HOL.out]; exact hi))
  have HCN : Hid ((∀ j, j < l.length → j ∈ o) → cycL l = []) := Lib.hid fun hj => by unfold cycL; rw [find_none_is (by rw [HOL.out]; exact hj)]; rfl
  have HCS : Hid (∀ m, m < l.length → (∀ j, j < m → j ∈ o) → m ∉ o → cycL l = cycAt l (listedN l).2 (some m)) := Lib.hid fun m h1 h2 h3 => by unfold cycL; rw [find_first_is h1 (by rw [HOL.out]; exact h2) (by rw [HOL.out]; exact h3)]
  rw [HOL.out] at HNN
  obtain ⟨is, his⟩ : ∃ is, (listedN l).2 = is := ⟨_, rfl⟩
  rw [his] at HNN HCS
  clear his
  go_enter Try.func21, Try.ntmps21
  go_wp2_with fail
  generalize (w.alloc (.cells #[.slice ao l.length cap, v1, v2, v3, v4, v5, v6] 29)) = w1 at *
  refine HLI.out.mono ?_
  rintro e w2 ⟨oa, oc, rfl, h1, hE⟩
  have HO := Lib.hid h1
  have HE := Lib.hid hE
  have HC2 := Lib.hid (HCB.out.kpC hE.kpC)
  have HLW := Lib.hid (HL.out.ext (HXA.out.trans hE))
  have hom := irows_max h1
  rw [ints_length] at hom
  clear h1 hE HLI k0 k1 k2 k3 k4 k5 k6
  rw [ints_length]
  have HHAS : Hid (∀ (x : Nat) W, Ext w2 W → Calls Try.prog 74 #[.slice oa o.length oc, .int .i64 x] W fun e w' => e = .returned (.bool (decide (x ∈ o))) ∧ Ext W w') := Lib.hid fun x W hW => by
    have := has_any (ints o) x oa oc W (HO.out.ext hW)
    rw [ints_length, show decide ((x : Int) ∈ ints o) = decide (x ∈ o) from decide_eq_decide.2 ints_mem] at this
    exact this
  go_wp2_with fail
  go_loopw [4] (fun iv wr => ∃ m : Nat, iv = .int .i64 m ∧ m ≤ l.length ∧ (∀ j, j < m → j ∈ o) ∧ Ext w2 wr) (fun iv _ => l.length - (intOf iv).toNat)
  case atStart => exact ⟨0, rfl, by omega, fun j hj => by omega, Ext.refl _⟩
  case round =>
    obtain ⟨m, rfl, hm, hjm, hE⟩ := hrel
    have HJ := Lib.hid hjm
    have HE3 := Lib.hid hE
    have c3 := (HC2.out.kpC hE.kpC).c0
    clear hjm hE
    by_cases hlt : m < l.length
    · have hmi : (m : Int) < (l.length : Int) := by omega
      have HH := Lib.hid (HHAS.out m wr HE3.out)
      by_cases hmo : m ∈ o
      · rw [decide_eq_true hmo] at HH
        have HMO := Lib.hid hmo
        clear hmo
        go_wp2_with fail
        refine HH.out.mono ?_
        rintro e w4 ⟨rfl, hE4⟩
        have HE4 := Lib.hid (HE3.out.trans hE4)
        clear hE4
        go_wp2_with fail
        go_roundw
        case rel => exact ⟨m + 1, by go_num, by omega, fun j hj => by
          by_cases e : j = m
          · subst e; exact HMO.out
          · exact HJ.out j (by omega), HE4.out⟩
        case measure => simp [intOf] <;> omega
      · rw [decide_eq_false hmo] at HH
        have HMO := Lib.hid hmo
        have hne : ((m : Int) == (l.length : Int)) = false := by simp; omega
        clear hmo
        go_wp2_with fail
        refine HH.out.mono ?_
        rintro e w4 ⟨rfl, hE4⟩
        have HE4 := Lib.hid (HE3.out.trans hE4)
        replace c3 := hE4.cell c3
        have HO0 := Lib.hid (own_empty w4 w4.heap.size (Nat.le_refl _) 3 1)
        clear hE4
        go_wp2_with fail
        have HC4 := Lib.hid (HC2.out.kpC HE4.out.kpC)
        clear c3
        obtain ⟨w4e, hw4e⟩ : ∃ w4e, w4.alloc (.cells #[] 3) = w4e := ⟨_, rfl⟩
        have HXE : Hid (Ext w4 w4e) := Lib.hid (by rw [← hw4e]; exact (Ext.refl w4).alloc _)
        rw [hw4e] at HO0
        rw [hw4e]
        clear hw4e
        go_loopw [4, 5] (fun av v wr => ∃ (way : List Nat) (at' f : Nat), av = .int .i64 at' ∧ wr.ownsRow w4.heap.size 3 1 v (ints way).length (irows (ints way)).flatten ∧ Ext w4 wr ∧ (at' < l.length ∧ at' ∉ o ∧ way.Nodup ∧ (∀ x ∈ way, x < l.length) ∧ l.length < f + way.length ∧ wayN l is f way at' = wayN l is (l.length + 1) [] m)) (fun _ v _ => l.length + 1 - lenV v)
        case atStart => exact ⟨[], m, l.length + 1, rfl, HO0.out, HXE.out, hlt, HMO.out, List.nodup_nil, fun _ h => (by cases h), by simp, rfl⟩
        case round =>
          obtain ⟨way, at', f, rfl, hO, hE, hP⟩ := hrel
          have HOW := Lib.hid hO
          have HEW := Lib.hid hE
          have HP := Lib.hid hP
          obtain ⟨wa, wc, hv, hws, -⟩ := SL.of_own hO (irows_wid _) (by simp [irows])
          subst hv
          have HWS := Lib.hid hws
          have HWL : Hid ((ints way).length = way.length ∧ way.length ≤ l.length) := Lib.hid ⟨ints_length _, nodup_len hP.2.2.1 hP.2.2.2.1⟩
          have HCT := Lib.hid (has_any (ints way) at' wa wc wr hws)
          have hz1 := irows_max hws
          clear hO hE hP hws
          by_cases hmw : at' ∈ way
          · rw [show decide ((at' : Int) ∈ ints way) = true from decide_eq_true (ints_mem.2 hmw)] at HCT
            have HMM := Lib.hid hmw
            clear hmw
            go_wp2_with fail
            refine HCT.out.mono ?_
            rintro e w7 ⟨rfl, hE7⟩
            have HE7 := Lib.hid (HEW.out.trans hE7)
            have HWY := Lib.hid (HWS.out.ext hE7)
            have HO7 := Lib.hid (own_empty w7 w7.heap.size (Nat.le_refl _) 3 1)
            obtain ⟨k0, hk0, hfi, hbf⟩ := findI_first (ints_mem.2 HMM.out)
            have HK0 := Lib.hid (ints_at' hk0)
            have HFI := Lib.hid hfi
            have HBF : Hid (∀ j, j < k0 → way[j]? ≠ some at') := Lib.hid fun j hj e => hbf j hj (ints_all e)
            have HWAY := Lib.hid HP.out.2.2.2.2.2
            have HLT2 := Lib.hid HP.out.2.2.2.1
            have HCAT := Lib.hid (HC4.out.kpC HE7.out.kpC)
            have HRY := Lib.hid (HLW.out.ext (HE4.out.trans HE7.out))
            have HXY := Lib.hid (HXA.out.trans (HE.out.trans (HE4.out.trans HE7.out)))
            rw [HWL.out.1] at hz1
            clear hE7 hk0 hfi hbf HCT
            go_wp2_with fail
            rw [HWL.out.1] at *
            go_loopw [8, 9, 10] (fun v mv iv wr => ∃ m' : Nat, iv = .int .i64 m' ∧ m' ≤ way.length ∧ mv = .bool (decide (k0 < m')) ∧ wr.ownsRow w7.heap.size 3 1 v (((way.take m').drop k0).map (nuAt l)).length (irows (((way.take m').drop k0).map (nuAt l))).flatten ∧ Ext w7 wr) (fun _ _ iv _ => way.length - (intOf iv).toNat)
            case atStart => exact ⟨0, rfl, by omega, by simp, by have := HO7.out; simpa [irows] using this, (Ext.refl w7).alloc _⟩
            case round =>
              obtain ⟨m', rfl, hm', rfl, hO, hE⟩ := hrel
              have HO3 := Lib.hid hO
              have HE3 := Lib.hid hE
              clear hO hE
              by_cases hlm : m' < way.length
              · have hmi : (m' : Int) < (way.length : Int) := by omega
                obtain ⟨i, hi⟩ : ∃ i, way[m']? = some i := ⟨_, List.getElem?_eq_getElem hlm⟩
                have hil : i < l.length := HLT2.out i (List.mem_of_getElem? hi)
                have hili : (i : Int) < (l.length : Int) := by omega
                obtain ⟨c, hcl⟩ : ∃ c, l[i]? = some c := ⟨_, List.getElem?_eq_getElem hil⟩
                obtain ⟨B, q, a, n, b, mm, eao, -, -, -, -, -, hcells⟩ := (HRY.out.ext HE3.out).at hcl
                have d1 : wr.cell? ⟨B, q + i * 16 + 1, none⟩ = some (.int .i64 c.nu) := hcells 1 _ rfl
                obtain ⟨ob, oo, ewa, e0⟩ := i_at HWY.out HE3.out (ints_all hi)
                have c3 := (HCAT.out.kpC HE3.out.kpC).c0
                rw [eao] at c3
                rw [eao, ewa]
                have HI := Lib.hid hi
                have HNU : Hid ((irows (List.map (nuAt l) [i])).flatten = [.int .i64 c.nu]) := Lib.hid (by show [Value.int .i64 (nuAt l i)] = _; rw [nuAt_of hcl])
                have HLN : Hid ((((way.take m').drop k0).map (nuAt l)).length ≤ 100000) := Lib.hid (by rw [List.length_map, List.length_drop, List.length_take]; have := HWL.out; have := HL8.out; omega)
                have d1a := fun (o : Obj) => ((Ext.refl wr).alloc o).cell d1
                have e0a := fun (o : Obj) => ((Ext.refl wr).alloc o).cell e0
                have c3a := fun (o : Obj) => ((Ext.refl wr).alloc o).cell c3
                clear hcells hcl hi eao ewa
                rcases Nat.lt_trichotomy m' k0 with h0 | h0 | h0
                · have hne2 : ((i : Int) == (at' : Int)) = false := by
                    have : i ≠ at' := fun e => HBF.out m' h0 (by rw [HI.out, e])
                    simp; omega
                  rw [decide_eq_false (show ¬ k0 < m' by omega)]
                  go_wp2_with fail
                  go_roundw
                  case rel => exact ⟨m' + 1, by go_num, by omega, by rw [decide_eq_false (show ¬ k0 < m' + 1 by omega)], by rw [drop_take_none (show m' + 1 ≤ k0 by omega)]; have h := HO3.out; rw [drop_take_none (show m' ≤ k0 by omega)] at h; exact h, HE3.out⟩
                  case measure => simp [intOf] <;> omega
                · have hie : i = at' := by have h1 := HK0.out; rw [← h0, HI.out] at h1; exact Option.some.inj h1
                  have hne2 : ((i : Int) == (at' : Int)) = true := by simp [hie]
                  have HSN := Lib.hid (drop_take_snoc (k := k0) HI.out (by omega))
                  rw [decide_eq_false (show ¬ k0 < m' by omega)]
                  have H0 : Hid (k0 < m' + 1) := Lib.hid (by omega)
                  clear h0 hie
                  go_wp2_with fail
                  go_region_law
                    (first | (refine step_append_S rfl _ _ 45 45 rfl w7.heap.size 3 ii _ 1 8 Try.underlying45 HII.out.1 HII.out.2.1 HII.out.2.2.1 HII.out.2.2.2 rfl u8 _ _ rfl (ownsRow_ext HO3.out ((Ext.refl wr).alloc _).drew) _ 1 [.int .i64 c.nu] rfl (Src.ofSlice _ Try.underlying45 ⟨_, 0, none⟩ 1 1 _ rfl (one_cell (by simp)) (by simp [Value.oneCell'])) (by have := HLN.out; unfold maxLen; omega) (by have := HLN.out; omega) (by have := HE3.out.size; simp; omega) ?_; intro vo w5 ho5 hg5; have HO5 := Lib.hid ho5; have HE5 := Lib.hid (Ext.own_step (HE3.out.alloc _).drew hg5 (ownsRow_ext HO3.out ((Ext.refl wr).alloc _).drew)); clear ho5 hg5))
                  all_goals
                    go_wp2_with fail
                    go_roundw
                    case rel =>
                      refine ⟨m' + 1, by go_num, by omega, by rw [decide_eq_true (show k0 < m' + 1 from H0.out)], ?_, HE5.out⟩
                      rw [HSN.out, List.map_append, irows_app, List.flatten_append, List.length_append]
                      rw [HNU.out]
                      exact HO5.out
                    case measure => simp [intOf] <;> omega
                · have HSN := Lib.hid (drop_take_snoc (k := k0) HI.out (by omega))
                  rw [decide_eq_true (show k0 < m' by omega)]
                  have H0 : Hid (k0 < m' + 1) := Lib.hid (by omega)
                  clear h0
                  go_wp2_with fail
                  go_region_law
                    (first | (refine step_append_S rfl _ _ 45 45 rfl w7.heap.size 3 ii _ 1 8 Try.underlying45 HII.out.1 HII.out.2.1 HII.out.2.2.1 HII.out.2.2.2 rfl u8 _ _ rfl (ownsRow_ext HO3.out ((Ext.refl wr).alloc _).drew) _ 1 [.int .i64 c.nu] rfl (Src.ofSlice _ Try.underlying45 ⟨_, 0, none⟩ 1 1 _ rfl (one_cell (by simp)) (by simp [Value.oneCell'])) (by have := HLN.out; unfold maxLen; omega) (by have := HLN.out; omega) (by have := HE3.out.size; simp; omega) ?_; intro vo w5 ho5 hg5; have HO5 := Lib.hid ho5; have HE5 := Lib.hid (Ext.own_step (HE3.out.alloc _).drew hg5 (ownsRow_ext HO3.out ((Ext.refl wr).alloc _).drew)); clear ho5 hg5))
                  all_goals
                    go_wp2_with fail
                    go_roundw
                    case rel =>
                      refine ⟨m' + 1, by go_num, by omega, by rw [decide_eq_true (show k0 < m' + 1 from H0.out)], ?_, HE5.out⟩
                      rw [HSN.out, List.map_append, irows_app, List.flatten_append, List.length_append]
                      rw [HNU.out]
                      exact HO5.out
                    case measure => simp [intOf] <;> omega
              · have hmi : ¬ (m' : Int) < (way.length : Int) := by omega
                obtain rfl : m' = way.length := by omega
                rw [List.take_length] at HO3
                have hcy : cycL l = (way.drop k0).map (nuAt l) := by
                  rw [HCS.out m hlt HJ.out HMO.out]
                  change (((wayN l is (l.length + 1) [] m).1.drop ((findI (ints (wayN l is (l.length + 1) [] m).1) ((wayN l is (l.length + 1) [] m).2 : Int)).toNat)).map (nuAt l)) = _
                  rw [← HWAY.out, wayN_stop HMM.out, HFI.out]
                  rfl
                have HCQ := Lib.hid hcy
                clear hcy
                obtain ⟨ra, rc, rfl, hrs, -⟩ := SL.of_own HO3.out (irows_wid _) (by simp [irows])
                have HRS := Lib.hid hrs
                clear hrs
                go_wp2_with fail
                go_ret
                rw [HCQ.out]
                exact ⟨ra, rc, by rw [List.length_map, List.length_drop]; rfl, HRS.out, HXY.out.trans HE3.out⟩
          · rw [show decide ((at' : Int) ∈ ints way) = false from decide_eq_false (fun h => hmw (ints_mem.1 h))] at HCT
            have HMM := Lib.hid hmw
            clear hmw
            obtain ⟨f', rfl⟩ : ∃ f', f = f' + 1 := ⟨f - 1, by have := HP.out.2.2.2.2.1; have := HWL.out.2; omega⟩
            have HND : Hid ((way ++ [at']).Nodup ∧ (∀ x ∈ way ++ [at'], x < l.length)) := Lib.hid ⟨by rw [List.nodup_append]; exact ⟨HP.out.2.2.1, by simp, fun a ha b hb e => by obtain rfl := List.mem_singleton.1 hb; subst e; exact HMM.out ha⟩, fun x hx => by
              rcases List.mem_append.1 hx with hx | hx
              · exact HP.out.2.2.2.1 x hx
              · obtain rfl := List.mem_singleton.1 hx; exact HP.out.1⟩
            obtain ⟨c, hcl⟩ : ∃ c, l[at']? = some c := ⟨_, List.getElem?_eq_getElem HP.out.1⟩
            obtain ⟨kx, n, hkx, hno, hbf, hnx⟩ := HNN.out at' c hcl HP.out.2.1
            have HND2 := Lib.hid (refNeeds_any l c at' hcl (HBB.out c (List.mem_of_getElem? hcl)) ao cap v1 v2 v3 v4 v5 v6)
            obtain ⟨nds, hnds⟩ : ∃ nds, needsN l c = nds := ⟨_, rfl⟩
            have HNLT : Hid (n < l.length) := Lib.hid (needsN_lt (List.mem_of_getElem? hkx))
            rw [hnds] at hkx hbf HND2
            have HKX := Lib.hid hkx
            have HNO := Lib.hid hno
            have HBF := Lib.hid hbf
            have HNX := Lib.hid hnx
            have HKL : Hid (kx < nds.length) := Lib.hid (List.getElem?_eq_some_iff.1 hkx).1
            clear hcl hkx hno hbf hnx hnds
            go_wp2_with fail
            refine HCT.out.mono ?_
            rintro e w6 ⟨rfl, hE6⟩
            have HE6 := Lib.hid (HEW.out.trans hE6)
            have HO6 := Lib.hid (ownsRow_ext HOW.out hE6)
            have HLN : Hid ((ints way).length ≤ 100000) := Lib.hid (by rw [ints_length]; have := HWL.out; have := HL8.out; omega)
            clear hE6 HCT
            go_wp2_with (at_builtin; refine wpList_append_S rfl _ _ 45 45 rfl w4.heap.size 3 ii _ 1 8 Try.underlying45 HII.out.1 HII.out.2.1 HII.out.2.2.1 HII.out.2.2.2 rfl _ _ _ rfl (ownsRow_ext HO6.out ((Ext.refl w6).alloc _)) _ 1 [.int .i64 at'] rfl (Src.ofSlice _ Try.underlying45 ⟨_, 0, none⟩ 1 1 _ rfl (one_cell (by simp)) (by simp [Value.oneCell'])) (by have := HLN.out; unfold maxLen; omega) (by have := HLN.out; omega) (by have := HE6.out.size; simp; omega) ?_; intro vo w9 ho9 hg9; have HO9 := Lib.hid ho9; have hE9 := Ext.own_step (HE6.out.alloc _) hg9 (ownsRow_ext HO6.out ((Ext.refl w6).alloc _)); have k0 := (HC4.out.kpC hE9.kpC).c0; have k1 := (HC4.out.kpC hE9.kpC).c1; have k2 := (HC4.out.kpC hE9.kpC).c2; have k3 := (HC4.out.kpC hE9.kpC).c3; have k4 := (HC4.out.kpC hE9.kpC).c4; have k5 := (HC4.out.kpC hE9.kpC).c5; have k6 := (HC4.out.kpC hE9.kpC).c6; have HE9 := Lib.hid hE9; clear ho9 hg9 hE9)
            refine (HND2.out w9 (HLW.out.ext (HE4.out.trans HE9.out))).mono ?_
            rintro e w8 ⟨na, nc, rfl, hn, hE8⟩
            have HN := Lib.hid hn
            have HE8 := Lib.hid (HE9.out.trans hE8)
            have HO8 := Lib.hid (ownsRow_ext HO9.out hE8)
            have hs2 := irows_max hn
            rw [ints_length] at hs2
            clear hn hE8 k0 k1 k2 k3 k4 k5 k6
            go_wp2_with fail
            rw [ints_length]
            obtain ⟨wz, rfl⟩ : ∃ wz, wz = wr := ⟨_, rfl⟩
            go_loopw [7] (fun kv wr => ∃ k : Nat, kv = .int .i64 k ∧ k ≤ kx ∧ Ext w8 wr) (fun kv _ => kx - (intOf kv).toNat)
            case atStart => exact ⟨0, rfl, by omega, Ext.refl _⟩
            case round =>
              obtain ⟨k, rfl, hk, hE⟩ := hrel
              have HE10 := Lib.hid hE
              clear hE
              have hkl : (k : Int) < (nds.length : Int) := by have := HKL.out; omega
              obtain ⟨nk, hnk⟩ : ∃ nk, nds[k]? = some nk := ⟨_, List.getElem?_eq_getElem (by have := HKL.out; omega)⟩
              obtain ⟨b2, o2, ena, c0⟩ := i_at HN.out HE10.out (ints_all hnk)
              have HH := Lib.hid (HHAS.out nk wr (HE4.out.trans (HE8.out.trans HE10.out)))
              have HNK := Lib.hid hnk
              rw [ena]
              clear hnk ena
              by_cases hkk : k = kx
              · have hnn : nk = n := by have h1 := HNK.out; rw [hkk, HKX.out] at h1; exact (Option.some.inj h1).symm
                subst hnn
                clear hkk
                rw [decide_eq_false HNO.out] at HH
                go_wp2_with fail
                refine HH.out.mono ?_
                rintro e w11 ⟨rfl, hE11⟩
                replace c0 := hE11.cell c0
                have HE11 := Lib.hid (HE8.out.trans (HE10.out.trans hE11))
                have HO11 := Lib.hid (ownsRow_ext HO8.out (HE10.out.trans hE11))
                clear hE11
                go_wp2_with fail
                have HLV := Lib.hid (And.intro (lenV_own HOW.out) (lenV_own HO11.out))
                go_roundw
                case rel =>
                  refine ⟨way ++ [at'], nk, f', rfl, ?_, HE11.out, HNLT.out, HNO.out, HND.out.1, HND.out.2, by rw [List.length_append, List.length_singleton]; have := HP.out.2.2.2.2.1; omega, ?_⟩
                  · rw [ints_snoc, irows_app, List.flatten_append, List.length_append]
                    simpa [irows] using HO11.out
                  · rw [← HP.out.2.2.2.2.2, wayN_step HMM.out, HNX.out]
                    rfl
                case measure =>
                  have h1 := HLV.out.1
                  have h2 := HLV.out.2
                  have h3 := HWL.out
                  rw [h1, h2, ints_length]
                  omega
              · rw [decide_eq_true (HBF.out k nk (by omega) HNK.out)] at HH
                have HKK : Hid (k + 1 ≤ kx) := Lib.hid (by omega)
                clear hkk hk
                go_wp2_with fail
                refine HH.out.mono ?_
                rintro e w11 ⟨rfl, hE11⟩
                have HE11 := Lib.hid (HE10.out.trans hE11)
                clear hE11
                go_wp2_with fail
                go_roundw
                case rel => exact ⟨k + 1, by go_num, HKK.out, HE11.out⟩
                case measure => have := HKK.out; simp [intOf] <;> omega
    · have hmi : ¬ (m : Int) < (l.length : Int) := by omega
      obtain rfl : m = l.length := by omega
      have hne : ((l.length : Int) == (l.length : Int)) = true := by simp
      go_wp2_with fail
      go_ret
      rw [HCN.out HJ.out]
      exact ⟨none, 0, rfl, SL.empty _ _, HXA.out.trans (HE.out.trans HE3.out)⟩
end Go.Proofs.Ytimigpfoflilcaa
