/- Names: Needs of the reference. -/
import Derived.Test.YtimigpfoflilcaaZF
import Derived.Test.YtimigpfoflilcaaYI
namespace Go.Sz
open Go.RowKit
theorem filterMap_take {α β : Type} {f : α → Option β} {l : List α} {m : Nat} {x : α} (h : l[m]? = some x) : (l.take (m + 1)).filterMap f = (l.take m).filterMap f ++ (f x).toList := by
  rw [List.take_add_one, h]
  exact filterMap_snoc
end Go.Sz
namespace Go.Proofs.Ytimigpfoflilcaa
open Go.RowKit Go.Sz
set_option maxRecDepth 100000 in
set_option maxHeartbeats 6400000 in
theorem refNeeds_any (l : List Cr) (c : Cr) (i : Nat) (hi : l[i]? = some c) (hb : c.need.parts.length ≤ 1048576) (ao : Option Addr) (cap : Nat) (v1 v2 v3 v4 v5 v6 : Value) (w : World) (h : RepC w ao cap l) : Calls Try.prog 24 #[.agg #[.slice ao l.length cap, v1, v2, v3, v4, v5, v6], .int .i64 i] w (RetIs (ints (needsN l c)) w) := by
  obtain ⟨ii, hi0, hi1, hi2, hi3⟩ := info_parts infoI
  have HII := Lib.hid (And.intro hi0 (And.intro hi1 (And.intro hi2 hi3)))
  have hX : Ext w (w.alloc (.cells #[.slice ao l.length cap, v1, v2, v3, v4, v5, v6] 29)) := (Ext.refl w).alloc _
  have hX2 : Ext w ((w.alloc (.cells #[.slice ao l.length cap, v1, v2, v3, v4, v5, v6] 29)).alloc (.cells #[] 3)) := hX.alloc _
  obtain ⟨B, o, na, nn, b, mm, eao, hra, -, oka, -, -, hcells⟩ := h.at hi
  have hil : i < l.length := (List.getElem?_eq_some_iff.1 hi).1
  have hili : (i : Int) < (l.length : Int) := by omega
  have hs1 := h.max
  have HP : Hid (∀ W, Ext w W → Calls Try.prog 26 #[.agg #[.int .i64 c.need.op, .int .i64 c.need.co, .string c.need.nm, .int .i64 c.need.n, .int .i64 c.need.d, .slice na c.need.kids.length nn]] W (RetRu w c.need.parts W)) := Lib.hid fun W hW => refParts_any (RepU.of hra oka) W hW hb
  have HM : Hid (∀ (nm : ByteArray) (nu : Int) W, Ext w W → Calls Try.prog 78 #[.agg #[.slice ao l.length cap, v1, v2, v3, v4, v5, v6], .string nm, .int .i64 nu] W fun e w' => e = .returned (.int .i64 (findC l (isM nm nu))) ∧ Ext W w') := Lib.hid fun nm nu W hW => refMeant_any l nm nu ao cap v1 v2 v3 v4 v5 v6 W (h.ext hW)
  have hct : (w.alloc (.cells #[.slice ao l.length cap, v1, v2, v3, v4, v5, v6] 29)).heap[w.heap.size]? = some (.cells #[.slice ao l.length cap, v1, v2, v3, v4, v5, v6] 29 (0, 0)) := by rw [heap_al, if_pos rfl]
  have hCB : CatBox (w.alloc (.cells #[.slice ao l.length cap, v1, v2, v3, v4, v5, v6] 29)) w.heap.size ao l.length cap v1 v2 v3 v4 v5 v6 := CatBox.of hct
  have hCB2 := hCB.kpC ((Ext.refl (w.alloc (.cells #[.slice ao l.length cap, v1, v2, v3, v4, v5, v6] 29))).alloc (.cells #[] 3)).kpC
  have HCB1 := Lib.hid hCB
  have g0 : ((w.alloc (.cells #[.slice ao l.length cap, v1, v2, v3, v4, v5, v6] 29)).alloc (.cells #[] 3)).cell? ⟨w.heap.size, 0, none⟩ = some (.slice ao l.length cap) := hCB2.c0
  have n0 : ((w.alloc (.cells #[.slice ao l.length cap, v1, v2, v3, v4, v5, v6] 29)).alloc (.cells #[] 3)).cell? ⟨B, o + i * 16 + 4, none⟩ = some (.int .i64 c.need.op) := hX2.cell (hcells 4 _ rfl)
  have n1 : ((w.alloc (.cells #[.slice ao l.length cap, v1, v2, v3, v4, v5, v6] 29)).alloc (.cells #[] 3)).cell? ⟨B, o + i * 16 + 5, none⟩ = some (.int .i64 c.need.co) := hX2.cell (hcells 5 _ rfl)
  have n2 : ((w.alloc (.cells #[.slice ao l.length cap, v1, v2, v3, v4, v5, v6] 29)).alloc (.cells #[] 3)).cell? ⟨B, o + i * 16 + 6, none⟩ = some (.string c.need.nm) := hX2.cell (hcells 6 _ rfl)
  have n3 : ((w.alloc (.cells #[.slice ao l.length cap, v1, v2, v3, v4, v5, v6] 29)).alloc (.cells #[] 3)).cell? ⟨B, o + i * 16 + 7, none⟩ = some (.int .i64 c.need.n) := hX2.cell (hcells 7 _ rfl)
  have n4 : ((w.alloc (.cells #[.slice ao l.length cap, v1, v2, v3, v4, v5, v6] 29)).alloc (.cells #[] 3)).cell? ⟨B, o + i * 16 + 8, none⟩ = some (.int .i64 c.need.d) := hX2.cell (hcells 8 _ rfl)
  have n5 : ((w.alloc (.cells #[.slice ao l.length cap, v1, v2, v3, v4, v5, v6] 29)).alloc (.cells #[] 3)).cell? ⟨B, o + i * 16 + 9, none⟩ = some (.slice na c.need.kids.length nn) := hX2.cell (hcells 9 _ rfl)
  have HCB := Lib.hid hCB2
  have HX := Lib.hid hX2
  have HB := Lib.hid hb
  have HO0 : Hid (((w.alloc (.cells #[.slice ao l.length cap, v1, v2, v3, v4, v5, v6] 29)).alloc (.cells #[] 3)).ownsRow (w.alloc (.cells #[.slice ao l.length cap, v1, v2, v3, v4, v5, v6] 29)).heap.size 3 1 (.slice (some ⟨w.heap.size + 1, 0, none⟩) 0 0) 0 []) := Lib.hid (by
    have h := own_empty (w.alloc (.cells #[.slice ao l.length cap, v1, v2, v3, v4, v5, v6] 29)) (w.alloc (.cells #[.slice ao l.length cap, v1, v2, v3, v4, v5, v6] 29)).heap.size (Nat.le_refl _) 3 1
    simp only [World.size_alloc] at h ⊢
    exact h)
  have HSZ2 : Hid (((w.alloc (.cells #[.slice ao l.length cap, v1, v2, v3, v4, v5, v6] 29)).alloc (.cells #[] 3)).heap.size = w.heap.size + 2) := Lib.hid (by simp)
  have HSZ1 : Hid ((w.alloc (.cells #[.slice ao l.length cap, v1, v2, v3, v4, v5, v6] 29)).heap.size = w.heap.size + 1) := Lib.hid (by simp)
  have HXA : Hid (Ext w (w.alloc (.cells #[.slice ao l.length cap, v1, v2, v3, v4, v5, v6] 29))) := Lib.hid hX
  have HXB : Hid (Ext (w.alloc (.cells #[.slice ao l.length cap, v1, v2, v3, v4, v5, v6] 29)) ((w.alloc (.cells #[.slice ao l.length cap, v1, v2, v3, v4, v5, v6] 29)).alloc (.cells #[] 3))) := Lib.hid ((Ext.refl _).alloc _)
  have HND : Hid (needsN l c = c.need.parts.filterMap (needP l)) := Lib.hid rfl
  rw [eao]
  clear hi hb h hX hX2 hra oka hcells hct hCB hCB2 hi0 hi1 hi2 hi3
  subst eao
  go_enter Try.func24, Try.ntmps24
  go_wp2_with fail
  clear n0 n1 n2 n3 n4 n5 g0
  generalize ((w.alloc (.cells #[.slice (some ⟨B, o, none⟩) l.length cap, v1, v2, v3, v4, v5, v6] 29)).alloc (.cells #[] 3)) = w2 at *
  generalize (w.alloc (.cells #[.slice (some ⟨B, o, none⟩) l.length cap, v1, v2, v3, v4, v5, v6] 29)) = w1 at *
  refine (HP.out _ HX.out).mono ?_
  rintro e w3 ⟨pa, pc, prows, rfl, hsl, hpl, hpr, hpf, hE3⟩
  obtain ⟨P, hP⟩ : ∃ P, c.need.parts = P := ⟨_, rfl⟩
  rw [hP] at hpl hpr HB HND
  rw [hP]
  have HSL := Lib.hid (hsl.far (b := some (w.heap.size + 1)) (by omega) (fun a ha _ e => by have h1 := hpf a ha; have h2 := HSZ2.out; injection e with e; omega))
  have HPL := Lib.hid hpl
  have HPR := Lib.hid hpr
  have HE3 := Lib.hid hE3
  have hs2 : (P.length : Int) ≤ 9223372036854775807 := by have := HB.out; omega
  clear hsl hpl hpr hpf hE3 hP HP
  go_wp2_with fail
  go_loopw [5, 7] (fun v iv wr => ∃ m : Nat, iv = .int .i64 m ∧ m ≤ P.length ∧ wr.ownsRow w1.heap.size 3 1 v (ints ((P.take m).filterMap (needP l))).length (irows (ints ((P.take m).filterMap (needP l)))).flatten ∧ (Far v.ownBlock wr fun V => SL V 6 pa pc prows) ∧ Ext w1 wr) (fun _ iv _ => P.length - (intOf iv).toNat)
  case atStart => exact ⟨0, rfl, by omega, ownsRow_ext HO0.out HE3.out, HSL.out, HXB.out.trans HE3.out⟩
  case round =>
    obtain ⟨m, rfl, hm, hO, hF, hE⟩ := hrel
    have HO := Lib.hid hO
    have HF := Lib.hid hF
    have HE := Lib.hid hE
    clear hO hF hE
    by_cases hlt : m < P.length
    · have hmi : (m : Int) < (P.length : Int) := by omega
      obtain ⟨p, hp⟩ : ∃ p, P[m]? = some p := ⟨_, List.getElem?_eq_getElem hlt⟩
      obtain ⟨q, hq⟩ : ∃ q, prows[m]? = some q := ⟨_, List.getElem?_eq_getElem (by rw [HPL.out]; exact hlt)⟩
      obtain ⟨qa, qc, rfl, -, -⟩ := (HPR.out m p q hp hq).out
      have hsw := HF.out.now
      obtain ⟨B2, o2, epa, -⟩ := hsw.cells m 0 _ _ hq rfl
      have hcellsAt : ∀ (j : Nat) (v : Value), (p.cells qa qc)[j]? = some v → wr.cell? ⟨B2, o2 + m * 6 + j, none⟩ = some v := fun j v hj => by
        obtain ⟨b', o', e2, hw2⟩ := hsw.cells m j _ _ hq hj
        rw [epa] at e2
        cases e2
        exact hw2
      have d0 : wr.cell? ⟨B2, o2 + m * 6, none⟩ = some (.int .i64 p.op) := hcellsAt 0 _ rfl
      have d1 : wr.cell? ⟨B2, o2 + m * 6 + 1, none⟩ = some (.int .i64 p.co) := hcellsAt 1 _ rfl
      have d2 : wr.cell? ⟨B2, o2 + m * 6 + 2, none⟩ = some (.string p.nm) := hcellsAt 2 _ rfl
      have hcb := HCB1.out.kpC HE.out.kpC
      have k0 := hcb.c0
      have k1 := hcb.c1
      have k2 := hcb.c2
      have k3 := hcb.c3
      have k4 := hcb.c4
      have k5 := hcb.c5
      have k6 := hcb.c6
      have gd1 := grow_cell d1
      have gd2 := grow_cell d2
      have gk0 := grow_cell k0
      have gk1 := grow_cell k1
      have gk2 := grow_cell k2
      have gk3 := grow_cell k3
      have gk4 := grow_cell k4
      have gk5 := grow_cell k5
      have gk6 := grow_cell k6
      have HFS := Lib.hid (filterMap_take (f := needP l) hp)
      have HLN : Hid ((ints ((P.take m).filterMap (needP l))).length ≤ 1048576) := Lib.hid (by rw [ints_length]; have := List.length_filterMap_le (needP l) (P.take m); rw [List.length_take] at this; have := HB.out; omega)
      have HMM := Lib.hid (fun W hW => HM.out p.nm p.co W hW)
      have HPM := Lib.hid hp

      rw [epa] at HF
      clear hp hq hsw hcellsAt hcb
      rw [epa]
      clear epa
      have hcase : ((p.op == 5) = true) ∨ ((p.op == 5) = false ∧ (p.op == 6) = true) ∨ ((p.op == 5) = false ∧ (p.op == 6) = false) := by cases (p.op == 5) <;> cases (p.op == 6) <;> simp
      rcases hcase with h5 | ⟨h5, h6⟩ | ⟨h5, h6⟩
      · have hpp : p.op = 5 ∨ p.op = 6 := by exact .inl (eq_of_beq h5)
        cases hme : meantN l p.nm p.co with
        | some j =>
          have HNP : Hid (needP l p = some j) := Lib.hid (by unfold needP; rw [if_pos hpp, hme])
          rw [findC_of_some hme] at HMM
          clear hpp hme
          go_wp2_with fail
          refine wp_region_rel_all (fun i => if i = 11 then some (spV (.int .i64 (j : Int))) else none) (by kernel_rfl) (by kernel_rfl) ?_
          repeat (first
            | (refine wpRel_quick ?_ ?_ ?_ ?_
               · rfl
               · rfl
               · first | exact noEnter rfl | (intro f args W W'; go_simp)
               intro K hK
               go_big_quiet_op
               go_big_quiet_on)
            | (refine wpRel_skip ?_ ?_
               · rfl
               simp only [Act.put, List.setIfInBounds_toArray, List.set_cons_zero, List.set_cons_succ]))
          refine wpRel_rich _ rfl rfl (fun W hW => ?_) (fun v W3 hW3 hv => ?_)
          · have hc := HMM.out W (HXA.out.trans (HE.out.trans ((Ext.refl wr).drew.trans hW.1)))
            go_simp
            refine Calls.mono hc ?_
            rintro e w' ⟨rfl, h⟩
            exact ⟨_, rfl, rfl, by first | exact h | (subst h; exact Ext.refl _)⟩
          obtain rfl := hv
          clear hW3
          simp only [Act.put, List.setIfInBounds_toArray, List.set_cons_zero, List.set_cons_succ]
          repeat (first
            | (refine wpRel_quick ?_ ?_ ?_ ?_
               · rfl
               · rfl
               · first | exact noEnter rfl | (intro f args W W'; go_simp)
               intro K hK
               go_big_quiet_op
               go_big_quiet_on)
            | (refine wpRel_skip ?_ ?_
               · rfl
               simp only [Act.put, List.setIfInBounds_toArray, List.set_cons_zero, List.set_cons_succ]))
          refine wpRel_nil ?_
          intro W3 hW3
          have hEW : Ext wr W3 := (Ext.refl _).drew.trans hW3.1
          have HE3' := Lib.hid (HE.out.trans hEW)
          have HF3 := Lib.hid (HF.out.ext hEW)
          have HO3 := Lib.hid (ownsRow_ext HO.out hEW)
          clear hW3 hEW gd1 gd2 gk0 gk1 gk2 gk3 gk4 gk5 gk6 d0 d1 d2 k0 k1 k2 k3 k4 k5 k6
          go_wp2_with (at_builtin; refine wpList_append_S rfl _ _ 45 45 rfl w1.heap.size 3 ii _ 1 8 Try.underlying45 HII.out.1 HII.out.2.1 HII.out.2.2.1 HII.out.2.2.2 rfl u5 _ _ rfl (ownsRow_ext HO3.out ((Ext.refl W3).alloc _)) _ 1 [.int .i64 j] rfl (Src.ofSlice _ Try.underlying45 ⟨_, 0, none⟩ 1 1 _ rfl (one_cell (by simp)) (by simp [Value.oneCell'])) (by have := HLN.out; unfold maxLen; omega) (by have := HLN.out; omega) (by have := HE3'.out.size; simp; omega) ?_; intro vo w5 ho5 hg5; have HO5 := Lib.hid ho5; have HG5 := Lib.hid hg5; have HE5 := Lib.hid (Ext.own_step (HE3'.out.alloc _) hg5 (ownsRow_ext HO3.out ((Ext.refl W3).alloc _))); clear ho5 hg5)
          go_roundw
          case rel => exact ⟨m + 1, by go_num, by omega, by rw [HFS.out, HNP.out]; simp only [Option.toList, ints_snoc, irows_app, List.flatten_append, List.length_append]; exact HO5.out, by exact (HF3.out.ext ((Ext.refl W3).alloc (.cells #[.int .i64 j] 3))).grow HG5.out, HE5.out⟩
          case measure => simp [intOf] <;> omega
        | none =>
          have HNP : Hid (needP l p = none) := Lib.hid (by unfold needP; rw [if_pos hpp, hme])
          rw [findC_of_none hme] at HMM
          clear hpp hme
          go_wp2_with fail
          refine wp_region_rel_all (fun i => if i = 11 then some (spV (.int .i64 (-1))) else none) (by kernel_rfl) (by kernel_rfl) ?_
          repeat (first
            | (refine wpRel_quick ?_ ?_ ?_ ?_
               · rfl
               · rfl
               · first | exact noEnter rfl | (intro f args W W'; go_simp)
               intro K hK
               go_big_quiet_op
               go_big_quiet_on)
            | (refine wpRel_skip ?_ ?_
               · rfl
               simp only [Act.put, List.setIfInBounds_toArray, List.set_cons_zero, List.set_cons_succ]))
          refine wpRel_rich _ rfl rfl (fun W hW => ?_) (fun v W3 hW3 hv => ?_)
          · have hc := HMM.out W (HXA.out.trans (HE.out.trans ((Ext.refl wr).drew.trans hW.1)))
            go_simp
            refine Calls.mono hc ?_
            rintro e w' ⟨rfl, h⟩
            exact ⟨_, rfl, rfl, by first | exact h | (subst h; exact Ext.refl _)⟩
          obtain rfl := hv
          clear hW3
          simp only [Act.put, List.setIfInBounds_toArray, List.set_cons_zero, List.set_cons_succ]
          repeat (first
            | (refine wpRel_quick ?_ ?_ ?_ ?_
               · rfl
               · rfl
               · first | exact noEnter rfl | (intro f args W W'; go_simp)
               intro K hK
               go_big_quiet_op
               go_big_quiet_on)
            | (refine wpRel_skip ?_ ?_
               · rfl
               simp only [Act.put, List.setIfInBounds_toArray, List.set_cons_zero, List.set_cons_succ]))
          refine wpRel_nil ?_
          intro W3 hW3
          have hEW : Ext wr W3 := (Ext.refl _).drew.trans hW3.1
          have HE3' := Lib.hid (HE.out.trans hEW)
          have HF3 := Lib.hid (HF.out.ext hEW)
          have HO3 := Lib.hid (ownsRow_ext HO.out hEW)
          clear hW3 hEW gd1 gd2 gk0 gk1 gk2 gk3 gk4 gk5 gk6 d0 d1 d2 k0 k1 k2 k3 k4 k5 k6
          go_wp2_with fail
          go_roundw
          case rel => exact ⟨m + 1, by go_num, by omega, by rw [HFS.out, HNP.out]; simpa using HO3.out, by exact HF3.out, HE3'.out⟩
          case measure => simp [intOf] <;> omega
      · have hpp : p.op = 5 ∨ p.op = 6 := by exact .inr (eq_of_beq h6)
        cases hme : meantN l p.nm p.co with
        | some j =>
          have HNP : Hid (needP l p = some j) := Lib.hid (by unfold needP; rw [if_pos hpp, hme])
          rw [findC_of_some hme] at HMM
          clear hpp hme
          go_wp2_with fail
          refine wp_region_rel_all (fun i => if i = 11 then some (spV (.int .i64 (j : Int))) else none) (by kernel_rfl) (by kernel_rfl) ?_
          repeat (first
            | (refine wpRel_quick ?_ ?_ ?_ ?_
               · rfl
               · rfl
               · first | exact noEnter rfl | (intro f args W W'; go_simp)
               intro K hK
               go_big_quiet_op
               go_big_quiet_on)
            | (refine wpRel_skip ?_ ?_
               · rfl
               simp only [Act.put, List.setIfInBounds_toArray, List.set_cons_zero, List.set_cons_succ]))
          refine wpRel_rich _ rfl rfl (fun W hW => ?_) (fun v W3 hW3 hv => ?_)
          · have hc := HMM.out W (HXA.out.trans (HE.out.trans ((Ext.refl wr).drew.trans hW.1)))
            go_simp
            refine Calls.mono hc ?_
            rintro e w' ⟨rfl, h⟩
            exact ⟨_, rfl, rfl, by first | exact h | (subst h; exact Ext.refl _)⟩
          obtain rfl := hv
          clear hW3
          simp only [Act.put, List.setIfInBounds_toArray, List.set_cons_zero, List.set_cons_succ]
          repeat (first
            | (refine wpRel_quick ?_ ?_ ?_ ?_
               · rfl
               · rfl
               · first | exact noEnter rfl | (intro f args W W'; go_simp)
               intro K hK
               go_big_quiet_op
               go_big_quiet_on)
            | (refine wpRel_skip ?_ ?_
               · rfl
               simp only [Act.put, List.setIfInBounds_toArray, List.set_cons_zero, List.set_cons_succ]))
          refine wpRel_nil ?_
          intro W3 hW3
          have hEW : Ext wr W3 := (Ext.refl _).drew.trans hW3.1
          have HE3' := Lib.hid (HE.out.trans hEW)
          have HF3 := Lib.hid (HF.out.ext hEW)
          have HO3 := Lib.hid (ownsRow_ext HO.out hEW)
          clear hW3 hEW gd1 gd2 gk0 gk1 gk2 gk3 gk4 gk5 gk6 d0 d1 d2 k0 k1 k2 k3 k4 k5 k6
          go_wp2_with (at_builtin; refine wpList_append_S rfl _ _ 45 45 rfl w1.heap.size 3 ii _ 1 8 Try.underlying45 HII.out.1 HII.out.2.1 HII.out.2.2.1 HII.out.2.2.2 rfl u5 _ _ rfl (ownsRow_ext HO3.out ((Ext.refl W3).alloc _)) _ 1 [.int .i64 j] rfl (Src.ofSlice _ Try.underlying45 ⟨_, 0, none⟩ 1 1 _ rfl (one_cell (by simp)) (by simp [Value.oneCell'])) (by have := HLN.out; unfold maxLen; omega) (by have := HLN.out; omega) (by have := HE3'.out.size; simp; omega) ?_; intro vo w5 ho5 hg5; have HO5 := Lib.hid ho5; have HG5 := Lib.hid hg5; have HE5 := Lib.hid (Ext.own_step (HE3'.out.alloc _) hg5 (ownsRow_ext HO3.out ((Ext.refl W3).alloc _))); clear ho5 hg5)
          go_roundw
          case rel => exact ⟨m + 1, by go_num, by omega, by rw [HFS.out, HNP.out]; simp only [Option.toList, ints_snoc, irows_app, List.flatten_append, List.length_append]; exact HO5.out, by exact (HF3.out.ext ((Ext.refl W3).alloc (.cells #[.int .i64 j] 3))).grow HG5.out, HE5.out⟩
          case measure => simp [intOf] <;> omega
        | none =>
          have HNP : Hid (needP l p = none) := Lib.hid (by unfold needP; rw [if_pos hpp, hme])
          rw [findC_of_none hme] at HMM
          clear hpp hme
          go_wp2_with fail
          refine wp_region_rel_all (fun i => if i = 11 then some (spV (.int .i64 (-1))) else none) (by kernel_rfl) (by kernel_rfl) ?_
          repeat (first
            | (refine wpRel_quick ?_ ?_ ?_ ?_
               · rfl
               · rfl
               · first | exact noEnter rfl | (intro f args W W'; go_simp)
               intro K hK
               go_big_quiet_op
               go_big_quiet_on)
            | (refine wpRel_skip ?_ ?_
               · rfl
               simp only [Act.put, List.setIfInBounds_toArray, List.set_cons_zero, List.set_cons_succ]))
          refine wpRel_rich _ rfl rfl (fun W hW => ?_) (fun v W3 hW3 hv => ?_)
          · have hc := HMM.out W (HXA.out.trans (HE.out.trans ((Ext.refl wr).drew.trans hW.1)))
            go_simp
            refine Calls.mono hc ?_
            rintro e w' ⟨rfl, h⟩
            exact ⟨_, rfl, rfl, by first | exact h | (subst h; exact Ext.refl _)⟩
          obtain rfl := hv
          clear hW3
          simp only [Act.put, List.setIfInBounds_toArray, List.set_cons_zero, List.set_cons_succ]
          repeat (first
            | (refine wpRel_quick ?_ ?_ ?_ ?_
               · rfl
               · rfl
               · first | exact noEnter rfl | (intro f args W W'; go_simp)
               intro K hK
               go_big_quiet_op
               go_big_quiet_on)
            | (refine wpRel_skip ?_ ?_
               · rfl
               simp only [Act.put, List.setIfInBounds_toArray, List.set_cons_zero, List.set_cons_succ]))
          refine wpRel_nil ?_
          intro W3 hW3
          have hEW : Ext wr W3 := (Ext.refl _).drew.trans hW3.1
          have HE3' := Lib.hid (HE.out.trans hEW)
          have HF3 := Lib.hid (HF.out.ext hEW)
          have HO3 := Lib.hid (ownsRow_ext HO.out hEW)
          clear hW3 hEW gd1 gd2 gk0 gk1 gk2 gk3 gk4 gk5 gk6 d0 d1 d2 k0 k1 k2 k3 k4 k5 k6
          go_wp2_with fail
          go_roundw
          case rel => exact ⟨m + 1, by go_num, by omega, by rw [HFS.out, HNP.out]; simpa using HO3.out, by exact HF3.out, HE3'.out⟩
          case measure => simp [intOf] <;> omega
      · have HNP : Hid (needP l p = none) := Lib.hid (by unfold needP; rw [if_neg (by simp only [beq_eq_false_iff_ne, ne_eq] at h5 h6; simp [h5, h6])])
        go_wp2_with fail
        go_roundw
        case rel => exact ⟨m + 1, by go_num, by omega, by rw [HFS.out, HNP.out]; simpa using HO.out, by exact HF.out, HE.out⟩
        case measure => simp [intOf] <;> omega
    · have hmi : ¬ (m : Int) < (P.length : Int) := by omega
      obtain rfl : m = P.length := by omega
      rw [List.take_length] at HO
      obtain ⟨ra, rc, rfl, hrs, -⟩ := SL.of_own HO.out (irows_wid _) (by simp [irows])
      have HRS := Lib.hid hrs
      clear hrs
      go_wp2_with fail
      go_ret
      exact ⟨ra, rc, by rw [HND.out]; rfl, by rw [HND.out]; exact HRS.out, HXA.out.trans HE.out⟩
end Go.Proofs.Ytimigpfoflilcaa
