/- Offers: Make and Take of the program. -/
import Derived.Test.YtbnaoefmjmlfbaaOP
namespace Go.Sz
open Go.RowKit
/-- a list and an error number -/
def RetLE (r : List Off × Int) (w : World) (e : Ending) (w' : World) : Prop := ∃ ao cap, e = .returned (.tuple #[.slice ao r.1.length cap, .int .i64 r.2]) ∧ RepO w' ao cap r.1 ∧ Ext w w'
/-- a new block that holds x -/
def spVar4 (D : Nat) (t : TypeId) (x : Off) : Spec := ⟨fun v W => ∃ g, v = .slice (some ⟨g, 0, none⟩) 1 1 ∧ D ≤ g ∧ W.heap[g]? = some (.cells x.enc.toArray t (0, 0)), fun hE ⟨g, h1, h0, h2⟩ => ⟨g, h1, h0, (hE.block g (Array.getElem?_eq_some_iff.1 h2).1).trans h2⟩⟩
theorem RepO.empty (w : World) : RepO w none 0 [] := SL.empty _ _
theorem enc_inj {x y : Off} (h : x.enc = y.enc) : x = y := by
  obtain ⟨s, a, b, u⟩ := x
  obtain ⟨s', a', b', u'⟩ := y
  simp [Off.enc] at h
  simp [h]
theorem Ext.below' {a b c : World} (h : Ext a b) (k : Below a.heap.size b c) : Ext a c := Below.trans h k
/-- the row of a list that does not hold x is not x's own block -/
theorem row_apart {W : World} {D t n : Nat} {v : Value} {l : List Off} {x : Off} {vb : Nat} (ho : W.ownsRow D t 4 v n (orows l).flatten) (hn : l.length = n) (h0 : 0 < n) (hx : x ∉ l) (hv : W.heap[vb]? = some (.cells x.enc.toArray t (0, 0))) : ∀ g, v.ownBlock = some g → vb ≠ g := by
  intro g hg he
  subst he
  obtain ⟨g', cap, cur, rfl, _, hh, hnc, _, hcs, htk⟩ := own_block ho h0
  have h1 : some g' = some vb := hg
  injection h1 with h1
  subst h1
  rw [hv] at hh
  injection hh with hh
  injection hh with hh
  subst hh
  simp only [List.size_toArray, enc_len] at hcs htk
  have hc1 : cap = 1 := by omega
  have hn1 : n = 1 := by omega
  subst hn1
  match l, hn with
  | [y], _ =>
    have : x.enc = y.enc := by simpa [orows, Off.enc] using htk
    exact hx (by rw [enc_inj this]; simp)
end Go.Sz
namespace Go.Proofs.Ytbnaoefmjmlfbaa
open Go.RowKit Go.Sz
set_option maxRecDepth 100000 in
set_option maxHeartbeats 6400000 in
theorem make_any (l : List Off) (x : Off) (ao : Option Addr) (cap : Nat) (w : World) (h : RepO w ao cap l) (hb : l.length ≤ 100000) : Calls Try.prog 12 #[.slice ao l.length cap, .agg x.enc.toArray] w (RetLE (makeO l x) w) := by
  have hX0 : Ext w (w.alloc (.cells #[.int .i64 x.s, .int .i64 x.a, .int .i64 x.b, .int .i64 x.u] 26)) := (Ext.refl w).alloc _
  have HL := Lib.hid (h.ext hX0)
  have d0 : (w.alloc (.cells #[.int .i64 x.s, .int .i64 x.a, .int .i64 x.b, .int .i64 x.u] 26)).cell? ⟨w.heap.size, 0, none⟩ = some (.int .i64 x.s) := by simp
  have d1 : (w.alloc (.cells #[.int .i64 x.s, .int .i64 x.a, .int .i64 x.b, .int .i64 x.u] 26)).cell? ⟨w.heap.size, 1, none⟩ = some (.int .i64 x.a) := by simp
  have d2 : (w.alloc (.cells #[.int .i64 x.s, .int .i64 x.a, .int .i64 x.b, .int .i64 x.u] 26)).cell? ⟨w.heap.size, 2, none⟩ = some (.int .i64 x.b) := by simp
  have d3 : (w.alloc (.cells #[.int .i64 x.s, .int .i64 x.a, .int .i64 x.b, .int .i64 x.u] 26)).cell? ⟨w.heap.size, 3, none⟩ = some (.int .i64 x.u) := by simp
  have HD : Hid (∀ W, Ext (w.alloc (.cells #[.int .i64 x.s, .int .i64 x.a, .int .i64 x.b, .int .i64 x.u] 26)) W → W.cell? ⟨w.heap.size, 0, none⟩ = some (.int .i64 x.s) ∧ W.cell? ⟨w.heap.size, 1, none⟩ = some (.int .i64 x.a) ∧ W.cell? ⟨w.heap.size, 2, none⟩ = some (.int .i64 x.b) ∧ W.cell? ⟨w.heap.size, 3, none⟩ = some (.int .i64 x.u)) := Lib.hid fun W hE => ⟨hE.cell d0, hE.cell d1, hE.cell d2, hE.cell d3⟩
  have HX0 := Lib.hid hX0
  have HBB := Lib.hid hb
  have HMK : Hid (makeO l x = if okLO l = true then (if okO x = true then (if hasO l x = true then ([], 310) else (insO l (posN l x) x, 0)) else ([], 310)) else ([], 310)) := Lib.hid rfl
  have HCZ := Lib.hid (checkO_zero (l := l))
  have HCV : Hid (checkO l = if okLO l = true then 0 else 310) := Lib.hid rfl
  clear h hX0 d0 d1 d2 d3 hb
  unfold Off.enc
  generalize makeO l x = r at *
  cases hok : okLO l with
  | false =>
    have HR : Hid (r = ([], 310)) := Lib.hid (by rw [HMK.out, hok]; rfl)
    have HC : Hid (checkO l = 310) := Lib.hid (by rw [HCV.out, hok]; rfl)
    clear hok
    go_enter Try.func12, Try.ntmps12
    go_wp2_with (go_at_call 14; refine (check_any l _ _ _ HL.out).mono ?_; rintro e w1 ⟨rfl, hE1⟩; rw [HC.out])
    go_ret2
    exact ⟨none, 0, by rw [HR.out]; rfl, by rw [HR.out]; exact RepO.empty _, HX0.out.trans hE1⟩
  | true =>
    have HOK := Lib.hid hok
    have HC : Hid (checkO l = 0) := Lib.hid (by rw [HCV.out, hok]; rfl)
    clear hok
    cases hf : okO x with
    | false =>
      have HR : Hid (r = ([], 310)) := Lib.hid (by rw [HMK.out, HOK.out, hf]; rfl)
      have HF := Lib.hid hf
      clear hf
      go_enter Try.func12, Try.ntmps12
      go_wp2_with (first
        | (go_at_call 14; refine (check_any l _ _ _ HL.out).mono ?_; rintro e w1 ⟨rfl, hE1⟩; rw [HC.out]; obtain ⟨d0, d1, d2, d3⟩ := HD.out w1 hE1)
        | (go_at_call 23; refine (fits_any x _).mono ?_; rintro e w2 ⟨rfl, hE2⟩; rw [HF.out]))
      go_ret2
      exact ⟨none, 0, by rw [HR.out]; rfl, by rw [HR.out]; exact RepO.empty _, HX0.out.trans (hE1.trans hE2)⟩
    | true =>
      have HF := Lib.hid hf
      clear hf
      have HST := Lib.hid (okLO_iff.1 HOK.out).2
      go_enter Try.func12, Try.ntmps12
      go_wp2_with (first
        | (go_at_call 14; refine (check_any l _ _ _ HL.out).mono ?_; rintro e w1 ⟨rfl, hE1⟩; rw [HC.out]; obtain ⟨d0, d1, d2, d3⟩ := HD.out w1 hE1)
        | (go_at_call 23; refine (fits_any x _).mono ?_; rintro e w2 ⟨rfl, hE2⟩; rw [HF.out]; clear d0 d1 d2 d3; obtain ⟨d0, d1, d2, d3⟩ := HD.out w2 (hE1.trans hE2)))
      have HE2 := Lib.hid (hE1.trans hE2)
      clear hE1 hE2
      refine (search_any l x _ _ _ (HL.out.ext HE2.out) (SortO.mono HST.out x) HBB.out).mono ?_
      rintro e w3 ⟨p, hp, rfl, hE3⟩
      have HE3 := Lib.hid (HE2.out.trans hE3)
      have HP := Lib.hid hp
      have hpe := hp.eq
      have hmt := metO_eq HST.out hp
      have hpl : (p : Int) ≤ (l.length : Int) := by have := hp.le; omega
      have HPE := Lib.hid hpe
      clear hp hpe hE3 d0 d1 d2 d3
      obtain ⟨d0, d1, d2, d3⟩ := HD.out w3 HE3.out
      cases hh : hasO l x with
      | true =>
        have HR : Hid (r = ([], 310)) := Lib.hid (by rw [HMK.out, HOK.out, HF.out, hh]; rfl)
        rw [hh] at hmt
        rw [hmt]
        clear hmt hh
        go_wp2_with fail
        go_ret2
        exact ⟨none, 0, by rw [HR.out]; rfl, by rw [HR.out]; exact RepO.empty _, HX0.out.trans HE3.out⟩
      | false =>
        have HR : Hid (r = (insO l p x, 0)) := Lib.hid (by rw [HMK.out, HOK.out, HF.out, hh, HPE.out]; rfl)
        have HNX : Hid (x ∉ l) := Lib.hid fun hx => by
          unfold hasO at hh
          rw [List.any_eq_false] at hh
          exact hh x hx (isO_iff.2 ⟨rfl, rfl, rfl⟩)
        rw [hh] at hmt
        rw [hmt]
        clear hmt hh
        have gd0 := grow_cell d0
        have gd1 := grow_cell d1
        have gd2 := grow_cell d2
        have gd3 := grow_cell d3
        go_wp2_with fail
        refine wp_region_noPanic ?_
        refine wp_region_rel (fun i => if i = 1 then some (spOwn w3.heap.size 26 4 l.length (orows l)) else if i = 4 then some (spVar4 w3.heap.size 26 x) else none) 5 3 (by kernel_rfl) (by kernel_rfl) ?_
        simp only [List.take_succ_cons, List.take_zero]
        repeat (first
          | (refine wpRel_quick ?_ ?_ ?_ ?_
             · rfl
             · rfl
             · first | exact noEnter rfl | (intro f args W W'; go_simp)
             intro K hK
             go_big_quiet_op
             go_big_quiet_on)
          | (refine wpRel_skip ?_ ?_
             · rfl
             simp only [Act.put, List.setIfInBounds_toArray, List.set_cons_zero, List.set_cons_succ]))
        refine wpRel_rich _ rfl rfl (fun W hW => ?_) (fun v W4 hW4 hv => ?_)
        · have hx : Ext w3 W := (Ext.refl w3).drew.trans hW.1
          have hc := clone_any l ao cap W ((HL.out.ext HE3.out).ext hx) HBB.out
          go_simp
          refine Calls.mono hc ?_
          rintro e w' ⟨v', rfl, ho, hE⟩
          exact ⟨_, rfl, ownsRow_base ho hx.size, hE⟩
        clear hv hW4
        simp only [Act.put, List.setIfInBounds_toArray, List.set_cons_zero, List.set_cons_succ]
        repeat (first
          | (refine wpRel_quick ?_ ?_ ?_ ?_
             · rfl
             · rfl
             · first | exact noEnter rfl | (intro f args W W'; go_simp)
             intro K hK
             go_big_quiet_op
             go_big_quiet_on)
          | (refine wpRel_skip ?_ ?_
             · rfl
             simp only [Act.put, List.setIfInBounds_toArray, List.set_cons_zero, List.set_cons_succ]))
        refine wpRel_rich _ rfl rfl (fun W hW => ?_) (fun v2 W4 hW4 hv => ?_)
        · have hx : Ext w3 W := (Ext.refl w3).drew.trans hW.1
          go_simp
          exact ⟨⟨_, rfl, hx.size, heap_alloc_new W _⟩, (Ext.refl _).alloc _⟩
        obtain ⟨vb, rfl, _, _⟩ := hv
        clear hW4
        simp only [Act.put, List.setIfInBounds_toArray, List.set_cons_zero, List.set_cons_succ]
        refine wpRel_nil ?_
        intro W hW
        have ho : W.ownsRow w3.heap.size 26 4 v l.length (orows l).flatten := hW.2 1 trivial _ _ rfl rfl
        obtain ⟨vb', he, _, hvb⟩ := hW.2 4 trivial _ _ rfl rfl
        cases he
        have hE : Ext w3 W := (Ext.refl w3).drew.trans hW.1
        have HI := Lib.hid (insert_any l w3.heap.size p v x vb W ho hE.size (by omega) HBB.out hvb (fun hlt => row_apart ho rfl (by omega) HNX.out hvb))
        have HE := Lib.hid hE
        clear hW ho hvb hE gd0 gd1 gd2 gd3 d0 d1 d2 d3
        refine wpAny_ready (rs := [5]) (by kernel_rfl) (by simp) ?_
        refine AllReady.cons rfl (fun K hK => ?_) AllReady.nil
        go_simp
        refine HI.out.mono ?_
        rintro e w5 ⟨v5, rfl, ho5, hB5⟩
        refine hK _ _ ?_
        clear hK K
        have HO5 := Lib.hid ho5
        have HB5 := Lib.hid hB5
        clear ho5 hB5
        refine wpAny_ready (rs := [6]) (by kernel_rfl) (by simp) ?_
        refine AllReady.cons rfl (fun K hK => ?_) AllReady.nil
        go_simp
        refine hK _ _ ?_
        clear hK K
        refine wpAny_ready (rs := [7]) (by kernel_rfl) (by simp) ?_
        refine AllReady.cons rfl (fun K hK => ?_) AllReady.nil
        go_simp
        refine hK _ _ ?_
        clear hK K
        refine wpAny_done (by kernel_rfl) ?_ _
        refine NoPanic.normal ?_
        go_wp2_with fail
        go_ret2
        obtain ⟨ao5, cap5, hv5, hR5, _⟩ := RepO.of_own HO5.out rfl
        exact ⟨ao5, cap5, by rw [HR.out, hv5]; rfl, by rw [HR.out]; exact hR5, HX0.out.trans (HE3.out.trans (Ext.below' HE.out HB5.out))⟩
set_option maxRecDepth 100000 in
set_option maxHeartbeats 6400000 in
theorem take_any (l : List Off) (s a b now : Int) (ao : Option Addr) (cap : Nat) (w : World) (h : RepO w ao cap l) (hb : l.length ≤ 100000) : Calls Try.prog 21 #[.slice ao l.length cap, .int .i64 s, .agg #[.int .i64 a, .int .i64 b], .int .i64 now] w (RetLE (takeO l s a b now) w) := by
  have hX0 : Ext w ((w.alloc (.cells #[.int .i64 s] 3)).alloc (.cells #[.int .i64 a, .int .i64 b] 24)) := ((Ext.refl w).alloc _).alloc _
  have HL := Lib.hid (h.ext hX0)
  have hs1 := h.max
  have d0 : ((w.alloc (.cells #[.int .i64 s] 3)).alloc (.cells #[.int .i64 a, .int .i64 b] 24)).cell? ⟨w.heap.size, 0, none⟩ = some (.int .i64 s) := by simp
  have d1 : ((w.alloc (.cells #[.int .i64 s] 3)).alloc (.cells #[.int .i64 a, .int .i64 b] 24)).cell? ⟨w.heap.size + 1, 0, none⟩ = some (.int .i64 a) := by simp
  have d2 : ((w.alloc (.cells #[.int .i64 s] 3)).alloc (.cells #[.int .i64 a, .int .i64 b] 24)).cell? ⟨w.heap.size + 1, 1, none⟩ = some (.int .i64 b) := by simp
  have HD : Hid (∀ W, Ext ((w.alloc (.cells #[.int .i64 s] 3)).alloc (.cells #[.int .i64 a, .int .i64 b] 24)) W → W.cell? ⟨w.heap.size, 0, none⟩ = some (.int .i64 s) ∧ W.cell? ⟨w.heap.size + 1, 0, none⟩ = some (.int .i64 a) ∧ W.cell? ⟨w.heap.size + 1, 1, none⟩ = some (.int .i64 b)) := Lib.hid fun W hE => ⟨hE.cell d0, hE.cell d1, hE.cell d2⟩
  have HX0 := Lib.hid hX0
  have HBB := Lib.hid hb
  have HTB := Lib.hid (takeO_bad (l := l) (s := s) (a := a) (b := b) (now := now))
  have HTN := Lib.hid (takeO_none (l := l) (s := s) (a := a) (b := b) (now := now))
  have HTS := Lib.hid (fun i => takeO_some (l := l) (s := s) (a := a) (b := b) (now := now) (i := i))
  have HCV : Hid (checkO l = if okLO l = true then 0 else 310) := Lib.hid rfl
  clear h hX0 d0 d1 d2 hb
  generalize takeO l s a b now = r at *
  cases hok : okLO l with
  | false =>
    have HR : Hid (r = ([], 310)) := Lib.hid (HTB.out hok)
    have HC : Hid (checkO l = 310) := Lib.hid (by rw [HCV.out, hok]; rfl)
    clear hok
    go_enter Try.func21, Try.ntmps21
    go_wp2_with (go_at_call 14; refine (check_any l _ _ _ HL.out).mono ?_; rintro e w1 ⟨rfl, hE1⟩; rw [HC.out])
    go_ret2
    exact ⟨none, 0, by rw [HR.out]; rfl, by rw [HR.out]; exact RepO.empty _, HX0.out.trans hE1⟩
  | true =>
    have HOK := Lib.hid hok
    have HC : Hid (checkO l = 0) := Lib.hid (by rw [HCV.out, hok]; rfl)
    clear hok
    rcases findO_or' l (isO s a b) with hn | ⟨i, hi, hn, hfi⟩
    · have HR : Hid (r = ([], 310)) := Lib.hid (HTN.out HOK.out hn)
      have HF : Hid (findO l (isO s a b) = -1) := Lib.hid (by unfold findO; rw [hn])
      clear hn
      go_enter Try.func21, Try.ntmps21
      go_wp2_with (first
        | (go_at_call 14; refine (check_any l _ _ _ HL.out).mono ?_; rintro e w1 ⟨rfl, hE1⟩; rw [HC.out]; have HE1 := Lib.hid hE1; clear hE1)
        | (go_at_call 32; refine (indexFunc_any l s a b _ _ _ _ _ (HL.out.ext HE1.out) (HD.out _ HE1.out).1 (HD.out _ HE1.out).2.1 (HD.out _ HE1.out).2.2).mono ?_; rintro e w2 ⟨rfl, hE2⟩; rw [HF.out]))
      go_ret2
      exact ⟨none, 0, by rw [HR.out]; rfl, by rw [HR.out]; exact RepO.empty _, HX0.out.trans (HE1.out.trans hE2)⟩
    · have HF : Hid (findO l (isO s a b) = (i : Int)) := Lib.hid hfi
      have HR : Hid (r = if now < l[i].u then (l.eraseIdx i, 0) else ([], 310)) := Lib.hid (HTS.out i HOK.out hi hn)
      have hii : (i : Int) < (l.length : Int) := by omega
      have HII := Lib.hid hi
      have HCE : Hid (∀ W, Ext ((w.alloc (.cells #[.int .i64 s] 3)).alloc (.cells #[.int .i64 a, .int .i64 b] 24)) W → ∃ b o, ao = some ⟨b, o, none⟩ ∧ W.cell? ⟨b, o + i * 4 + 3, none⟩ = some (.int .i64 l[i].u)) := Lib.hid fun W hE => by
        obtain ⟨b, o, e, _, _, _, h3⟩ := o_cells HL.out hE hi
        exact ⟨b, o, e, h3⟩
      obtain ⟨bb, o, rfl, _⟩ := HCE.out _ (Ext.refl _)
      have HC3 : Hid (∀ W, Ext ((w.alloc (.cells #[.int .i64 s] 3)).alloc (.cells #[.int .i64 a, .int .i64 b] 24)) W → W.cell? ⟨bb, o + i * 4 + 3, none⟩ = some (.int .i64 l[i].u)) := Lib.hid fun W hE => by
        obtain ⟨b', o', e, h3⟩ := HCE.out W hE
        cases e
        exact h3
      clear hn hfi HCE HTS HTB HTN
      generalize l[i] = y at *
      by_cases hu : now < y.u
      · have HR2 : Hid (r = (l.eraseIdx i, 0)) := Lib.hid (by rw [HR.out, if_pos hu])
        have hu' : ¬ y.u ≤ now := by omega
        go_enter Try.func21, Try.ntmps21
        go_wp2_with (first
          | (go_at_call 14; refine (check_any l _ _ _ HL.out).mono ?_; rintro e w1 ⟨rfl, hE1⟩; rw [HC.out]; have HE1 := Lib.hid hE1; clear hE1)
          | (go_at_call 32; refine (indexFunc_any l s a b _ _ _ _ _ (HL.out.ext HE1.out) (HD.out _ HE1.out).1 (HD.out _ HE1.out).2.1 (HD.out _ HE1.out).2.2).mono ?_; rintro e w2 ⟨rfl, hE2⟩; rw [HF.out]; have HE2 := Lib.hid (HE1.out.trans hE2); clear hE2; have c3 := HC3.out _ HE2.out)
          | (go_at_call 27; refine (clone_any l _ _ _ (HL.out.ext HE2.out) HBB.out).mono ?_; rintro e w3 ⟨v3, rfl, ho3, hE3⟩; have HO3 := Lib.hid ho3; have HE3 := Lib.hid hE3; clear ho3 hE3)
          | (go_at_call 34; refine (delete_any l _ i v3 _ HO3.out HE3.out.size HII.out HBB.out).mono ?_; rintro e w4 ⟨v4, rfl, ho4, hB4⟩; have HO4 := Lib.hid ho4; have HB4 := Lib.hid hB4; clear ho4 hB4))
        go_ret2
        obtain ⟨ao5, cap5, hv5, hR5, _⟩ := RepO.of_own HO4.out rfl
        exact ⟨ao5, cap5, by rw [HR2.out, hv5]; rfl, by rw [HR2.out]; exact hR5, HX0.out.trans (HE2.out.trans (Ext.below' HE3.out HB4.out))⟩
      · have HR2 : Hid (r = ([], 310)) := Lib.hid (by rw [HR.out, if_neg hu])
        have hu' : y.u ≤ now := by omega
        go_enter Try.func21, Try.ntmps21
        go_wp2_with (first
          | (go_at_call 14; refine (check_any l _ _ _ HL.out).mono ?_; rintro e w1 ⟨rfl, hE1⟩; rw [HC.out]; have HE1 := Lib.hid hE1; clear hE1)
          | (go_at_call 32; refine (indexFunc_any l s a b _ _ _ _ _ (HL.out.ext HE1.out) (HD.out _ HE1.out).1 (HD.out _ HE1.out).2.1 (HD.out _ HE1.out).2.2).mono ?_; rintro e w2 ⟨rfl, hE2⟩; rw [HF.out]; have HE2 := Lib.hid (HE1.out.trans hE2); clear hE2; have c3 := HC3.out _ HE2.out))
        go_ret2
        exact ⟨none, 0, by rw [HR2.out]; rfl, by rw [HR2.out]; exact RepO.empty _, HX0.out.trans HE2.out⟩
end Go.Proofs.Ytbnaoefmjmlfbaa
