/- Waiting: Join and Leave of the program. -/
import Derived.Test.YtbhpeecebcihkaaWL
namespace Go.Sz
open Go.RowKit
/-- a list and an error number -/
def RetLE (r : List Wt × Int) (w : World) (e : Ending) (w' : World) : Prop := ∃ ao cap, e = .returned (.tuple #[.slice ao r.1.length cap, .int .i64 r.2]) ∧ RepW w' ao cap r.1 ∧ Ext w w'
/-- a new block that holds x -/
def spVar5 (D : Nat) (t : TypeId) (x : Wt) : Spec := ⟨fun v W => ∃ g, v = .slice (some ⟨g, 0, none⟩) 1 1 ∧ D ≤ g ∧ W.heap[g]? = some (.cells x.enc.toArray t (0, 0)), fun hE ⟨g, h1, h0, h2⟩ => ⟨g, h1, h0, (hE.block g (Array.getElem?_eq_some_iff.1 h2).1).trans h2⟩⟩
theorem RepW.empty (w : World) : RepW w none 0 [] := SL.empty _ _
theorem enc_inj {x y : Wt} (h : x.enc = y.enc) : x = y := by
  obtain ⟨s, a, b, k, t⟩ := x
  obtain ⟨s', a', b', k', t'⟩ := y
  simp [Wt.enc] at h
  simp [h]
theorem Ext.below' {a b c : World} (h : Ext a b) (k : Below a.heap.size b c) : Ext a c := Below.trans h k
/-- the row of a list that does not hold x is not x's own block -/
theorem row_apart {W : World} {D t n : Nat} {v : Value} {l : List Wt} {x : Wt} {vb : Nat} (ho : W.ownsRow D t 5 v n (wrows l).flatten) (hn : l.length = n) (h0 : 0 < n) (hx : x ∉ l) (hv : W.heap[vb]? = some (.cells x.enc.toArray t (0, 0))) : ∀ g, v.ownBlock = some g → vb ≠ g := by
  intro g hg he
  subst he
  obtain ⟨g', cap, cur, rfl, _, hh, hnc, _, hcs, htk⟩ := own_block ho h0
  have h1 : some g' = some vb := hg
  injection h1 with h1
  subst h1
  rw [hv] at hh
  injection hh with hh
  injection hh with hh
  subst hh
  simp only [List.size_toArray, enc_len] at hcs htk
  have hc1 : cap = 1 := by omega
  have hn1 : n = 1 := by omega
  subst hn1
  match l, hn with
  | [y], _ =>
    have : x.enc = y.enc := by simpa [wrows, Wt.enc] using htk
    exact hx (by rw [enc_inj this]; simp)
end Go.Sz
namespace Go.Proofs.Ytbhpeecebcihkaa
open Go.RowKit Go.Sz
set_option maxRecDepth 100000 in
set_option maxHeartbeats 6400000 in
theorem join_any (l : List Wt) (x : Wt) (ao : Option Addr) (cap : Nat) (w : World) (h : RepW w ao cap l) (hb : l.length ≤ 100000) : Calls Try.prog 12 #[.slice ao l.length cap, .agg x.enc.toArray] w (RetLE (joinW l x) w) := by
  have hX0 : Ext w (w.alloc (.cells #[.int .i64 x.s, .int .i64 x.a, .int .i64 x.b, .int .i64 x.k, .int .i64 x.t] 26)) := (Ext.refl w).alloc _
  have HL := Lib.hid (h.ext hX0)
  have d0 : (w.alloc (.cells #[.int .i64 x.s, .int .i64 x.a, .int .i64 x.b, .int .i64 x.k, .int .i64 x.t] 26)).cell? ⟨w.heap.size, 0, none⟩ = some (.int .i64 x.s) := by simp
  have d1 : (w.alloc (.cells #[.int .i64 x.s, .int .i64 x.a, .int .i64 x.b, .int .i64 x.k, .int .i64 x.t] 26)).cell? ⟨w.heap.size, 1, none⟩ = some (.int .i64 x.a) := by simp
  have d2 : (w.alloc (.cells #[.int .i64 x.s, .int .i64 x.a, .int .i64 x.b, .int .i64 x.k, .int .i64 x.t] 26)).cell? ⟨w.heap.size, 2, none⟩ = some (.int .i64 x.b) := by simp
  have d3 : (w.alloc (.cells #[.int .i64 x.s, .int .i64 x.a, .int .i64 x.b, .int .i64 x.k, .int .i64 x.t] 26)).cell? ⟨w.heap.size, 3, none⟩ = some (.int .i64 x.k) := by simp
  have d4 : (w.alloc (.cells #[.int .i64 x.s, .int .i64 x.a, .int .i64 x.b, .int .i64 x.k, .int .i64 x.t] 26)).cell? ⟨w.heap.size, 4, none⟩ = some (.int .i64 x.t) := by simp
  have HD : Hid (∀ W, Ext (w.alloc (.cells #[.int .i64 x.s, .int .i64 x.a, .int .i64 x.b, .int .i64 x.k, .int .i64 x.t] 26)) W → W.cell? ⟨w.heap.size, 0, none⟩ = some (.int .i64 x.s) ∧ W.cell? ⟨w.heap.size, 1, none⟩ = some (.int .i64 x.a) ∧ W.cell? ⟨w.heap.size, 2, none⟩ = some (.int .i64 x.b) ∧ W.cell? ⟨w.heap.size, 3, none⟩ = some (.int .i64 x.k) ∧ W.cell? ⟨w.heap.size, 4, none⟩ = some (.int .i64 x.t)) := Lib.hid fun W hE => ⟨hE.cell d0, hE.cell d1, hE.cell d2, hE.cell d3, hE.cell d4⟩
  have HX0 := Lib.hid hX0
  have HBB := Lib.hid hb
  have HMK : Hid (joinW l x = if okLW l = true then (if okW x = true then (if hasW l x = true then ([], 260) else (insW l (posW l x) x, 0)) else ([], 260)) else ([], 260)) := Lib.hid rfl
  have HCV : Hid (checkW l = if okLW l = true then 0 else 260) := Lib.hid rfl
  clear h hX0 d0 d1 d2 d3 d4 hb
  unfold Wt.enc
  generalize joinW l x = r at *
  cases hok : okLW l with
  | false =>
    have HR : Hid (r = ([], 260)) := Lib.hid (by rw [HMK.out, hok]; rfl)
    have HC : Hid (checkW l = 260) := Lib.hid (by rw [HCV.out, hok]; rfl)
    clear hok
    go_enter Try.func12, Try.ntmps12
    go_wp2_with (first
      | (go_at_call 17; refine (checkW_any l _ _ _ HL.out HBB.out).mono ?_; rintro e w1 ⟨rfl, hE1⟩; rw [HC.out]; have HE1 := Lib.hid hE1; clear hE1; obtain ⟨d0, d1, d2, d3, d4⟩ := HD.out w1 HE1.out))
    go_ret2
    exact ⟨none, 0, by rw [HR.out]; rfl, by rw [HR.out]; exact RepW.empty _, HX0.out.trans HE1.out⟩
  | true =>
    have HOK := Lib.hid hok
    have HC : Hid (checkW l = 0) := Lib.hid (by rw [HCV.out, hok]; rfl)
    clear hok
    cases hf : okW x with
    | false =>
      have HR : Hid (r = ([], 260)) := Lib.hid (by rw [HMK.out, HOK.out, hf]; rfl)
      have HF := Lib.hid hf
      clear hf
      go_enter Try.func12, Try.ntmps12
      go_wp2_with (first
        | (go_at_call 17; refine (checkW_any l _ _ _ HL.out HBB.out).mono ?_; rintro e w1 ⟨rfl, hE1⟩; rw [HC.out]; have HE1 := Lib.hid hE1; clear hE1; obtain ⟨d0, d1, d2, d3, d4⟩ := HD.out w1 HE1.out)
        | (go_at_call 28; refine (validW_any x _).mono ?_; rintro e w2 ⟨rfl, hE2⟩; rw [HF.out]; have HE2 := Lib.hid (HE1.out.trans hE2); clear hE2 d0 d1 d2 d3 d4; obtain ⟨d0, d1, d2, d3, d4⟩ := HD.out w2 HE2.out))
      go_ret2
      exact ⟨none, 0, by rw [HR.out]; rfl, by rw [HR.out]; exact RepW.empty _, HX0.out.trans HE2.out⟩
    | true =>
      have HF := Lib.hid hf
      clear hf
      have HST := Lib.hid (okLW_iff.1 HOK.out).2.1
      cases hh : hasW l x with
      | true =>
        have HR : Hid (r = ([], 260)) := Lib.hid (by rw [HMK.out, HOK.out, HF.out, hh]; rfl)
        have HG : Hid (0 ≤ findW l (isW x.s x.a x.b)) := Lib.hid (Int.not_lt.1 fun h => by
          have := findW_neg.1 h
          unfold hasW at hh
          rw [hh] at this
          cases this)
        obtain ⟨n, hn⟩ : ∃ n, findW l (isW x.s x.a x.b) = n := ⟨_, rfl⟩
        rw [hn] at HG
        have HFI := Lib.hid hn
        have hn0 := HG.out
        clear hn hh
        go_enter Try.func12, Try.ntmps12
        go_wp2_with (first
          | (go_at_call 17; refine (checkW_any l _ _ _ HL.out HBB.out).mono ?_; rintro e w1 ⟨rfl, hE1⟩; rw [HC.out]; have HE1 := Lib.hid hE1; clear hE1; obtain ⟨d0, d1, d2, d3, d4⟩ := HD.out w1 HE1.out)
          | (go_at_call 28; refine (validW_any x _).mono ?_; rintro e w2 ⟨rfl, hE2⟩; rw [HF.out]; have HE2 := Lib.hid (HE1.out.trans hE2); clear hE2 d0 d1 d2 d3 d4; obtain ⟨d0, d1, d2, d3, d4⟩ := HD.out w2 HE2.out)
          | (go_at_call 29; refine (find_any l x.s x.a x.b _ _ _ (HL.out.ext HE2.out)).mono ?_; rintro e w3 ⟨rfl, hE3⟩; rw [HFI.out]; have HE3 := Lib.hid (HE2.out.trans hE3); clear hE3 d0 d1 d2 d3 d4; obtain ⟨d0, d1, d2, d3, d4⟩ := HD.out w3 HE3.out))
        go_ret2
        exact ⟨none, 0, by rw [HR.out]; rfl, by rw [HR.out]; exact RepW.empty _, HX0.out.trans HE3.out⟩
      | false =>
        have HR : Hid (r = (insW l (posW l x) x, 0)) := Lib.hid (by rw [HMK.out, HOK.out, HF.out, hh]; rfl)
        have HNX : Hid (x ∉ l) := Lib.hid fun hx => by
          unfold hasW at hh
          rw [List.any_eq_false] at hh
          exact hh x hx (isW_self x)
        have HFI : Hid (findW l (isW x.s x.a x.b) = -1) := Lib.hid (by
          rcases findW_or l (isW x.s x.a x.b) with h1 | ⟨i, hi, _, h2⟩
          · exact h1
          · unfold hasW at hh
            rw [List.any_eq_false] at hh
            exact absurd h2 (hh _ (List.getElem_mem hi)))
        clear hh
        go_enter Try.func12, Try.ntmps12
        go_wp2_with (first
          | (go_at_call 17; refine (checkW_any l _ _ _ HL.out HBB.out).mono ?_; rintro e w1 ⟨rfl, hE1⟩; rw [HC.out]; have HE1 := Lib.hid hE1; clear hE1; obtain ⟨d0, d1, d2, d3, d4⟩ := HD.out w1 HE1.out)
          | (go_at_call 28; refine (validW_any x _).mono ?_; rintro e w2 ⟨rfl, hE2⟩; rw [HF.out]; have HE2 := Lib.hid (HE1.out.trans hE2); clear hE2 d0 d1 d2 d3 d4; obtain ⟨d0, d1, d2, d3, d4⟩ := HD.out w2 HE2.out)
          | (go_at_call 29; refine (find_any l x.s x.a x.b _ _ _ (HL.out.ext HE2.out)).mono ?_; rintro e w3 ⟨rfl, hE3⟩; rw [HFI.out]; have HE3 := Lib.hid (HE2.out.trans hE3); clear hE3 d0 d1 d2 d3 d4; obtain ⟨d0, d1, d2, d3, d4⟩ := HD.out w3 HE3.out))
        refine (search_any l x _ _ _ (HL.out.ext HE3.out) (SortW.mono HST.out x) HBB.out).mono ?_
        rintro e w4 ⟨p, hp, rfl, hE4⟩
        have HE4 := Lib.hid (HE3.out.trans hE4)
        have HPE := Lib.hid hp.eq
        have hpl : (p : Int) ≤ (l.length : Int) := by have := hp.le; omega
        clear hp hE4 d0 d1 d2 d3 d4
        generalize metW l x p = mt
        obtain ⟨d0, d1, d2, d3, d4⟩ := HD.out w4 HE4.out
        have gd0 := grow_cell d0
        have gd1 := grow_cell d1
        have gd2 := grow_cell d2
        have gd3 := grow_cell d3
        have gd4 := grow_cell d4
        go_wp2_with fail
        refine wp_region_noPanic ?_
        refine wp_region_rel (fun i => if i = 1 then some (spOwn w4.heap.size 26 5 l.length (wrows l)) else if i = 4 then some (spVar5 w4.heap.size 26 x) else none) 5 3 (by kernel_rfl) (by kernel_rfl) ?_
        simp only [List.take_succ_cons, List.take_zero]
        repeat (first
          | (refine wpRel_quick ?_ ?_ ?_ ?_
             · rfl
             · rfl
             · first | exact noEnter rfl | (intro f args W W'; go_simp)
             intro K hK
             go_big_quiet_op
             go_big_quiet_on)
          | (refine wpRel_skip ?_ ?_
             · rfl
             simp only [Act.put, List.setIfInBounds_toArray, List.set_cons_zero, List.set_cons_succ]))
        refine wpRel_rich _ rfl rfl (fun W hW => ?_) (fun v W4 hW4 hv => ?_)
        · have hx : Ext w4 W := (Ext.refl w4).drew.trans hW.1
          have hc := clone_any l ao cap W ((HL.out.ext HE4.out).ext hx) HBB.out
          go_simp
          refine Calls.mono hc ?_
          rintro e w' ⟨v', rfl, ho, hE⟩
          exact ⟨_, rfl, ownsRow_base ho hx.size, hE⟩
        clear hv hW4
        simp only [Act.put, List.setIfInBounds_toArray, List.set_cons_zero, List.set_cons_succ]
        repeat (first
          | (refine wpRel_quick ?_ ?_ ?_ ?_
             · rfl
             · rfl
             · first | exact noEnter rfl | (intro f args W W'; go_simp)
             intro K hK
             go_big_quiet_op
             go_big_quiet_on)
          | (refine wpRel_skip ?_ ?_
             · rfl
             simp only [Act.put, List.setIfInBounds_toArray, List.set_cons_zero, List.set_cons_succ]))
        refine wpRel_rich _ rfl rfl (fun W hW => ?_) (fun v2 W4 hW4 hv => ?_)
        · have hx : Ext w4 W := (Ext.refl w4).drew.trans hW.1
          go_simp
          exact ⟨⟨_, rfl, hx.size, heap_alloc_new W _⟩, (Ext.refl _).alloc _⟩
        obtain ⟨vb, rfl, _, _⟩ := hv
        clear hW4
        simp only [Act.put, List.setIfInBounds_toArray, List.set_cons_zero, List.set_cons_succ]
        refine wpRel_nil ?_
        intro W hW
        have ho : W.ownsRow w4.heap.size 26 5 v l.length (wrows l).flatten := hW.2 1 trivial _ _ rfl rfl
        obtain ⟨vb', he, _, hvb⟩ := hW.2 4 trivial _ _ rfl rfl
        cases he
        have hE : Ext w4 W := (Ext.refl w4).drew.trans hW.1
        have HI := Lib.hid (insert_any l w4.heap.size p v x vb W ho hE.size (by omega) HBB.out hvb (fun hlt => row_apart ho rfl (by omega) HNX.out hvb))
        have HE := Lib.hid hE
        clear hW ho hvb hE gd0 gd1 gd2 gd3 gd4 d0 d1 d2 d3 d4
        refine wpAny_ready (rs := [5]) (by kernel_rfl) (by simp) ?_
        refine AllReady.cons rfl (fun K hK => ?_) AllReady.nil
        go_simp
        refine HI.out.mono ?_
        rintro e w5 ⟨v5, rfl, ho5, hB5⟩
        refine hK _ _ ?_
        clear hK K
        have HO5 := Lib.hid ho5
        have HB5 := Lib.hid hB5
        clear ho5 hB5
        refine wpAny_ready (rs := [6]) (by kernel_rfl) (by simp) ?_
        refine AllReady.cons rfl (fun K hK => ?_) AllReady.nil
        go_simp
        refine hK _ _ ?_
        clear hK K
        refine wpAny_ready (rs := [7]) (by kernel_rfl) (by simp) ?_
        refine AllReady.cons rfl (fun K hK => ?_) AllReady.nil
        go_simp
        refine hK _ _ ?_
        clear hK K
        refine wpAny_done (by kernel_rfl) ?_ _
        refine NoPanic.normal ?_
        go_wp2_with fail
        go_ret2
        obtain ⟨ao5, cap5, hv5, hR5, _⟩ := RepW.of_own HO5.out rfl
        exact ⟨ao5, cap5, by rw [HR.out, ← HPE.out, hv5]; rfl, by rw [HR.out, ← HPE.out]; exact hR5, HX0.out.trans (HE4.out.trans (Ext.below' HE.out HB5.out))⟩
set_option maxRecDepth 100000 in
set_option maxHeartbeats 6400000 in
theorem leave_any (l : List Wt) (s a b : Int) (ao : Option Addr) (cap : Nat) (w : World) (h : RepW w ao cap l) (hb : l.length ≤ 100000) : Calls Try.prog 14 #[.slice ao l.length cap, .int .i64 s, .agg #[.int .i64 a, .int .i64 b]] w (RetLE (leaveW l s a b) w) := by
  have hX0 : Ext w (w.alloc (.cells #[.int .i64 a, .int .i64 b] 24)) := (Ext.refl w).alloc _
  have HL := Lib.hid (h.ext hX0)
  have hs1 := h.max
  have d0 : (w.alloc (.cells #[.int .i64 a, .int .i64 b] 24)).cell? ⟨w.heap.size, 0, none⟩ = some (.int .i64 a) := by simp
  have d1 : (w.alloc (.cells #[.int .i64 a, .int .i64 b] 24)).cell? ⟨w.heap.size, 1, none⟩ = some (.int .i64 b) := by simp
  have HD : Hid (∀ W, Ext (w.alloc (.cells #[.int .i64 a, .int .i64 b] 24)) W → W.cell? ⟨w.heap.size, 0, none⟩ = some (.int .i64 a) ∧ W.cell? ⟨w.heap.size, 1, none⟩ = some (.int .i64 b)) := Lib.hid fun W hE => ⟨hE.cell d0, hE.cell d1⟩
  have HX0 := Lib.hid hX0
  have HBB := Lib.hid hb
  have HTB := Lib.hid (leaveW_bad (l := l) (s := s) (a := a) (b := b))
  have HTN := Lib.hid (leaveW_none (l := l) (s := s) (a := a) (b := b))
  have HTS := Lib.hid (fun i => leaveW_some (l := l) (s := s) (a := a) (b := b) (i := i))
  have HCV : Hid (checkW l = if okLW l = true then 0 else 260) := Lib.hid rfl
  clear h hX0 d0 d1 hb
  generalize leaveW l s a b = r at *
  cases hok : okLW l with
  | false =>
    have HR : Hid (r = ([], 260)) := Lib.hid (HTB.out hok)
    have HC : Hid (checkW l = 260) := Lib.hid (by rw [HCV.out, hok]; rfl)
    clear hok
    go_enter Try.func14, Try.ntmps14
    go_wp2_with (first
      | (go_at_call 17; refine (checkW_any l _ _ _ HL.out HBB.out).mono ?_; rintro e w1 ⟨rfl, hE1⟩; rw [HC.out]; have HE1 := Lib.hid hE1; clear hE1; obtain ⟨d0, d1⟩ := HD.out w1 HE1.out))
    go_ret2
    exact ⟨none, 0, by rw [HR.out]; rfl, by rw [HR.out]; exact RepW.empty _, HX0.out.trans HE1.out⟩
  | true =>
    have HOK := Lib.hid hok
    have HC : Hid (checkW l = 0) := Lib.hid (by rw [HCV.out, hok]; rfl)
    clear hok
    rcases findW_or' l (isW s a b) with hn | ⟨i, hi, hn, hfi⟩
    · have HR : Hid (r = ([], 260)) := Lib.hid (HTN.out hn)
      have HF : Hid (findW l (isW s a b) = -1) := Lib.hid (by unfold findW; rw [hn])
      clear hn
      go_enter Try.func14, Try.ntmps14
      go_wp2_with (first
        | (go_at_call 17; refine (checkW_any l _ _ _ HL.out HBB.out).mono ?_; rintro e w1 ⟨rfl, hE1⟩; rw [HC.out]; have HE1 := Lib.hid hE1; clear hE1; obtain ⟨d0, d1⟩ := HD.out w1 HE1.out)
        | (go_at_call 29; refine (find_any l s a b _ _ _ (HL.out.ext HE1.out)).mono ?_; rintro e w2 ⟨rfl, hE2⟩; rw [HF.out]; have HE2 := Lib.hid (HE1.out.trans hE2); clear hE2))
      go_ret2
      exact ⟨none, 0, by rw [HR.out]; rfl, by rw [HR.out]; exact RepW.empty _, HX0.out.trans HE2.out⟩
    · have HF : Hid (findW l (isW s a b) = (i : Int)) := Lib.hid hfi
      have HR : Hid (r = (l.eraseIdx i, 0)) := Lib.hid (HTS.out i HOK.out hn)
      have hii : (i : Int) < (l.length : Int) := by omega
      have HII := Lib.hid hi
      clear hn hfi HTS HTB HTN
      go_enter Try.func14, Try.ntmps14
      go_wp2_with (first
        | (go_at_call 17; refine (checkW_any l _ _ _ HL.out HBB.out).mono ?_; rintro e w1 ⟨rfl, hE1⟩; rw [HC.out]; have HE1 := Lib.hid hE1; clear hE1; obtain ⟨d0, d1⟩ := HD.out w1 HE1.out)
        | (go_at_call 29; refine (find_any l s a b _ _ _ (HL.out.ext HE1.out)).mono ?_; rintro e w2 ⟨rfl, hE2⟩; rw [HF.out]; have HE2 := Lib.hid (HE1.out.trans hE2); clear hE2)
        | (go_at_call 33; refine (clone_any l _ _ _ (HL.out.ext HE2.out) HBB.out).mono ?_; rintro e w3 ⟨v3, rfl, ho3, hE3⟩; have HO3 := Lib.hid ho3; have HE3 := Lib.hid hE3; clear ho3 hE3)
        | (go_at_call 37; refine (delete_any l _ i v3 _ HO3.out HE3.out.size HII.out HBB.out).mono ?_; rintro e w4 ⟨v4, rfl, ho4, hB4⟩; have HO4 := Lib.hid ho4; have HB4 := Lib.hid hB4; clear ho4 hB4))
      go_ret2
      obtain ⟨ao5, cap5, hv5, hR5, _⟩ := RepW.of_own HO4.out rfl
      exact ⟨ao5, cap5, by rw [HR.out, hv5]; rfl, by rw [HR.out]; exact hR5, HX0.out.trans (HE2.out.trans (Ext.below' HE3.out HB4.out))⟩
end Go.Proofs.Ytbhpeecebcihkaa
