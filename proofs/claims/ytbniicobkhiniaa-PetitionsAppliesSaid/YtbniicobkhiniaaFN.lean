/- Petitions: Active. -/
import Derived.Test.YtbniicobkhiniaaFM
namespace Go.Sz
open Go.RowKit
/-- what holds behind each round of Active -/
def ActI (w W0 : World) (ti trs : TypeId) (t : Int) (pre : List Lk) (W : World) : Prop := ((pre = [] ∧ Boxed1 W (w.heap.size + 1) ti (.int .i64 0) ∧ Boxed1 W (w.heap.size + 2) trs (.slice none 0 0)) ∨
    (∃ (x : Lk) (ro : Option Addr) (rc : Nat), pre = [x] ∧ Boxed1 W (w.heap.size + 1) ti (.int .i64 (max x.v 0)) ∧ Boxed1 W (w.heap.size + 2) trs (.slice ro 1 rc) ∧ RepR W ro rc [rdOf x.k t])) ∧ KpY W0.heap.size (w.heap.size + 1) (w.heap.size + 2) W0 W ∧ Ext w W
theorem rep_own {X Y : World} {n : Nat} {ro : Option Addr} {rc : Nat} {rs : List Rd} {row : Option Nat} (h : RepR X ro rc rs) (hg : X.grownBy Y row) (hr : ∀ r, row = some r → n ≤ r ∧ ∃ o : Obj, X.heap[r]? = some o ∧ o.isCells = false) : RepR Y ro rc rs := by
  refine SL.keep h fun a ha hne => ?_
  have hl : 0 < (rrows rs).length := List.length_pos_iff.2 hne
  have hw := SL.wid h _ (List.getElem_mem hl)
  obtain ⟨b, o, e, hc⟩ := SL.cells h 0 0 _ _ (List.getElem?_eq_getElem hl) (List.getElem?_eq_getElem (by rw [hw]; omega))
  rw [ha] at e
  cases e
  refine hg.block b (World.block_lt_of_cell? _ _ hc) fun e' => ?_
  obtain ⟨_, ob, ho, hcc⟩ := hr b e'.symm
  have := cell_isCells (i := o + 0 * 5 + 0) hc ho
  rw [hcc] at this
  cases this
theorem KpY.set4 {n1 B4 B5 : Nat} {A B : World} (h : KpY n1 B4 B5 A B) (i : Nat) (v : Value) : KpY n1 B4 B5 A (B.setCell ⟨B4, i, none⟩ v) := ⟨by simpa using h.1, fun b h1 h2 h3 => (heap_setCell_far _ _ _ _ h2).trans (h.2 b h1 h2 h3)⟩
theorem KpY.set5 {n1 B4 B5 : Nat} {A B : World} (h : KpY n1 B4 B5 A B) (i : Nat) (v : Value) : KpY n1 B4 B5 A (B.setCell ⟨B5, i, none⟩ v) := ⟨by simpa using h.1, fun b h1 h2 h3 => (heap_setCell_far _ _ _ _ h3).trans (h.2 b h1 h2 h3)⟩
end Go.Sz
namespace Go.Proofs.Ytbniicobkhiniaa
open Go.RowKit Go.Sz Go.Shelf
attribute [local go_sem] Oper.semAt_some
set_option maxRecDepth 100000 in
set_option maxHeartbeats 6400000 in
theorem active_any (l : List Ft) (sc st ob t kn : Int) (ht : inI64 t) (ao : Option Addr) (cap : Nat) (w : World) (h : RepF w ao cap l) : Calls Try.prog 14 #[.agg #[.slice none 0 0, .slice none 0 0, .slice none 0 0, .slice ao l.length cap], .int .i64 sc, .int .i64 st, .int .i64 ob, .int .i64 t, .int .i64 kn] w (RetAct (activeF l ⟨sc, st, ob⟩ t kn).1 (activeF l ⟨sc, st, ob⟩ t kn).2 [rdOf ⟨sc, st, ob⟩ t] w) := by
  have hwf : Fence.wide.fn 29 := trivial
  have hX5 : Ext w ((((((((w.alloc (.cells #[.slice none 0 0, .slice none 0 0, .slice none 0 0, .slice ao l.length cap] 41)).alloc (.cells #[.int .i64 0] 3)).alloc (.cells #[.slice none 0 0] 42)).alloc (.cells #[.int .i64 sc, .int .i64 st, .int .i64 ob] 26)).alloc (.cells #[.slice none 0 0, .slice none 0 0, .slice none 0 0, .slice ao l.length cap] 41)).alloc (.cells #[.slice (some ⟨w.heap.size + 1 + 1 + 1, 0, none⟩) 1 1] 68)).alloc (.cells #[.int .i64 t] 3)).alloc (.cells #[.int .i64 kn] 3)) := ((((((((Ext.refl w).alloc _).alloc _).alloc _).alloc _).alloc _).alloc _).alloc _).alloc _
  have h4 : ∀ x, ao = some x → l ≠ [] → x.block < w.heap.size := fun z hz hne => by
    obtain ⟨b, o, e, hlt⟩ := SL.at h (by omega) 0 (by rw [frows_length]; exact List.length_pos_iff.2 hne)
    rw [e] at hz; cases hz; exact hlt
  have hbk : ((((((((w.alloc (.cells #[.slice none 0 0, .slice none 0 0, .slice none 0 0, .slice ao l.length cap] 41)).alloc (.cells #[.int .i64 0] 3)).alloc (.cells #[.slice none 0 0] 42)).alloc (.cells #[.int .i64 sc, .int .i64 st, .int .i64 ob] 26)).alloc (.cells #[.slice none 0 0, .slice none 0 0, .slice none 0 0, .slice ao l.length cap] 41)).alloc (.cells #[.slice (some ⟨w.heap.size + 1 + 1 + 1, 0, none⟩) 1 1] 68)).alloc (.cells #[.int .i64 t] 3)).alloc (.cells #[.int .i64 kn] 3)).heap[w.heap.size + 1 + 1 + 1]? = some (.cells #[.int .i64 sc, .int .i64 st, .int .i64 ob] 26 (0, 0)) := by (simp only [heap_al, World.size_alloc]; all_goals (repeat rw [if_neg (by omega)]); all_goals rfl)
  have hrk : RepK ((((((((w.alloc (.cells #[.slice none 0 0, .slice none 0 0, .slice none 0 0, .slice ao l.length cap] 41)).alloc (.cells #[.int .i64 0] 3)).alloc (.cells #[.slice none 0 0] 42)).alloc (.cells #[.int .i64 sc, .int .i64 st, .int .i64 ob] 26)).alloc (.cells #[.slice none 0 0, .slice none 0 0, .slice none 0 0, .slice ao l.length cap] 41)).alloc (.cells #[.slice (some ⟨w.heap.size + 1 + 1 + 1, 0, none⟩) 1 1] 68)).alloc (.cells #[.int .i64 t] 3)).alloc (.cells #[.int .i64 kn] 3)) (some ⟨w.heap.size + 1 + 1 + 1, 0, none⟩) 1 [⟨sc, st, ob⟩] := by
    have h0 := sl_new (((w.alloc (.cells #[.slice none 0 0, .slice none 0 0, .slice none 0 0, .slice ao l.length cap] 41)).alloc (.cells #[.int .i64 0] 3)).alloc (.cells #[.slice none 0 0] 42)) [.int .i64 sc, .int .i64 st, .int .i64 ob] 3 26 rfl
    simp only [World.size_alloc] at h0
    exact SL.ext h0 (((((Ext.refl _).alloc _).alloc _).alloc _).alloc _)
  have hH5 : LkH ((((((((w.alloc (.cells #[.slice none 0 0, .slice none 0 0, .slice none 0 0, .slice ao l.length cap] 41)).alloc (.cells #[.int .i64 0] 3)).alloc (.cells #[.slice none 0 0] 42)).alloc (.cells #[.int .i64 sc, .int .i64 st, .int .i64 ob] 26)).alloc (.cells #[.slice none 0 0, .slice none 0 0, .slice none 0 0, .slice ao l.length cap] 41)).alloc (.cells #[.slice (some ⟨w.heap.size + 1 + 1 + 1, 0, none⟩) 1 1] 68)).alloc (.cells #[.int .i64 t] 3)).alloc (.cells #[.int .i64 kn] 3)) (w.heap.size + 1 + 1 + 1 + 1 + 1) (w.heap.size + 1 + 1 + 1 + 1 + 1 + 1) (w.heap.size + 1 + 1 + 1 + 1) (w.heap.size + 1 + 1 + 1 + 1 + 1 + 1 + 1) t kn (some ⟨w.heap.size + 1 + 1 + 1, 0, none⟩) 1 [⟨sc, st, ob⟩] ao cap l :=
    ⟨by (simp only [World.cell?, heap_al, World.size_alloc]; all_goals (repeat rw [if_neg (by omega)]); all_goals rfl), by (simp only [World.cell?, heap_al, World.size_alloc]; all_goals (repeat rw [if_neg (by omega)]); all_goals rfl), by (simp only [World.cell?, heap_al, World.size_alloc]; all_goals (repeat rw [if_neg (by omega)]); all_goals rfl), by (simp only [World.cell?, heap_al, World.size_alloc]; all_goals (repeat rw [if_neg (by omega)]); all_goals rfl), hrk, h.ext hX5⟩
  have hb4 : Boxed1 ((((((((w.alloc (.cells #[.slice none 0 0, .slice none 0 0, .slice none 0 0, .slice ao l.length cap] 41)).alloc (.cells #[.int .i64 0] 3)).alloc (.cells #[.slice none 0 0] 42)).alloc (.cells #[.int .i64 sc, .int .i64 st, .int .i64 ob] 26)).alloc (.cells #[.slice none 0 0, .slice none 0 0, .slice none 0 0, .slice ao l.length cap] 41)).alloc (.cells #[.slice (some ⟨w.heap.size + 1 + 1 + 1, 0, none⟩) 1 1] 68)).alloc (.cells #[.int .i64 t] 3)).alloc (.cells #[.int .i64 kn] 3)) (w.heap.size + 1) 3 (.int .i64 0) := by (unfold Boxed1; simp only [heap_al, World.size_alloc]; all_goals (repeat rw [if_neg (by omega)]); all_goals rfl)
  have hb5 : Boxed1 ((((((((w.alloc (.cells #[.slice none 0 0, .slice none 0 0, .slice none 0 0, .slice ao l.length cap] 41)).alloc (.cells #[.int .i64 0] 3)).alloc (.cells #[.slice none 0 0] 42)).alloc (.cells #[.int .i64 sc, .int .i64 st, .int .i64 ob] 26)).alloc (.cells #[.slice none 0 0, .slice none 0 0, .slice none 0 0, .slice ao l.length cap] 41)).alloc (.cells #[.slice (some ⟨w.heap.size + 1 + 1 + 1, 0, none⟩) 1 1] 68)).alloc (.cells #[.int .i64 t] 3)).alloc (.cells #[.int .i64 kn] 3)) (w.heap.size + 2) 42 (.slice none 0 0) := by (unfold Boxed1; simp only [heap_al, World.size_alloc]; all_goals (repeat rw [if_neg (by omega)]); all_goals rfl)
  clear h hrk hbk
  refine (callsIn_wide (n := 6)).1 ?_
  refine callsIn_of_wp_marks Try.func14 rfl trivial ?_ rfl
  simp only [Try.ntmps14, List.size_toArray, List.length_cons, List.length_nil, Nat.reduceAdd, Nat.reduceSub, Array.replicate_succ, Array.replicate_zero, List.push_toArray, List.append_toArray, List.nil_append, List.cons_append]
  gi_wp2_with (gi_at_call 29; refine (callsIn_wide.2 (look_any _ _ _ _ _ _ _ _ _ _)).mono ?_; rintro e w5 ⟨rfl, hw5⟩; subst hw5)
  have hsz5 : ((((((((w.alloc (.cells #[.slice none 0 0, .slice none 0 0, .slice none 0 0, .slice ao l.length cap] 41)).alloc (.cells #[.int .i64 0] 3)).alloc (.cells #[.slice none 0 0] 42)).alloc (.cells #[.int .i64 sc, .int .i64 st, .int .i64 ob] 26)).alloc (.cells #[.slice none 0 0, .slice none 0 0, .slice none 0 0, .slice ao l.length cap] 41)).alloc (.cells #[.slice (some ⟨w.heap.size + 1 + 1 + 1, 0, none⟩) 1 1] 68)).alloc (.cells #[.int .i64 t] 3)).alloc (.cells #[.int .i64 kn] 3)).heap.size = w.heap.size + 8 := by simp
  generalize ((((((((w.alloc (.cells #[.slice none 0 0, .slice none 0 0, .slice none 0 0, .slice ao l.length cap] 41)).alloc (.cells #[.int .i64 0] 3)).alloc (.cells #[.slice none 0 0] 42)).alloc (.cells #[.int .i64 sc, .int .i64 st, .int .i64 ob] 26)).alloc (.cells #[.slice none 0 0, .slice none 0 0, .slice none 0 0, .slice ao l.length cap] 41)).alloc (.cells #[.slice (some ⟨w.heap.size + 1 + 1 + 1, 0, none⟩) 1 1] 68)).alloc (.cells #[.int .i64 t] 3)).alloc (.cells #[.int .i64 kn] 3)) = W0 at *
  have HS0 := Lib.hid hsz5
  clear hsz5
  have hseq : SeqStopsK Fence.wide 5 Try.prog 42 #[.pointer (some ⟨w.heap.size + 1 + 1 + 1 + 1 + 1, 0, none⟩), .pointer (some ⟨w.heap.size + 1 + 1 + 1 + 1 + 1 + 1, 0, none⟩), .pointer (some ⟨w.heap.size + 1 + 1 + 1 + 1, 0, none⟩), .pointer (some ⟨w.heap.size + 1 + 1 + 1 + 1 + 1 + 1 + 1, 0, none⟩)] (fun x : Lk => #[.int .i64 x.i, .agg #[.int .i64 x.k.k, .int .i64 x.k.s, .int .i64 x.k.o, .int .i64 t, .int .i64 (sucT t), .int .i64 x.v]]) (KpY W0.heap.size (w.heap.size + 1) (w.heap.size + 2)) (fun xs => xs = lksF l [⟨sc, st, ob⟩] t kn) (fun _ => True) 1 W0 := fun yl J Jx W hW hJ hJx hY h0 =>
    look1_in 5 (by omega) yl (w.heap.size + 1 + 1 + 1 + 1 + 1) (w.heap.size + 1 + 1 + 1 + 1 + 1 + 1) (w.heap.size + 1 + 1 + 1 + 1) (w.heap.size + 1 + 1 + 1 + 1 + 1 + 1 + 1) W0.heap.size (w.heap.size + 1) (w.heap.size + 2) t kn ht (some ⟨w.heap.size + 1 + 1 + 1, 0, none⟩) 1 [⟨sc, st, ob⟩] ao cap l J Jx (fun pre A B hA hE => hJ pre A B none hA ⟨hE.os, hE.tape, hE.output, hE.size, fun k hk _ => hE.block k hk⟩ (fun r hr => by cases hr)) hY
      (fun b hb => by have := HS0.out; omega) (fun z hz _ => by cases hz; have := HS0.out; dsimp only; omega) (fun z hz hne => by have := h4 z hz hne; have := HS0.out; omega) W (hH5.ext hW) h0
  refine wpIn_rangeFunc_ownH rfl (by omega) (gf := 42) (lb := #[.pointer (some ⟨w.heap.size + 1 + 1 + 1 + 1 + 1, 0, none⟩), .pointer (some ⟨w.heap.size + 1 + 1 + 1 + 1 + 1 + 1, 0, none⟩), .pointer (some ⟨w.heap.size + 1 + 1 + 1 + 1, 0, none⟩), .pointer (some ⟨w.heap.size + 1 + 1 + 1 + 1 + 1 + 1 + 1, 0, none⟩)]) rfl trivial (enters_of Try.func42 (by kernel_rfl) rfl)
    hseq KpY.trans (fun W l o o' hl _ _ _ => kpY_put W l o' hl) (Below.refl _ _) (fun _ => rfl)
    (ActI w W0 3 42 t)
    (fun _ _ _ => False)
    (fun pre X Y row hs hg hr => by
      obtain ⟨h1, h6, h7⟩ := hs
      refine ⟨?_, ⟨Nat.le_trans h6.1 hg.size, fun b hb hne hne2 => (hg.block b (by have := h6.1; omega) (fun e => by have := (hr b e.symm).1; omega)).trans (h6.2 b hb hne hne2)⟩, ownFrom_below (Nat.le_refl _) hX5.size () X Y row h7 hg hr⟩
      rcases h1 with ⟨e, h1, h2⟩ | ⟨x, ro, rc, e, h1, h2, h3⟩
      · exact .inl ⟨e, Boxed1.own _ W0.heap.size _ (fun (_ : Unit) => _) () X Y row h1 hg hr, Boxed1.own _ W0.heap.size _ (fun (_ : Unit) => _) () X Y row h2 hg hr⟩
      · exact .inr ⟨x, ro, rc, e, Boxed1.own _ W0.heap.size _ (fun (_ : Unit) => _) () X Y row h1 hg hr, Boxed1.own _ W0.heap.size _ (fun (_ : Unit) => _) () X Y row h2 hg hr, rep_own h3 hg hr⟩)
    (fun _ _ _ _ _ hs _ _ => hs)
    ⟨.inl ⟨rfl, hb4, hb5⟩, ⟨Nat.le_refl _, fun _ _ _ _ => rfl⟩, hX5⟩
    (fun x a' W => ∃ Bx, W0.heap.size ≤ Bx ∧ W.heap[Bx]? = some (.cells #[.int .i64 x.k.k, .int .i64 x.k.s, .int .i64 x.k.o, .int .i64 t, .int .i64 (sucT t), .int .i64 x.v] 72 (0, 0)) ∧ a' = { tmps := #[.agg #[.slice none 0 0, .slice none 0 0, .slice none 0 0, .slice ao l.length cap], .int .i64 sc, .int .i64 st, .int .i64 ob, .int .i64 t, .int .i64 kn, .pointer (some ⟨w.heap.size, 0, none⟩), undef, undef, undef, undef, undef, .pointer (some ⟨w.heap.size + 1, 0, none⟩), .bool false, .pointer (some ⟨w.heap.size + 1 + 1, 0, none⟩), undef, .pointer (some ⟨Bx, 0, none⟩), .agg #[.slice none 0 0, .slice none 0 0, .slice none 0 0, .slice ao l.length cap], .int .i64 sc, .int .i64 st, .int .i64 ob, .agg #[.int .i64 sc, .int .i64 st, .int .i64 ob], .slice (some ⟨w.heap.size + 1 + 1 + 1, 0, none⟩) 1 1, .int .i64 t, .int .i64 kn, .func (.func 42) #[] #[.pointer (some ⟨w.heap.size + 1 + 1 + 1 + 1 + 1, 0, none⟩), .pointer (some ⟨w.heap.size + 1 + 1 + 1 + 1 + 1 + 1, 0, none⟩), .pointer (some ⟨w.heap.size + 1 + 1 + 1 + 1, 0, none⟩), .pointer (some ⟨w.heap.size + 1 + 1 + 1 + 1 + 1 + 1 + 1, 0, none⟩)], .int .i64 x.i, .agg #[.int .i64 x.k.k, .int .i64 x.k.s, .int .i64 x.k.o, .int .i64 t, .int .i64 (sucT t), .int .i64 x.v], undef, undef, undef, undef, undef, undef, undef, undef, undef, undef, undef, undef], defers := [] })
    (fun p a' _ X Y row hs hg hr => by
      obtain ⟨Bx, h1, h2, h3⟩ := hs
      exact ⟨Bx, h1, (hg.block Bx (Array.getElem?_eq_some_iff.1 h2).1 (fun e' => by obtain ⟨_, o, ho, hc⟩ := hr Bx e'.symm; rw [h2] at ho; cases ho; cases hc)).trans h2, h3⟩)
    ?assign ?body ?done ?stop
  case assign =>
    rintro yl pre x W K ⟨h1, h6, h7⟩ hK
    gi_wp2
    have hA := (Ext.refl W).alloc (.cells #[.int .i64 x.k.k, .int .i64 x.k.s, .int .i64 x.k.o, .int .i64 t, .int .i64 (sucT t), .int .i64 x.v] 72)
    refine hK _ _ ((KeepsOthers.alloc _ _).from _) (hA.kpY h6.1) ⟨?_, h6.trans (hA.kpY h6.1), h7.trans hA⟩ ⟨W.heap.size, h6.1, heap_alloc_new W _, rfl⟩
    rcases h1 with ⟨e, h1, h2⟩ | ⟨x, ro, rc, e, h1, h2, h3⟩
    · exact .inl ⟨e, h1.ext hA, h2.ext hA⟩
    · exact .inr ⟨x, ro, rc, e, h1.ext hA, h2.ext hA, h3.ext hA⟩
  case body =>
    rintro yl pre x a' W hl ⟨r, hr⟩ ⟨h1, h6, h7⟩ ⟨Bx, hBx, hbx, rfl⟩ hlt
    rcases h1 with ⟨rfl, h1, h2⟩ | ⟨y, ro, rc, rfl, _⟩
    · obtain ⟨ir, hi, hz0, hz1, hz2⟩ := info_parts infoRd
      have HI := Lib.hid (And.intro hi (And.intro hz0 (And.intro hz1 hz2)))
      have HW := Lib.hid (And.intro h1 (And.intro h2 (And.intro h6 h7)))
      obtain ⟨t1, ht1⟩ : ∃ t1, sucT t = t1 := ⟨_, rfl⟩
      have HT1 := Lib.hid ht1
      rw [ht1] at hbx
      rw [ht1]
      have HRD : Hid (rdOf x.k t = (⟨x.k.k, x.k.s, x.k.o, t, t1⟩ : Rd)) := Lib.hid (by unfold rdOf; rw [ht1])
      have f0 : W.cell? ⟨Bx, 0, none⟩ = some (.int .i64 x.k.k) := by simp [World.cell?, hbx]
      have gf0 := grow_cell f0
      have f1 : W.cell? ⟨Bx, 1, none⟩ = some (.int .i64 x.k.s) := by simp [World.cell?, hbx]
      have gf1 := grow_cell f1
      have f2 : W.cell? ⟨Bx, 2, none⟩ = some (.int .i64 x.k.o) := by simp [World.cell?, hbx]
      have gf2 := grow_cell f2
      have f3 : W.cell? ⟨Bx, 3, none⟩ = some (.int .i64 t) := by simp [World.cell?, hbx]
      have gf3 := grow_cell f3
      have f4 : W.cell? ⟨Bx, 4, none⟩ = some (.int .i64 t1) := by simp [World.cell?, hbx]
      have gf4 := grow_cell f4
      have f5 : W.cell? ⟨Bx, 5, none⟩ = some (.int .i64 x.v) := by simp [World.cell?, hbx]
      have gf5 := grow_cell f5
      have q4 := h2.cell
      have gq4 := grow_cell q4
      clear hbx ht1 hi hz0 hz1 hz2 h1 h2 h6 h7 hlt
      by_cases hv : (0 : Int) > x.v
      · gi_wp2
        refine wpIn_round_rel (fun i => if i = 6 then some (spSL 5 1 1 [(⟨x.k.k, x.k.s, x.k.o, t, t1⟩ : Rd).enc]) else if i = 7 then some (spAp 5 (0 + 1) ([] ++ [(⟨x.k.k, x.k.s, x.k.o, t, t1⟩ : Rd).enc]) W0.heap.size 1 none) else none) 8 2 (by kernel_rfl) (by kernel_rfl) (by kernel_rfl) ?_
        simp only [List.take_succ_cons, List.take_zero]
        repeat (first
          | (refine wpRel_quick ?_ ?_ ?_ ?_
             · rfl
             · rfl
             · first | exact noEnter rfl | (intro f args W W'; go_simp)
             intro K hK
             go_big_quiet_op
             go_big_quiet_on)
          | (refine wpRel_skip ?_ ?_
             · rfl
             simp only [Act.put, List.setIfInBounds_toArray, List.set_cons_zero, List.set_cons_succ]))
        refine wpRel_rich _ rfl rfl (fun W hW => ?_) (fun v W4 hW4 hv => ?_)
        · go_simp
          exact ⟨⟨_, rfl, sl_new W (⟨x.k.k, x.k.s, x.k.o, t, t1⟩ : Rd).enc 5 _ rfl⟩, (Ext.refl _).alloc _⟩
        obtain ⟨ap, rfl, _⟩ := hv
        clear hW4
        simp only [Act.put, List.setIfInBounds_toArray, List.set_cons_zero, List.set_cons_succ]
        refine wpRel_rich _ rfl rfl (fun W9 hW => ?_) (fun v W4 hW4 hv => ?_)
        · obtain ⟨ap', hap, hsp2⟩ := hW.2 6 (by unfold Anc; kernel_rfl) _ _ rfl rfl
          cases hap
          obtain ⟨hi, hz0, hz1, hz2⟩ := HI.out
          exact g_append_full _ _ 42 42 rfl 70 ir _ 5 40 Try.underlying42 hi hz0 hz1 hz2 rfl (by omega) none 0 [] rfl (SL.empty _ _) rfl (.slice ap 1 1) 1 (fun h => by omega) [(⟨x.k.k, x.k.s, x.k.o, t, t1⟩ : Rd).enc] rfl (hsp2.src (by omega) Try.underlying42 (by intro r hr u hu; simp only [List.mem_singleton] at hr; subst hr; exact rd_one _ u hu)) (by intro r hr; simp only [List.mem_singleton] at hr; subst hr; rfl) rfl (by unfold maxLen; omega) (by omega) _ (Nat.le_trans HW.out.2.2.1.1 hW.1.size)
        obtain ⟨ao5, cap5, rfl, _⟩ := hv
        clear hW4
        simp only [Act.put, List.setIfInBounds_toArray, List.set_cons_zero, List.set_cons_succ]
        refine wpRel_nil ?_
        intro W5 hW5
        obtain ⟨ao6, cap6, hao, hs6, hfar⟩ := hW5.2 7 trivial _ _ rfl rfl
        cases hao
        have HS6 := Lib.hid hs6
        have HFAR := Lib.hid (hfar.resolve_left (fun h => by cases h.1))
        have hE5 : Ext W W5 := (Ext.refl W).drew.trans hW5.1
        have HE5 := Lib.hid hE5
        have HB4 := Lib.hid (HW.out.1.ext hE5)
        have HB5 := Lib.hid (HW.out.2.1.ext hE5)
        clear hW5 hs6 hfar hE5 q4 gq4 f0 f1 f2 f3 f4 f5 gf0 gf1 gf2 gf3 gf4 gf5
        have q0 := HB4.out.cell
        have q1 := HB5.out.cell
        have z0 := HB4.out.froz
        have z1 := HB5.out.froz
        refine wpAny_ready (rs := [8]) (by kernel_rfl) (by simp) ?_
        refine AllReady.cons rfl (fun K hK => ?_) AllReady.nil
        go_simp
        refine hK _ _ ?_
        clear hK K
        refine wpAny_ready (rs := [9]) (by kernel_rfl) (by simp) ?_
        refine AllReady.cons rfl (fun K hK => ?_) AllReady.nil
        go_simp
        refine hK _ _ ?_
        clear hK K
        refine wpAny_done (by kernel_rfl) ?_ _
        clear q0 q1 z0 z1
        dsimp only [noOut]
        gi_wp2
        refine ⟨((HE5.out.keepsOthers.trans (KeepsOthers.setCell _ _ _)).trans (KeepsOthers.setCell _ _ _)).from _, ((HE5.out.kpY HW.out.2.2.1.1).set4 _ _).set5 _ _, .inr ⟨x, ao5, cap5, rfl, ?_, ?_, ?_⟩, ((HW.out.2.2.1.trans (HE5.out.kpY HW.out.2.2.1.1)).set4 _ _).set5 _ _, ?_⟩
        · rw [show max x.v 0 = 0 by omega]
          exact (HB4.out.set _).keep (heap_far (show w.heap.size + 1 ≠ w.heap.size + 1 + 1 by omega))
        · exact (HB5.out.keep (heap_far (show w.heap.size + 2 ≠ w.heap.size + 1 by omega))).set _
        · rw [HRD.out]
          exact (HS6.out.setCell (p := ⟨w.heap.size + 1, 0, none⟩) _ (fun a ha _ => by have := HFAR.out a ha; have := HS0.out; dsimp only; omega)).setCell (p := ⟨w.heap.size + 1 + 1, 0, none⟩) _ (fun a ha _ => by have := HFAR.out a ha; have := HS0.out; dsimp only; omega)
        · exact ((HW.out.2.2.2.trans HE5.out).setCell (show w.heap.size ≤ w.heap.size + 1 by omega) _).setCell (show w.heap.size ≤ w.heap.size + 1 + 1 by omega) _
      · gi_wp2
        refine wpIn_round_rel (fun i => if i = 6 then some (spSL 5 1 1 [(⟨x.k.k, x.k.s, x.k.o, t, t1⟩ : Rd).enc]) else if i = 7 then some (spAp 5 (0 + 1) ([] ++ [(⟨x.k.k, x.k.s, x.k.o, t, t1⟩ : Rd).enc]) W0.heap.size 1 none) else none) 8 2 (by kernel_rfl) (by kernel_rfl) (by kernel_rfl) ?_
        simp only [List.take_succ_cons, List.take_zero]
        repeat (first
          | (refine wpRel_quick ?_ ?_ ?_ ?_
             · rfl
             · rfl
             · first | exact noEnter rfl | (intro f args W W'; go_simp)
             intro K hK
             go_big_quiet_op
             go_big_quiet_on)
          | (refine wpRel_skip ?_ ?_
             · rfl
             simp only [Act.put, List.setIfInBounds_toArray, List.set_cons_zero, List.set_cons_succ]))
        refine wpRel_rich _ rfl rfl (fun W hW => ?_) (fun v W4 hW4 hv => ?_)
        · go_simp
          exact ⟨⟨_, rfl, sl_new W (⟨x.k.k, x.k.s, x.k.o, t, t1⟩ : Rd).enc 5 _ rfl⟩, (Ext.refl _).alloc _⟩
        obtain ⟨ap, rfl, _⟩ := hv
        clear hW4
        simp only [Act.put, List.setIfInBounds_toArray, List.set_cons_zero, List.set_cons_succ]
        refine wpRel_rich _ rfl rfl (fun W9 hW => ?_) (fun v W4 hW4 hv => ?_)
        · obtain ⟨ap', hap, hsp2⟩ := hW.2 6 (by unfold Anc; kernel_rfl) _ _ rfl rfl
          cases hap
          obtain ⟨hi, hz0, hz1, hz2⟩ := HI.out
          exact g_append_full _ _ 42 42 rfl 70 ir _ 5 40 Try.underlying42 hi hz0 hz1 hz2 rfl (by omega) none 0 [] rfl (SL.empty _ _) rfl (.slice ap 1 1) 1 (fun h => by omega) [(⟨x.k.k, x.k.s, x.k.o, t, t1⟩ : Rd).enc] rfl (hsp2.src (by omega) Try.underlying42 (by intro r hr u hu; simp only [List.mem_singleton] at hr; subst hr; exact rd_one _ u hu)) (by intro r hr; simp only [List.mem_singleton] at hr; subst hr; rfl) rfl (by unfold maxLen; omega) (by omega) _ (Nat.le_trans HW.out.2.2.1.1 hW.1.size)
        obtain ⟨ao5, cap5, rfl, _⟩ := hv
        clear hW4
        simp only [Act.put, List.setIfInBounds_toArray, List.set_cons_zero, List.set_cons_succ]
        refine wpRel_nil ?_
        intro W5 hW5
        obtain ⟨ao6, cap6, hao, hs6, hfar⟩ := hW5.2 7 trivial _ _ rfl rfl
        cases hao
        have HS6 := Lib.hid hs6
        have HFAR := Lib.hid (hfar.resolve_left (fun h => by cases h.1))
        have hE5 : Ext W W5 := (Ext.refl W).drew.trans hW5.1
        have HE5 := Lib.hid hE5
        have HB4 := Lib.hid (HW.out.1.ext hE5)
        have HB5 := Lib.hid (HW.out.2.1.ext hE5)
        clear hW5 hs6 hfar hE5 q4 gq4 f0 f1 f2 f3 f4 f5 gf0 gf1 gf2 gf3 gf4 gf5
        have q0 := HB4.out.cell
        have q1 := HB5.out.cell
        have z0 := HB4.out.froz
        have z1 := HB5.out.froz
        refine wpAny_ready (rs := [8]) (by kernel_rfl) (by simp) ?_
        refine AllReady.cons rfl (fun K hK => ?_) AllReady.nil
        go_simp
        refine hK _ _ ?_
        clear hK K
        refine wpAny_ready (rs := [9]) (by kernel_rfl) (by simp) ?_
        refine AllReady.cons rfl (fun K hK => ?_) AllReady.nil
        go_simp
        refine hK _ _ ?_
        clear hK K
        refine wpAny_done (by kernel_rfl) ?_ _
        clear q0 q1 z0 z1
        dsimp only [noOut]
        gi_wp2
        refine ⟨((HE5.out.keepsOthers.trans (KeepsOthers.setCell _ _ _)).trans (KeepsOthers.setCell _ _ _)).from _, ((HE5.out.kpY HW.out.2.2.1.1).set4 _ _).set5 _ _, .inr ⟨x, ao5, cap5, rfl, ?_, ?_, ?_⟩, ((HW.out.2.2.1.trans (HE5.out.kpY HW.out.2.2.1.1)).set4 _ _).set5 _ _, ?_⟩
        · rw [show max x.v 0 = x.v by omega]
          exact (HB4.out.set _).keep (heap_far (show w.heap.size + 1 ≠ w.heap.size + 1 + 1 by omega))
        · exact (HB5.out.keep (heap_far (show w.heap.size + 2 ≠ w.heap.size + 1 by omega))).set _
        · rw [HRD.out]
          exact (HS6.out.setCell (p := ⟨w.heap.size + 1, 0, none⟩) _ (fun a ha _ => by have := HFAR.out a ha; have := HS0.out; dsimp only; omega)).setCell (p := ⟨w.heap.size + 1 + 1, 0, none⟩) _ (fun a ha _ => by have := HFAR.out a ha; have := HS0.out; dsimp only; omega)
        · exact ((HW.out.2.2.2.trans HE5.out).setCell (show w.heap.size ≤ w.heap.size + 1 by omega) _).setCell (show w.heap.size ≤ w.heap.size + 1 + 1 by omega) _
    · simp at hlt
  case done =>
    rintro D xs W hD rfl ⟨h1, h6, h7⟩ hK
    rcases h1 with ⟨e, _⟩ | ⟨x, ro, rc, e, h1, h2, h3⟩
    · cases e
    · have hx : x = lkOf l t kn 0 ⟨sc, st, ob⟩ := by
        have e' : [lkOf l t kn 0 ⟨sc, st, ob⟩] = [x] := e
        injection e' with e'
        exact e'.symm
      subst hx
      have hn := lookF_nonneg l ⟨sc, st, ob⟩ t kn
      have HA : Hid (activeF l ⟨sc, st, ob⟩ t kn = (lookF l ⟨sc, st, ob⟩ t kn, decide (0 < lookF l ⟨sc, st, ob⟩ t kn))) := Lib.hid rfl
      unfold lkOf at h1 h3
      dsimp only at h1 h3
      generalize lookF l ⟨sc, st, ob⟩ t kn = vv at *
      rw [show max vv 0 = vv by omega] at h1
      have HH := Lib.hid (And.intro h1 (And.intro h2 (And.intro h3 (And.intro h7 hK))))
      have HD := Lib.hid hD
      have q4 := h1.cell
      have z4 := h1.froz
      have q5 := h2.cell
      have z5 := h2.froz
      clear h1 h2 h3 h6 h7 hK hD hseq hH5 hX5 h4 hb4 hb5 e hn
      gi_wp2
      gi_region
      gi_wp2
      rw [setCell_id HH.out.1.cell, setCell_id HH.out.2.1.cell]
      have hKd : W.drew.heap[D]? = some (.deferred (some [])) := HH.out.2.2.2.2
      have hEd : Ext W W.drew := (Ext.refl W).drew
      refine ⟨by simp, .inl ⟨_, _, rfl, run_takeDeferred hKd, ?_⟩⟩
      have hF : Ext w (W.drew.putObj D (.deferred none)) := Below.trans (HH.out.2.2.2.1.trans hEd) (belowK_b (w := w) (Nat.le_refl _) W.drew D _ _ (by have := HD.out; have := HS0.out; omega) hKd rfl rfl)
      have hk := grownBy_putObj' W.drew D (.deferred none)
      have hrow : ∀ r, some D = some r → ∃ o : Obj, W.drew.heap[r]? = some o ∧ o.isCells = false := fun r e => by cases e; exact ⟨_, hKd, rfl⟩
      have k0 := cell_kept (HH.out.1.ext hEd).cell hk hrow
      have k1 := cell_kept (HH.out.2.1.ext hEd).cell hk hrow
      have hR := rep_own (n := 0) (HH.out.2.2.1.ext hEd) hk (fun r e => ⟨Nat.zero_le _, hrow r e⟩)
      rw [HA.out]
      refine ⟨.tuple #[.int .i64 vv, .bool (decide (0 < vv)), .slice ro 1 rc], ?_, ⟨ro, rc, rfl, hR, hF⟩⟩
      simp [results, Try.results14, go_sem, k0, k1]
  case stop =>
    rintro D c pre W _ _ h _
    exact h.elim
end Go.Proofs.Ytbniicobkhiniaa
