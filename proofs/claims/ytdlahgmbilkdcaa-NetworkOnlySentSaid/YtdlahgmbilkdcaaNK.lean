/- Cut: the program's. -/
import Derived.Test.YtdlahgmbilkdcaaNJ
namespace Go.Sz
open Go.RowKit
def cutN (n : Nw) (x y : Int) (on : Bool) : Nw × Int := if okN n = true then (if okL (min x y) (max x y) = true then (⟨n.q, cutL n.a (min x y) (max x y) on⟩, 0) else (⟨[], []⟩, 1)) else (⟨[], []⟩, 480)
/-- a variable of two cells, known whole -/
def Boxed2 (W : World) (B : Nat) (t : TypeId) (u v : Value) : Prop := W.heap[B]? = some (.cells #[u, v] t (0, 0))
theorem Boxed2.lt {W : World} {B : Nat} {t : TypeId} {u v : Value} (h : Boxed2 W B t u v) : B < W.heap.size := (Array.getElem?_eq_some_iff.1 h).1
theorem Boxed2.box {W : World} {B : Nat} {t : TypeId} {u v : Value} (h : Boxed2 W B t u v) : Box2 W B u v :=
  ⟨by simp [World.cell?, show W.heap[B]? = _ from h], by simp [World.cell?, show W.heap[B]? = _ from h], fun i => by simp [World.frozen?, show W.heap[B]? = _ from h]⟩
theorem Boxed2.new (W : World) (t : TypeId) (u v : Value) : Boxed2 (W.alloc (.cells #[u, v] t)) W.heap.size t u v := World.alloc_heap_new W _
theorem Boxed2.keep {W W' : World} {B : Nat} {t : TypeId} {u v : Value} (h : Boxed2 W B t u v) (hk : W'.heap[B]? = W.heap[B]?) : Boxed2 W' B t u v := hk.trans h
theorem Boxed2.ext {W W' : World} {B : Nat} {t : TypeId} {u v : Value} (h : Boxed2 W B t u v) (hE : Ext W W') : Boxed2 W' B t u v := h.keep (hE.block B h.lt)
theorem Boxed2.set {W : World} {B : Nat} {t : TypeId} {u v : Value} (h : Boxed2 W B t u v) (i : Nat) (x : Value) : Boxed2 (W.setCell ⟨B, i, none⟩ x) B t (if i = 0 then x else u) (if i = 1 then x else v) := by
  unfold Boxed2 World.setCell at *
  simp only [Array.getElem?_modify, if_true, h, Option.map_some]
  congr 2
  match i with
  | 0 => simp
  | 1 => simp
  | i + 2 => simp
theorem Boxed2.own {β : Type} (B n : Nat) (t : TypeId) (f g : β → Value) : OwnFrom n (fun s W => Boxed2 W B t (f s) (g s)) := fun s X Y row hs hg hrow =>
  hs.keep (hg.block B hs.lt (fun e' => by obtain ⟨_, o, ho, hc⟩ := hrow B e'.symm; rw [show X.heap[B]? = _ from hs] at ho; cases ho; cases hc))
theorem ownsRow_own {β : Type} (n D : Nat) (e : TypeId) (size : Nat) (v : Value) (k : Nat) (xs : List Value) : OwnFrom n (fun (_ : β) W => W.ownsRow D e size v k xs) := fun s X Y row hr hg hrow => by
  refine hr.kept hg ?_
  rcases hr.2 with ⟨rfl, _⟩ | ⟨g, cap, cur, rfl, _, hgb, _⟩
  · exact .inl rfl
  · refine .inr fun e' => ?_
    obtain ⟨_, o, ho, hc⟩ := hrow g (by simpa [Value.ownBlock] using e'.symm)
    rw [hgb] at ho; cases ho; cases hc
theorem Ext.kpX {n1 B8 : Nat} {A B : World} (h : Ext A B) (hn : n1 ≤ A.heap.size) : KpX n1 B8 A B := ⟨h.size, fun b hb _ => h.block b (by omega)⟩
theorem Boxed2.set1 {W : World} {B : Nat} {t : TypeId} {u v : Value} (h : Boxed2 W B t u v) (x : Value) : Boxed2 (W.setCell ⟨B, 1, none⟩ x) B t u x := by simpa using h.set 1 x
/-- behind 'x.F = append(x.F, e)' -/
theorem Boxed2.appended {W w1 : World} {n1 B : Nat} {t e : TypeId} {size : Nat} {u v v' : Value} {k m : Nat} {xs ys : List Value} {tmp : Obj}
    (hv : Boxed2 W B t u v) (hrow : W.ownsRow n1 e size v k xs) (hn1 : n1 ≤ W.heap.size) (hB : B < n1)
    (hown' : w1.ownsRow n1 e size v' m ys) (hgrow : (W.alloc tmp).grownBy w1 v.ownBlock) :
    Boxed2 w1 B t u v ∧ Boxed2 (w1.setCell ⟨B, 1, none⟩ v') B t u v' ∧ (w1.setCell ⟨B, 1, none⟩ v').ownsRow n1 e size v' m ys ∧ KeepsOthers W (w1.setCell ⟨B, 1, none⟩ v') ∧ KpX n1 B W (w1.setCell ⟨B, 1, none⟩ v') ∧ Below B W (w1.setCell ⟨B, 1, none⟩ v') := by
  have hb := ownsRow_blocks hrow
  have hb' := ownsRow_blocks hown'
  have hv1 : Boxed2 w1 B t u v := (hv.ext ((Ext.refl W).alloc tmp)).keep (hgrow.block B (by simp; omega) (fun e => by have := hb B e.symm; omega))
  have hs : ∀ b, b ≠ B → (w1.setCell ⟨B, 1, none⟩ v').heap[b]? = w1.heap[b]? := fun b hb => heap_setCell_far w1 ⟨B, 1, none⟩ v' b hb
  have hg : ∀ b, b < W.heap.size → some b ≠ v.ownBlock → w1.heap[b]? = W.heap[b]? := fun b h1 h2 => (hgrow.block b (by simp; omega) h2).trans (Below.heap_alloc W tmp b h1)
  have hsz : W.heap.size ≤ w1.heap.size := Nat.le_trans (by simp) hgrow.size
  refine ⟨hv1, hv1.set1 v', ?_, ?_, ⟨by simpa using hsz, fun b h1 h2 => ?_⟩, ⟨hgrow.os, hgrow.tape, hgrow.output, by simpa using hsz, fun b h1 => ?_⟩⟩
  · rcases hown'.2 with ⟨rfl, h0⟩ | ⟨g, cap, cur, rfl, h1, h2, h3⟩
    · exact ⟨hown'.1, .inl ⟨rfl, h0⟩⟩
    · exact ⟨hown'.1, .inr ⟨g, cap, cur, rfl, h1, by rw [hs g (by omega)]; exact h2, h3⟩⟩
  · refine ((KeepsOthers.alloc W tmp).trans (KeepsOthers.of_grownBy hgrow fun j o ej hj => ?_)).trans (KeepsOthers.setCell _ _ _)
    rcases hrow.2 with ⟨rfl, _⟩ | ⟨g, cap, cur, rfl, _, hgb, _⟩
    · simp [Value.ownBlock] at ej
    · obtain rfl : g = j := by simpa [Value.ownBlock] using ej
      rw [Below.heap_alloc W tmp g (Array.getElem?_eq_some_iff.1 hgb).1, hgb] at hj; cases hj; rfl
  · rw [hs b h2]
    exact hg b (by omega) (fun e => by have := hb b e.symm; omega)
  · rw [hs b (by omega)]
    exact hg b (by omega) (fun e => by have := hb b e.symm; omega)
theorem kpX_put {n1 B8 : Nat} (W : World) (l : Nat) (o' : Obj) (hl : n1 ≤ l) : KpX n1 B8 W (W.putObj l o') := ⟨by simp, fun b h1 _ => World.putObj_heap_other (by omega)⟩
theorem cutL_rg (a : List (Int × Int)) (x y : Int) (on : Bool) : ∀ z ∈ cutL a x y on, inI64 z.1 ∧ inI64 z.2 := by
  intro z hz
  unfold cutL at hz
  have h : ∀ z ∈ natPairs, z.1 < 7 ∧ z.2 < 7 := by decide
  have hz := (List.mem_filter.1 hz).1
  unfold allPairs at hz
  obtain ⟨p, hp, rfl⟩ := List.mem_map.1 hz
  have := h p hp
  unfold inI64
  simp only
  omega
end Go.Sz
namespace Go.Proofs.Ytdlahgmbilkdcaa
open Go.RowKit Go.Sz Go.Shelf
attribute [local go_sem] Oper.semAt_some

theorem info2 : (Try.prog.info? 55).map (fun i => (i.zero, i.size, i.bytes)) = some (some (.agg #[.int .i64 0, .int .i64 0]), 2, 16) := by kernel_rfl

set_option maxRecDepth 100000 in
set_option maxHeartbeats 3200000 in
theorem cut_any (n : Nw) (x y : Int) (on : Bool) (cs : List Value) (w : World) (h : RepN w cs n) : Calls Try.prog 20 #[.agg cs.toArray, .int .i64 x, .int .i64 y, .bool on] w (RetN (cutN n x y on) w) := by
  have HH := Lib.hid h
  have HC := Lib.hid fun (W : World) (hE : Ext w W) => check_any n _ W (HH.out.ext hE)
  have HX : Hid (cutN n x y on = if okN n = true then (if okL (min x y) (max x y) = true then (⟨n.q, cutL n.a (min x y) (max x y) on⟩, 0) else (⟨[], []⟩, 1)) else (⟨[], []⟩, 480)) := Lib.hid rfl
  have HCX : Hid (checkN n = if okN n = true then 0 else 480) := Lib.hid rfl
  obtain ⟨ao, cap, bo, cap', rows, rfl, hq, ha⟩ := h
  have HQ := Lib.hid hq
  have HA := Lib.hid ha
  clear hq ha
  obtain ⟨q, a⟩ := n
  simp only at HX HC HCX HQ HA ⊢
  have hX0 := ((Ext.refl w).alloc (.cells #[.slice ao q.length cap, .slice bo a.length cap'] 25)).alloc (.cells #[.slice none 0 0, .slice none 0 0] 25)
  have hbn := (Box2.new w (.slice ao q.length cap) (.slice bo a.length cap') 25).ext ((Ext.refl _).alloc (.cells #[.slice none 0 0, .slice none 0 0] 25))
  have hbr := Boxed2.new (w.alloc (.cells #[.slice ao q.length cap, .slice bo a.length cap'] 25)) 25 (.slice none 0 0) (.slice none 0 0)
  rw [World.size_alloc] at hbr
  have hwf1 : Fence.wide.fn 13 := trivial
  have hwf2 : Fence.wide.fn 37 := trivial
  have hwf3 : Fence.wide.fn 32 := trivial
  have hwf4 : Fence.wide.fn 39 := trivial
  generalize okN ⟨q, a⟩ = ok at *
  generalize checkN ⟨q, a⟩ = ck at *
  generalize hmn : min x y = mn at *
  generalize hmx : max x y = mx at *
  refine (callsIn_wide (n := 6)).1 ?_
  cases ok with
  | false =>
    have hck : ck = 480 := by rw [HCX.out]; rfl
    have hr : cutN ⟨q, a⟩ x y on = (⟨[], []⟩, 480) := by rw [HX.out]; rfl
    subst hck
    rw [hr]
    clear hr
    refine callsIn_of_wp_marks Try.func20 rfl trivial ?_ rfl
    simp only [Try.ntmps20, List.size_toArray, List.length_cons, List.length_nil, Nat.reduceAdd, Nat.reduceSub, Array.replicate_succ, Array.replicate_zero, List.push_toArray, List.append_toArray, List.nil_append, List.cons_append]
    gi_wp2_with (gi_at_call 13; refine (callsIn_wide.2 (HC.out _ hX0)).mono ?_; rintro e w1 ⟨rfl, hE1⟩; obtain ⟨r0, r1, rz⟩ := (hbr.ext hE1).box)
    refine ⟨.tuple #[.agg #[.slice none 0 0, .slice none 0 0], .int .i64 480], ?_, ⟨_, rfl, RepN.zero _, ((hX0.trans hE1).setCell (by simp) _).setCell (by simp) _⟩⟩
    simp [results, Try.results20, go_sem, r0, r1]
  | true =>
    have hck : ck = 0 := by rw [HCX.out]; rfl
    subst hck
    cases hl : okL mn mx with
    | false =>
      have hr : cutN ⟨q, a⟩ x y on = (⟨[], []⟩, 1) := by rw [HX.out, hl]; rfl
      rw [hr]
      clear hr
      have HV := Lib.hid fun (W : World) => valid_any mn mx W
      have HBT := Lib.hid fun (W : World) => between_any x y W
      rw [hmn, hmx] at HBT
      rw [hl] at HV
      refine callsIn_of_wp_marks Try.func20 rfl trivial ?_ rfl
      simp only [Try.ntmps20, List.size_toArray, List.length_cons, List.length_nil, Nat.reduceAdd, Nat.reduceSub, Array.replicate_succ, Array.replicate_zero, List.push_toArray, List.append_toArray, List.nil_append, List.cons_append]
      gi_wp2_with (first
        | (gi_at_call 13; refine (callsIn_wide.2 (HC.out _ hX0)).mono ?_; rintro e w1 ⟨rfl, hE1⟩)
        | (gi_at_call 37; refine (callsIn_wide.2 (HBT.out _)).mono ?_; rintro e w2 ⟨rfl, hE2⟩))
      refine (callsIn_wide.2 (HV.out _)).mono ?_
      rintro e w3 ⟨rfl, hE3⟩
      have hE13 := ((hE1.trans hE2).trans ((Ext.refl w2).alloc (.cells #[.int .i64 mn, .int .i64 mx] 58))).trans hE3
      obtain ⟨n0, n1, _⟩ := hbn.ext hE13
      have hbr3 := hbr.ext hE13
      obtain ⟨r0, r1, rz⟩ := hbr3.box
      have hbl := (Box2.new w2 (.int .i64 mn) (.int .i64 mx) 58).ext hE3
      obtain ⟨l0, l1, _⟩ := hbl
      have hsz2 : w.heap.size + 2 ≤ w2.heap.size := by have := (hE1.trans hE2).size; simp at this; omega
      have hne1 : ¬ (w2.heap.size = w.heap.size + 1) := by omega
      have hne2 : ¬ (w.heap.size + 1 = w2.heap.size) := by omega
      gi_wp2
      refine ⟨.tuple #[.agg #[.slice none 0 0, .slice none 0 0], .int .i64 1], ?_, ⟨_, rfl, RepN.zero _, ((hX0.trans hE13).setCell (by simp) _).setCell (by simp) _⟩⟩
      simp [results, Try.results20, go_sem, r0, r1]
    | true =>
      have hr : cutN ⟨q, a⟩ x y on = (⟨q, cutL a mn mx on⟩, 0) := by rw [HX.out, hl]; rfl
      rw [hr]
      clear hr
      have HV := Lib.hid fun (W : World) => valid_any mn mx W
      have HBT := Lib.hid fun (W : World) => between_any x y W
      rw [hmn, hmx] at HBT
      rw [hl] at HV
      refine callsIn_of_wp_marks Try.func20 rfl trivial ?_ rfl
      simp only [Try.ntmps20, List.size_toArray, List.length_cons, List.length_nil, Nat.reduceAdd, Nat.reduceSub, Array.replicate_succ, Array.replicate_zero, List.push_toArray, List.append_toArray, List.nil_append, List.cons_append]
      gi_wp2_with (first
        | (gi_at_call 13; refine (callsIn_wide.2 (HC.out _ hX0)).mono ?_; rintro e w1 ⟨rfl, hE1⟩)
        | (gi_at_call 37; refine (callsIn_wide.2 (HBT.out _)).mono ?_; rintro e w2 ⟨rfl, hE2⟩))
      refine (callsIn_wide.2 (HV.out _)).mono ?_
      rintro e w3 ⟨rfl, hE3⟩
      have hE13 := ((hE1.trans hE2).trans ((Ext.refl w2).alloc (.cells #[.int .i64 mn, .int .i64 mx] 58))).trans hE3
      obtain ⟨n0, n1, _⟩ := hbn.ext hE13
      have hbr3 := hbr.ext hE13
      obtain ⟨r0, r1, rz⟩ := hbr3.box
      have hbl := (Box2.new w2 (.int .i64 mn) (.int .i64 mx) 58).ext hE3
      obtain ⟨l0, l1, _⟩ := hbl
      have hsz2 : w.heap.size + 2 ≤ w2.heap.size := by have := (hE1.trans hE2).size; simp at this; omega
      have hne1 : ¬ (w2.heap.size = w.heap.size + 1) := by omega
      have hne2 : ¬ (w.heap.size + 1 = w2.heap.size) := by omega
      gi_wp2_with (gi_at_call 39; refine (callsIn_wide.2 (cuts_any _ _ _ _ _ _ _)).mono ?_; rintro e w5 ⟨rfl, hw5⟩)
      have hXa := ((hX0.trans hE13).setCell (p := ⟨w.heap.size + 1, 0, none⟩) (by simp) (.slice ao q.length cap)).setCell (p := ⟨w.heap.size + 1, 1, none⟩) (by simp) (.slice none 0 0)
      have hba : Boxed2 ((w3.setCell ⟨w.heap.size + 1, 0, none⟩ (.slice ao q.length cap)).setCell ⟨w.heap.size + 1, 1, none⟩ (.slice none 0 0)) (w.heap.size + 1) 25 (.slice ao q.length cap) (.slice none 0 0) := by simpa using (hbr3.set 0 (.slice ao q.length cap)).set 1 (.slice none 0 0)
      have hsa : ((w3.setCell ⟨w.heap.size + 1, 0, none⟩ (.slice ao q.length cap)).setCell ⟨w.heap.size + 1, 1, none⟩ (.slice none 0 0)).heap.size = w3.heap.size := by simp
      have hg3 : w.heap.size + 2 ≤ w3.heap.size := by have := hE3.size; rw [World.size_alloc] at this; omega
      generalize ((w3.setCell ⟨w.heap.size + 1, 0, none⟩ (.slice ao q.length cap)).setCell ⟨w.heap.size + 1, 1, none⟩ (.slice none 0 0)) = wa at *
      rw [← hsa] at hg3
      rw [show w3.heap.size = wa.heap.size from hsa.symm]
      have hA1 := (((Ext.refl wa).alloc (.cells #[.slice bo a.length cap'] 23)).alloc (.cells #[.int .i64 mn, .int .i64 mx] 58)).alloc (.cells #[.bool on] 4)
      have hX5 := hXa.trans hA1
      have hb5 := hba.ext hA1
      have hH5 : CutH (((wa.alloc (.cells #[.slice bo a.length cap'] 23)).alloc (.cells #[.int .i64 mn, .int .i64 mx] 58)).alloc (.cells #[.bool on] 4)) (wa.heap.size + 1) (wa.heap.size + 1 + 1) wa.heap.size mn mx on bo cap' a :=
        ⟨(Box2.new' (wa.alloc (.cells #[.slice bo a.length cap'] 23)) (.int .i64 mn) (.int .i64 mx) 58 (wa.heap.size + 1) (by simp)).ext ((Ext.refl _).alloc _), cell_new _ (.bool on) 4 (wa.heap.size + 1 + 1) (by simp), (((Ext.refl _).alloc (.cells #[.int .i64 mn, .int .i64 mx] 58)).alloc (.cells #[.bool on] 4)).cell (cell_new wa (.slice bo a.length cap') 23 wa.heap.size rfl), HA.out.ext hX5⟩
      have hsz5 : (((wa.alloc (.cells #[.slice bo a.length cap'] 23)).alloc (.cells #[.int .i64 mn, .int .i64 mx] 58)).alloc (.cells #[.bool on] 4)).heap.size = wa.heap.size + 3 := by simp
      generalize (((wa.alloc (.cells #[.slice bo a.length cap'] 23)).alloc (.cells #[.int .i64 mn, .int .i64 mx] 58)).alloc (.cells #[.bool on] 4)) = W0 at *
      clear hsa hA1 hba hXa hbr3 r0 r1 rz n0 n1 l0 l1 hE1 hE2 hE3 hE13 hbr hbn hX0
      generalize wa.heap.size = g3 at *
      have h4 : ∀ x, bo = some x → a ≠ [] → x.block < W0.heap.size ∧ x.block ≠ w.heap.size + 1 := fun z hz hne => by
        have := HA.out.sl.blk (by omega) z hz (by intro h; exact hne (by simpa [pr] using h))
        omega
      have hseq : SeqStopsK Fence.wide 5 Try.prog 46 #[.pointer (some ⟨g3 + 1, 0, none⟩), .pointer (some ⟨g3 + 1 + 1, 0, none⟩), .pointer (some ⟨g3, 0, none⟩)] (fun p : Int × Int => #[Value.agg #[.int .i64 p.1, .int .i64 p.2]]) (KpX W0.heap.size (w.heap.size + 1)) (fun xs => xs = cutL a mn mx on) (fun _ => True) 21 W0 := fun l J Jx W hW hJ hJx hY h0 =>
        cuts1_in 5 (by omega) l (g3 + 1) (g3 + 1 + 1) g3 W0.heap.size (w.heap.size + 1) mn mx on bo cap' a J Jx (fun pre A B hA hE => hJ pre A B none hA ⟨hE.os, hE.tape, hE.output, hE.size, fun k hk _ => hE.block k hk⟩ (fun r hr => by cases hr)) hY (by omega) (by omega) (by omega) h4 W (hH5.ext hW) h0
      obtain ⟨i0, hi, hz0, hz1, hz2⟩ := info_parts info2
      refine wpIn_rangeFunc_ownH rfl (by omega) (gf := 46) (lb := #[.pointer (some ⟨g3 + 1, 0, none⟩), .pointer (some ⟨g3 + 1 + 1, 0, none⟩), .pointer (some ⟨g3, 0, none⟩)]) rfl trivial (enters_of Try.func46 (by kernel_rfl) rfl)
        hseq KpX.trans (fun W l o o' hl _ _ _ => kpX_put W l o' hl) (Below.refl _ _) (fun _ => rfl)
        (fun pre W => ∃ v, Boxed2 W (w.heap.size + 1) 25 (.slice ao q.length cap) v ∧ W.ownsRow W0.heap.size 55 2 v pre.length (pr pre).flatten ∧ KpX W0.heap.size (w.heap.size + 1) W0 W ∧ Ext w W)
        (fun _ _ _ => False)
        (fun pre X Y row hs hg hr => by
          obtain ⟨v, h1, h2, h3, h4⟩ := hs
          exact ⟨v, Boxed2.own _ W0.heap.size _ (fun (_ : Unit) => _) (fun (_ : Unit) => _) () X Y row h1 hg hr, ownsRow_own W0.heap.size _ _ _ _ _ _ () X Y row h2 hg hr, ⟨Nat.le_trans h3.1 hg.size, fun b hb hne => (hg.block b (by have := h3.1; omega) (fun e => by have := (hr b e.symm).1; omega)).trans (h3.2 b hb hne)⟩, ownFrom_below (Nat.le_refl _) hX5.size () X Y row h4 hg hr⟩)
        (fun _ _ _ _ _ hs _ _ => hs)
        ⟨_, hb5, World.ownsRow_nil _ _ _ _, ⟨Nat.le_refl _, fun _ _ _ => rfl⟩, hX5⟩
        (fun p a' W => ∃ Bx, W0.heap.size ≤ Bx ∧ Boxed2 W Bx 55 (.int .i64 p.1) (.int .i64 p.2) ∧ a' = { tmps := #[.agg #[.slice ao q.length cap, .slice bo a.length cap'], .int .i64 x, .int .i64 y, .bool on, .pointer (some ⟨w.heap.size, 0, none⟩), undef, undef, undef, .pointer (some ⟨w.heap.size + 1, 0, none⟩), .int .i64 0, .pointer (some ⟨w2.heap.size, 0, none⟩), .pointer (some ⟨Bx, 0, none⟩), .agg #[.slice ao q.length cap, .slice bo a.length cap'], .int .i64 0, .bool false, undef, .int .i64 x, .int .i64 y, .agg #[.int .i64 mn, .int .i64 mx], .agg #[.int .i64 mn, .int .i64 mx], .bool true, .bool false, undef, .pointer (some ⟨w.heap.size, 0, none⟩), .slice ao q.length cap, .agg #[.slice ao q.length cap, .slice none 0 0], .pointer (some ⟨w.heap.size, 1, none⟩), .slice bo a.length cap', .agg #[.int .i64 mn, .int .i64 mx], .bool on, .func (.func 46) #[] #[.pointer (some ⟨g3 + 1, 0, none⟩), .pointer (some ⟨g3 + 1 + 1, 0, none⟩), .pointer (some ⟨g3, 0, none⟩)], .agg #[.int .i64 p.1, .int .i64 p.2], undef, undef, undef, undef, undef, undef, undef], defers := [] })
        (fun p a' _ X Y row hs hg hr => by
          obtain ⟨Bx, h1, h2, h3⟩ := hs
          exact ⟨Bx, h1, Boxed2.own Bx W0.heap.size _ (fun (_ : Unit) => _) (fun (_ : Unit) => _) () X Y row h2 hg hr, h3⟩)
        ?assign ?body ?done ?stop
      case assign =>
        rintro l pre p W K ⟨v, h1, h2, h3, h4⟩ hK
        gi_wp2
        have hA := (Ext.refl W).alloc (.cells #[.int .i64 p.1, .int .i64 p.2] 55)
        exact hK _ _ ((KeepsOthers.alloc _ _).from _) (hA.kpX h3.1) ⟨v, h1.ext hA, ownsRow_ext h2 hA, h3.trans (hA.kpX h3.1), h4.trans hA⟩ ⟨W.heap.size, h3.1, Boxed2.new W _ _ _, rfl⟩
      case body =>
        rintro l pre p a' W hl ⟨r, hr⟩ ⟨v, h1, h2, h3, h4⟩ ⟨Bx, hBx, hbx, rfl⟩ hlt
        obtain ⟨r0, r1, rz⟩ := h1.box
        obtain ⟨x0, x1, _⟩ := hbx.box
        have hlen : (pr (pre ++ [p])).flatten = (pr pre).flatten ++ [.int .i64 p.1, .int .i64 p.2] := by simp [pr]
        have HL := Lib.hid hlen
        clear hlen
        gi_wp2_with (gi_at_builtin; refine wpListIn_append_own _ rfl _ _ 23 rfl W0.heap.size 55 i0 _ 2 16 Try.underlying23 hi hz0 hz1 hz2 rfl (by decide) _ _ _ rfl (h2.alloc _) ⟨W.heap.size, 0, none⟩ 1 1 [.int .i64 p.1, .int .i64 p.2] rfl rfl (two_cells (by simp) (by simp)) (by simp [Value.oneCell']) (by unfold maxLen; omega) (by omega) (by have := h3.1; simp; omega) ?_; intro v' w1 hown' hgrow _; obtain ⟨g', cap8, rfl⟩ := ownsRow_succ hown'; obtain ⟨hv1, hv2, hr2, hk2, hp2, hb2⟩ := h1.appended h2 h3.1 (by omega) hown' hgrow; obtain ⟨q0, q1, qz⟩ := hv1.box)
        refine ⟨hk2.from _, hp2, _, hv2, ?_, h3.trans hp2, Below.trans h4 (hb2.mono (by omega))⟩
        rw [HL.out]
        simpa using hr2
      case done =>
        rintro D xs W hD rfl ⟨v, h1, h2, h3, h4⟩ hK
        obtain ⟨r0, r1, rz⟩ := h1.box
        have hwid : ∀ r ∈ pr (cutL a mn mx on), r.length = 2 := fun r hr => by
          simp only [pr, List.mem_map] at hr
          obtain ⟨z, _, rfl⟩ := hr
          rfl
        obtain ⟨ao3, cap3, rfl, hs3, _⟩ := SL.of_own h2 hwid (pr_length _)
        gi_wp2
        rw [setCell_id2 r0 r1]
        refine ⟨by simp, .inl ⟨_, _, rfl, run_takeDeferred hK, ?_⟩⟩
        have hF : Ext w (W.putObj D (.deferred none)) := Below.trans h4 (belowK_b (w := w) (Nat.le_refl _) W D _ _ (by omega) hK rfl rfl)
        have hk := grownBy_putObj' W D (.deferred none)
        have hrow : ∀ r, some D = some r → ∃ o : Obj, W.heap[r]? = some o ∧ o.isCells = false := fun r e => by cases e; exact ⟨_, hK, rfl⟩
        have k0 := cell_kept r0 hk hrow
        have k1 := cell_kept r1 hk hrow
        refine ⟨.tuple #[.agg #[.slice ao q.length cap, .slice ao3 (cutL a mn mx on).length cap3], .int .i64 0], ?_, ⟨[.slice ao q.length cap, .slice ao3 (cutL a mn mx on).length cap3], rfl, ⟨ao, cap, ao3, cap3, rows, rfl, HQ.out.ext hF, ⟨?_, ?_⟩⟩, hF⟩⟩
        · simp [results, Try.results20, go_sem, k0, k1]
        · obtain ⟨ao4, cap4, e4, hs4, _⟩ := SL.of_own (ownsRow_putObj h2 (.deferred none) hK rfl) hwid (pr_length _)
          cases e4
          exact hs4
        · exact cutL_rg a mn mx on
      case stop =>
        rintro D c pre W _ _ h _
        exact h.elim
end Go.Proofs.Ytdlahgmbilkdcaa
