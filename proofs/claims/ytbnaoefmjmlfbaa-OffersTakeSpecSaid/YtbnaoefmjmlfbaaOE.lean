/- Offers: Expire of the program. -/
import Derived.Test.YtbnaoefmjmlfbaaOC
import Derived.Maps.OwnIn
namespace Go.Sz
open Go.RowKit
/-- a variable of one cell, known whole -/
def Boxed1 (W : World) (B : Nat) (t : TypeId) (u : Value) : Prop := W.heap[B]? = some (.cells #[u] t (0, 0))
theorem Boxed1.lt {W : World} {B : Nat} {t : TypeId} {u : Value} (h : Boxed1 W B t u) : B < W.heap.size := (Array.getElem?_eq_some_iff.1 h).1
theorem Boxed1.cell {W : World} {B : Nat} {t : TypeId} {u : Value} (h : Boxed1 W B t u) : W.cell? ⟨B, 0, none⟩ = some u := by simp [World.cell?, show W.heap[B]? = _ from h]
theorem Boxed1.froz {W : World} {B : Nat} {t : TypeId} {u : Value} (h : Boxed1 W B t u) : W.frozen? ⟨B, 0, none⟩ = false := by simp [World.frozen?, show W.heap[B]? = _ from h]
theorem Boxed1.new (W : World) (t : TypeId) (u : Value) (B : Nat) (hB : B = W.heap.size) : Boxed1 (W.alloc (.cells #[u] t)) B t u := by subst hB; exact heap_alloc_new W _
theorem Boxed1.keep {W W' : World} {B : Nat} {t : TypeId} {u : Value} (h : Boxed1 W B t u) (hk : W'.heap[B]? = W.heap[B]?) : Boxed1 W' B t u := hk.trans h
theorem Boxed1.ext {W W' : World} {B : Nat} {t : TypeId} {u : Value} (h : Boxed1 W B t u) (hE : Ext W W') : Boxed1 W' B t u := h.keep (hE.block B h.lt)
theorem Boxed1.set {W : World} {B : Nat} {t : TypeId} {u : Value} (h : Boxed1 W B t u) (x : Value) : Boxed1 (W.setCell ⟨B, 0, none⟩ x) B t x := by
  unfold Boxed1 World.setCell at *
  simp only [Array.getElem?_modify, if_true, h, Option.map_some]
  congr 2
theorem Boxed1.own {β : Type} (B n : Nat) (t : TypeId) (f : β → Value) : OwnFrom n (fun s W => Boxed1 W B t (f s)) := fun s X Y row hs hg hrow =>
  hs.keep (hg.block B hs.lt (fun e' => by obtain ⟨_, o, ho, hc⟩ := hrow B e'.symm; rw [show X.heap[B]? = _ from hs] at ho; cases ho; cases hc))
theorem ownsRow_own {β : Type} (n D : Nat) (e : TypeId) (size : Nat) (v : Value) (k : Nat) (xs : List Value) : OwnFrom n (fun (_ : β) W => W.ownsRow D e size v k xs) := fun s X Y row hr hg hrow => by
  refine hr.kept hg ?_
  rcases hr.2 with ⟨rfl, _⟩ | ⟨g, cap, cur, rfl, _, hgb, _⟩
  · exact .inl rfl
  · refine .inr fun e' => ?_
    obtain ⟨_, o, ho, hc⟩ := hrow g (by simpa [Value.ownBlock] using e'.symm)
    rw [hgb] at ho; cases ho; cases hc
theorem four_cells {W : World} {b : Nat} {x0 x1 x2 x3 : Value} (h0 : W.cell? ⟨b, 0, none⟩ = some x0) (h1 : W.cell? ⟨b, 1, none⟩ = some x1) (h2 : W.cell? ⟨b, 2, none⟩ = some x2) (h3 : W.cell? ⟨b, 3, none⟩ = some x3) :
    ∀ j u, [x0, x1, x2, x3][j]? = some u → W.cell? ((⟨b, 0, none⟩ : Addr).add j) = some u := by
  intro j u hu
  rw [Addr.add_lit, Nat.zero_add]
  match j, hu with
  | 0, hu => cases hu; exact h0
  | 1, hu => cases hu; exact h1
  | 2, hu => cases hu; exact h2
  | 3, hu => cases hu; exact h3
  | j + 4, hu => simp at hu
/-- two rows of their own do not share a block -/
def Apart2 (u v : Value) : Prop := ∀ k, u.ownBlock = some k → v.ownBlock ≠ some k
theorem Apart2.symm {u v : Value} (h : Apart2 u v) : Apart2 v u := fun k h1 h2 => h k h2 h1
theorem ownsRow_lt' {W : World} {D e size n : Nat} {v : Value} {xs : List Value} (h : W.ownsRow D e size v n xs) : ∀ k, v.ownBlock = some k → k < W.heap.size := fun k hk => by
  rcases h.2 with ⟨rfl, _⟩ | ⟨g, cap, cur, rfl, _, h2, _⟩
  · cases hk
  · obtain rfl : g = k := by simpa [Value.ownBlock] using hk
    exact (Array.getElem?_eq_some_iff.1 h2).1
theorem ownsRow_heap {W W' : World} {D e size n : Nat} {v : Value} {xs : List Value} (h : W.ownsRow D e size v n xs) (hk : ∀ k, v.ownBlock = some k → W'.heap[k]? = W.heap[k]?) : W'.ownsRow D e size v n xs := by
  rcases h.2 with ⟨rfl, h0⟩ | ⟨g, cap, cur, rfl, h1, h2, h3⟩
  · exact ⟨h.1, .inl ⟨rfl, h0⟩⟩
  · exact ⟨h.1, .inr ⟨g, cap, cur, rfl, h1, by rw [hk g rfl]; exact h2, h3⟩⟩
/-- behind 'x = append(x, e)', x a variable of its own, beside another one -/
theorem Boxed1.appended {W w1 : World} {n1 B C : Nat} {t e : TypeId} {size : Nat} {u v v' : Value} {k m j : Nat} {xs ys zs : List Value} {tmp : Obj}
    (hu : Boxed1 W B t u) (hv : Boxed1 W C t v) (hrow : W.ownsRow n1 e size u k xs) (hrow2 : W.ownsRow n1 e size v j zs) (hap : Apart2 u v) (hn1 : n1 ≤ W.heap.size) (hB : B < n1) (hC : C < n1) (hBC : B ≠ C)
    (hown' : w1.ownsRow n1 e size v' m ys) (hgrow : (W.alloc tmp).grownBy w1 u.ownBlock) (hat : v'.ownBlock = u.ownBlock ∨ v'.ownBlock = some (W.alloc tmp).heap.size) :
    Boxed1 w1 B t u ∧ Boxed1 (w1.setCell ⟨B, 0, none⟩ v') B t v' ∧ Boxed1 (w1.setCell ⟨B, 0, none⟩ v') C t v ∧ (w1.setCell ⟨B, 0, none⟩ v').ownsRow n1 e size v' m ys ∧ (w1.setCell ⟨B, 0, none⟩ v').ownsRow n1 e size v j zs ∧ Apart2 v' v ∧
      KeepsOthers W (w1.setCell ⟨B, 0, none⟩ v') ∧ (∀ b, b < n1 → b ≠ B → (w1.setCell ⟨B, 0, none⟩ v').heap[b]? = W.heap[b]?) ∧ W.heap.size ≤ (w1.setCell ⟨B, 0, none⟩ v').heap.size ∧ Below B W (w1.setCell ⟨B, 0, none⟩ v') := by
  have hb := ownsRow_blocks hrow
  have hb2 := ownsRow_blocks hrow2
  have hb' := ownsRow_blocks hown'
  have hl2 := ownsRow_lt' hrow2
  have hs : ∀ b, b ≠ B → (w1.setCell ⟨B, 0, none⟩ v').heap[b]? = w1.heap[b]? := fun b hb => heap_setCell_far w1 ⟨B, 0, none⟩ v' b hb
  have hg : ∀ b, b < W.heap.size → some b ≠ u.ownBlock → w1.heap[b]? = W.heap[b]? := fun b h1 h2 => (hgrow.block b (by simp; omega) h2).trans (Below.heap_alloc W tmp b h1)
  have hsz : W.heap.size ≤ w1.heap.size := Nat.le_trans (by simp) hgrow.size
  have hu1 : Boxed1 w1 B t u := hu.keep (hg B (by omega) (fun e => by have := hb B e.symm; omega))
  refine ⟨hu1, hu1.set v', hv.keep ((hs C (Ne.symm hBC)).trans (hg C (by omega) (fun e => by have := hb C e.symm; omega))), ?_, ?_, ?_, ?_, ?_, by simpa using hsz, ⟨hgrow.os, hgrow.tape, hgrow.output, by simpa using hsz, fun b h1 => ?_⟩⟩
  · exact ownsRow_heap hown' fun g hg' => hs g (by have := hb' g hg'; omega)
  · exact ownsRow_heap hrow2 fun g hg' => (hs g (by have := hb2 g hg'; omega)).trans (hg g (hl2 g hg') (fun e => hap g e.symm hg'))
  · intro g hg1 hg2
    have := hl2 g hg2
    rcases hat with h | h
    · exact hap g (h ▸ hg1) hg2
    · rw [h] at hg1; injection hg1 with hg1; rw [World.size_alloc] at hg1; omega
  · refine ((KeepsOthers.alloc W tmp).trans (KeepsOthers.of_grownBy hgrow fun j o ej hj => ?_)).trans (KeepsOthers.setCell _ _ _)
    rcases hrow.2 with ⟨rfl, _⟩ | ⟨g, cap, cur, rfl, _, hgb, _⟩
    · simp [Value.ownBlock] at ej
    · obtain rfl : g = j := by simpa [Value.ownBlock] using ej
      rw [Below.heap_alloc W tmp g (Array.getElem?_eq_some_iff.1 hgb).1, hgb] at hj; cases hj; rfl
  · intro b h1 h2
    rw [hs b h2]
    exact hg b (by omega) (fun e => by have := hb b e.symm; omega)
  · rw [hs b (by omega)]
    exact hg b (by omega) (fun e => by have := hb b e.symm; omega)
def stO (pre : List (Off × Bool)) : List Off := (pre.filter (fun p => p.2)).map (fun p => p.1)
def gnO (pre : List (Off × Bool)) : List Off := (pre.filter (fun p => !p.2)).map (fun p => p.1)
def expO (l : List Off) (now : Int) : List Off × List Off := (l.filter (fun o => decide (now < o.u)), l.filter (fun o => !decide (now < o.u)))
def stdL (l : List Off) (now : Int) : List (Off × Bool) := l.map (fun o => (o, decide (now < o.u)))
theorem stO_std (l : List Off) (now : Int) : stO (stdL l now) = (expO l now).1 := by
  unfold stO stdL expO
  induction l with
  | nil => rfl
  | cons x l ih => simp only [List.map_cons, List.filter_cons]; split <;> simp_all
theorem gnO_std (l : List Off) (now : Int) : gnO (stdL l now) = (expO l now).2 := by
  unfold gnO stdL expO
  induction l with
  | nil => rfl
  | cons x l ih => simp only [List.map_cons, List.filter_cons]; split <;> simp_all
theorem stO_snoc (pre : List (Off × Bool)) (x : Off) (b : Bool) : stO (pre ++ [(x, b)]) = if b = true then stO pre ++ [x] else stO pre := by
  unfold stO
  cases b <;> simp
theorem gnO_snoc (pre : List (Off × Bool)) (x : Off) (b : Bool) : gnO (pre ++ [(x, b)]) = if b = true then gnO pre else gnO pre ++ [x] := by
  unfold gnO
  cases b <;> simp
theorem stO_len (pre : List (Off × Bool)) : (stO pre).length ≤ pre.length := by unfold stO; rw [List.length_map]; exact List.length_filter_le _ _
theorem gnO_len (pre : List (Off × Bool)) : (gnO pre).length ≤ pre.length := by unfold gnO; rw [List.length_map]; exact List.length_filter_le _ _
/-- what holds behind each round of Expire -/
def ExpI (w W0 : World) (ts t : TypeId) (pre : List (Off × Bool)) (W : World) : Prop := ∃ v4 v5, Boxed1 W w.heap.size ts v4 ∧ Boxed1 W (w.heap.size + 1) ts v5 ∧ W.ownsRow W0.heap.size t 4 v4 (stO pre).length (orows (stO pre)).flatten ∧ W.ownsRow W0.heap.size t 4 v5 (gnO pre).length (orows (gnO pre)).flatten ∧ Apart2 v4 v5 ∧ KpY W0.heap.size w.heap.size (w.heap.size + 1) W0 W ∧ Ext w W
/-- two lists -/
def RetLL (r : List Off × List Off) (w : World) (e : Ending) (w' : World) : Prop := ∃ ao cap bo cap', e = .returned (.tuple #[.slice ao r.1.length cap, .slice bo r.2.length cap']) ∧ RepO w' ao cap r.1 ∧ RepO w' bo cap' r.2 ∧ Ext w w'
end Go.Sz
namespace Go.Proofs.Ytbnaoefmjmlfbaa
open Go.RowKit Go.Sz Go.Shelf
attribute [local go_sem] Oper.semAt_some
set_option maxRecDepth 100000 in
set_option maxHeartbeats 6400000 in
theorem expire_any (l : List Off) (now : Int) (ao : Option Addr) (cap : Nat) (w : World) (h : RepO w ao cap l) (hb : l.length ≤ 100000) : Calls Try.prog 17 #[.slice ao l.length cap, .int .i64 now] w (RetLL (expO l now) w) := by
  obtain ⟨i0, hi, hz0, hz1, hz2⟩ := info_parts infoO
  have hwf4 : Fence.wide.fn 31 := trivial
  have hX5 := ((((Ext.refl w).alloc (.cells #[.slice none 0 0] 22)).alloc (.cells #[.slice none 0 0] 22)).alloc (.cells #[.slice ao l.length cap] 22)).alloc (.cells #[.int .i64 now] 3)
  have hb4 := ((((Boxed1.new w 22 (.slice none 0 0) w.heap.size rfl).ext ((Ext.refl _).alloc (.cells #[.slice none 0 0] 22))).ext ((Ext.refl _).alloc (.cells #[.slice ao l.length cap] 22))).ext ((Ext.refl _).alloc (.cells #[.int .i64 now] 3)))
  have hb5 := ((Boxed1.new (w.alloc (.cells #[.slice none 0 0] 22)) 22 (.slice none 0 0) (w.heap.size + 1) (by simp)).ext ((Ext.refl _).alloc (.cells #[.slice ao l.length cap] 22))).ext ((Ext.refl _).alloc (.cells #[.int .i64 now] 3))
  have hH5 : StdH ((((w.alloc (.cells #[.slice none 0 0] 22)).alloc (.cells #[.slice none 0 0] 22)).alloc (.cells #[.slice ao l.length cap] 22)).alloc (.cells #[.int .i64 now] 3)) (w.heap.size + 1 + 1) (w.heap.size + 1 + 1 + 1) now ao cap l :=
    ⟨cell_new _ _ _ _ (by simp), ((Ext.refl _).alloc _).cell (cell_new _ _ _ _ (by simp)), h.ext hX5⟩
  have h4 : ∀ x, ao = some x → l ≠ [] → x.block < w.heap.size := fun z hz hne => by
    obtain ⟨b, o, e, hlt⟩ := SL.at h (by omega) 0 (by rw [orows_length]; exact List.length_pos_iff.2 hne)
    rw [e] at hz; cases hz; exact hlt
  have HBB := Lib.hid hb
  clear h hb
  refine (callsIn_wide (n := 6)).1 ?_
  refine callsIn_of_wp_marks Try.func17 rfl trivial ?_ rfl
  simp only [Try.ntmps17, List.size_toArray, List.length_cons, List.length_nil, Nat.reduceAdd, Nat.reduceSub, Array.replicate_succ, Array.replicate_zero, List.push_toArray, List.append_toArray, List.nil_append, List.cons_append]
  gi_wp2_with (gi_at_call 31; refine (callsIn_wide.2 (standing_any _ _ _ _ _)).mono ?_; rintro e w5 ⟨rfl, hw5⟩; subst hw5)
  have hsz5 : ((((w.alloc (.cells #[.slice none 0 0] 22)).alloc (.cells #[.slice none 0 0] 22)).alloc (.cells #[.slice ao l.length cap] 22)).alloc (.cells #[.int .i64 now] 3)).heap.size = w.heap.size + 4 := by simp
  generalize ((((w.alloc (.cells #[.slice none 0 0] 22)).alloc (.cells #[.slice none 0 0] 22)).alloc (.cells #[.slice ao l.length cap] 22)).alloc (.cells #[.int .i64 now] 3)) = W0 at *
  have HS0 := Lib.hid hsz5
  clear hsz5
  have hseq : SeqStopsK Fence.wide 5 Try.prog 40 #[.pointer (some ⟨w.heap.size + 1 + 1, 0, none⟩), .pointer (some ⟨w.heap.size + 1 + 1 + 1, 0, none⟩)] (fun p : Off × Bool => #[Value.agg #[.int .i64 p.1.s, .int .i64 p.1.a, .int .i64 p.1.b, .int .i64 p.1.u], .bool p.2]) (KpY W0.heap.size w.heap.size (w.heap.size + 1)) (fun xs => xs = stdL l now) (fun _ => True) l.length W0 := fun yl J Jx W hW hJ hJx hY h0 =>
    standing1_in 5 (by omega) yl (w.heap.size + 1 + 1) (w.heap.size + 1 + 1 + 1) W0.heap.size w.heap.size (w.heap.size + 1) now ao cap l J Jx (fun pre A B hA hE => hJ pre A B none hA ⟨hE.os, hE.tape, hE.output, hE.size, fun k hk _ => hE.block k hk⟩ (fun r hr => by cases hr)) hY (by have := HS0.out; omega) (by have := HS0.out; omega) (fun z hz hne => by have := h4 z hz hne; have := HS0.out; omega) W (hH5.ext hW) h0
  refine wpIn_rangeFunc_ownH rfl (by omega) (gf := 40) (lb := #[.pointer (some ⟨w.heap.size + 1 + 1, 0, none⟩), .pointer (some ⟨w.heap.size + 1 + 1 + 1, 0, none⟩)]) rfl trivial (enters_of Try.func40 (by kernel_rfl) rfl)
    hseq KpY.trans (fun W l o o' hl _ _ _ => kpY_put W l o' hl) (Below.refl _ _) (fun _ => rfl)
    (ExpI w W0 22 26)
    (fun _ _ _ => False)
    (fun pre X Y row hs hg hr => by
      obtain ⟨v4, v5, h1, h2, h3, h4, h5, h6, h7⟩ := hs
      exact ⟨v4, v5, Boxed1.own _ W0.heap.size _ (fun (_ : Unit) => _) () X Y row h1 hg hr, Boxed1.own _ W0.heap.size _ (fun (_ : Unit) => _) () X Y row h2 hg hr, ownsRow_own W0.heap.size _ _ _ _ _ _ () X Y row h3 hg hr, ownsRow_own W0.heap.size _ _ _ _ _ _ () X Y row h4 hg hr, h5, ⟨Nat.le_trans h6.1 hg.size, fun b hb hne hne2 => (hg.block b (by have := h6.1; omega) (fun e => by have := (hr b e.symm).1; omega)).trans (h6.2 b hb hne hne2)⟩, ownFrom_below (Nat.le_refl _) hX5.size () X Y row h7 hg hr⟩)
    (fun _ _ _ _ _ hs _ _ => hs)
    ⟨_, _, hb4, hb5, World.ownsRow_nil _ _ _ _, World.ownsRow_nil _ _ _ _, fun k hk => (by cases hk), ⟨Nat.le_refl _, fun _ _ _ _ => rfl⟩, hX5⟩
    (fun p a' W => ∃ Bx, W0.heap.size ≤ Bx ∧ W.heap[Bx]? = some (.cells p.1.enc.toArray 26 (0, 0)) ∧ a' = { tmps := #[.slice ao l.length cap, .int .i64 now, undef, undef, .pointer (some ⟨w.heap.size, 0, none⟩), .pointer (some ⟨w.heap.size + 1, 0, none⟩), .pointer (some ⟨Bx, 0, none⟩), .bool p.2, .slice ao l.length cap, .int .i64 now, .func (.func 40) #[] #[.pointer (some ⟨w.heap.size + 1 + 1, 0, none⟩), .pointer (some ⟨w.heap.size + 1 + 1 + 1, 0, none⟩)], .agg #[.int .i64 p.1.s, .int .i64 p.1.a, .int .i64 p.1.b, .int .i64 p.1.u], .bool p.2, undef, undef, undef, undef, undef, undef, undef, undef, undef, undef, undef], defers := [] })
    (fun p a' _ X Y row hs hg hr => by
      obtain ⟨Bx, h1, h2, h3⟩ := hs
      exact ⟨Bx, h1, (hg.block Bx (Array.getElem?_eq_some_iff.1 h2).1 (fun e' => by obtain ⟨_, o, ho, hc⟩ := hr Bx e'.symm; rw [h2] at ho; cases ho; cases hc)).trans h2, h3⟩)
    ?assign ?body ?done ?stop
  case assign =>
    rintro yl pre p W K ⟨v4, v5, h1, h2, h3, h4, h5, h6, h7⟩ hK
    gi_wp2
    have hA := (Ext.refl W).alloc (.cells #[.int .i64 p.1.s, .int .i64 p.1.a, .int .i64 p.1.b, .int .i64 p.1.u] 26)
    exact hK _ _ ((KeepsOthers.alloc _ _).from _) (hA.kpY h6.1) ⟨v4, v5, h1.ext hA, h2.ext hA, ownsRow_ext h3 hA, ownsRow_ext h4 hA, h5, h6.trans (hA.kpY h6.1), h7.trans hA⟩ ⟨W.heap.size, h6.1, heap_alloc_new W _, rfl⟩
  case body =>
    rintro yl pre ⟨x, st⟩ a' W hl ⟨r, hr⟩ ⟨v4, v5, h1, h2, h3, h4, hap, h6, h7⟩ ⟨Bx, hBx, hbx, rfl⟩ hlt
    have x0 : W.cell? ⟨Bx, 0, none⟩ = some (.int .i64 x.s) := by simp [World.cell?, hbx, Off.enc]
    have x1 : W.cell? ⟨Bx, 1, none⟩ = some (.int .i64 x.a) := by simp [World.cell?, hbx, Off.enc]
    have x2 : W.cell? ⟨Bx, 2, none⟩ = some (.int .i64 x.b) := by simp [World.cell?, hbx, Off.enc]
    have x3 : W.cell? ⟨Bx, 3, none⟩ = some (.int .i64 x.u) := by simp [World.cell?, hbx, Off.enc]
    have HSL := Lib.hid (stO_len pre)
    have HGL := Lib.hid (gnO_len pre)
    have HLT := Lib.hid hlt
    have HW0 := Lib.hid h6.1
    clear hlt
    cases st with
    | true =>
      have q0 := h1.cell
      have qz := h1.froz
      gi_wp2_with (gi_at_builtin; refine wpListIn_append_own_at _ rfl _ _ 22 rfl W0.heap.size 26 i0 _ 4 32 Try.underlying22 hi hz0 hz1 hz2 rfl (by decide) _ _ _ rfl (h3.alloc _) ⟨W.heap.size, 0, none⟩ 1 1 [.int .i64 x.s, .int .i64 x.a, .int .i64 x.b, .int .i64 x.u] rfl rfl (four_cells (by simp) (by simp) (by simp) (by simp)) (enc_one x) (by have := HSL.out; have := HLT.out; have := HBB.out; unfold maxLen; omega) (by have := HSL.out; have := HLT.out; have := HBB.out; omega) (by have := HW0.out; simp; omega) ?_; intro v' w1 hown' hgrow _ hat; obtain ⟨g', cap8, rfl⟩ := ownsRow_succ hown'; obtain ⟨a1, a2, a3, a4, a5, a6, a7, a8, a9, a10⟩ := h1.appended h2 h3 h4 hap h6.1 (by have := HS0.out; omega) (by have := HS0.out; omega) (by omega) hown' hgrow hat; clear q0 qz; have q0 := a1.cell; have qz := a1.froz)
      refine ⟨a7.from _, ⟨a9, fun b hb hb4 hb5 => a8 b hb hb4⟩, _, v5, a2, a3, ?_, ?_, a6, h6.trans ⟨a9, fun b hb hb4 hb5 => a8 b hb hb4⟩, Below.trans h7 a10⟩
      · rw [stO_snoc, if_pos rfl, orows_append, List.flatten_append, List.length_append]; exact a4
      · rw [gnO_snoc, if_pos rfl]; exact a5
    | false =>
      have q0 := h2.cell
      have qz := h2.froz
      gi_wp2_with (gi_at_builtin; refine wpListIn_append_own_at _ rfl _ _ 22 rfl W0.heap.size 26 i0 _ 4 32 Try.underlying22 hi hz0 hz1 hz2 rfl (by decide) _ _ _ rfl (h4.alloc _) ⟨W.heap.size, 0, none⟩ 1 1 [.int .i64 x.s, .int .i64 x.a, .int .i64 x.b, .int .i64 x.u] rfl rfl (four_cells (by simp) (by simp) (by simp) (by simp)) (enc_one x) (by have := HGL.out; have := HLT.out; have := HBB.out; unfold maxLen; omega) (by have := HGL.out; have := HLT.out; have := HBB.out; omega) (by have := HW0.out; simp; omega) ?_; intro v' w1 hown' hgrow _ hat; obtain ⟨g', cap8, rfl⟩ := ownsRow_succ hown'; obtain ⟨a1, a2, a3, a4, a5, a6, a7, a8, a9, a10⟩ := h2.appended h1 h4 h3 hap.symm h6.1 (by have := HS0.out; omega) (by have := HS0.out; omega) (by omega) hown' hgrow hat; clear q0 qz; have q0 := a1.cell; have qz := a1.froz)
      refine ⟨a7.from _, ⟨a9, fun b hb hb4 hb5 => a8 b hb hb5⟩, v4, _, a3, a2, ?_, ?_, a6.symm, h6.trans ⟨a9, fun b hb hb4 hb5 => a8 b hb hb5⟩, Below.trans h7 (a10.mono (by omega))⟩
      · rw [stO_snoc, if_neg (by simp)]; exact a5
      · rw [gnO_snoc, if_neg (by simp), orows_append, List.flatten_append, List.length_append]; exact a4
  case done =>
    rintro D xs W hD rfl ⟨v4, v5, h1, h2, h3, h4, hap, h6, h7⟩ hK
    rw [stO_std] at h3
    rw [gnO_std] at h4
    obtain ⟨ao3, cap3, rfl, hs3, _⟩ := RepO.of_own h3 rfl
    obtain ⟨ao4, cap4, rfl, hs4, _⟩ := RepO.of_own h4 rfl
    have q4 := h1.cell
    have z4 := h1.froz
    have q5 := h2.cell
    have z5 := h2.froz
    gi_wp2
    gi_region
    gi_wp2
    rw [setCell_id h1.cell, setCell_id h2.cell]
    have hKd : W.drew.heap[D]? = some (.deferred (some [])) := hK
    have hEd : Ext W W.drew := (Ext.refl W).drew
    refine ⟨by simp, .inl ⟨_, _, rfl, run_takeDeferred hKd, ?_⟩⟩
    have hF : Ext w (W.drew.putObj D (.deferred none)) := Below.trans (Below.trans h7 (hEd.mono h7.size)) (belowK_b (w := w) (Nat.le_refl _) W.drew D _ _ (by have := HS0.out; omega) hKd rfl rfl)
    have hk := grownBy_putObj' W.drew D (.deferred none)
    have hrow : ∀ r, some D = some r → ∃ o : Obj, W.drew.heap[r]? = some o ∧ o.isCells = false := fun r e => by cases e; exact ⟨_, hKd, rfl⟩
    have k0 := cell_kept (h1.ext hEd).cell hk hrow
    have k1 := cell_kept (h2.ext hEd).cell hk hrow
    have hr3 := ownsRow_putObj (ownsRow_ext h3 hEd) (.deferred none) hKd rfl
    have hr4 := ownsRow_putObj (ownsRow_ext h4 hEd) (.deferred none) hKd rfl
    obtain ⟨a3, c3, e3, hR3, _⟩ := RepO.of_own hr3 rfl
    obtain ⟨a4, c4, e4, hR4, _⟩ := RepO.of_own hr4 rfl
    cases e3
    cases e4
    refine ⟨.tuple #[.slice ao3 (expO l now).1.length cap3, .slice ao4 (expO l now).2.length cap4], ?_, ⟨ao3, cap3, ao4, cap4, rfl, hR3, hR4, hF⟩⟩
    simp [results, Try.results17, go_sem, k0, k1]
  case stop =>
    rintro D c pre W _ _ h _
    exact h.elim
end Go.Proofs.Ytbnaoefmjmlfbaa
