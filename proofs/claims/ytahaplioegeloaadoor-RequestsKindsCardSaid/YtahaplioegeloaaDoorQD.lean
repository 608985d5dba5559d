/- Requests: values of numbers and lists. -/
import Derived.Test.YtahaplioegeloaaDoorQA
import Derived.Test.YtahaplioegeloaaDoorS4
import Derived.Test.YtahaplioegeloaaDoorQ2
import Derived.Test.YtahaplioegeloaaDoorQC
namespace Go.Sz
open Go.RowKit
def numV (n : Int) : V := .mk 1 n ⟨#[]⟩ []
def listV (l : List V) : V := .mk 3 0 ⟨#[]⟩ l
def bdV (x : Bd) : V := listV [numV x.1, numV x.2]
def encV (r : Rq) : V := listV [numV r.c, numV r.n, numV r.s, numV r.k, numV r.t, listV (r.ch.map bdV), numV r.g, numV r.h, numV r.y]
def numC (n : Int) : List Value := [.int .i64 1, .int .i64 n, .string ⟨#[]⟩, .slice none 0 0]
def listC (a : Option Addr) (len cap : Nat) : List Value := [.int .i64 3, .int .i64 0, .string ⟨#[]⟩, .slice a len cap]
/-- a list under way: its rows in own memory from block D on, its elements' memory -/
structure LstE (D : Nat) (e : TypeId) (xs : List V) (wr : World) (v : Value) (rows : List (List Value)) (F : Nat → Prop) : Prop where
  own : wr.ownsRow D e 4 v xs.length rows.flatten
  len : rows.length = xs.length
  wid : ∀ r ∈ rows, r.length = 4
  one : ∀ r ∈ rows, ∀ u ∈ r, u.oneCell' = true
  rep : ∀ (j : Nat) (r : List Value) (x : V), rows[j]? = some r → xs[j]? = some x → RepV wr F r x
  foot : ∀ b, F b → b < wr.heap.size ∧ NotBlk v b
theorem LstE.nil (D : Nat) (e : TypeId) (wr : World) : LstE D e [] wr (.slice none 0 0) [] (fun _ => False) := ⟨World.ownsRow_nil _ _ _ _, rfl, by simp, by simp, by simp, by simp⟩
theorem LstE.lt {D : Nat} {e : TypeId} {xs : List V} {wr : World} {v : Value} {rows : List (List Value)} {F : Nat → Prop} (hL : LstE D e xs wr v rows F) : ∀ j, v.ownBlock = some j → j < wr.heap.size := fun j hj => by
  have h := hL.own.2
  rcases h with ⟨rfl, _⟩ | ⟨g, cap, cur, rfl, hb, hgg, rest⟩
  · cases hj
  · cases hj
    exact (Array.getElem?_eq_some_iff.1 hgg).1
/-- one more element, and the list's variable -/
theorem LstE.push {wr W w5 : World} {B D : Nat} {e : TypeId} {xs : List V} {v v5 : Value} {rows : List (List Value)} {F Fx : Nat → Prop} (hL : LstE D e xs wr v rows F) (hE : Ext wr W)
    {cs : List Value} {x : V} (hRx : RepV W Fx cs x) (hFx : ∀ b, Fx b → wr.heap.size ≤ b) (h1 : ∀ u ∈ cs, u.oneCell' = true) (hg : Grows W v w5 v5)
    (ho : w5.ownsRow D e 4 v5 (xs.length + 1) (rows.flatten ++ cs)) (hB : B < D) (hB2 : ∀ b, F b ∨ Fx b → b ≠ B) (u : Value) :
    LstE D e (xs ++ [x]) (w5.setCell ⟨B, 3, none⟩ u) v5 (rows ++ [cs]) (fun b => F b ∨ (Fx b ∧ b < W.heap.size)) := by
  have hv5B : ∀ j, v5.ownBlock = some j → D ≤ j := ownsRow_blocks ho
  have hb4 : ∀ b, b < W.heap.size → b ≠ B → NotBlk v b → (w5.setCell ⟨B, 3, none⟩ u).heap[b]? = W.heap[b]? := fun b h1 h2 h3 => by
    rw [heap_setCell_far _ _ _ _ (by show b ≠ B; omega), hg.by_.block b h1 (fun e => h3 b e.symm rfl)]
  have hsz : (w5.setCell ⟨B, 3, none⟩ u).heap.size = w5.heap.size := by simp [World.setCell]
  have hsz5 : W.heap.size ≤ w5.heap.size := hg.by_.size
  have hlv := hL.lt
  refine ⟨?_, ?_, ?_, ?_, ?_, ?_⟩
  · rw [List.flatten_append, List.length_append]
    simp only [List.flatten_cons, List.flatten_nil, List.append_nil, List.length_cons, List.length_nil, Nat.zero_add]
    exact ho.kept (Turn.setCell w5 ⟨B, 3, none⟩ u) (Or.inr fun e => by have := hv5B _ e; simp at this; omega)
  · simp [hL.len]
  · intro r hr
    rcases List.mem_append.1 hr with hr | hr
    · exact hL.wid r hr
    · simp at hr; subst hr; exact hRx.length
  · intro r hr
    rcases List.mem_append.1 hr with hr | hr
    · exact hL.one r hr
    · simp at hr; subst hr; exact h1
  · intro j r y hr hy
    have hl := hL.len
    rcases Nat.lt_or_ge j rows.length with hj | hj
    · rw [List.getElem?_append_left hj] at hr
      rw [List.getElem?_append_left (by omega)] at hy
      exact (((hL.rep j r y hr hy).ext hE).keep fun b hb => hb4 b (by have := (hL.foot b hb).1; have := hE.size; omega) (hB2 b (.inl hb)) (hL.foot b hb).2).weaken fun b hb => .inl hb
    · rw [List.getElem?_append_right hj] at hr
      rw [List.getElem?_append_right (by omega)] at hy
      have hj0 : j = rows.length := by
        have := (List.getElem?_eq_some_iff.1 hr).1
        simp at this; omega
      rw [show j - rows.length = 0 by omega] at hr
      rw [show j - xs.length = 0 by omega] at hy
      simp at hr hy
      subst hr hy
      refine (hRx.bound.keep fun b hb => hb4 b hb.2 (hB2 b (.inr hb.1)) fun k hk => ?_).weaken fun b hb => .inr hb
      have h2 := hlv k hk
      have h3 := hFx b hb.1
      omega
  · intro b hb
    rcases hb with hb | ⟨hb, hlt⟩
    · obtain ⟨h2, h3⟩ := hL.foot b hb
      have h4 := hE.size
      exact ⟨by omega, hg.notBlk (by omega) h3⟩
    · have h3 := hFx b hb
      refine ⟨by omega, hg.notBlk (by omega) fun k hk => ?_⟩
      have h2 := hlv k hk
      omega
/-- the list, as a slice of values that represent its elements -/
theorem LstE.slice {D : Nat} {e : TypeId} {xs : List V} {wr : World} {v : Value} {rows : List (List Value)} {F : Nat → Prop} (hL : LstE D e xs wr v rows F) : ∃ ao cap, v = .slice ao xs.length cap ∧ SL wr 4 ao cap rows ∧
    RepV wr (fun b => b < wr.heap.size) (listC ao xs.length cap) (listV xs) := by
  obtain ⟨ao, cap, hv, hs, _⟩ := SL.of_own hL.own hL.wid hL.len
  refine ⟨ao, cap, hv, hs, ?_⟩
  exact RepV.mk (l := xs) rows ⟨by omega, by omega⟩ ⟨by omega, by omega⟩ (by decide) hs (fun a ha hr => hs.blk (by omega) a ha hr) hL.len (fun i r x h1 h2 => (hL.rep i r x h1 h2).weaken fun b hb => (hL.foot b hb).1)
/-- a slice of two values that lies in new memory -/
def spTwo (H : Nat) (a b : Int) : Spec where
  R v W := ∃ g, v = .slice (some ⟨g, 0, none⟩) 2 2 ∧ H ≤ g ∧ SL W 4 (some ⟨g, 0, none⟩) 2 [numC a, numC b]
  mono := fun hE ⟨g, hv, hg, hs⟩ => ⟨g, hv, hg, hs.ext hE⟩
/-- a slice of one value that lies in new memory -/
def spOne (H : Nat) (cs : List Value) : Spec where
  R v W := ∃ g, v = .slice (some ⟨g, 0, none⟩) 1 1 ∧ H ≤ g ∧ SL W 4 (some ⟨g, 0, none⟩) 1 [cs]
  mono := fun hE ⟨g, hv, hg, hs⟩ => ⟨g, hv, hg, hs.ext hE⟩
end Go.Sz
namespace Go.Proofs.YtahaplioegeloaaDoor
open Go.RowKit Go.Sz
set_option maxRecDepth 100000 in
set_option maxHeartbeats 6400000 in
theorem numQ_any (n : Int) (w : World) : Calls Tryd.prog 31 #[.int .i64 n] w fun e w' => e = .returned (.agg (numC n).toArray) ∧ Ext w w' := by
  go_enter Tryd.func31, Tryd.ntmps31
  go_wp2_with fail
  refine bodyPost_ret (v := .agg (numC n).toArray) ?_ rfl ⟨rfl, (Ext.refl _).alloc _⟩
  simp [results, Tryd.results31, go_sem, numC]
set_option maxRecDepth 100000 in
set_option maxHeartbeats 6400000 in
theorem refNum_any (n : Int) (w : World) : Calls Tryd.prog 55 #[.int .i64 n] w fun e w' => e = .returned (.agg (numC n).toArray) ∧ Ext w w' := by
  go_enter Tryd.func55, Tryd.ntmps55
  go_wp2_with fail
  refine bodyPost_ret (v := .agg (numC n).toArray) ?_ rfl ⟨rfl, (Ext.refl _).alloc _⟩
  simp [results, Tryd.results55, go_sem, numC]
set_option maxRecDepth 100000 in
set_option maxHeartbeats 6400000 in
theorem listQ_any (a : Option Addr) (len cap : Nat) (w : World) : Calls Tryd.prog 30 #[.slice a len cap] w fun e w' => e = .returned (.agg (listC a len cap).toArray) ∧ Ext w w' := by
  go_enter Tryd.func30, Tryd.ntmps30
  go_wp2_with fail
  refine bodyPost_ret (v := .agg (listC a len cap).toArray) ?_ rfl ⟨rfl, (Ext.refl _).alloc _⟩
  simp [results, Tryd.results30, go_sem, listC]
set_option maxRecDepth 100000 in
set_option maxHeartbeats 6400000 in
theorem refList_any (a : Option Addr) (len cap : Nat) (w : World) : Calls Tryd.prog 54 #[.slice a len cap] w fun e w' => e = .returned (.agg (listC a len cap).toArray) ∧ Ext w w' := by
  go_enter Tryd.func54, Tryd.ntmps54
  go_wp2_with fail
  refine bodyPost_ret (v := .agg (listC a len cap).toArray) ?_ rfl ⟨rfl, (Ext.refl _).alloc _⟩
  simp [results, Tryd.results54, go_sem, listC]
end Go.Proofs.YtahaplioegeloaaDoor
namespace Go.Sz
open Go.RowKit Go.Proofs.YtahaplioegeloaaDoor
def inB (x : Bd) : Prop := inI64 x.1 ∧ inI64 x.2
theorem range_all {n : Nat} {f : Nat → Bool} (h : (List.range n).all f = true) {i : Nat} (hi : i < n) : f i = true := List.all_eq_true.1 h i (List.mem_range.2 hi)
theorem formB_in {a b : Int} (h : formB a b = true) : inB (a, b) := by
  unfold formB at h
  simp only [Bool.and_eq_true, decide_eq_true_eq] at h
  exact ⟨⟨by dsimp only; omega, by dsimp only; omega⟩, ⟨by dsimp only; omega, by dsimp only; omega⟩⟩
theorem goodL_in {l : List Bd} (h : goodL l l.length = true) {x : Bd} (hx : x ∈ l) : formB x.1 x.2 = true := by
  obtain ⟨i, hi, rfl⟩ := List.mem_iff_getElem.1 hx
  have := range_all h hi
  simp only [Bool.and_eq_true] at this
  have h1 := this.1
  unfold formAt at h1
  rw [List.getD, List.getElem?_eq_getElem hi] at h1
  exact h1
theorem validQ_in {r : Rq} (hv : validQ r = true) : r.ok ∧ (∀ x ∈ r.ch, inB x) ∧ r.ch.length ≤ 8 := by
  obtain ⟨c, n, s, k, t, ch, g, h, y⟩ := r
  unfold validQ headQ kindQ bodyB at hv
  simp only [Bool.and_eq_true, decide_eq_true_eq] at hv
  obtain ⟨⟨⟨⟨⟨⟨⟨⟨⟨h1, h2⟩, h3⟩, h4⟩, h5⟩, h6⟩, h7⟩, h8⟩, h9, h10⟩, ⟨⟨hl, hgd⟩, hgv⟩, hky⟩ := hv
  have hg : inI64 g ∧ inI64 h := by
    unfold giveB at hgv
    split at hgv
    · simp only [Bool.and_eq_true] at hgv
      have := formB_in hgv.1
      exact this
    · simp only [Bool.and_eq_true, beq_iff_eq] at hgv
      obtain ⟨rfl, rfl⟩ := hgv
      exact ⟨⟨by omega, by omega⟩, ⟨by omega, by omega⟩⟩
  have hy : inI64 y := by
    unfold keyB at hky
    split at hky
    · simp only [Bool.and_eq_true, decide_eq_true_eq] at hky
      exact ⟨by omega, by omega⟩
    · simp only [beq_iff_eq] at hky
      subst hky
      exact ⟨by omega, by omega⟩
  refine ⟨⟨⟨by dsimp only; omega, by dsimp only; omega⟩, ⟨by dsimp only; omega, by dsimp only; omega⟩, ⟨by dsimp only; omega, by dsimp only; omega⟩, ⟨by dsimp only; omega, by dsimp only; omega⟩, ⟨by dsimp only; omega, by dsimp only; omega⟩, hg.1, hg.2, hy⟩, fun x hx => formB_in (goodL_in hgd hx), ?_⟩
  unfold lenB mostQ at hl
  simp only [Bool.and_eq_true, decide_eq_true_eq] at hl
  have := hl.2
  dsimp only
  split at this
  · omega
  · split at this <;> omega
theorem bdV_wf (l : List Bd) : V.wfL (l.map bdV) = true := by
  induction l with
  | nil => rfl
  | cons x xs ih => rw [List.map_cons, V.wfL, ih]; rfl
theorem bdV_dep (l : List Bd) : V.depL (l.map bdV) ≤ 1 := by
  induction l with
  | nil => exact Nat.zero_le _
  | cons x xs ih => rw [List.map_cons, V.depL]; have : (bdV x).dep = 1 := rfl; omega
theorem bdV_ht (l : List Bd) : V.htL (l.map bdV) ≤ 2 := by
  induction l with
  | nil => exact Nat.zero_le _
  | cons x xs ih => rw [List.map_cons, V.htL]; have : (bdV x).ht = 2 := rfl; omega
theorem zig_lt {n : Int} (h : inI64 n) : (zig n).toNat < 18446744073709551616 := by
  unfold zig; have := h.1; have := h.2; split <;> omega
theorem numV_len {n : Int} (h : inI64 n) : (numV n).enc.length ≤ 11 := by
  unfold numV V.enc
  rw [if_pos rfl, List.length_cons]
  have := digits_len64 _ (zig_lt h)
  omega
theorem listV_enc (l : List V) : (listV l).enc = 3 :: (digits l.length ++ V.encL l) := by
  unfold listV V.enc
  rw [if_neg (by omega), if_neg (by omega)]
theorem listV_len {l : List V} (h : l.length < 18446744073709551616) : (listV l).enc.length ≤ 11 + (V.encL l).length := by
  rw [listV_enc, List.length_cons, List.length_append]
  have := digits_len64 _ h
  omega
theorem bdV_len {x : Bd} (h : inB x) : (bdV x).enc.length ≤ 33 := by
  have h0 := listV_len (l := [numV x.1, numV x.2]) (by simp)
  have h1 := numV_len h.1
  have h2 := numV_len h.2
  unfold bdV
  simp only [V.encL, List.length_append, List.length_nil] at h0 ⊢
  omega
theorem bdsV_len : ∀ {l : List Bd}, (∀ x ∈ l, inB x) → (V.encL (l.map bdV)).length ≤ 33 * l.length
  | [], _ => Nat.zero_le _
  | x :: xs, h => by
    have h1 := bdV_len (h x (by simp))
    have h2 := bdsV_len fun y hy => h y (List.mem_cons_of_mem _ hy)
    simp only [List.map_cons, V.encL, List.length_append, List.length_cons]
    omega
theorem encV_len {r : Rq} (h : r.ok) (hc : ∀ x ∈ r.ch, inB x) (hl : r.ch.length ≤ 8) : (encV r).enc.length ≤ 1000 := by
  obtain ⟨h1, h2, h3, h4, h5, h6, h7, h8⟩ := h
  have a0 := listV_len (l := [numV r.c, numV r.n, numV r.s, numV r.k, numV r.t, listV (r.ch.map bdV), numV r.g, numV r.h, numV r.y]) (by simp)
  have a1 := numV_len h1
  have a2 := numV_len h2
  have a3 := numV_len h3
  have a4 := numV_len h4
  have a5 := numV_len h5
  have a6 := numV_len h6
  have a7 := numV_len h7
  have a8 := numV_len h8
  have a9 := listV_len (l := r.ch.map bdV) (by simp; omega)
  have a10 := bdsV_len hc
  unfold encV
  simp only [V.encL, List.length_append, List.length_nil] at a0 ⊢
  omega
theorem encV_check (r : Rq) : checkV (encV r) = 0 := by
  have hw : (encV r).wf = true := by
    have := bdV_wf r.ch
    unfold encV listV V.wf
    rw [if_neg (by omega), if_neg (by omega), if_pos rfl]
    simp only [V.wfL]
    simp [V.wf, numV, this]
    rfl
  have hd : (encV r).dep ≤ 16 := by
    have := bdV_dep r.ch
    unfold encV listV
    simp only [V.dep, V.depL, numV]
    simp
    omega
  unfold checkV
  rw [if_pos hw, if_pos hd]
theorem encV_ht (r : Rq) : (encV r).ht ≤ 1000000 := by
  have := bdV_ht r.ch
  unfold encV listV
  simp only [V.ht, V.htL, numV]
  omega
theorem encV_out (r : Rq) : encOut (encV r) = (encV r).enc := by unfold encOut; rw [if_pos (encV_check r)]
theorem bdV_ok : ∀ {l : List Bd}, (∀ x ∈ l, inB x) → V.okL (l.map bdV)
  | [], _ => trivial
  | x :: xs, h => by
    have h1 := h x (by simp)
    refine ⟨⟨⟨by omega, by omega⟩, by decide, by simp, ⟨h1.1, by decide, by decide, trivial⟩, ⟨h1.2, by decide, by decide, trivial⟩, trivial⟩, bdV_ok fun y hy => h y (List.mem_cons_of_mem _ hy)⟩
theorem encV_ok {r : Rq} (h : r.ok) (hc : ∀ x ∈ r.ch, inB x) (hl : r.ch.length ≤ 8) : (encV r).ok := by
  obtain ⟨h1, h2, h3, h4, h5, h6, h7, h8⟩ := h
  have n : ∀ {x : Int}, inI64 x → (numV x).ok := fun hx => ⟨hx, by decide, by decide, trivial⟩
  exact ⟨⟨by omega, by omega⟩, by decide, by simp, n h1, n h2, n h3, n h4, n h5, ⟨⟨by omega, by omega⟩, by decide, by rw [List.length_map]; omega, bdV_ok hc⟩, n h6, n h7, n h8, trivial⟩
end Go.Sz
namespace Go.Sz
open Go.RowKit
theorem numC_rep (w : World) (F : Nat → Prop) {n : Int} (h : inI64 n) : RepV w F (numC n) (numV n) := rep_leaf w F 1 n ⟨#[]⟩ ⟨by omega, by omega⟩ h (by decide)
/-- a list that lies in a new block -/
theorem listC_rep {w : World} {F : Nat → Prop} {ao : Option Addr} {cap : Nat} {rows : List (List Value)} {l : List V} {n : Nat} (hs : SL w 4 ao cap rows) (hF : ∀ a, ao = some a → rows ≠ [] → F a.block) (hn : l.length = n) (hlen : rows.length = l.length)
    (hel : ∀ (i : Nat) (r : List Value) (x : V), rows[i]? = some r → l[i]? = some x → RepV w F r x) : RepV w F (listC ao n cap) (listV l) := by
  subst hn
  exact RepV.mk (l := l) rows ⟨by omega, by omega⟩ ⟨by omega, by omega⟩ (by decide) hs hF hlen hel
theorem bdV_rep {w : World} {g : Nat} {F : Nat → Prop} {x : Bd} (h : SL w 4 (some ⟨g, 0, none⟩) 2 [numC x.1, numC x.2]) (hx : inB x) (hF : F g) : RepV w F (listC (some ⟨g, 0, none⟩) 2 2) (bdV x) :=
  listC_rep h (fun a ha _ => by cases ha; exact hF) rfl rfl (fun i r z h1 h2 => by
    match i, h1, h2 with
    | 0, h1, h2 => simp at h1 h2; subst h1 h2; exact numC_rep _ _ hx.1
    | 1, h1, h2 => simp at h1 h2; subst h1 h2; exact numC_rep _ _ hx.2
    | i + 2, h1, h2 => simp at h1)
/-- the nine values of a request -/
def nineC (r : Rq) (lc : List Value) : List (List Value) := [numC r.c, numC r.n, numC r.s, numC r.k, numC r.t, lc, numC r.g, numC r.h, numC r.y]
theorem encV_rep {w : World} {g : Nat} {r : Rq} {lc : List Value} (h : SL w 4 (some ⟨g, 0, none⟩) 9 (nineC r lc)) (hr : r.ok) (hl : RepV w (fun b => b < w.heap.size) lc (listV (r.ch.map bdV))) : RepV w (fun b => b < w.heap.size) (listC (some ⟨g, 0, none⟩) 9 9) (encV r) := by
  obtain ⟨h1, h2, h3, h4, h5, h6, h7, h8⟩ := hr
  exact listC_rep h (fun a ha hne => h.blk (by omega) a ha hne) rfl rfl (fun i r z e1 e2 => by
    match i, e1, e2 with
    | 0, e1, e2 => simp [nineC] at e1 e2; subst e1 e2; exact numC_rep _ _ h1
    | 1, e1, e2 => simp [nineC] at e1 e2; subst e1 e2; exact numC_rep _ _ h2
    | 2, e1, e2 => simp [nineC] at e1 e2; subst e1 e2; exact numC_rep _ _ h3
    | 3, e1, e2 => simp [nineC] at e1 e2; subst e1 e2; exact numC_rep _ _ h4
    | 4, e1, e2 => simp [nineC] at e1 e2; subst e1 e2; exact numC_rep _ _ h5
    | 5, e1, e2 => simp [nineC] at e1 e2; subst e1 e2; exact hl
    | 6, e1, e2 => simp [nineC] at e1 e2; subst e1 e2; exact numC_rep _ _ h6
    | 7, e1, e2 => simp [nineC] at e1 e2; subst e1 e2; exact numC_rep _ _ h7
    | 8, e1, e2 => simp [nineC] at e1 e2; subst e1 e2; exact numC_rep _ _ h8
    | i + 9, e1, e2 => simp [nineC] at e1)
/-- a slice of one list of two numbers in new memory -/
def spOneTwo (H : Nat) (a b : Int) : Spec where
  R v W := ∃ g g2, v = .slice (some ⟨g, 0, none⟩) 1 1 ∧ H ≤ g2 ∧ SL W 4 (some ⟨g, 0, none⟩) 1 [listC (some ⟨g2, 0, none⟩) 2 2] ∧ SL W 4 (some ⟨g2, 0, none⟩) 2 [numC a, numC b]
  mono := fun hE ⟨g, g2, hv, hg, h1, h2⟩ => ⟨g, g2, hv, hg, h1.ext hE, h2.ext hE⟩
/-- a list of two numbers in new memory -/
def spPair (H : Nat) (a b : Int) : Spec where
  R v W := ∃ g2, v = .agg #[.int .i64 3, .int .i64 0, .string ⟨#[]⟩, .slice (some ⟨g2, 0, none⟩) 2 2] ∧ H ≤ g2 ∧ SL W 4 (some ⟨g2, 0, none⟩) 2 [numC a, numC b]
  mono := fun hE ⟨g2, hv, hg, h2⟩ => ⟨g2, hv, hg, h2.ext hE⟩
def spNineL (rows : List (List Value)) : Spec where
  R v W := ∃ g, v = .agg #[.int .i64 3, .int .i64 0, .string ⟨#[]⟩, .slice (some ⟨g, 0, none⟩) 9 9] ∧ SL W 4 (some ⟨g, 0, none⟩) 9 rows
  mono := fun hE ⟨g, hv, hs⟩ => ⟨g, hv, hs.ext hE⟩
def numA (n : Int) : Value := .agg #[.int .i64 1, .int .i64 n, .string ⟨#[]⟩, .slice none 0 0]
/-- a slice of nine values in new memory -/
def spNine (rows : List (List Value)) : Spec where
  R v W := ∃ g, v = .slice (some ⟨g, 0, none⟩) 9 9 ∧ SL W 4 (some ⟨g, 0, none⟩) 9 rows
  mono := fun hE ⟨g, hv, hs⟩ => ⟨g, hv, hs.ext hE⟩
def spEnc (bs : List UInt8) : Spec where
  R v W := ∃ a c, v = .tuple #[.slice a bs.length c, .int .i64 0] ∧ SL W 1 a c (br bs)
  mono := fun hE ⟨a, c, hv, hs⟩ => ⟨a, c, hv, hs.ext hE⟩
theorem map_take_succ {l : List Bd} {k : Nat} (hk : k < l.length) : (l.take (k + 1)).map bdV = (l.take k).map bdV ++ [bdV l[k]] := by
  rw [List.take_succ_eq_append_getElem hk, List.map_append]; rfl
end Go.Sz
namespace Go.Proofs.YtahaplioegeloaaDoor
open Go.RowKit Go.Sz
theorem numL_any (n : Int) (w : World) : Calls Tryd.prog 31 #[.int .i64 n] w fun e w' => e = .returned (.agg #[.int .i64 1, .int .i64 n, .string ⟨#[]⟩, .slice none 0 0]) ∧ Ext w w' := numQ_any n w
theorem listL_any (a : Option Addr) (len cap : Nat) (w : World) : Calls Tryd.prog 30 #[.slice a len cap] w fun e w' => e = .returned (.agg #[.int .i64 3, .int .i64 0, .string ⟨#[]⟩, .slice a len cap]) ∧ Ext w w' := listQ_any a len cap w
set_option maxRecDepth 100000 in
set_option maxHeartbeats 6400000 in
theorem encodeQ_bad (r : Rq) (ao : Option Addr) (cap : Nat) (w : World) (hr : RepB w ao cap r.ch) (hl : r.ch.length ≤ 1000000) (hk : Kinds w) (hv : validQ r = false) : Calls Tryd.prog 13 #[.agg (r.cells ao cap).toArray] w fun e w' => e = .returned (.tuple #[.slice none 0 0, .int .i64 290]) ∧ Ext w w' := by
  have hX : Ext w (w.alloc (.cells (r.cells ao cap).toArray 26)) := (Ext.refl w).alloc _
  have HC : Hid (Calls Tryd.prog 15 #[.agg (r.cells ao cap).toArray] (w.alloc (.cells (r.cells ao cap).toArray 26)) fun e w' => e = .returned (.int .i64 290) ∧ Ext w w') := Lib.hid ((checkQ_any r ao cap _ (hr.ext hX) hl (hk.ext hX)).mono fun e w' ⟨h1, h2⟩ => ⟨by rw [h1]; unfold checkQ resQ; rw [hv]; rfl, hX.trans h2⟩)
  clear hr hX hk hv
  unfold Rq.cells at *
  obtain ⟨c, n, s, k, t, ch, g, h, y⟩ := r
  dsimp only at *
  go_enter Tryd.func13, Tryd.ntmps13
  go_wp2_with (go_at_call 15; refine HC.out.mono ?_; rintro e w1 ⟨rfl, hX⟩)
  go_ret2
  exact ⟨rfl, hX⟩
set_option maxRecDepth 100000 in
set_option maxHeartbeats 6400000 in
theorem encodeQ_ok (r : Rq) (ao : Option Addr) (cap : Nat) (w : World) (hr : RepB w ao cap r.ch) (hk : Kinds w) (hv : validQ r = true) : Calls Tryd.prog 13 #[.agg (r.cells ao cap).toArray] w fun e w' => ∃ a d, e = .returned (.tuple #[.slice a (encV r).enc.length d, .int .i64 0]) ∧ SL w' 1 a d (br (encV r).enc) ∧ Ext w w' := by
  have hX : Ext w (w.alloc (.cells (r.cells ao cap).toArray 26)) := (Ext.refl w).alloc _
  have HB0 := Lib.hid (BoxQ.new w r ao cap 26 w.heap.size rfl)
  obtain ⟨hok, hin, hl8⟩ := validQ_in hv
  have HC : Hid (Calls Tryd.prog 15 #[.agg (r.cells ao cap).toArray] (w.alloc (.cells (r.cells ao cap).toArray 26)) fun e w' => e = .returned (.int .i64 0) ∧ Ext (w.alloc (.cells (r.cells ao cap).toArray 26)) w') := Lib.hid ((checkQ_any r ao cap _ (hr.ext hX) (by omega) (hk.ext hX)).mono fun e w' ⟨h1, h2⟩ => ⟨by rw [h1]; unfold checkQ resQ; rw [hv]; rfl, h2⟩)
  have HE : Hid (∀ W cs, RepV W (fun b => b < W.heap.size) cs (encV r) → Calls Tryd.prog 32 #[.agg cs.toArray] W fun e w' => ∃ a d, e = .returned (.tuple #[.slice a (encV r).enc.length d, .int .i64 0]) ∧ SL w' 1 a d (br (encV r).enc) ∧ Ext W w') := Lib.hid fun W cs hR => by
    have := encode_sl (encV r) (encV_ht r) W _ cs hR (fun b hb => hb) (by have := encV_len hok hin hl8; omega)
    rw [encV_out, encV_check] at this
    exact this
  have HRB := Lib.hid (hr.ext hX)
  have HX := Lib.hid hX
  have HN := Lib.hid (And.intro hok hin)
  have HREP : Hid (∀ (w : World) (g : Nat) (lc : List Value), SL w 4 (some ⟨g, 0, none⟩) 9 (nineC r lc) → RepV w (fun b => b < w.heap.size) lc (listV (r.ch.map bdV)) → RepV w (fun b => b < w.heap.size) (listC (some ⟨g, 0, none⟩) 9 9) (encV r)) := Lib.hid fun w g lc h1 h2 => encV_rep h1 hok h2
  clear hr hX hk hv hok hin
  generalize hbs : (encV r).enc = bs at *
  clear hbs
  unfold Rq.cells at *
  obtain ⟨c, n, s, k, t, ch, g, h, y⟩ := r
  dsimp only at *
  go_enter Tryd.func13, Tryd.ntmps13
  go_wp2_with (first | (go_at_call 15; refine HC.out.mono ?_; rintro e w1 ⟨rfl, hX1⟩) | (go_at_call 30; refine (listL_any none 0 0 _).mono ?_; rintro e w2 ⟨rfl, hX2⟩; have hb5 := ((HB0.out.ext (hX1.trans hX2)).ext ((Ext.refl w2).alloc (.cells #[.int .i64 3, .int .i64 0, .string ⟨#[]⟩, .slice none 0 0] 59))).c5; dsimp only at hb5))
  obtain ⟨i0, hi, hz0, hz1, hz2⟩ := info_parts infoV
  have HX2 := Lib.hid (hX1.trans hX2)
  clear hX1 hX2 hb5
  go_loopw [17] (fun iv wr => ∃ (j : Nat) (v : Value) (rows : List (List Value)) (F : Nat → Prop), iv = .int .i64 j ∧ j ≤ ch.length ∧ Ext w2 wr ∧ Box wr w2.heap.size (.int .i64 3) (.int .i64 0) (.string ⟨#[]⟩) v ∧ LstE (w2.heap.size + 1) 59 ((ch.take j).map bdV) wr v rows F ∧ (∀ b, F b → w2.heap.size + 1 ≤ b)) (fun iv _ => ch.length - (intOf iv).toNat)
  case atStart => exact ⟨0, .slice none 0 0, [], fun _ => False, rfl, by omega, (Ext.refl _).alloc _, Box.new _ _ _ _ _ _, LstE.nil _ _ _, by simp⟩
  case round =>
    obtain ⟨j, v, rows, F, rfl, hj, hE, hB, hL, hF⟩ := hrel
    have HL := Lib.hid hL
    have HF := Lib.hid hF
    have HB := Lib.hid hB
    have HEr := Lib.hid hE
    clear hL hF hB hE
    by_cases hlt : j < ch.length
    · have hji : (j : Int) < (ch.length : Int) := by omega
      obtain ⟨bb, o, hao, c0, c1⟩ := b_cells HRB.out (HX2.out.trans HEr.out) hlt
      have HXI := Lib.hid (HN.out.2 _ (List.getElem_mem hlt))
      have HMT := Lib.hid (map_take_succ hlt)
      have HLen : Hid (((ch.take j).map bdV).length = j) := Lib.hid (by simp; omega)
      subst hao
      generalize ch[j] = x at *
      have hA : Ext wr (wr.alloc (.cells #[.int .i64 x.1, .int .i64 x.2] 24)) := (Ext.refl wr).alloc _
      have x0 : (wr.alloc (.cells #[.int .i64 x.1, .int .i64 x.2] 24)).cell? ⟨wr.heap.size, 0, none⟩ = some (.int .i64 x.1) := by simp
      have x1 : (wr.alloc (.cells #[.int .i64 x.1, .int .i64 x.2] 24)).cell? ⟨wr.heap.size, 1, none⟩ = some (.int .i64 x.2) := by simp
      have HA := Lib.hid hA
      have gx0 := grow_cell x0
      have gx1 := grow_cell x1
      have gc3 := grow_cell (hA.cell HB.out.c3)
      have HSZ : Hid ((wr.alloc (.cells #[.int .i64 x.1, .int .i64 x.2] 24)).heap.size = wr.heap.size + 1) := Lib.hid (by simp)
      clear hA
      go_wp2_with fail
      generalize hwx : (wr.alloc (.cells #[.int .i64 x.1, .int .i64 x.2] 24)) = wx at *
      clear hwx
      refine wp_region_rel (fun i => if i = 4 then some (spV (.agg #[.int .i64 1, .int .i64 x.1, .string ⟨#[]⟩, .slice none 0 0])) else if i = 7 then some (spV (.agg #[.int .i64 1, .int .i64 x.2, .string ⟨#[]⟩, .slice none 0 0])) else if i = 8 then some (spTwo (wr.heap.size + 1) x.1 x.2) else if i = 9 then some (spPair (wr.heap.size + 1) x.1 x.2) else if i = 10 then some (spOneTwo (wr.heap.size + 1) x.1 x.2) else none) 11 3 (by kernel_rfl) (by kernel_rfl) ?_
      simp only [List.take_succ_cons, List.take_zero]
      repeat (first
        | (refine wpRel_quick ?_ ?_ ?_ ?_
           · rfl
           · rfl
           · first | exact noEnter rfl | (intro f args W W'; go_simp)
           intro K hK
           go_big_quiet_op
           go_big_quiet_on)
        | (refine wpRel_skip ?_ ?_
           · rfl
           simp only [Act.put, List.setIfInBounds_toArray, List.set_cons_zero, List.set_cons_succ]))
      refine wpRel_rich _ rfl rfl (fun W hW => ?_) (fun v W3 hW3 hv => ?_)
      · have hc := numL_any x.1 W
        go_simp
        refine Calls.mono hc ?_
        rintro e w' ⟨rfl, h⟩
        exact ⟨_, rfl, rfl, by first | exact h | (subst h; exact Ext.refl _)⟩
      obtain rfl := hv
      clear hW3
      simp only [Act.put, List.setIfInBounds_toArray, List.set_cons_zero, List.set_cons_succ]
      repeat (first
        | (refine wpRel_quick ?_ ?_ ?_ ?_
           · rfl
           · rfl
           · first | exact noEnter rfl | (intro f args W W'; go_simp)
           intro K hK
           go_big_quiet_op
           go_big_quiet_on)
        | (refine wpRel_skip ?_ ?_
           · rfl
           simp only [Act.put, List.setIfInBounds_toArray, List.set_cons_zero, List.set_cons_succ]))
      refine wpRel_rich _ rfl rfl (fun W hW => ?_) (fun v W3 hW3 hv => ?_)
      · have hc := numL_any x.2 W
        go_simp
        refine Calls.mono hc ?_
        rintro e w' ⟨rfl, h⟩
        exact ⟨_, rfl, rfl, by first | exact h | (subst h; exact Ext.refl _)⟩
      obtain rfl := hv
      clear hW3
      simp only [Act.put, List.setIfInBounds_toArray, List.set_cons_zero, List.set_cons_succ]
      repeat (first
        | (refine wpRel_quick ?_ ?_ ?_ ?_
           · rfl
           · rfl
           · first | exact noEnter rfl | (intro f args W W'; go_simp)
           intro K hK
           go_big_quiet_op
           go_big_quiet_on)
        | (refine wpRel_skip ?_ ?_
           · rfl
           simp only [Act.put, List.setIfInBounds_toArray, List.set_cons_zero, List.set_cons_succ]))
      refine wpRel_rich _ rfl rfl (fun W hW => ?_) (fun v8 W8 hW8 hv => ?_)
      · go_simp
        exact ⟨⟨_, rfl, by have h1 : wx.heap.size ≤ W.heap.size := hW.1.size; have h2 := HSZ.out; omega, sl_news W [numC x.1, numC x.2] 4 2 _ (by simp [numC]) rfl (by omega)⟩, (Ext.refl _).alloc _⟩
      obtain ⟨g8, rfl, _, _⟩ := hv
      clear hW8
      simp only [Act.put, List.setIfInBounds_toArray, List.set_cons_zero, List.set_cons_succ]
      repeat (first
        | (refine wpRel_quick ?_ ?_ ?_ ?_
           · rfl
           · rfl
           · first | exact noEnter rfl | (intro f args W W'; go_simp)
           intro K hK
           go_big_quiet_op
           go_big_quiet_on)
        | (refine wpRel_skip ?_ ?_
           · rfl
           simp only [Act.put, List.setIfInBounds_toArray, List.set_cons_zero, List.set_cons_succ]))
      refine wpRel_rich _ rfl rfl (fun W hW => ?_) (fun v9 W9 hW9 hv => ?_)
      · obtain ⟨g8', he, hg8, hs8⟩ := hW.2 8 (by unfold Anc; kernel_rfl) _ _ rfl rfl
        cases he
        have hc := listL_any (some ⟨g8, 0, none⟩) 2 2 W
        go_simp
        refine Calls.mono hc ?_
        rintro e w' ⟨rfl, h⟩
        exact ⟨_, rfl, ⟨_, rfl, hg8, hs8.ext h⟩, h⟩
      obtain ⟨g9, rfl, _, _⟩ := hv
      clear hW9
      simp only [Act.put, List.setIfInBounds_toArray, List.set_cons_zero, List.set_cons_succ]
      repeat (first
        | (refine wpRel_quick ?_ ?_ ?_ ?_
           · rfl
           · rfl
           · first | exact noEnter rfl | (intro f args W W'; go_simp)
           intro K hK
           go_big_quiet_op
           go_big_quiet_on)
        | (refine wpRel_skip ?_ ?_
           · rfl
           simp only [Act.put, List.setIfInBounds_toArray, List.set_cons_zero, List.set_cons_succ]))
      refine wpRel_rich _ rfl rfl (fun W hW => ?_) (fun v10 W10 hW10 hv => ?_)
      · obtain ⟨g9', he, hg9, hs9⟩ := hW.2 9 (by unfold Anc; kernel_rfl) _ _ rfl rfl
        cases he
        go_simp
        exact ⟨⟨_, _, rfl, hg9, sl_news W [listC (some ⟨g9, 0, none⟩) 2 2] 4 1 _ (by simp [listC]) rfl (by omega), hs9.ext ((Ext.refl _).alloc _)⟩, (Ext.refl _).alloc _⟩
      obtain ⟨g10, g9', rfl, _⟩ := hv
      clear hW10
      simp only [Act.put, List.setIfInBounds_toArray, List.set_cons_zero, List.set_cons_succ]
      repeat (first
        | (refine wpRel_quick ?_ ?_ ?_ ?_
           · rfl
           · rfl
           · first | exact noEnter rfl | (intro f args W W'; go_simp)
           intro K hK
           go_big_quiet_op
           go_big_quiet_on)
        | (refine wpRel_skip ?_ ?_
           · rfl
           simp only [Act.put, List.setIfInBounds_toArray, List.set_cons_zero, List.set_cons_succ]))
      refine wpRel_nil ?_
      intro W hW
      obtain ⟨g10', g9', he, hg9, hs10, hs9⟩ := hW.2 10 trivial _ _ rfl rfl
      cases he
      have hEW : Ext wr W := HA.out.trans ((Ext.refl wx).drew.trans hW.1)
      have hBW := HB.out.ext hEW
      have hoW : W.ownsRow (w2.heap.size + 1) 59 4 v j rows.flatten := by
        have := ownsRow_ext HL.out.own hEW
        rwa [HLen.out] at this
      have HRB2 := Lib.hid (ownsRow_blocks HL.out.own)
      have hsz0 := HEr.out.size
      have hszW := hEW.size
      refine wpAny_ready (rs := [11]) (by kernel_rfl) (by simp) ?_
      refine AllReady.cons rfl (fun K hK => ?_) AllReady.nil
      refine step_append_S rfl _ _ 57 57 rfl (w2.heap.size + 1) 59 i0 _ 4 56 Tryd.underlying57 hi hz0 hz1 hz2 rfl v j rows.flatten rfl hoW (.slice (some ⟨g10, 0, none⟩) 1 1) 1 [listC (some ⟨g9', 0, none⟩) 2 2].flatten rfl ?_ (by unfold maxLen; omega) (by omega) (by have := HB.out.lt; omega) ?_
      · exact hs10.src (P := Tryd.prog) (by omega) Tryd.underlying57 (fun r hr u hu => by simp [listC] at hr; subst hr; simp at hu; rcases hu with rfl | rfl | rfl | rfl <;> rfl)
      intro v6 w6 ho6 hg6
      obtain ⟨ac6, cc6, rfl⟩ := ownsRow_slice ho6
      have hX6 : Ext w2 w6 := (HEr.out.trans hEW).trans' hg6 (fun k hk => by have := HRB2.out k hk; omega)
      have hB6 : Box w6 w2.heap.size (.int .i64 3) (.int .i64 0) (.string ⟨#[]⟩) v := hBW.keep (hg6.by_.block _ hBW.lt (fun h => by have := HRB2.out _ h.symm; omega))
      have hL6 := HL.out.push hEW (Fx := fun b => b = g9') (bdV_rep hs9 HXI.out rfl) (fun b hb => by subst hb; omega) (fun u hu => by simp [listC] at hu; rcases hu with rfl | rfl | rfl | rfl <;> rfl) hg6 (by rw [HLen.out]; simpa using ho6) (by omega : w2.heap.size < w2.heap.size + 1) (fun b hb => by rcases hb with hb | rfl; have := HF.out b hb; omega; omega) (.slice ac6 (j + 1) cc6)
      have HL6 := Lib.hid hL6
      have HX6 := Lib.hid hX6
      have HB6 := Lib.hid hB6
      have HF6 : Hid (∀ b, (F b ∨ (b = g9' ∧ b < W.heap.size)) → w2.heap.size + 1 ≤ b) := Lib.hid fun b hb => by
        rcases hb with hb | ⟨rfl, _⟩
        · exact HF.out b hb
        · omega
      clear hL6 hX6 hBW hoW ho6 hg6 hs9 hs10 hEW
      refine hK _ _ ?_
      clear hK K
      simp only [Act.put, List.setIfInBounds_toArray]
      obtain ⟨m0, m1, m2, m3, mz⟩ := hB6
      have mz3 := mz 3
      clear mz
      refine wpAny_ready (rs := [12]) (by kernel_rfl) (by simp) ?_
      refine AllReady.cons rfl (fun K hK => ?_) AllReady.nil
      go_simp
      refine hK _ _ ?_
      clear hK K
      refine wpAny_ready (rs := [13]) (by kernel_rfl) (by simp) ?_
      refine AllReady.cons rfl (fun K hK => ?_) AllReady.nil
      go_simp
      refine hK _ _ ?_
      clear hK K
      refine wpAny_done (by kernel_rfl) ?_ _
      go_wp2_with fail
      go_roundw
      case rel => exact ⟨j + 1, .slice ac6 (j + 1) cc6, _, _, by go_num, by omega, HX6.out.setCell (by simp) _, HB6.out.set3 _, by rw [HMT.out]; exact HL6.out, HF6.out⟩
      case measure => simp [intOf] <;> omega
    · have hji : ¬ (j : Int) < (ch.length : Int) := by omega
      obtain rfl : j = ch.length := by omega
      have hL := HL.out
      rw [List.take_length] at hL
      obtain ⟨la, lcap, rfl, _, hlr⟩ := hL.slice
      rw [List.length_map] at hlr
      have hlen : (ch.map bdV).length = ch.length := List.length_map _
      rw [hlen] at HL HB
      have HLR : Hid (∀ W, Ext wr W → RepV W (fun b => b < W.heap.size) (listC la ch.length lcap) (listV (ch.map bdV))) := Lib.hid fun W hE => (hlr.ext hE).weaken fun b hb => Nat.lt_of_lt_of_le hb hE.size
      clear hL hlr hlen
      obtain ⟨b0, b1, b2, b3, b4, b5, b6, b7, b8, -⟩ := (HB0.out.ext (HX2.out.trans HEr.out))
      try dsimp only at b0 b1 b2 b3 b4 b5 b6 b7 b8
      have gb0 := grow_cell b0
      have gb1 := grow_cell b1
      have gb2 := grow_cell b2
      have gb3 := grow_cell b3
      have gb4 := grow_cell b4
      have gb6 := grow_cell b6
      have gb7 := grow_cell b7
      have gb8 := grow_cell b8
      have gm0 := grow_cell HB.out.c0
      have gm1 := grow_cell HB.out.c1
      have gm2 := grow_cell HB.out.c2
      have gm3 := grow_cell HB.out.c3
      clear b0 b1 b2 b3 b4 b5 b6 b7 b8
      go_wp2_with fail
      refine wp_region_rel_all (fun i => if i = 2 then some (spV (.agg #[.int .i64 1, .int .i64 c, .string ⟨#[]⟩, .slice none 0 0])) else if i = 5 then some (spV (.agg #[.int .i64 1, .int .i64 n, .string ⟨#[]⟩, .slice none 0 0])) else if i = 8 then some (spV (.agg #[.int .i64 1, .int .i64 s, .string ⟨#[]⟩, .slice none 0 0])) else if i = 11 then some (spV (.agg #[.int .i64 1, .int .i64 k, .string ⟨#[]⟩, .slice none 0 0])) else if i = 14 then some (spV (.agg #[.int .i64 1, .int .i64 t, .string ⟨#[]⟩, .slice none 0 0])) else if i = 19 then some (spV (.agg #[.int .i64 1, .int .i64 g, .string ⟨#[]⟩, .slice none 0 0])) else if i = 23 then some (spV (.agg #[.int .i64 1, .int .i64 h, .string ⟨#[]⟩, .slice none 0 0])) else if i = 26 then some (spV (.agg #[.int .i64 1, .int .i64 y, .string ⟨#[]⟩, .slice none 0 0])) else if i = 27 then some (spNine (nineC ⟨c, n, s, k, t, ch, g, h, y⟩ (listC la ch.length lcap))) else if i = 28 then some (spNineL (nineC ⟨c, n, s, k, t, ch, g, h, y⟩ (listC la ch.length lcap))) else if i = 29 then some (spEnc bs) else none) (by kernel_rfl) (by kernel_rfl) ?_
      repeat (first
        | (refine wpRel_quick ?_ ?_ ?_ ?_
           · rfl
           · rfl
           · first | exact noEnter rfl | (intro f args W W'; go_simp)
           intro K hK
           go_big_quiet_op
           go_big_quiet_on)
        | (refine wpRel_skip ?_ ?_
           · rfl
           simp only [Act.put, List.setIfInBounds_toArray, List.set_cons_zero, List.set_cons_succ]))
      refine wpRel_rich _ rfl rfl (fun W hW => ?_) (fun v W3 hW3 hv => ?_)
      · have hc := numL_any c W
        go_simp
        refine Calls.mono hc ?_
        rintro e w' ⟨rfl, h⟩
        exact ⟨_, rfl, rfl, by first | exact h | (subst h; exact Ext.refl _)⟩
      obtain rfl := hv
      clear hW3
      simp only [Act.put, List.setIfInBounds_toArray, List.set_cons_zero, List.set_cons_succ]
      repeat (first
        | (refine wpRel_quick ?_ ?_ ?_ ?_
           · rfl
           · rfl
           · first | exact noEnter rfl | (intro f args W W'; go_simp)
           intro K hK
           go_big_quiet_op
           go_big_quiet_on)
        | (refine wpRel_skip ?_ ?_
           · rfl
           simp only [Act.put, List.setIfInBounds_toArray, List.set_cons_zero, List.set_cons_succ]))
      refine wpRel_rich _ rfl rfl (fun W hW => ?_) (fun v W3 hW3 hv => ?_)
      · have hc := numL_any n W
        go_simp
        refine Calls.mono hc ?_
        rintro e w' ⟨rfl, h⟩
        exact ⟨_, rfl, rfl, by first | exact h | (subst h; exact Ext.refl _)⟩
      obtain rfl := hv
      clear hW3
      simp only [Act.put, List.setIfInBounds_toArray, List.set_cons_zero, List.set_cons_succ]
      repeat (first
        | (refine wpRel_quick ?_ ?_ ?_ ?_
           · rfl
           · rfl
           · first | exact noEnter rfl | (intro f args W W'; go_simp)
           intro K hK
           go_big_quiet_op
           go_big_quiet_on)
        | (refine wpRel_skip ?_ ?_
           · rfl
           simp only [Act.put, List.setIfInBounds_toArray, List.set_cons_zero, List.set_cons_succ]))
      refine wpRel_rich _ rfl rfl (fun W hW => ?_) (fun v W3 hW3 hv => ?_)
      · have hc := numL_any s W
        go_simp
        refine Calls.mono hc ?_
        rintro e w' ⟨rfl, h⟩
        exact ⟨_, rfl, rfl, by first | exact h | (subst h; exact Ext.refl _)⟩
      obtain rfl := hv
      clear hW3
      simp only [Act.put, List.setIfInBounds_toArray, List.set_cons_zero, List.set_cons_succ]
      repeat (first
        | (refine wpRel_quick ?_ ?_ ?_ ?_
           · rfl
           · rfl
           · first | exact noEnter rfl | (intro f args W W'; go_simp)
           intro K hK
           go_big_quiet_op
           go_big_quiet_on)
        | (refine wpRel_skip ?_ ?_
           · rfl
           simp only [Act.put, List.setIfInBounds_toArray, List.set_cons_zero, List.set_cons_succ]))
      refine wpRel_rich _ rfl rfl (fun W hW => ?_) (fun v W3 hW3 hv => ?_)
      · have hc := numL_any k W
        go_simp
        refine Calls.mono hc ?_
        rintro e w' ⟨rfl, h⟩
        exact ⟨_, rfl, rfl, by first | exact h | (subst h; exact Ext.refl _)⟩
      obtain rfl := hv
      clear hW3
      simp only [Act.put, List.setIfInBounds_toArray, List.set_cons_zero, List.set_cons_succ]
      repeat (first
        | (refine wpRel_quick ?_ ?_ ?_ ?_
           · rfl
           · rfl
           · first | exact noEnter rfl | (intro f args W W'; go_simp)
           intro K hK
           go_big_quiet_op
           go_big_quiet_on)
        | (refine wpRel_skip ?_ ?_
           · rfl
           simp only [Act.put, List.setIfInBounds_toArray, List.set_cons_zero, List.set_cons_succ]))
      refine wpRel_rich _ rfl rfl (fun W hW => ?_) (fun v W3 hW3 hv => ?_)
      · have hc := numL_any t W
        go_simp
        refine Calls.mono hc ?_
        rintro e w' ⟨rfl, h⟩
        exact ⟨_, rfl, rfl, by first | exact h | (subst h; exact Ext.refl _)⟩
      obtain rfl := hv
      clear hW3
      simp only [Act.put, List.setIfInBounds_toArray, List.set_cons_zero, List.set_cons_succ]
      repeat (first
        | (refine wpRel_quick ?_ ?_ ?_ ?_
           · rfl
           · rfl
           · first | exact noEnter rfl | (intro f args W W'; go_simp)
           intro K hK
           go_big_quiet_op
           go_big_quiet_on)
        | (refine wpRel_skip ?_ ?_
           · rfl
           simp only [Act.put, List.setIfInBounds_toArray, List.set_cons_zero, List.set_cons_succ]))
      refine wpRel_rich _ rfl rfl (fun W hW => ?_) (fun v W3 hW3 hv => ?_)
      · have hc := numL_any g W
        go_simp
        refine Calls.mono hc ?_
        rintro e w' ⟨rfl, h⟩
        exact ⟨_, rfl, rfl, by first | exact h | (subst h; exact Ext.refl _)⟩
      obtain rfl := hv
      clear hW3
      simp only [Act.put, List.setIfInBounds_toArray, List.set_cons_zero, List.set_cons_succ]
      repeat (first
        | (refine wpRel_quick ?_ ?_ ?_ ?_
           · rfl
           · rfl
           · first | exact noEnter rfl | (intro f args W W'; go_simp)
           intro K hK
           go_big_quiet_op
           go_big_quiet_on)
        | (refine wpRel_skip ?_ ?_
           · rfl
           simp only [Act.put, List.setIfInBounds_toArray, List.set_cons_zero, List.set_cons_succ]))
      refine wpRel_rich _ rfl rfl (fun W hW => ?_) (fun v W3 hW3 hv => ?_)
      · have hc := numL_any h W
        go_simp
        refine Calls.mono hc ?_
        rintro e w' ⟨rfl, h⟩
        exact ⟨_, rfl, rfl, by first | exact h | (subst h; exact Ext.refl _)⟩
      obtain rfl := hv
      clear hW3
      simp only [Act.put, List.setIfInBounds_toArray, List.set_cons_zero, List.set_cons_succ]
      repeat (first
        | (refine wpRel_quick ?_ ?_ ?_ ?_
           · rfl
           · rfl
           · first | exact noEnter rfl | (intro f args W W'; go_simp)
           intro K hK
           go_big_quiet_op
           go_big_quiet_on)
        | (refine wpRel_skip ?_ ?_
           · rfl
           simp only [Act.put, List.setIfInBounds_toArray, List.set_cons_zero, List.set_cons_succ]))
      refine wpRel_rich _ rfl rfl (fun W hW => ?_) (fun v W3 hW3 hv => ?_)
      · have hc := numL_any y W
        go_simp
        refine Calls.mono hc ?_
        rintro e w' ⟨rfl, h⟩
        exact ⟨_, rfl, rfl, by first | exact h | (subst h; exact Ext.refl _)⟩
      obtain rfl := hv
      clear hW3
      simp only [Act.put, List.setIfInBounds_toArray, List.set_cons_zero, List.set_cons_succ]
      repeat (first
        | (refine wpRel_quick ?_ ?_ ?_ ?_
           · rfl
           · rfl
           · first | exact noEnter rfl | (intro f args W W'; go_simp)
           intro K hK
           go_big_quiet_op
           go_big_quiet_on)
        | (refine wpRel_skip ?_ ?_
           · rfl
           simp only [Act.put, List.setIfInBounds_toArray, List.set_cons_zero, List.set_cons_succ]))
      refine wpRel_rich _ rfl rfl (fun W hW => ?_) (fun v27 W27 hW27 hv => ?_)
      · go_simp
        exact ⟨⟨_, rfl, sl_news W (nineC ⟨c, n, s, k, t, ch, g, h, y⟩ (listC la ch.length lcap)) 4 9 _ (by simp [nineC, numC, listC]) rfl (by omega)⟩, (Ext.refl _).alloc _⟩
      obtain ⟨g27, rfl, _⟩ := hv
      clear hW27
      simp only [Act.put, List.setIfInBounds_toArray, List.set_cons_zero, List.set_cons_succ]
      repeat (first
        | (refine wpRel_quick ?_ ?_ ?_ ?_
           · rfl
           · rfl
           · first | exact noEnter rfl | (intro f args W W'; go_simp)
           intro K hK
           go_big_quiet_op
           go_big_quiet_on)
        | (refine wpRel_skip ?_ ?_
           · rfl
           simp only [Act.put, List.setIfInBounds_toArray, List.set_cons_zero, List.set_cons_succ]))
      refine wpRel_rich _ rfl rfl (fun W hW => ?_) (fun v28 W28 hW28 hv => ?_)
      · obtain ⟨g27', he, hs27⟩ := hW.2 27 (by unfold Anc; kernel_rfl) _ _ rfl rfl
        cases he
        have hc := listL_any (some ⟨g27, 0, none⟩) 9 9 W
        go_simp
        refine Calls.mono hc ?_
        rintro e w' ⟨rfl, h⟩
        exact ⟨_, rfl, ⟨_, rfl, hs27.ext h⟩, h⟩
      obtain ⟨g28, rfl, _⟩ := hv
      clear hW28
      simp only [Act.put, List.setIfInBounds_toArray, List.set_cons_zero, List.set_cons_succ]
      repeat (first
        | (refine wpRel_quick ?_ ?_ ?_ ?_
           · rfl
           · rfl
           · first | exact noEnter rfl | (intro f args W W'; go_simp)
           intro K hK
           go_big_quiet_op
           go_big_quiet_on)
        | (refine wpRel_skip ?_ ?_
           · rfl
           simp only [Act.put, List.setIfInBounds_toArray, List.set_cons_zero, List.set_cons_succ]))
      refine wpRel_rich _ rfl rfl (fun W hW => ?_) (fun v29 W29 hW29 hv => ?_)
      · obtain ⟨g28', he, hs28⟩ := hW.2 28 (by unfold Anc; kernel_rfl) _ _ rfl rfl
        cases he
        have hc := HE.out W (listC (some ⟨g28, 0, none⟩) 9 9) (HREP.out W g28 _ hs28 (HLR.out W ((Ext.refl wr).drew.trans hW.1)))
        unfold listC at hc
        go_simp
        refine Calls.mono hc ?_
        rintro e w' ⟨a, d, rfl, h1, h2⟩
        exact ⟨_, rfl, ⟨a, d, rfl, h1⟩, h2⟩
      obtain ⟨a, d, rfl, _⟩ := hv
      clear hW29
      simp only [Act.put, List.setIfInBounds_toArray, List.set_cons_zero, List.set_cons_succ]
      repeat (first
        | (refine wpRel_quick ?_ ?_ ?_ ?_
           · rfl
           · rfl
           · first | exact noEnter rfl | (intro f args W W'; go_simp)
           intro K hK
           go_big_quiet_op
           go_big_quiet_on)
        | (refine wpRel_skip ?_ ?_
           · rfl
           simp only [Act.put, List.setIfInBounds_toArray, List.set_cons_zero, List.set_cons_succ]))
      refine wpRel_nil ?_
      intro W hW
      obtain ⟨a', d', he, hs29⟩ := hW.2 29 trivial _ _ rfl rfl
      cases he
      have HXF := Lib.hid (HX.out.trans (HX2.out.trans (HEr.out.trans ((Ext.refl wr).drew.trans hW.1))))
      have HS29 := Lib.hid hs29
      clear hW hs29 gb0 gb1 gb2 gb3 gb4 gb6 gb7 gb8 gm0 gm1 gm2 gm3
      go_wp2_with fail
      go_ret2
      exact ⟨a, d, rfl, HS29.out, HXF.out⟩
end Go.Proofs.YtahaplioegeloaaDoor
