/- Petitions: the arrays of values, in plain Lean and in memory. -/
import Derived.Test.YtbniicobkhiniaaF9
import Derived.Laws.Rows
import Derived.Maps.OwnIn
namespace Go.Sz
open Go.RowKit
/-- one fact upon one term -/
def stB (t : Nat) (b : Option Ft) (x : Ft) : Option Ft := if x.fr ≤ (t : Int) ∧ (t : Int) < x.to ∧ betF b x = true then some x else b
def bsF (pre : List Ft) (t : Nat) : Option Ft := pre.foldl (stB t) none
theorem bsF_snoc (pre : List Ft) (x : Ft) (t : Nat) : bsF (pre ++ [x]) t = stB t (bsF pre t) x := by
  unfold bsF
  rw [List.foldl_append]
  rfl
theorem stepB_stB (k : Ky) (t : Nat) (kn : Int) (b : Option Ft) (x : Ft) : stepB k t kn b x = if selF k kn x = true then stB t b x else b := by
  unfold stepB stB inT selF
  by_cases h1 : x.key = k
  · by_cases h2 : x.kn ≤ kn
    · simp [h1, h2, and_assoc]
    · simp [h1, h2]
  · simp [h1]
theorem bestF_sel (l : List Ft) (k : Ky) (t : Nat) (kn : Int) : bestF l k t kn = bsF (l.filter (selF k kn)) t := by
  unfold bestF bsF
  suffices h : ∀ (l : List Ft) (b : Option Ft), l.foldl (stepB k t kn) b = (l.filter (selF k kn)).foldl (stB t) b from h l none
  intro l
  induction l with
  | nil => intro b; rfl
  | cons x l ih =>
    intro b
    rw [List.foldl_cons, List.filter_cons, stepB_stB]
    by_cases h : selF k kn x = true
    · rw [if_pos h, if_pos h, List.foldl_cons]; exact ih _
    · rw [if_neg h, if_neg h]; exact ih _
/-- the row of values -/
def vrow (l : List Ft) (k : Ky) (kn : Int) : List Value := (List.range 1024).map fun (t : Nat) => .int .i64 (valF l k t kn)
theorem vrow_length (l : List Ft) (k : Ky) (kn : Int) : (vrow l k kn).length = 1024 := by simp [vrow]
theorem vrow_at (l : List Ft) (k : Ky) (kn : Int) {t : Nat} (h : t < 1024) : (vrow l k kn)[t]? = some (.int .i64 (valF l k t kn)) := by simp [vrow, h]
/-- the terms done so far -/
def midB (bs : Nat → Option Ft) (x : Ft) (m : Nat) (t : Nat) : Option Ft := if t < m then stB t (bs t) x else bs t
theorem midB_next (bs : Nat → Option Ft) (x : Ft) (m t : Nat) : midB bs x (m + 1) t = if t = m then stB m (bs m) x else midB bs x m t := by
  unfold midB
  by_cases h : t = m
  · subst h; simp
  · rw [if_neg h]
    by_cases h2 : t < m
    · rw [if_pos h2, if_pos (by omega)]
    · rw [if_neg h2, if_neg (by omega)]
theorem midB_at (bs : Nat → Option Ft) (x : Ft) (m : Nat) : midB bs x m m = bs m := by
  unfold midB
  rw [if_neg (by omega)]
theorem midB_start {bs : Nat → Option Ft} {x : Ft} {m : Nat} (h : (m : Int) ≤ max 0 x.fr) (t : Nat) : midB bs x m t = bs t := by
  unfold midB stB
  split
  · rw [if_neg (by omega)]
  · rfl
theorem midB_end {bs : Nat → Option Ft} {x : Ft} {m : Nat} (h : min x.to 1024 ≤ (m : Int)) {t : Nat} (ht : t < 1024) : midB bs x m t = stB t (bs t) x := by
  unfold midB
  split
  · rfl
  · unfold stB
    rw [if_neg (by omega)]
/-- the two arrays -/
structure BW (W : World) (B7 B8 : Nat) (bs : Nat → Option Ft) (vs us : List Value) : Prop where
  lv : vs.length = 8192
  lu : us.length = 1024
  c7 : CB W B7 vs
  c8 : CB W B8 us
  u : ∀ t, t < 1024 → us[t]? = some (.bool (bs t).isSome)
  v : ∀ t, t < 1024 → ∀ g, bs t = some g → ∀ j, j < 8 → vs[t * 8 + j]? = g.enc[j]?
theorem BW.congr {W : World} {B7 B8 : Nat} {bs bs' : Nat → Option Ft} {vs us : List Value} (h : BW W B7 B8 bs vs us) (hb : ∀ t, t < 1024 → bs' t = bs t) : BW W B7 B8 bs' vs us :=
  ⟨h.lv, h.lu, h.c7, h.c8, fun t ht => by rw [hb t ht]; exact h.u t ht, fun t ht g hg => by rw [hb t ht] at hg; exact h.v t ht g hg⟩
theorem BW.keep {W W' : World} {B7 B8 : Nat} {bs : Nat → Option Ft} {vs us : List Value} (h : BW W B7 B8 bs vs us) (h7 : W'.heap[B7]? = W.heap[B7]?) (h8 : W'.heap[B8]? = W.heap[B8]?) : BW W' B7 B8 bs vs us :=
  ⟨h.lv, h.lu, h.c7.keep h7, h.c8.keep h8, h.u, h.v⟩
theorem BW.lt7 {W : World} {B7 B8 : Nat} {bs : Nat → Option Ft} {vs us : List Value} (h : BW W B7 B8 bs vs us) : B7 < W.heap.size := h.c7.lt (v := vs[0]'(by rw [h.lv]; omega)) (List.getElem?_eq_getElem _)
theorem BW.lt8 {W : World} {B7 B8 : Nat} {bs : Nat → Option Ft} {vs us : List Value} (h : BW W B7 B8 bs vs us) : B8 < W.heap.size := h.c8.lt (v := us[0]'(by rw [h.lu]; omega)) (List.getElem?_eq_getElem _)
theorem BW.ext {W W' : World} {B7 B8 : Nat} {bs : Nat → Option Ft} {vs us : List Value} (h : BW W B7 B8 bs vs us) (hE : Ext W W') : BW W' B7 B8 bs vs us := h.keep (hE.block _ h.lt7) (hE.block _ h.lt8)
theorem cell_isCells {W : World} {B i : Nat} {v : Value} (h : W.cell? ⟨B, i, none⟩ = some v) {o : Obj} (ho : W.heap[B]? = some o) : o.isCells = true := by
  unfold World.cell? at h
  simp only [ho] at h
  cases o <;> first | rfl | simp at h
theorem CB.own {X Y : World} {B n : Nat} {vs : List Value} {row : Option Nat} (h : CB X B vs) {v : Value} (h0 : vs[0]? = some v) (hg : X.grownBy Y row) (hrow : ∀ r, row = some r → n ≤ r ∧ ∃ o : Obj, X.heap[r]? = some o ∧ o.isCells = false) : CB Y B vs :=
  h.keep (hg.block B (h.lt h0) fun e' => by
    obtain ⟨_, o, ho, hc⟩ := hrow B e'.symm
    rw [cell_isCells (h.at_ 0 v h0) ho] at hc
    cases hc)
theorem BW.own {X Y : World} {B7 B8 n : Nat} {bs : Nat → Option Ft} {vs us : List Value} {row : Option Nat} (h : BW X B7 B8 bs vs us) (hg : X.grownBy Y row) (hrow : ∀ r, row = some r → n ≤ r ∧ ∃ o : Obj, X.heap[r]? = some o ∧ o.isCells = false) : BW Y B7 B8 bs vs us :=
  ⟨h.lv, h.lu, h.c7.own (v := vs[0]'(by rw [h.lv]; omega)) (List.getElem?_eq_getElem _) hg hrow, h.c8.own (v := us[0]'(by rw [h.lu]; omega)) (List.getElem?_eq_getElem _) hg hrow, h.u, h.v⟩
/-- the eight cells of a fact in a row -/
def set8 (vs : List Value) (p : Nat) (x : Ft) : List Value := (((((((vs.set p (.int .i64 x.k)).set (p + 1) (.int .i64 x.s)).set (p + 2) (.int .i64 x.o)).set (p + 3) (.int .i64 x.v)).set (p + 4) (.int .i64 x.fr)).set (p + 5) (.int .i64 x.to)).set (p + 6) (.int .i64 x.kn)).set (p + 7) (.int .i64 x.no)
def put8 (W : World) (B p : Nat) (x : Ft) : World := (((((((W.setCell ⟨B, p, none⟩ (.int .i64 x.k)).setCell ⟨B, p + 1, none⟩ (.int .i64 x.s)).setCell ⟨B, p + 2, none⟩ (.int .i64 x.o)).setCell ⟨B, p + 3, none⟩ (.int .i64 x.v)).setCell ⟨B, p + 4, none⟩ (.int .i64 x.fr)).setCell ⟨B, p + 5, none⟩ (.int .i64 x.to)).setCell ⟨B, p + 6, none⟩ (.int .i64 x.kn)).setCell ⟨B, p + 7, none⟩ (.int .i64 x.no)
theorem set8_length (vs : List Value) (p : Nat) (x : Ft) : (set8 vs p x).length = vs.length := by simp [set8]
theorem CB.putF {W : World} {B : Nat} {vs : List Value} (h : CB W B vs) {p : Nat} (hp : p + 8 ≤ vs.length) (x : Ft) : CB (put8 W B p x) B (set8 vs p x) := by
  unfold put8 set8
  exact (((((((h.set (by omega) _).set (by simp; omega) _).set (by simp; omega) _).set (by simp; omega) _).set (by simp; omega) _).set (by simp; omega) _).set (by simp; omega) _).set (by simp; omega) _
theorem put8_far (W : World) {B b : Nat} (p : Nat) (x : Ft) (h : b ≠ B) : (put8 W B p x).heap[b]? = W.heap[b]? := by
  unfold put8
  iterate 8 rw [heap_far (by simpa using h)]
theorem set8_same {vs : List Value} {p : Nat} (hp : p + 8 ≤ vs.length) (x : Ft) {j : Nat} (hj : j < 8) : (set8 vs p x)[p + j]? = x.enc[j]? := by
  unfold set8 Ft.enc
  simp only [List.getElem?_set, List.length_set]
  match j, hj with
  | 0, _ => simp; omega
  | 1, _ => simp; omega
  | 2, _ => simp; omega
  | 3, _ => simp; omega
  | 4, _ => simp; omega
  | 5, _ => simp; omega
  | 6, _ => simp; omega
  | 7, _ => simp; omega
theorem set8_other {vs : List Value} {p i : Nat} (x : Ft) (h : i < p ∨ p + 8 ≤ i) : (set8 vs p x)[i]? = vs[i]? := by
  unfold set8
  iterate 8 rw [List.getElem?_set_ne (by omega)]
theorem BW.put {W : World} {B7 B8 : Nat} {bs bs' : Nat → Option Ft} {vs us : List Value} (h : BW W B7 B8 bs vs us) (hne : B7 ≠ B8) {m : Nat} (hm : m < 1024) (x : Ft) (hb : ∀ t, t < 1024 → bs' t = if t = m then some x else bs t) :
    BW ((put8 W B7 (m * 8) x).setCell ⟨B8, m, none⟩ (.bool true)) B7 B8 bs' (set8 vs (m * 8) x) (us.set m (.bool true)) := by
  refine ⟨by rw [set8_length]; exact h.lv, by rw [List.length_set]; exact h.lu, ?_, ?_, fun t ht => ?_, fun t ht g hg j hj => ?_⟩
  · exact (h.c7.putF (by rw [h.lv]; omega) x).keep (heap_far (by simpa using hne))
  · exact (h.c8.keep (put8_far W (m * 8) x (Ne.symm hne))).set (by rw [h.lu]; exact hm) _
  · rw [hb t ht, List.getElem?_set]
    by_cases e : m = t
    · subst e
      rw [if_pos rfl, if_pos (by rw [h.lu]; exact hm), if_pos rfl]
      rfl
    · rw [if_neg e, if_neg (Ne.symm e)]
      exact h.u t ht
  · rw [hb t ht] at hg
    by_cases e : t = m
    · subst e
      rw [if_pos rfl] at hg
      cases hg
      exact set8_same (by rw [h.lv]; omega) x hj
    · rw [if_neg e] at hg
      rw [set8_other x (by omega)]
      exact h.v t ht g hg j hj
/-- what stands at one term -/
theorem BW.bool {W : World} {B7 B8 : Nat} {bs : Nat → Option Ft} {vs us : List Value} (h : BW W B7 B8 bs vs us) {m : Nat} (hm : m < 1024) : W.cell? ⟨B8, m, none⟩ = some (.bool (bs m).isSome) := h.c8.at_ m _ (h.u m hm)
theorem BW.old {W : World} {B7 B8 : Nat} {bs : Nat → Option Ft} {vs us : List Value} (h : BW W B7 B8 bs vs us) {m j : Nat} (hm : m < 1024) (hj : j < 8) : ∃ v, W.cell? ⟨B7, m * 8 + j, none⟩ = some v :=
  ⟨_, h.c7.at_ (m * 8 + j) _ (List.getElem?_eq_getElem (by rw [h.lv]; omega))⟩
theorem BW.fact {W : World} {B7 B8 : Nat} {bs : Nat → Option Ft} {vs us : List Value} (h : BW W B7 B8 bs vs us) {m : Nat} (hm : m < 1024) {g : Ft} (hg : bs m = some g) {j : Nat} {u : Value} (hj : j < 8) (hu : g.enc[j]? = some u) : W.cell? ⟨B7, m * 8 + j, none⟩ = some u :=
  h.c7.at_ _ _ ((h.v m hm g hg j hj).trans hu)
/-- a fact laid at one term -/
def putB (W : World) (B7 B8 m : Nat) (x : Ft) : World := (put8 W B7 (m * 8) x).setCell ⟨B8, m, none⟩ (.bool true)
theorem putB_heap (W : World) {B7 B8 b : Nat} (m : Nat) (x : Ft) (h7 : b ≠ B7) (h8 : b ≠ B8) : (putB W B7 B8 m x).heap[b]? = W.heap[b]? := by
  unfold putB
  rw [heap_far (by simpa using h8), put8_far _ _ _ h7]
theorem putB_size (W : World) (B7 B8 m : Nat) (x : Ft) : (putB W B7 B8 m x).heap.size = W.heap.size := by simp [putB, put8]
theorem putB_keeps (W : World) (B7 B8 m : Nat) (x : Ft) : KeepsOthers W (putB W B7 B8 m x) := by
  unfold putB put8
  exact ((((((((KeepsOthers.setCell _ _ _).trans (KeepsOthers.setCell _ _ _)).trans (KeepsOthers.setCell _ _ _)).trans (KeepsOthers.setCell _ _ _)).trans (KeepsOthers.setCell _ _ _)).trans (KeepsOthers.setCell _ _ _)).trans (KeepsOthers.setCell _ _ _)).trans (KeepsOthers.setCell _ _ _)).trans (KeepsOthers.setCell _ _ _)
theorem putB_ext {w W : World} {B7 B8 : Nat} (h : Ext w W) (h7 : w.heap.size ≤ B7) (h8 : w.heap.size ≤ B8) (m : Nat) (x : Ft) : Ext w (putB W B7 B8 m x) := by
  unfold putB put8 Ext
  repeat refine Below.setCell ?_ (by simpa) _
  exact h
theorem putB_kpY {n1 B7 B8 : Nat} {W0 W : World} (h : KpY n1 B7 B8 W0 W) (m : Nat) (x : Ft) : KpY n1 B7 B8 W0 (putB W B7 B8 m x) :=
  ⟨by rw [putB_size]; exact h.1, fun b hb h7 h8 => (putB_heap W m x h7 h8).trans (h.2 b hb h7 h8)⟩
theorem KpY.drew {n1 B7 B8 : Nat} {W0 W : World} (h : KpY n1 B7 B8 W0 W) : KpY n1 B7 B8 W0 W.drew := h
end Go.Sz
