/- Requests: outcomes in memory; Done of both sides. -/
import Derived.Test.YtahaplioegeloaaDoorQA
namespace Go.Sz
open Go.RowKit
/-- an outcome -/
structure Oc where
  c : Int
  n : Int
  r : Int
  s : Int
  l : Int
  e : Int
  nm : List Int
deriving DecidableEq
def Oc.cells (o : Oc) (a : Option Addr) (d : Nat) : List Value := [.int .i64 o.c, .int .i64 o.n, .int .i64 o.r, .int .i64 o.s, .int .i64 o.l, .int .i64 o.e, .slice a o.nm.length d]
def oc0 : Oc := ⟨0, 0, 0, 0, 0, 0, []⟩
def RepO1 (w : World) (cs : List Value) (o : Oc) : Prop := ∃ a d, cs = o.cells a d ∧ SL w 1 a d (irows o.nm)
theorem RepO1.ext {w W : World} {cs : List Value} {o : Oc} (h : RepO1 w cs o) (hE : Ext w W) : RepO1 W cs o := by
  obtain ⟨a, d, h1, h2⟩ := h
  exact ⟨a, d, h1, h2.ext hE⟩
theorem RepO1.zero (w : World) : RepO1 w (oc0.cells none 0) oc0 := ⟨none, 0, rfl, SL.empty _ _⟩
theorem RepO1.length {w : World} {cs : List Value} {o : Oc} (h : RepO1 w cs o) : cs.length = 7 := by obtain ⟨a, d, rfl, _⟩ := h; rfl
theorem RepO1.one {w : World} {cs : List Value} {o : Oc} (h : RepO1 w cs o) : ∀ u ∈ cs, u.oneCell' = true := by
  obtain ⟨a, d, rfl, _⟩ := h
  intro u hu
  simp [Oc.cells] at hu
  rcases hu with rfl | rfl | rfl | rfl | rfl | rfl | rfl <;> rfl
structure RepOL (w : World) (ao : Option Addr) (cap : Nat) (rows : List (List Value)) (l : List Oc) : Prop where
  sl : SL w 7 ao cap rows
  len : rows.length = l.length
  el : ∀ (i : Nat) (r : List Value) (o : Oc), rows[i]? = some r → l[i]? = some o → RepO1 w r o
theorem RepOL.ext {w W : World} {ao : Option Addr} {cap : Nat} {rows : List (List Value)} {l : List Oc} (h : RepOL w ao cap rows l) (hE : Ext w W) : RepOL W ao cap rows l := ⟨h.sl.ext hE, h.len, fun i r o h1 h2 => (h.el i r o h1 h2).ext hE⟩
theorem RepOL.max {w : World} {ao : Option Addr} {cap : Nat} {rows : List (List Value)} {l : List Oc} (h : RepOL w ao cap rows l) : (l.length : Int) ≤ 9223372036854775807 := by
  have h1 := h.sl.max; have h2 := h.sl.le; have h3 := h.len; omega
theorem RepOL.nil (w : World) : RepOL w none 0 [] [] := ⟨SL.empty _ _, rfl, by simp⟩
theorem RepOL.one {w : World} {ao : Option Addr} {cap : Nat} {rows : List (List Value)} {l : List Oc} (h : RepOL w ao cap rows l) : ∀ r ∈ rows, ∀ u ∈ r, u.oneCell' = true := fun r hr => by
  obtain ⟨i, hi, rfl⟩ := List.mem_iff_getElem.1 hr
  have hi' : i < l.length := by rw [← h.len]; exact hi
  exact (h.el i _ l[i] (List.getElem?_eq_getElem hi) (List.getElem?_eq_getElem hi')).one
theorem oc_cells {w W : World} {ao : Option Addr} {cap : Nat} {rows : List (List Value)} {l : List Oc} (h : RepOL w ao cap rows l) (hE : Ext w W) {i : Nat} (hi : i < l.length) : ∃ b o a d, ao = some ⟨b, o, none⟩ ∧ SL w 1 a d (irows l[i].nm) ∧
    W.cell? ⟨b, o + i * 7, none⟩ = some (.int .i64 l[i].c) ∧ W.cell? ⟨b, o + i * 7 + 1, none⟩ = some (.int .i64 l[i].n) ∧ W.cell? ⟨b, o + i * 7 + 2, none⟩ = some (.int .i64 l[i].r) ∧ W.cell? ⟨b, o + i * 7 + 3, none⟩ = some (.int .i64 l[i].s) ∧ W.cell? ⟨b, o + i * 7 + 4, none⟩ = some (.int .i64 l[i].l) ∧ W.cell? ⟨b, o + i * 7 + 5, none⟩ = some (.int .i64 l[i].e) ∧ W.cell? ⟨b, o + i * 7 + 6, none⟩ = some (.slice a l[i].nm.length d) := by
  have hi' : i < rows.length := by rw [h.len]; exact hi
  obtain ⟨a, d, hr0, hnm⟩ := h.el i rows[i] l[i] (List.getElem?_eq_getElem hi') (List.getElem?_eq_getElem hi)
  have hr : rows[i]? = some (l[i].cells a d) := by rw [List.getElem?_eq_getElem hi', hr0]
  obtain ⟨b, o, rfl, _⟩ := SL.at h.sl (by omega) i hi'
  exact ⟨b, o, a, d, rfl, hnm, by simpa using hE.cell (SL.cellAt h.sl hr (j := 0) rfl), by simpa using hE.cell (SL.cellAt h.sl hr (j := 1) rfl), by simpa using hE.cell (SL.cellAt h.sl hr (j := 2) rfl), by simpa using hE.cell (SL.cellAt h.sl hr (j := 3) rfl), by simpa using hE.cell (SL.cellAt h.sl hr (j := 4) rfl), by simpa using hE.cell (SL.cellAt h.sl hr (j := 5) rfl), by simpa using hE.cell (SL.cellAt h.sl hr (j := 6) rfl)⟩
/-- a variable that holds an outcome -/
structure BoxC (w : World) (B : Nat) (o : Oc) (a : Option Addr) (d : Nat) : Prop where
  c0 : w.cell? ⟨B, 0, none⟩ = some (.int .i64 o.c)
  c1 : w.cell? ⟨B, 1, none⟩ = some (.int .i64 o.n)
  c2 : w.cell? ⟨B, 2, none⟩ = some (.int .i64 o.r)
  c3 : w.cell? ⟨B, 3, none⟩ = some (.int .i64 o.s)
  c4 : w.cell? ⟨B, 4, none⟩ = some (.int .i64 o.l)
  c5 : w.cell? ⟨B, 5, none⟩ = some (.int .i64 o.e)
  c6 : w.cell? ⟨B, 6, none⟩ = some (.slice a o.nm.length d)
  fz : ∀ i, w.frozen? ⟨B, i, none⟩ = false
theorem BoxC.lt {w : World} {B : Nat} {o : Oc} {a : Option Addr} {d : Nat} (h : BoxC w B o a d) : B < w.heap.size := World.block_lt_of_cell? _ _ h.c0
theorem BoxC.new (w : World) (o : Oc) (a : Option Addr) (d : Nat) (t : TypeId) (g : Nat) (hg : w.heap.size = g) : BoxC (w.alloc (.cells (o.cells a d).toArray t)) g o a d := by subst hg; unfold Oc.cells; exact ⟨by simp, by simp, by simp, by simp, by simp, by simp, by simp, fun i => by simp⟩
theorem BoxC.keep {w w' : World} {B : Nat} {o : Oc} {a : Option Addr} {d : Nat} (h : BoxC w B o a d) (hk : w'.heap[B]? = w.heap[B]?) : BoxC w' B o a d :=
  ⟨by simp only [World.cell?, hk]; exact h.c0, by simp only [World.cell?, hk]; exact h.c1, by simp only [World.cell?, hk]; exact h.c2, by simp only [World.cell?, hk]; exact h.c3, by simp only [World.cell?, hk]; exact h.c4, by simp only [World.cell?, hk]; exact h.c5, by simp only [World.cell?, hk]; exact h.c6, fun i => by simp only [World.frozen?, hk]; exact h.fz i⟩
theorem BoxC.ext {w w' : World} {B : Nat} {o : Oc} {a : Option Addr} {d : Nat} (h : BoxC w B o a d) (hE : Ext w w') : BoxC w' B o a d := h.keep (hE.block B h.lt)
def isOc (c n : Int) (o : Oc) : Bool := o.c == c && o.n == n
def findC (l : List Oc) (P : Oc → Bool) : Int := match l.findIdx? P with
  | some i => (i : Int)
  | none => -1
theorem findC_some {l : List Oc} {P : Oc → Bool} {k : Nat} (hk : k < l.length) (hb : ∀ j (h : j < k), P (l[j]'(by omega)) = false) (h : P l[k] = true) : findC l P = (k : Int) := by
  unfold findC
  rw [List.findIdx?_eq_some_iff_getElem.2 ⟨hk, h, fun j hj => by rw [hb j hj]; simp⟩]
theorem findC_none {l : List Oc} {P : Oc → Bool} (hb : ∀ j (h : j < l.length), P l[j] = false) : findC l P = -1 := by
  unfold findC
  rw [List.findIdx?_eq_none_iff.2 (fun x hx => by
    obtain ⟨j, hj, rfl⟩ := List.mem_iff_getElem.1 hx
    exact hb j hj)]
def doneL (l : List Oc) (c n : Int) : Oc × Bool := match l.find? (isOc c n) with
  | some o => (o, true)
  | none => (oc0, false)
theorem doneL_some {l : List Oc} {c n : Int} {k : Nat} (hk : k < l.length) (hb : ∀ j (h : j < k), isOc c n (l[j]'(by omega)) = false) (h : isOc c n l[k] = true) : doneL l c n = (l[k], true) := by
  unfold doneL
  rw [List.find?_eq_some_iff_getElem.2 ⟨h, k, hk, rfl, fun j hj => by rw [hb j hj]; rfl⟩]
theorem doneL_none {l : List Oc} {c n : Int} (hb : ∀ j (h : j < l.length), isOc c n l[j] = false) : doneL l c n = (oc0, false) := by
  unfold doneL
  rw [List.find?_eq_none.2 (fun x hx => by
    obtain ⟨j, hj, rfl⟩ := List.mem_iff_getElem.1 hx
    rw [hb j hj]; simp)]
theorem findC_cases (l : List Oc) (c n : Int) : (∃ (k : Nat) (h : k < l.length), findC l (isOc c n) = (k : Int) ∧ doneL l c n = (l[k], true)) ∨ (findC l (isOc c n) = -1 ∧ doneL l c n = (oc0, false)) := by
  cases h : l.findIdx? (isOc c n) with
  | none =>
    refine Or.inr ⟨by unfold findC; rw [h], ?_⟩
    have := List.findIdx?_eq_none_iff.1 h
    exact doneL_none fun j hj => this _ (List.getElem_mem hj)
  | some k =>
    obtain ⟨hk, hp, hb⟩ := List.findIdx?_eq_some_iff_getElem.1 h
    exact Or.inl ⟨k, hk, by unfold findC; rw [h], doneL_some hk (fun j hj => by have := hb j hj; simpa using this) hp⟩
/-- an outcome that lies in w0, and whether there is one -/
def RetOc (w0 w : World) (r : Oc × Bool) (e : Ending) (w' : World) : Prop := ∃ cs, e = .returned (.tuple #[.agg cs.toArray, .bool r.2]) ∧ RepO1 w0 cs r.1 ∧ Ext w w'
/-- seven stores into a new block -/
theorem ext_set7 {w W : World} (h : Ext w W) {B : Nat} (hB : w.heap.size ≤ B) (u0 u1 u2 u3 u4 u5 u6 : Value) : Ext w (((((((W.setCell ⟨B, 0, none⟩ u0).setCell ⟨B, 1, none⟩ u1).setCell ⟨B, 2, none⟩ u2).setCell ⟨B, 3, none⟩ u3).setCell ⟨B, 4, none⟩ u4).setCell ⟨B, 5, none⟩ u5).setCell ⟨B, 6, none⟩ u6) :=
  ((((((h.setCell (p := ⟨B, 0, none⟩) hB _).setCell (p := ⟨B, 1, none⟩) hB _).setCell (p := ⟨B, 2, none⟩) hB _).setCell (p := ⟨B, 3, none⟩) hB _).setCell (p := ⟨B, 4, none⟩) hB _).setCell (p := ⟨B, 5, none⟩) hB _).setCell (p := ⟨B, 6, none⟩) hB _
end Go.Sz
namespace Go.Proofs.YtahaplioegeloaaDoor
open Go.RowKit Go.Sz
set_option maxRecDepth 100000 in
set_option maxHeartbeats 6400000 in
theorem done1_any (x : Oc) (a : Option Addr) (d : Nat) (c n : Int) (b5 b6 : Nat) (w : World) (h0 : w.cell? ⟨b5, 0, none⟩ = some (.int .i64 c)) (h1 : w.cell? ⟨b6, 0, none⟩ = some (.int .i64 n)) : Calls Tryd.prog 44 #[.agg (x.cells a d).toArray, .pointer (some ⟨b5, 0, none⟩), .pointer (some ⟨b6, 0, none⟩)] w fun e w' => e = .returned (.bool (isOc c n x)) ∧ Ext w w' := by
  have HI : Hid (isOc c n x = (x.c == c && x.n == n)) := Lib.hid rfl
  have e0 := ((Ext.refl w).alloc (.cells #[.int .i64 x.c, .int .i64 x.n, .int .i64 x.r, .int .i64 x.s, .int .i64 x.l, .int .i64 x.e, .slice a x.nm.length d] 42)).cell h0
  have e1 := ((Ext.refl w).alloc (.cells #[.int .i64 x.c, .int .i64 x.n, .int .i64 x.r, .int .i64 x.s, .int .i64 x.l, .int .i64 x.e, .slice a x.nm.length d] 42)).cell h1
  unfold Oc.cells
  cases g1 : (x.c == c) with
  | true =>
    have HI2 : Hid (isOc c n x = (x.n == n)) := Lib.hid (by rw [HI.out, g1]; rfl)
    go_enter Tryd.func44, Tryd.ntmps44
    go_wp2_with fail
    go_ret
    exact ⟨by rw [HI2.out]; rfl, (Ext.refl _).alloc _⟩
  | false =>
    have HI2 : Hid (isOc c n x = false) := Lib.hid (by rw [HI.out, g1]; rfl)
    go_enter Tryd.func44, Tryd.ntmps44
    go_wp2_with fail
    go_ret
    exact ⟨by rw [HI2.out]; rfl, (Ext.refl _).alloc _⟩
set_option maxRecDepth 100000 in
set_option maxHeartbeats 6400000 in
theorem indexC_any (l : List Oc) (rows : List (List Value)) (c n : Int) (b5 b6 : Nat) (ao : Option Addr) (cap : Nat) (w : World) (h : RepOL w ao cap rows l) (h0 : w.cell? ⟨b5, 0, none⟩ = some (.int .i64 c)) (h1 : w.cell? ⟨b6, 0, none⟩ = some (.int .i64 n)) : Calls Tryd.prog 59 #[.slice ao l.length cap, .func (Fn.func 44) #[] #[.pointer (some ⟨b5, 0, none⟩), .pointer (some ⟨b6, 0, none⟩)]] w fun e w' => e = .returned (.int .i64 (findC l (isOc c n))) ∧ Ext w w' := by
  have HL := Lib.hid h
  have hs1 := h.max
  have HT1 : Hid (∀ (x : Oc) (a : Option Addr) (d : Nat) (W : World), Ext w W → Calls Tryd.prog 44 #[.agg #[.int .i64 x.c, .int .i64 x.n, .int .i64 x.r, .int .i64 x.s, .int .i64 x.l, .int .i64 x.e, .slice a x.nm.length d], .pointer (some ⟨b5, 0, none⟩), .pointer (some ⟨b6, 0, none⟩)] W fun e w' => e = .returned (.bool (isOc c n x)) ∧ Ext W w') := Lib.hid fun x a d W hE => done1_any x a d c n b5 b6 W (hE.cell h0) (hE.cell h1)
  clear h h0 h1
  go_enter Tryd.func59, Tryd.ntmps59
  go_wp2_with fail
  go_loopw [8] (fun iv wr => ∃ k : Nat, iv = .int .i64 k ∧ k ≤ l.length ∧ (∀ j (h : j < l.length), j < k → isOc c n l[j] = false) ∧ Ext w wr) (fun iv _ => l.length - (intOf iv).toNat)
  case atStart => exact ⟨0, rfl, by omega, fun j _ h => by omega, Ext.refl _⟩
  case round =>
    obtain ⟨k, rfl, hk, ht, hB⟩ := hrel
    have HT := Lib.hid ht
    have HB := Lib.hid hB
    clear ht hB
    by_cases hlt : k < l.length
    · have hki : (k : Int) < (l.length : Int) := by omega
      obtain ⟨bb, o, a, d, rfl, -, c0, c1, c2, c3, c4, c5, c6⟩ := oc_cells HL.out HB.out hlt
      have HN : Hid (isOc c n l[k] = false → ∀ j (h : j < l.length), j < k + 1 → isOc c n l[j] = false) := Lib.hid fun hi j hj hjk => by
        by_cases hjk' : j = k
        · subst hjk'; exact hi
        · exact HT.out j hj (by omega)
      have HFD : Hid (isOc c n l[k] = true → findC l (isOc c n) = (k : Int)) := Lib.hid fun hi => findC_some hlt (fun j hj => HT.out j (by omega) hj) hi
      generalize l[k] = x at *
      cases hx : isOc c n x with
      | true =>
        have HFX := Lib.hid (HFD.out hx)
        have HC := Lib.hid (hx ▸ HT1.out x a d wr HB.out)
        clear hx
        go_wp2_with (go_at_call 44; refine HC.out.mono ?_; rintro e w' ⟨rfl, hE⟩)
        go_ret
        exact ⟨by rw [HFX.out]; rfl, HB.out.trans hE⟩
      | false =>
        have HNX := Lib.hid (HN.out hx)
        have HC := Lib.hid (hx ▸ HT1.out x a d wr HB.out)
        clear hx
        go_wp2_with (go_at_call 44; refine HC.out.mono ?_; rintro e w' ⟨rfl, hE⟩)
        go_roundw
        case rel => exact ⟨k + 1, by go_num, by omega, HNX.out, HB.out.trans hE⟩
        case measure => simp [intOf] <;> omega
    · have hki : ¬ (k : Int) < (l.length : Int) := by omega
      have HR : Hid (findC l (isOc c n) = -1) := Lib.hid (findC_none fun j hj => HT.out j hj (by omega))
      go_wp2_with fail
      go_ret
      exact ⟨by rw [HR.out]; rfl, HB.out⟩
set_option maxRecDepth 100000 in
set_option maxHeartbeats 6400000 in
theorem firstC_any (l : List Oc) (rows : List (List Value)) (c n : Int) (b5 b6 : Nat) (ao : Option Addr) (cap : Nat) (w0 w : World) (h : RepOL w0 ao cap rows l) (hw0 : Ext w0 w) (h0 : w.cell? ⟨b5, 0, none⟩ = some (.int .i64 c)) (h1 : w.cell? ⟨b6, 0, none⟩ = some (.int .i64 n)) : Calls Tryd.prog 43 #[.slice ao l.length cap, .func (Fn.func 44) #[] #[.pointer (some ⟨b5, 0, none⟩), .pointer (some ⟨b6, 0, none⟩)]] w (RetOc w0 w (doneL l c n)) := by
  have hX : Ext w (w.alloc (.cells #[.int .i64 0, .int .i64 0, .int .i64 0, .int .i64 0, .int .i64 0, .int .i64 0, .slice none 0 0] 42)) := (Ext.refl w).alloc _
  have HIX := Lib.hid (indexC_any l rows c n b5 b6 ao cap _ (h.ext (hw0.trans hX)) (hX.cell h0) (hX.cell h1))
  have HW0 := Lib.hid hw0
  have HBZ : Hid (BoxC (w.alloc (.cells #[.int .i64 0, .int .i64 0, .int .i64 0, .int .i64 0, .int .i64 0, .int .i64 0, .slice none 0 0] 42)) w.heap.size oc0 none 0) := Lib.hid (BoxC.new w oc0 none 0 42 _ rfl)
  have HL := Lib.hid h
  have HX := Lib.hid hX
  have hs1 := h.max
  clear h h0 h1 hX hw0
  rcases findC_cases l c n with ⟨k, hlt, hf, hd⟩ | ⟨hf, hd⟩
  · obtain ⟨x, hx⟩ : ∃ x, l[k] = x := ⟨_, rfl⟩
    rw [hx] at hd
    rw [hd]
    rw [hf] at HIX
    clear hf hd
    have hki : (k : Int) < (l.length : Int) := by omega
    have hk0 : (0 : Int) ≤ (k : Int) := by omega
    go_enter Tryd.func43, Tryd.ntmps43
    go_wp2_with fail
    refine HIX.out.mono ?_
    rintro e w2 ⟨rfl, hE⟩
    obtain ⟨bb, o, a, d, rfl, hnm, c0, c1, c2, c3, c4, c5, c6⟩ := oc_cells HL.out (HW0.out.trans (HX.out.trans hE)) hlt
    obtain ⟨r0, r1, r2, r3, r4, r5, r6, rz⟩ := HBZ.out.ext hE
    rw [hx] at hnm c0 c1 c2 c3 c4 c5 c6
    have HXE := Lib.hid (HX.out.trans hE)
    have HNM := Lib.hid hnm
    clear hnm hE hx
    go_wp2_with fail
    have hF := ext_set7 (w := w) HXE.out (B := w.heap.size) (Nat.le_refl _) (.int .i64 x.c) (.int .i64 x.n) (.int .i64 x.r) (.int .i64 x.s) (.int .i64 x.l) (.int .i64 x.e) (.slice a x.nm.length d)
    refine bodyPost_ret (v := .tuple #[.agg #[.int .i64 x.c, .int .i64 x.n, .int .i64 x.r, .int .i64 x.s, .int .i64 x.l, .int .i64 x.e, .slice a x.nm.length d], .bool true]) ?_ rfl ⟨_, rfl, ⟨a, d, rfl, HNM.out⟩, hF⟩
    simp [results, Tryd.results43, go_sem, r0, r1, r2, r3, r4, r5, r6]
  · rw [hd]
    rw [hf] at HIX
    clear hf hd
    go_enter Tryd.func43, Tryd.ntmps43
    go_wp2_with fail
    refine HIX.out.mono ?_
    rintro e w2 ⟨rfl, hE⟩
    obtain ⟨r0, r1, r2, r3, r4, r5, r6, rz⟩ := HBZ.out.ext hE
    unfold oc0 at r0 r1 r2 r3 r4 r5 r6
    dsimp only at r0 r1 r2 r3 r4 r5 r6
    have HXE := Lib.hid (HX.out.trans hE)
    clear hE
    go_wp2_with fail
    have hF := ext_set7 (w := w) HXE.out (B := w.heap.size) (Nat.le_refl _) (.int .i64 0) (.int .i64 0) (.int .i64 0) (.int .i64 0) (.int .i64 0) (.int .i64 0) (.slice none 0 0)
    refine bodyPost_ret (v := .tuple #[.agg #[.int .i64 0, .int .i64 0, .int .i64 0, .int .i64 0, .int .i64 0, .int .i64 0, .slice none 0 0], .bool false]) ?_ rfl ⟨_, rfl, RepO1.zero _, hF⟩
    simp [results, Tryd.results43, go_sem, r0, r1, r2, r3, r4, r5, r6]
set_option maxRecDepth 100000 in
set_option maxHeartbeats 6400000 in
theorem done_any (l : List Oc) (rows : List (List Value)) (c n : Int) (ao : Option Addr) (cap : Nat) (w : World) (h : RepOL w ao cap rows l) : Calls Tryd.prog 22 #[.slice ao l.length cap, .int .i64 c, .int .i64 n] w (RetOc w w (doneL l c n)) := by
  have hX : Ext w (((w.alloc (.cells #[.int .i64 c] 3)).alloc (.cells #[.int .i64 n] 3)).alloc (.cells #[.int .i64 0, .int .i64 0, .int .i64 0, .int .i64 0, .int .i64 0, .int .i64 0, .slice none 0 0] 42)) := (((Ext.refl w).alloc _).alloc _).alloc _
  have HFI := Lib.hid (firstC_any l rows c n w.heap.size (w.heap.size + 1) ao cap w (((w.alloc (.cells #[.int .i64 c] 3)).alloc (.cells #[.int .i64 n] 3)).alloc (.cells #[.int .i64 0, .int .i64 0, .int .i64 0, .int .i64 0, .int .i64 0, .int .i64 0, .slice none 0 0] 42)) h hX ((((Ext.refl _).alloc _).alloc _).cell (cell_new w _ _ _ rfl)) (((Ext.refl _).alloc _).cell (cell_new _ _ _ _ (by simp))))
  have HBZ : Hid (BoxC (((w.alloc (.cells #[.int .i64 c] 3)).alloc (.cells #[.int .i64 n] 3)).alloc (.cells #[.int .i64 0, .int .i64 0, .int .i64 0, .int .i64 0, .int .i64 0, .int .i64 0, .slice none 0 0] 42)) (w.heap.size + 1 + 1) oc0 none 0) := Lib.hid (BoxC.new _ oc0 none 0 42 _ (by simp))
  have HX := Lib.hid hX
  have hmf : ∀ (fn : Fn) (first cap : Array Value) (w : World), (Instr.makeFunc fn first cap).run Tryd.prog w = .ok (.func fn first cap) w := fun _ _ _ _ => rfl
  clear h hX
  generalize doneL l c n = r at *
  obtain ⟨x, b⟩ := r
  go_enter Tryd.func22, Tryd.ntmps22
  go_wp2_with fail
  refine HFI.out.mono ?_
  rintro e w2 ⟨cs, rfl, ⟨a, d, rfl, hnm⟩, hE⟩
  obtain ⟨r0, r1, r2, r3, r4, r5, r6, rz⟩ := HBZ.out.ext hE
  have HXE := Lib.hid (HX.out.trans hE)
  have HNM := Lib.hid hnm
  clear hnm hE
  unfold Oc.cells
  dsimp only at HNM ⊢
  go_wp2_with fail
  have hF := ext_set7 (w := w) HXE.out (B := w.heap.size + 1 + 1) (by omega) (.int .i64 x.c) (.int .i64 x.n) (.int .i64 x.r) (.int .i64 x.s) (.int .i64 x.l) (.int .i64 x.e) (.slice a x.nm.length d)
  refine bodyPost_ret (v := .tuple #[.agg #[.int .i64 x.c, .int .i64 x.n, .int .i64 x.r, .int .i64 x.s, .int .i64 x.l, .int .i64 x.e, .slice a x.nm.length d], .bool b]) ?_ rfl ⟨_, rfl, ⟨a, d, rfl, HNM.out⟩, hF⟩
  simp [results, Tryd.results22, go_sem, r0, r1, r2, r3, r4, r5, r6]
set_option maxRecDepth 100000 in
set_option maxHeartbeats 6400000 in
theorem refDone_any (l : List Oc) (rows : List (List Value)) (c n : Int) (ao : Option Addr) (cap : Nat) (w : World) (h : RepOL w ao cap rows l) : Calls Tryd.prog 23 #[.slice ao l.length cap, .int .i64 c, .int .i64 n] w (RetOc w w (doneL l c n)) := by
  have hX : Ext w (w.alloc (.cells #[.int .i64 0, .int .i64 0, .int .i64 0, .int .i64 0, .int .i64 0, .int .i64 0, .slice none 0 0] 42)) := (Ext.refl w).alloc _
  have HBZ : Hid (BoxC (w.alloc (.cells #[.int .i64 0, .int .i64 0, .int .i64 0, .int .i64 0, .int .i64 0, .int .i64 0, .slice none 0 0] 42)) w.heap.size oc0 none 0) := Lib.hid (BoxC.new w oc0 none 0 42 _ rfl)
  have HL := Lib.hid h
  have HX := Lib.hid hX
  have hs1 := h.max
  clear h hX
  go_enter Tryd.func23, Tryd.ntmps23
  go_wp2_with fail
  generalize (w.alloc (.cells #[.int .i64 0, .int .i64 0, .int .i64 0, .int .i64 0, .int .i64 0, .int .i64 0, .slice none 0 0] 42)) = w1 at *
  go_loopw [8] (fun iv wr => ∃ k : Nat, iv = .int .i64 k ∧ k ≤ l.length ∧ (∀ j (h : j < l.length), j < k → isOc c n l[j] = false) ∧ Ext w1 wr) (fun iv _ => l.length - (intOf iv).toNat)
  case atStart => exact ⟨0, rfl, by omega, fun j _ h => by omega, Ext.refl _⟩
  case round =>
    obtain ⟨k, rfl, hk, ht, hB⟩ := hrel
    have HT := Lib.hid ht
    have HB := Lib.hid hB
    clear ht hB
    obtain ⟨r0, r1, r2, r3, r4, r5, r6, rz⟩ := HBZ.out.ext HB.out
    unfold oc0 at r0 r1 r2 r3 r4 r5 r6
    dsimp only at r0 r1 r2 r3 r4 r5 r6
    by_cases hlt : k < l.length
    · have hki : (k : Int) < (l.length : Int) := by omega
      obtain ⟨bb, o, a, d, rfl, hnm, c0, c1, c2, c3, c4, c5, c6⟩ := oc_cells HL.out (HX.out.trans HB.out) hlt
      have HNM := Lib.hid hnm
      have HN : Hid (isOc c n l[k] = false → ∀ j (h : j < l.length), j < k + 1 → isOc c n l[j] = false) := Lib.hid fun hi j hj hjk => by
        by_cases hjk' : j = k
        · subst hjk'; exact hi
        · exact HT.out j hj (by omega)
      have HFD : Hid (isOc c n l[k] = true → doneL l c n = (l[k], true)) := Lib.hid fun hi => doneL_some hlt (fun j hj => HT.out j (by omega) hj) hi
      clear hnm
      generalize l[k] = x at *
      have HI : Hid (isOc c n x = (x.c == c && x.n == n)) := Lib.hid rfl
      cases g1 : (x.c == c) with
      | true =>
        cases g2 : (x.n == n) with
        | true =>
          have HFX := Lib.hid (HFD.out (by rw [HI.out, g1, g2]; rfl))
          go_wp2_with fail
          have hF := ext_set7 (w := w) (HX.out.trans HB.out) (B := w.heap.size) (Nat.le_refl _) (.int .i64 x.c) (.int .i64 x.n) (.int .i64 x.r) (.int .i64 x.s) (.int .i64 x.l) (.int .i64 x.e) (.slice a x.nm.length d)
          rw [HFX.out]
          refine bodyPost_ret (v := .tuple #[.agg #[.int .i64 x.c, .int .i64 x.n, .int .i64 x.r, .int .i64 x.s, .int .i64 x.l, .int .i64 x.e, .slice a x.nm.length d], .bool true]) ?_ rfl ⟨_, rfl, ⟨a, d, rfl, HNM.out⟩, hF⟩
          simp [results, Tryd.results23, go_sem, r0, r1, r2, r3, r4, r5, r6]
        | false =>
          have HNX := Lib.hid (HN.out (by rw [HI.out, g1, g2]; rfl))
          go_wp2_with fail
          go_roundw
          case rel => exact ⟨k + 1, by go_num, by omega, HNX.out, HB.out⟩
          case measure => simp [intOf] <;> omega
      | false =>
        have HNX := Lib.hid (HN.out (by rw [HI.out, g1]; rfl))
        go_wp2_with fail
        go_roundw
        case rel => exact ⟨k + 1, by go_num, by omega, HNX.out, HB.out⟩
        case measure => simp [intOf] <;> omega
    · have hki : ¬ (k : Int) < (l.length : Int) := by omega
      have HR := Lib.hid (doneL_none (l := l) (c := c) (n := n) fun j hj => HT.out j hj (by omega))
      go_wp2_with fail
      have hF := ext_set7 (w := w) (HX.out.trans HB.out) (B := w.heap.size) (Nat.le_refl _) (.int .i64 0) (.int .i64 0) (.int .i64 0) (.int .i64 0) (.int .i64 0) (.int .i64 0) (.slice none 0 0)
      rw [HR.out]
      refine bodyPost_ret (v := .tuple #[.agg #[.int .i64 0, .int .i64 0, .int .i64 0, .int .i64 0, .int .i64 0, .int .i64 0, .slice none 0 0], .bool false]) ?_ rfl ⟨_, rfl, RepO1.zero _, hF⟩
      simp [results, Tryd.results23, go_sem, r0, r1, r2, r3, r4, r5, r6]
end Go.Proofs.YtahaplioegeloaaDoor
namespace Go.Sz
open Go.RowKit
theorem RepOL.isnil {w : World} {cap : Nat} {rows : List (List Value)} {l : List Oc} (h : RepOL w none cap rows l) : cap = 0 ∧ rows = [] ∧ l = [] := by
  have h1 := h.sl.nil rfl
  have h2 := h.sl.le
  have h3 := h.len
  subst h1
  have h4 : rows = [] := List.length_eq_zero_iff.1 (by omega)
  subst h4
  exact ⟨rfl, rfl, List.length_eq_zero_iff.1 h3.symm⟩
theorem RepOL.snoc {w W : World} {ao a : Option Addr} {cap d : Nat} {rows : List (List Value)} {l : List Oc} (h : RepOL w ao cap rows l) (hE : Ext w W) {cs : List Value} {o : Oc} (hs : SL W 7 a d (rows ++ [cs])) (ho : RepO1 W cs o) : RepOL W a d (rows ++ [cs]) (l ++ [o]) := by
  refine ⟨hs, by simp [h.len], fun i r x h1 h2 => ?_⟩
  rcases Nat.lt_or_ge i rows.length with hi | hi
  · rw [List.getElem?_append_left hi] at h1
    rw [List.getElem?_append_left (by rw [← h.len]; exact hi)] at h2
    exact (h.el i r x h1 h2).ext hE
  · have hi0 : i = rows.length := by
      have := (List.getElem?_eq_some_iff.1 h1).1
      simp at this; omega
    subst hi0
    rw [List.getElem?_append_right (Nat.le_refl _)] at h1
    rw [h.len, List.getElem?_append_right (Nat.le_refl _)] at h2
    simp at h1 h2
    subst h1 h2
    exact ho
def okC (o : Oc) : Bool := decide (0 ≤ o.c) && decide (o.c < 7) && decide (1 ≤ o.n) && decide (o.n ≤ 1048576) && decide (1 ≤ o.r) && decide (o.r ≤ 7)
def noteL (l : List Oc) (o : Oc) : List Oc × Int := if okC o = true then (if (doneL l o.c o.n).2 = true then ([], 291) else (l ++ [o], 0)) else ([], 290)
def noteD (l : List Oc) (o : Oc) (dd : Oc × Bool) : List Oc × Int := if dd.2 = true then ([], 291) else (l ++ [o], 0)
theorem noteL_bad {l : List Oc} {o : Oc} (h : okC o = false) : noteL l o = ([], 290) := by unfold noteL; rw [h]; rfl
theorem noteL_met {l : List Oc} {o : Oc} (h : okC o = true) (h2 : (doneL l o.c o.n).2 = true) : noteL l o = ([], 291) := by unfold noteL; rw [if_pos h, if_pos h2]
theorem noteL_new {l : List Oc} {o : Oc} (h : okC o = true) (h2 : (doneL l o.c o.n).2 = false) : noteL l o = (l ++ [o], 0) := by unfold noteL; rw [if_pos h, h2]; rfl
def RetNt (w : World) (r : List Oc × Int) (e : Ending) (w' : World) : Prop := ∃ a d rows, e = .returned (.tuple #[.slice a r.1.length d, .int .i64 r.2]) ∧ RepOL w' a d rows r.1 ∧ Ext w w'
end Go.Sz
namespace Go.Proofs.YtahaplioegeloaaDoor
open Go.RowKit Go.Sz
theorem infoC : (Tryd.prog.info? 42).map (fun i => (i.zero, i.size, i.bytes)) = some (some (.agg #[.int .i64 0, .int .i64 0, .int .i64 0, .int .i64 0, .int .i64 0, .int .i64 0, .slice none 0 0]), 7, 72) := by kernel_rfl
set_option maxRecDepth 100000 in
set_option maxHeartbeats 6400000 in
theorem cloneC_any (l : List Oc) (rows : List (List Value)) (ao : Option Addr) (cap : Nat) (w : World) (h : RepOL w ao cap rows l) (hb : l.length ≤ 100000) : Calls Tryd.prog 45 #[.slice ao l.length cap] w fun e w' => ∃ v, e = .returned v ∧ w'.ownsRow w.heap.size 42 7 v l.length rows.flatten ∧ Ext w w' := by
  have HL := Lib.hid h
  have hs1 := h.max
  obtain ⟨i0, hi, hz0, hz1, hz2⟩ := info_parts infoC
  have hnil := fun (w : World) (a : Option Addr) (n c : Nat) => Lib.run_eql_slice_nil (P := Tryd.prog) w 39 42 a n c 0 0 Tryd.underlying39
  cases ao with
  | none =>
    obtain ⟨rfl, rfl, rfl⟩ := h.isnil
    clear h
    go_enter Tryd.func45, Tryd.ntmps45
    go_wp2_with fail
    go_ret
    exact ⟨_, rfl, World.ownsRow_nil _ _ _ _, Ext.refl _⟩
  | some a =>
    clear h
    have hX : Ext w (w.alloc (.cells #[] 42)) := (Ext.refl w).alloc _
    have HSRC : Hid (Src Tryd.prog 7 39 (.slice (some a) l.length cap) l.length rows.flatten (w.alloc (.cells #[] 42))) := Lib.hid (by
      have := SL.src (P := Tryd.prog) (HL.out.sl.ext hX) (by omega) (tx := 39) Tryd.underlying39 HL.out.one
      rwa [HL.out.len] at this)
    have HOE := Lib.hid (own_empty w w.heap.size (Nat.le_refl _) 42 7)
    have HB := Lib.hid hb
    clear hb
    go_enter Tryd.func45, Tryd.ntmps45
    go_wp2_with (at_builtin; refine wpList_append_S rfl _ _ 39 39 rfl w.heap.size 42 i0 _ 7 72 Tryd.underlying39 hi hz0 hz1 hz2 rfl _ _ _ rfl HOE.out (.slice (some a) l.length cap) l.length rows.flatten rfl HSRC.out (by have := HB.out; unfold maxLen; omega) (by have := HB.out; omega) (by simp) ?_; intro v6 w6 ho6 hg6; have HO6 := Lib.hid ho6; have HG6 := Lib.hid hg6; clear ho6 hg6)
    go_ret
    refine ⟨_, rfl, ?_, Ext.trans' hX HG6.out (fun k hk => by have h1 : some w.heap.size = some k := hk; injection h1 with h1; omega)⟩
    have := HO6.out
    simpa using this
set_option maxRecDepth 100000 in
set_option maxHeartbeats 6400000 in
theorem note_bad (c n r s l e : Int) (nm : List Int) (a : Option Addr) (d : Nat) (ll : List Oc) (ao : Option Addr) (cap : Nat) (w : World) (hbad : ¬ (0 ≤ c ∧ c < 7 ∧ 1 ≤ n ∧ n ≤ 1048576 ∧ 1 ≤ r ∧ r ≤ 7)) : Calls Tryd.prog 24 #[.slice ao ll.length cap, .agg #[.int .i64 c, .int .i64 n, .int .i64 r, .int .i64 s, .int .i64 l, .int .i64 e, .slice a nm.length d]] w fun e w' => e = .returned (.tuple #[.slice none 0 0, .int .i64 290]) ∧ Ext w w' := by
  have HX : Hid (Ext w (w.alloc (.cells #[.int .i64 c, .int .i64 n, .int .i64 r, .int .i64 s, .int .i64 l, .int .i64 e, .slice a nm.length d] 42))) := Lib.hid ((Ext.refl w).alloc _)
  obtain ⟨b0, b1, b2, -, -, -, -, -⟩ := BoxC.new w ⟨c, n, r, s, l, e, nm⟩ a d 42 _ rfl
  unfold Oc.cells at b0 b1 b2
  dsimp only at b0 b1 b2
  have HBAD := Lib.hid hbad
  clear hbad
  by_cases q0 : c < 0
  · have g0 : c < 0 := by omega
    go_enter Tryd.func24, Tryd.ntmps24
    go_wp2_with fail
    go_ret2
    exact ⟨rfl, HX.out⟩
  · have g0 : (0 : Int) ≤ c := by omega
    have g0' : ¬ c < 0 := by omega
    by_cases q1 : 6 < c
    · have g1 : 7 ≤ c := by omega
      go_enter Tryd.func24, Tryd.ntmps24
      go_wp2_with fail
      go_ret2
      exact ⟨rfl, HX.out⟩
    · have g1 : c < 7 := by omega
      have g1' : ¬ 7 ≤ c := by omega
      by_cases q2 : n < 1
      · have g2 : n < 1 := by omega
        go_enter Tryd.func24, Tryd.ntmps24
        go_wp2_with fail
        go_ret2
        exact ⟨rfl, HX.out⟩
      · have g2 : (1 : Int) ≤ n := by omega
        have g2' : ¬ n < 1 := by omega
        by_cases q3 : 1048576 < n
        · have g3 : (1048576 : Int) < n := by omega
          go_enter Tryd.func24, Tryd.ntmps24
          go_wp2_with fail
          go_ret2
          exact ⟨rfl, HX.out⟩
        · have g3 : n ≤ 1048576 := by omega
          have g3' : ¬ (1048576 : Int) < n := by omega
          by_cases q4 : r < 1
          · have g4 : r < 1 := by omega
            go_enter Tryd.func24, Tryd.ntmps24
            go_wp2_with fail
            go_ret2
            exact ⟨rfl, HX.out⟩
          · have g4 : (1 : Int) ≤ r := by omega
            have g4' : ¬ r < 1 := by omega
            by_cases q5 : 7 < r
            · have g5 : (7 : Int) < r := by omega
              go_enter Tryd.func24, Tryd.ntmps24
              go_wp2_with fail
              go_ret2
              exact ⟨rfl, HX.out⟩
            · have g5 : r ≤ 7 := by omega
              have g5' : ¬ (7 : Int) < r := by omega
              exact absurd (show 0 ≤ c ∧ c < 7 ∧ 1 ≤ n ∧ n ≤ 1048576 ∧ 1 ≤ r ∧ r ≤ 7 by omega) HBAD.out
set_option maxRecDepth 100000 in
set_option maxHeartbeats 6400000 in
theorem note_good (c n r s l e : Int) (nm : List Int) (a : Option Addr) (d : Nat) (ll : List Oc) (rows : List (List Value)) (ao : Option Addr) (cap : Nat) (w : World) (hL : RepOL w ao cap rows ll) (hb : ll.length ≤ 100000) (hnm : SL w 1 a d (irows nm)) (h1 : 0 ≤ c) (h2 : c < 7) (h3 : 1 ≤ n) (h4 : n ≤ 1048576) (h5 : 1 ≤ r) (h6 : r ≤ 7) : Calls Tryd.prog 24 #[.slice ao ll.length cap, .agg #[.int .i64 c, .int .i64 n, .int .i64 r, .int .i64 s, .int .i64 l, .int .i64 e, .slice a nm.length d]] w (RetNt w (noteD ll ⟨c, n, r, s, l, e, nm⟩ (doneL ll c n))) := by
  have hX : Ext w (w.alloc (.cells #[.int .i64 c, .int .i64 n, .int .i64 r, .int .i64 s, .int .i64 l, .int .i64 e, .slice a nm.length d] 42)) := (Ext.refl w).alloc _
  have HDN := Lib.hid (done_any ll rows c n ao cap (w.alloc (.cells #[.int .i64 c, .int .i64 n, .int .i64 r, .int .i64 s, .int .i64 l, .int .i64 e, .slice a nm.length d] 42)) (hL.ext hX))
  have HBX := Lib.hid (BoxC.new w ⟨c, n, r, s, l, e, nm⟩ a d 42 _ rfl)
  obtain ⟨b0, b1, b2, b3, b4, b5, b6, bz⟩ := BoxC.new w ⟨c, n, r, s, l, e, nm⟩ a d 42 _ rfl
  unfold Oc.cells at b0 b1 b2
  dsimp only at b0 b1 b2
  clear b3 b4 b5 b6 bz
  have h1' : ¬ c < 0 := by omega
  have h2' : ¬ (7 : Int) ≤ c := by omega
  have h3' : ¬ n < 1 := by omega
  have h4' : ¬ (1048576 : Int) < n := by omega
  have h5' : ¬ r < 1 := by omega
  have h6' : ¬ (7 : Int) < r := by omega
  have HX := Lib.hid hX
  have HL := Lib.hid hL
  have HB := Lib.hid hb
  have HNM := Lib.hid hnm
  clear hX hL hb hnm
  generalize doneL ll c n = dd at *
  obtain ⟨dx, db⟩ := dd
  go_enter Tryd.func24, Tryd.ntmps24
  go_wp2_with fail
  refine HDN.out.mono ?_
  rintro e9 w2 ⟨cs, rfl, ⟨a2, d2, rfl, hnm2⟩, hE⟩
  have HXE := Lib.hid (HX.out.trans hE)
  have HBE := Lib.hid (HBX.out.ext hE)
  unfold Oc.cells
  clear hnm2 hE b0 b1 b2
  cases db with
  | true =>
    rw [show noteD ll ⟨c, n, r, s, l, e, nm⟩ (dx, true) = ([], 291) from rfl]
    go_wp2_with fail
    go_ret2
    exact ⟨none, 0, [], rfl, RepOL.nil _, HXE.out.alloc _⟩
  | false =>
    rw [show noteD ll ⟨c, n, r, s, l, e, nm⟩ (dx, false) = (ll ++ [⟨c, n, r, s, l, e, nm⟩], 0) from rfl]
    go_wp2_with fail
    have HX3 : Hid (Ext w2 (w2.alloc (.cells #[.int .i64 dx.c, .int .i64 dx.n, .int .i64 dx.r, .int .i64 dx.s, .int .i64 dx.l, .int .i64 dx.e, .slice a2 dx.nm.length d2] 42))) := Lib.hid ((Ext.refl w2).alloc _)
    generalize (w2.alloc (.cells #[.int .i64 dx.c, .int .i64 dx.n, .int .i64 dx.r, .int .i64 dx.s, .int .i64 dx.l, .int .i64 dx.e, .slice a2 dx.nm.length d2] 42)) = w3 at *
    have HXW := Lib.hid (HXE.out.trans HX3.out)
    have hlw : w.heap.size ≤ w3.heap.size := HXW.out.size
    obtain ⟨e0, e1, e2, e3, e4, e5, e6, -⟩ := HBE.out.ext HX3.out
    dsimp only at e0 e1 e2 e3 e4 e5 e6
    have ge0 := grow_cell e0
    have ge1 := grow_cell e1
    have ge2 := grow_cell e2
    have ge3 := grow_cell e3
    have ge4 := grow_cell e4
    have ge5 := grow_cell e5
    have ge6 := grow_cell e6
    obtain ⟨i0, hi, hz0, hz1, hz2⟩ := info_parts infoC
    refine wp_region_rel (fun k => if k = 1 then some (spOwn w.heap.size 42 7 ll.length rows) else if k = 3 then some (spSL 7 1 1 [[.int .i64 c, .int .i64 n, .int .i64 r, .int .i64 s, .int .i64 l, .int .i64 e, .slice a nm.length d]]) else none) 4 3 (by kernel_rfl) (by kernel_rfl) ?_
    simp only [List.take_succ_cons, List.take_zero]
    repeat (first
      | (refine wpRel_quick ?_ ?_ ?_ ?_
         · rfl
         · rfl
         · first | exact noEnter rfl | (intro f args W W'; go_simp)
         intro K hK
         go_big_quiet_op
         go_big_quiet_on)
      | (refine wpRel_skip ?_ ?_
         · rfl
         simp only [Act.put, List.setIfInBounds_toArray, List.set_cons_zero, List.set_cons_succ]))
    refine wpRel_rich _ rfl rfl (fun W hW => ?_) (fun v W1 hW1 hv => ?_)
    · have hEW : Ext w3 W := (Ext.refl w3).drew.trans hW.1
      have hc := cloneC_any ll rows ao cap W (HL.out.ext (HXW.out.trans hEW)) HB.out
      go_simp
      refine Calls.mono hc ?_
      rintro e w' ⟨v, rfl, ho, hE⟩
      exact ⟨_, rfl, ownsRow_base ho (Nat.le_trans hlw hEW.size), hE⟩
    obtain ⟨ac, cc, rfl, _, _⟩ := SL.of_own hv HL.out.sl.wid HL.out.len
    clear hW1 hv
    simp only [Act.put, List.setIfInBounds_toArray, List.set_cons_zero, List.set_cons_succ]
    repeat (first
      | (refine wpRel_quick ?_ ?_ ?_ ?_
         · rfl
         · rfl
         · first | exact noEnter rfl | (intro f args W W'; go_simp)
         intro K hK
         go_big_quiet_op
         go_big_quiet_on)
      | (refine wpRel_skip ?_ ?_
         · rfl
         simp only [Act.put, List.setIfInBounds_toArray, List.set_cons_zero, List.set_cons_succ]))
    refine wpRel_rich _ rfl rfl (fun W hW => ?_) (fun v3 W3 hW3 hv3 => ?_)
    · go_simp
      exact ⟨⟨_, rfl, sl_new W [.int .i64 c, .int .i64 n, .int .i64 r, .int .i64 s, .int .i64 l, .int .i64 e, .slice a nm.length d] 7 _ rfl⟩, (Ext.refl _).alloc _⟩
    obtain ⟨ap, rfl, _⟩ := hv3
    clear hW3
    simp only [Act.put, List.setIfInBounds_toArray, List.set_cons_zero, List.set_cons_succ]
    refine wpRel_nil ?_
    intro W hW
    have ho3 := hW.2 1 trivial _ _ rfl rfl
    obtain ⟨ap', hap, hs5⟩ := hW.2 3 trivial _ _ rfl rfl
    cases hap
    have hEW : Ext w3 W := (Ext.refl w3).drew.trans hW.1
    have hXW := HXW.out.trans hEW
    have HRB := Lib.hid (ownsRow_blocks ho3)
    refine wpAny_ready (rs := [4]) (by kernel_rfl) (by simp) ?_
    refine AllReady.cons rfl (fun K hK => ?_) AllReady.nil
    refine step_append_S rfl _ _ 39 39 rfl w.heap.size 42 i0 _ 7 72 Tryd.underlying39 hi hz0 hz1 hz2 rfl _ ll.length rows.flatten rfl ho3 (.slice ap 1 1) 1 [.int .i64 c, .int .i64 n, .int .i64 r, .int .i64 s, .int .i64 l, .int .i64 e, .slice a nm.length d] rfl ?_ (by have := HB.out; unfold maxLen; omega) (by have := HB.out; omega) hXW.size ?_
    · have := hs5.src (P := Tryd.prog) (by omega) Tryd.underlying39 (by simp [Value.oneCell'])
      simpa using this
    intro v6 w6 ho6 hg6
    have hX6 : Ext w w6 := hXW.trans' hg6 (fun k hk => HRB.out k hk)
    have ho6' : w6.ownsRow w.heap.size 42 7 v6 (ll.length + 1) (rows ++ ([[.int .i64 c, .int .i64 n, .int .i64 r, .int .i64 s, .int .i64 l, .int .i64 e, .slice a nm.length d]] : List (List Value))).flatten := by simpa using ho6
    obtain ⟨ao3, cap3, rfl, hs6, hfar⟩ := SL.of_own ho6' (by have := HL.out.sl.wid; intro r hr; rcases List.mem_append.1 hr with h | h; exact this r h; simp at h; subst h; rfl) (by simp [HL.out.len])
    have HS6 := Lib.hid hs6
    have HX6 := Lib.hid hX6
    clear ho6 ho6' ho3 hs5 hfar hs6 hg6 hX6
    refine hK _ _ ?_
    clear hK K
    simp only [Act.put, List.setIfInBounds_toArray]
    refine wpAny_ready (rs := [5]) (by kernel_rfl) (by simp) ?_
    refine AllReady.cons rfl (fun K hK => ?_) AllReady.nil
    go_simp
    refine hK _ _ ?_
    clear hK K
    refine wpAny_ready (rs := [6]) (by kernel_rfl) (by simp) ?_
    refine AllReady.cons rfl (fun K hK => ?_) AllReady.nil
    go_simp
    refine hK _ _ ?_
    clear hK K
    refine wpAny_done (by kernel_rfl) ?_ _
    clear hW e0 e1 e2 e3 e4 e5 e6 ge0 ge1 ge2 ge3 ge4 ge5 ge6
    go_wp2_with fail
    go_ret2
    exact ⟨ao3, cap3, _, by simp [noteD], HL.out.snoc HX6.out HS6.out ⟨a, d, rfl, HNM.out.ext HX6.out⟩, HX6.out⟩
set_option maxRecDepth 100000 in
set_option maxHeartbeats 6400000 in
theorem note_any (ll : List Oc) (o : Oc) (rows : List (List Value)) (ao : Option Addr) (cap : Nat) (cs : List Value) (w : World) (hL : RepOL w ao cap rows ll) (hb : ll.length ≤ 100000) (ho : RepO1 w cs o) : Calls Tryd.prog 24 #[.slice ao ll.length cap, .agg cs.toArray] w (RetNt w (noteL ll o)) := by
  obtain ⟨a, d, rfl, hnm⟩ := ho
  obtain ⟨c, n, r, s, l, e, nm⟩ := o
  by_cases hg : 0 ≤ c ∧ c < 7 ∧ 1 ≤ n ∧ n ≤ 1048576 ∧ 1 ≤ r ∧ r ≤ 7
  · obtain ⟨h1, h2, h3, h4, h5, h6⟩ := hg
    have hk : okC ⟨c, n, r, s, l, e, nm⟩ = true := by
      unfold okC
      simp only [Bool.and_eq_true, decide_eq_true_eq]
      omega
    have := note_good c n r s l e nm a d ll rows ao cap w hL hb hnm h1 h2 h3 h4 h5 h6
    unfold noteL
    rw [if_pos hk]
    exact this
  · have hk : okC ⟨c, n, r, s, l, e, nm⟩ = false := by
      rw [Bool.eq_false_iff]
      intro h
      unfold okC at h
      simp only [Bool.and_eq_true, decide_eq_true_eq] at h
      omega
    rw [noteL_bad hk]
    refine (note_bad c n r s l e nm a d ll ao cap w hg).mono ?_
    rintro e w' ⟨rfl, hE⟩
    exact ⟨none, 0, [], rfl, RepOL.nil _, hE⟩
set_option maxRecDepth 100000 in
set_option maxHeartbeats 6400000 in
theorem refNote_bad (c n r s l e : Int) (nm : List Int) (a : Option Addr) (d : Nat) (ll : List Oc) (ao : Option Addr) (cap : Nat) (w : World) (hbad : ¬ (0 ≤ c ∧ c < 7 ∧ 1 ≤ n ∧ n ≤ 1048576 ∧ 1 ≤ r ∧ r ≤ 7)) : Calls Tryd.prog 25 #[.slice ao ll.length cap, .agg #[.int .i64 c, .int .i64 n, .int .i64 r, .int .i64 s, .int .i64 l, .int .i64 e, .slice a nm.length d]] w fun e w' => e = .returned (.tuple #[.slice none 0 0, .int .i64 290]) ∧ Ext w w' := by
  have HX : Hid (Ext w (w.alloc (.cells #[.int .i64 c, .int .i64 n, .int .i64 r, .int .i64 s, .int .i64 l, .int .i64 e, .slice a nm.length d] 42))) := Lib.hid ((Ext.refl w).alloc _)
  obtain ⟨b0, b1, b2, -, -, -, -, -⟩ := BoxC.new w ⟨c, n, r, s, l, e, nm⟩ a d 42 _ rfl
  unfold Oc.cells at b0 b1 b2
  dsimp only at b0 b1 b2
  have HBAD := Lib.hid hbad
  clear hbad
  by_cases q0 : c < 0
  · have g0 : c < 0 := by omega
    go_enter Tryd.func25, Tryd.ntmps25
    go_wp2_with fail
    go_ret2
    exact ⟨rfl, HX.out⟩
  · have g0 : (0 : Int) ≤ c := by omega
    have g0' : ¬ c < 0 := by omega
    by_cases q1 : 6 < c
    · have g1 : 7 ≤ c := by omega
      go_enter Tryd.func25, Tryd.ntmps25
      go_wp2_with fail
      go_ret2
      exact ⟨rfl, HX.out⟩
    · have g1 : c < 7 := by omega
      have g1' : ¬ 7 ≤ c := by omega
      by_cases q2 : n < 1
      · have g2 : n < 1 := by omega
        go_enter Tryd.func25, Tryd.ntmps25
        go_wp2_with fail
        go_ret2
        exact ⟨rfl, HX.out⟩
      · have g2 : (1 : Int) ≤ n := by omega
        have g2' : ¬ n < 1 := by omega
        by_cases q3 : 1048576 < n
        · have g3 : (1048576 : Int) < n := by omega
          go_enter Tryd.func25, Tryd.ntmps25
          go_wp2_with fail
          go_ret2
          exact ⟨rfl, HX.out⟩
        · have g3 : n ≤ 1048576 := by omega
          have g3' : ¬ (1048576 : Int) < n := by omega
          by_cases q4 : r < 1
          · have g4 : r < 1 := by omega
            go_enter Tryd.func25, Tryd.ntmps25
            go_wp2_with fail
            go_ret2
            exact ⟨rfl, HX.out⟩
          · have g4 : (1 : Int) ≤ r := by omega
            have g4' : ¬ r < 1 := by omega
            by_cases q5 : 7 < r
            · have g5 : (7 : Int) < r := by omega
              go_enter Tryd.func25, Tryd.ntmps25
              go_wp2_with fail
              go_ret2
              exact ⟨rfl, HX.out⟩
            · have g5 : r ≤ 7 := by omega
              have g5' : ¬ (7 : Int) < r := by omega
              exact absurd (show 0 ≤ c ∧ c < 7 ∧ 1 ≤ n ∧ n ≤ 1048576 ∧ 1 ≤ r ∧ r ≤ 7 by omega) HBAD.out
set_option maxRecDepth 100000 in
set_option maxHeartbeats 6400000 in
theorem refNote_good (c n r s l e : Int) (nm : List Int) (a : Option Addr) (d : Nat) (ll : List Oc) (rows : List (List Value)) (ao : Option Addr) (cap : Nat) (w : World) (hL : RepOL w ao cap rows ll) (hb : ll.length ≤ 100000) (hnm : SL w 1 a d (irows nm)) (h1 : 0 ≤ c) (h2 : c < 7) (h3 : 1 ≤ n) (h4 : n ≤ 1048576) (h5 : 1 ≤ r) (h6 : r ≤ 7) : Calls Tryd.prog 25 #[.slice ao ll.length cap, .agg #[.int .i64 c, .int .i64 n, .int .i64 r, .int .i64 s, .int .i64 l, .int .i64 e, .slice a nm.length d]] w (RetNt w (noteD ll ⟨c, n, r, s, l, e, nm⟩ (doneL ll c n))) := by
  have hX : Ext w (w.alloc (.cells #[.int .i64 c, .int .i64 n, .int .i64 r, .int .i64 s, .int .i64 l, .int .i64 e, .slice a nm.length d] 42)) := (Ext.refl w).alloc _
  have HDN := Lib.hid (refDone_any ll rows c n ao cap (w.alloc (.cells #[.int .i64 c, .int .i64 n, .int .i64 r, .int .i64 s, .int .i64 l, .int .i64 e, .slice a nm.length d] 42)) (hL.ext hX))
  have HBX := Lib.hid (BoxC.new w ⟨c, n, r, s, l, e, nm⟩ a d 42 _ rfl)
  obtain ⟨b0, b1, b2, b3, b4, b5, b6, bz⟩ := BoxC.new w ⟨c, n, r, s, l, e, nm⟩ a d 42 _ rfl
  unfold Oc.cells at b0 b1 b2
  dsimp only at b0 b1 b2
  clear b3 b4 b5 b6 bz
  have h1' : ¬ c < 0 := by omega
  have h2' : ¬ (7 : Int) ≤ c := by omega
  have h3' : ¬ n < 1 := by omega
  have h4' : ¬ (1048576 : Int) < n := by omega
  have h5' : ¬ r < 1 := by omega
  have h6' : ¬ (7 : Int) < r := by omega
  have HX := Lib.hid hX
  have HL := Lib.hid hL
  have HB := Lib.hid hb
  have HNM := Lib.hid hnm
  clear hX hL hb hnm
  generalize doneL ll c n = dd at *
  obtain ⟨dx, db⟩ := dd
  go_enter Tryd.func25, Tryd.ntmps25
  go_wp2_with fail
  refine HDN.out.mono ?_
  rintro e9 w2 ⟨cs, rfl, ⟨a2, d2, rfl, hnm2⟩, hE⟩
  have HXE := Lib.hid (HX.out.trans hE)
  have HBE := Lib.hid (HBX.out.ext hE)
  unfold Oc.cells
  clear hnm2 hE b0 b1 b2
  cases db with
  | true =>
    rw [show noteD ll ⟨c, n, r, s, l, e, nm⟩ (dx, true) = ([], 291) from rfl]
    go_wp2_with fail
    go_ret2
    exact ⟨none, 0, [], rfl, RepOL.nil _, HXE.out.alloc _⟩
  | false =>
    rw [show noteD ll ⟨c, n, r, s, l, e, nm⟩ (dx, false) = (ll ++ [⟨c, n, r, s, l, e, nm⟩], 0) from rfl]
    go_wp2_with fail
    have HX3 : Hid (Ext w2 (w2.alloc (.cells #[.int .i64 dx.c, .int .i64 dx.n, .int .i64 dx.r, .int .i64 dx.s, .int .i64 dx.l, .int .i64 dx.e, .slice a2 dx.nm.length d2] 42))) := Lib.hid ((Ext.refl w2).alloc _)
    generalize (w2.alloc (.cells #[.int .i64 dx.c, .int .i64 dx.n, .int .i64 dx.r, .int .i64 dx.s, .int .i64 dx.l, .int .i64 dx.e, .slice a2 dx.nm.length d2] 42)) = w3 at *
    have HXW := Lib.hid (HXE.out.trans HX3.out)
    have hlw : w.heap.size ≤ w3.heap.size := HXW.out.size
    obtain ⟨e0, e1, e2, e3, e4, e5, e6, -⟩ := HBE.out.ext HX3.out
    dsimp only at e0 e1 e2 e3 e4 e5 e6
    have ge0 := grow_cell e0
    have ge1 := grow_cell e1
    have ge2 := grow_cell e2
    have ge3 := grow_cell e3
    have ge4 := grow_cell e4
    have ge5 := grow_cell e5
    have ge6 := grow_cell e6
    obtain ⟨i0, hi, hz0, hz1, hz2⟩ := info_parts infoC
    refine wp_region_rel (fun k => if k = 0 then some (spE w.heap.size 42 7) else if k = 2 then some (spOwn w.heap.size 42 7 ll.length rows) else if k = 4 then some (spSL 7 1 1 [[.int .i64 c, .int .i64 n, .int .i64 r, .int .i64 s, .int .i64 l, .int .i64 e, .slice a nm.length d]]) else none) 5 3 (by kernel_rfl) (by kernel_rfl) ?_
    simp only [List.take_succ_cons, List.take_zero]
    refine wpRel_rich _ rfl rfl (fun W hW => ?_) (fun v W1 hW1 hv => ?_)
    · go_simp
      exact ⟨⟨_, rfl, own_empty W _ (Nat.le_trans hlw hW.1.size) _ _⟩, (Ext.refl _).alloc _⟩
    obtain ⟨g0, rfl, _⟩ := hv
    clear hW1
    simp only [Act.put, List.setIfInBounds_toArray, List.set_cons_zero, List.set_cons_succ]
    repeat (first
      | (refine wpRel_quick ?_ ?_ ?_ ?_
         · rfl
         · rfl
         · first | exact noEnter rfl | (intro f args W W'; go_simp)
         intro K hK
         go_big_quiet_op
         go_big_quiet_on)
      | (refine wpRel_skip ?_ ?_
         · rfl
         simp only [Act.put, List.setIfInBounds_toArray, List.set_cons_zero, List.set_cons_succ]))
    refine wpRel_rich _ rfl rfl (fun W hW => ?_) (fun v W2 hW2 hv => ?_)
    · obtain ⟨g1, hg1, ho⟩ := hW.2 0 (by unfold Anc; kernel_rfl) _ _ rfl rfl
      have hx : Ext w W := HXW.out.trans ((Ext.refl w3).drew.trans hW.1)
      refine g_append_fresh _ _ 39 39 rfl 42 i0 _ 7 72 Tryd.underlying39 hi hz0 hz1 hz2 rfl (by omega) _ hx.size g0 rfl ho (.slice ao ll.length cap) ll.length rows rfl ?_ HL.out.sl.wid HL.out.len (by have := HB.out; unfold maxLen; omega) (by have := HB.out; omega)
      have := (HL.out.sl.ext hx).src (P := Tryd.prog) (by omega) Tryd.underlying39 HL.out.one
      rwa [HL.out.len] at this
    obtain ⟨ac, cc, rfl, _, _⟩ := SL.of_own hv HL.out.sl.wid HL.out.len
    clear hW2 hv
    simp only [Act.put, List.setIfInBounds_toArray, List.set_cons_zero, List.set_cons_succ]
    repeat (first
      | (refine wpRel_quick ?_ ?_ ?_ ?_
         · rfl
         · rfl
         · first | exact noEnter rfl | (intro f args W W'; go_simp)
         intro K hK
         go_big_quiet_op
         go_big_quiet_on)
      | (refine wpRel_skip ?_ ?_
         · rfl
         simp only [Act.put, List.setIfInBounds_toArray, List.set_cons_zero, List.set_cons_succ]))
    refine wpRel_rich _ rfl rfl (fun W hW => ?_) (fun v3 W3 hW3 hv3 => ?_)
    · go_simp
      exact ⟨⟨_, rfl, sl_new W [.int .i64 c, .int .i64 n, .int .i64 r, .int .i64 s, .int .i64 l, .int .i64 e, .slice a nm.length d] 7 _ rfl⟩, (Ext.refl _).alloc _⟩
    obtain ⟨ap, rfl, _⟩ := hv3
    clear hW3
    simp only [Act.put, List.setIfInBounds_toArray, List.set_cons_zero, List.set_cons_succ]
    refine wpRel_nil ?_
    intro W hW
    have ho3 := hW.2 2 trivial _ _ rfl rfl
    obtain ⟨ap', hap, hs5⟩ := hW.2 4 trivial _ _ rfl rfl
    cases hap
    have hEW : Ext w3 W := (Ext.refl w3).drew.trans hW.1
    have hXW := HXW.out.trans hEW
    have HRB := Lib.hid (ownsRow_blocks ho3)
    refine wpAny_ready (rs := [5]) (by kernel_rfl) (by simp) ?_
    refine AllReady.cons rfl (fun K hK => ?_) AllReady.nil
    refine step_append_S rfl _ _ 39 39 rfl w.heap.size 42 i0 _ 7 72 Tryd.underlying39 hi hz0 hz1 hz2 rfl _ ll.length rows.flatten rfl ho3 (.slice ap 1 1) 1 [.int .i64 c, .int .i64 n, .int .i64 r, .int .i64 s, .int .i64 l, .int .i64 e, .slice a nm.length d] rfl ?_ (by have := HB.out; unfold maxLen; omega) (by have := HB.out; omega) hXW.size ?_
    · have := hs5.src (P := Tryd.prog) (by omega) Tryd.underlying39 (by simp [Value.oneCell'])
      simpa using this
    intro v6 w6 ho6 hg6
    have hX6 : Ext w w6 := hXW.trans' hg6 (fun k hk => HRB.out k hk)
    have ho6' : w6.ownsRow w.heap.size 42 7 v6 (ll.length + 1) (rows ++ ([[.int .i64 c, .int .i64 n, .int .i64 r, .int .i64 s, .int .i64 l, .int .i64 e, .slice a nm.length d]] : List (List Value))).flatten := by simpa using ho6
    obtain ⟨ao3, cap3, rfl, hs6, hfar⟩ := SL.of_own ho6' (by have := HL.out.sl.wid; intro r hr; rcases List.mem_append.1 hr with h | h; exact this r h; simp at h; subst h; rfl) (by simp [HL.out.len])
    have HS6 := Lib.hid hs6
    have HX6 := Lib.hid hX6
    clear ho6 ho6' ho3 hs5 hfar hs6 hg6 hX6
    refine hK _ _ ?_
    clear hK K
    simp only [Act.put, List.setIfInBounds_toArray]
    refine wpAny_ready (rs := [6]) (by kernel_rfl) (by simp) ?_
    refine AllReady.cons rfl (fun K hK => ?_) AllReady.nil
    go_simp
    refine hK _ _ ?_
    clear hK K
    refine wpAny_ready (rs := [7]) (by kernel_rfl) (by simp) ?_
    refine AllReady.cons rfl (fun K hK => ?_) AllReady.nil
    go_simp
    refine hK _ _ ?_
    clear hK K
    refine wpAny_done (by kernel_rfl) ?_ _
    clear hW e0 e1 e2 e3 e4 e5 e6 ge0 ge1 ge2 ge3 ge4 ge5 ge6
    go_wp2_with fail
    go_ret2
    exact ⟨ao3, cap3, _, by simp [noteD], HL.out.snoc HX6.out HS6.out ⟨a, d, rfl, HNM.out.ext HX6.out⟩, HX6.out⟩
set_option maxRecDepth 100000 in
set_option maxHeartbeats 6400000 in
theorem refNote_any (ll : List Oc) (o : Oc) (rows : List (List Value)) (ao : Option Addr) (cap : Nat) (cs : List Value) (w : World) (hL : RepOL w ao cap rows ll) (hb : ll.length ≤ 100000) (ho : RepO1 w cs o) : Calls Tryd.prog 25 #[.slice ao ll.length cap, .agg cs.toArray] w (RetNt w (noteL ll o)) := by
  obtain ⟨a, d, rfl, hnm⟩ := ho
  obtain ⟨c, n, r, s, l, e, nm⟩ := o
  by_cases hg : 0 ≤ c ∧ c < 7 ∧ 1 ≤ n ∧ n ≤ 1048576 ∧ 1 ≤ r ∧ r ≤ 7
  · obtain ⟨h1, h2, h3, h4, h5, h6⟩ := hg
    have hk : okC ⟨c, n, r, s, l, e, nm⟩ = true := by
      unfold okC
      simp only [Bool.and_eq_true, decide_eq_true_eq]
      omega
    have := refNote_good c n r s l e nm a d ll rows ao cap w hL hb hnm h1 h2 h3 h4 h5 h6
    unfold noteL
    rw [if_pos hk]
    exact this
  · have hk : okC ⟨c, n, r, s, l, e, nm⟩ = false := by
      rw [Bool.eq_false_iff]
      intro h
      unfold okC at h
      simp only [Bool.and_eq_true, decide_eq_true_eq] at h
      omega
    rw [noteL_bad hk]
    refine (refNote_bad c n r s l e nm a d ll ao cap w hg).mono ?_
    rintro e w' ⟨rfl, hE⟩
    exact ⟨none, 0, [], rfl, RepOL.nil _, hE⟩
end Go.Proofs.YtahaplioegeloaaDoor
namespace Go.Sz
def eqQ (r s : Rq) : Bool := decide (r = s)
def eqC (o p : Oc) : Bool := decide (o = p)
end Go.Sz
namespace Go.Proofs.YtahaplioegeloaaDoor
open Go.RowKit Go.Sz
set_option maxRecDepth 100000 in
set_option maxHeartbeats 6400000 in
theorem sameQ_in (pc pn ps pk pt pg ph py qc qn qs qk qt qg qh qy : Int) (pch qch : List Bd) (ao ao2 : Option Addr) (cap cap2 : Nat) (w : World) (h : RepB w ao cap pch) (h' : RepB w ao2 cap2 qch) : Calls Tryd.prog 21 #[.agg #[.int .i64 pc, .int .i64 pn, .int .i64 ps, .int .i64 pk, .int .i64 pt, .slice ao pch.length cap, .int .i64 pg, .int .i64 ph, .int .i64 py], .agg #[.int .i64 qc, .int .i64 qn, .int .i64 qs, .int .i64 qk, .int .i64 qt, .slice ao2 qch.length cap2, .int .i64 qg, .int .i64 qh, .int .i64 qy]] w fun e w' => e = .returned (.bool (eqQ ⟨pc, pn, ps, pk, pt, pch, pg, ph, py⟩ ⟨qc, qn, qs, qk, qt, qch, qg, qh, qy⟩)) ∧ Ext w w' := by
  have hX : Ext w ((w.alloc (.cells #[.int .i64 pc, .int .i64 pn, .int .i64 ps, .int .i64 pk, .int .i64 pt, .slice ao pch.length cap, .int .i64 pg, .int .i64 ph, .int .i64 py] 26)).alloc (.cells #[.int .i64 qc, .int .i64 qn, .int .i64 qs, .int .i64 qk, .int .i64 qt, .slice ao2 qch.length cap2, .int .i64 qg, .int .i64 qh, .int .i64 qy] 26)) := ((Ext.refl w).alloc _).alloc _
  have HBA : Hid (BoxQ ((w.alloc (.cells #[.int .i64 pc, .int .i64 pn, .int .i64 ps, .int .i64 pk, .int .i64 pt, .slice ao pch.length cap, .int .i64 pg, .int .i64 ph, .int .i64 py] 26)).alloc (.cells #[.int .i64 qc, .int .i64 qn, .int .i64 qs, .int .i64 qk, .int .i64 qt, .slice ao2 qch.length cap2, .int .i64 qg, .int .i64 qh, .int .i64 qy] 26)) w.heap.size ⟨pc, pn, ps, pk, pt, pch, pg, ph, py⟩ ao cap) := Lib.hid ((BoxQ.new w ⟨pc, pn, ps, pk, pt, pch, pg, ph, py⟩ ao cap 26 _ rfl).ext ((Ext.refl _).alloc (.cells #[.int .i64 qc, .int .i64 qn, .int .i64 qs, .int .i64 qk, .int .i64 qt, .slice ao2 qch.length cap2, .int .i64 qg, .int .i64 qh, .int .i64 qy] 26)))
  have HBB : Hid (BoxQ ((w.alloc (.cells #[.int .i64 pc, .int .i64 pn, .int .i64 ps, .int .i64 pk, .int .i64 pt, .slice ao pch.length cap, .int .i64 pg, .int .i64 ph, .int .i64 py] 26)).alloc (.cells #[.int .i64 qc, .int .i64 qn, .int .i64 qs, .int .i64 qk, .int .i64 qt, .slice ao2 qch.length cap2, .int .i64 qg, .int .i64 qh, .int .i64 qy] 26)) (w.heap.size + 1) ⟨qc, qn, qs, qk, qt, qch, qg, qh, qy⟩ ao2 cap2) := Lib.hid (BoxQ.new (w.alloc (.cells #[.int .i64 pc, .int .i64 pn, .int .i64 ps, .int .i64 pk, .int .i64 pt, .slice ao pch.length cap, .int .i64 pg, .int .i64 ph, .int .i64 py] 26)) ⟨qc, qn, qs, qk, qt, qch, qg, qh, qy⟩ ao2 cap2 26 (w.heap.size + 1) (by simp))
  have HL := Lib.hid h
  have HL' := Lib.hid h'
  have HX := Lib.hid hX
  have hs1 : (pch.length : Int) ≤ 9223372036854775807 := h.max
  have hs2 : (qch.length : Int) ≤ 9223372036854775807 := h'.max
  clear h h' hX
  obtain ⟨a0, a1, a2, a3, a4, a5, a6, a7, a8, -⟩ := HBA.out
  obtain ⟨b0, b1, b2, b3, b4, b5, b6, b7, b8, -⟩ := HBB.out
  dsimp only at a0 b0 a1 b1 a2 b2 a3 b3 a4 b4 a5 b5 a6 b6 a7 b7 a8 b8
  by_cases hl : pch.length = qch.length
  · have g1 : ((pch.length : Int) != (qch.length : Int)) = false := by simp; omega
    have HLE := Lib.hid hl
    clear hl
    go_enter Tryd.func21, Tryd.ntmps21
    go_wp2_with fail
    clear a0 b0 a1 b1 a2 b2 a3 b3 a4 b4 a5 b5 a6 b6 a7 b7 a8 b8
    generalize ((w.alloc (.cells #[.int .i64 pc, .int .i64 pn, .int .i64 ps, .int .i64 pk, .int .i64 pt, .slice ao pch.length cap, .int .i64 pg, .int .i64 ph, .int .i64 py] 26)).alloc (.cells #[.int .i64 qc, .int .i64 qn, .int .i64 qs, .int .i64 qk, .int .i64 qt, .slice ao2 qch.length cap2, .int .i64 qg, .int .i64 qh, .int .i64 qy] 26)) = w1 at *
    go_loopw [5] (fun iv wr => ∃ k : Nat, iv = .int .i64 k ∧ k ≤ pch.length ∧ pch.take k = qch.take k ∧ Ext w1 wr) (fun iv _ => pch.length - (intOf iv).toNat)
    case atStart => exact ⟨0, rfl, by omega, by simp, Ext.refl _⟩
    case round =>
      obtain ⟨k, rfl, hk, ht, hB⟩ := hrel
      have HT := Lib.hid ht
      have HB := Lib.hid hB
      clear ht hB
      obtain ⟨a0, a1, a2, a3, a4, a5, a6, a7, a8, -⟩ := HBA.out.ext HB.out
      obtain ⟨b0, b1, b2, b3, b4, b5, b6, b7, b8, -⟩ := HBB.out.ext HB.out
      dsimp only at a0 b0 a1 b1 a2 b2 a3 b3 a4 b4 a5 b5 a6 b6 a7 b7 a8 b8
      by_cases hlt : k < pch.length
      · have hki : (k : Int) < (pch.length : Int) := by omega
        have hk' : k < qch.length := by have := HLE.out; omega
        have hki' : (k : Int) < (qch.length : Int) := by omega
        obtain ⟨b, o, rfl, c0, c1⟩ := b_cells HL.out (HX.out.trans HB.out) hlt
        obtain ⟨b', o', rfl, d0, d1⟩ := b_cells HL'.out (HX.out.trans HB.out) hk'
        have HNX := Lib.hid (take_eq_of hlt hk' HT.out)
        have HNE : Hid (pch[k] ≠ qch[k] → pch ≠ qch) := Lib.hid fun h e => h (by subst e; rfl)
        generalize pch[k] = x at *
        generalize qch[k] = y at *
        have he := eqB x.1 x.2 y.1 y.2
        have gc0 := grow_cell c0
        have gd0 := grow_cell d0
        have gc1 := grow_cell c1
        have gd1 := grow_cell d1
        have ga := grow_cell a5
        have gb := grow_cell b5
        cases hc : (x.1 == y.1 && x.2 == y.2) with
        | true =>
          have HXY := Lib.hid (Prod.ext (eq_of_beq (Bool.and_eq_true_iff.1 hc).1) (eq_of_beq (Bool.and_eq_true_iff.1 hc).2))
          rw [hc] at he
          clear hc
          go_wp2_with fail
          refine wp_region_rel_all (fun _ => none) (by kernel_rfl) (by kernel_rfl) ?_
          repeat (first
            | (refine wpRel_quick ?_ ?_ ?_ ?_
               · rfl
               · rfl
               · first | exact noEnter rfl | (intro f args W W'; go_simp)
               intro K hK
               go_big_quiet_op
               go_big_quiet_on)
            | (refine wpRel_skip ?_ ?_
               · rfl
               simp only [Act.put, List.setIfInBounds_toArray, List.set_cons_zero, List.set_cons_succ]))
          refine wpRel_nil ?_
          intro W3 hW3
          have HE3 := Lib.hid (HB.out.trans ((Ext.refl _).drew.trans hW3.1))
          clear hW3 gc0 gd0 gc1 gd1 ga gb he
          go_wp2_with fail
          go_roundw
          case rel => exact ⟨k + 1, by go_num, by omega, HNX.out HXY.out, HE3.out⟩
          case measure => simp [intOf] <;> omega
        | false =>
          have HXY : Hid (x ≠ y) := Lib.hid (fun e => by rw [e] at hc; simp at hc)
          rw [hc] at he
          clear hc
          go_wp2_with fail
          refine wp_region_rel_all (fun _ => none) (by kernel_rfl) (by kernel_rfl) ?_
          repeat (first
            | (refine wpRel_quick ?_ ?_ ?_ ?_
               · rfl
               · rfl
               · first | exact noEnter rfl | (intro f args W W'; go_simp)
               intro K hK
               go_big_quiet_op
               go_big_quiet_on)
            | (refine wpRel_skip ?_ ?_
               · rfl
               simp only [Act.put, List.setIfInBounds_toArray, List.set_cons_zero, List.set_cons_succ]))
          refine wpRel_nil ?_
          intro W3 hW3
          have HE3 := Lib.hid (HB.out.trans ((Ext.refl _).drew.trans hW3.1))
          clear hW3 gc0 gd0 gc1 gd1 ga gb he
          go_wp2_with fail
          go_ret
          exact ⟨ret_bool (decide_eq_false (by rw [Rq.mk.injEq]; rintro ⟨ec, en, es, ek, et, ech, eg, eh, ey⟩; exact HNE.out HXY.out ech)).symm, HX.out.trans HE3.out⟩
      · have hki : ¬ (k : Int) < (pch.length : Int) := by omega
        have HEQ : Hid (pch = qch) := Lib.hid (by
          have h1 := HT.out
          rw [List.take_of_length_le (by omega), List.take_of_length_le (by have := HLE.out; omega)] at h1
          exact h1)
        clear HBA HBB
        cases g0 : (pc == qc) with
        | true =>
          cases g1 : (pn == qn) with
          | true =>
            cases g2 : (ps == qs) with
            | true =>
              cases g3 : (pk == qk) with
              | true =>
                cases g4 : (pt == qt) with
                | true =>
                  cases g5 : (pg == qg && ph == qh) with
                  | true =>
                    have he := eqB pg ph qg qh
                    rw [g5] at he
                    cases g6 : (py == qy) with
                    | true =>
                      have HD := Lib.hid (show eqQ ⟨pc, pn, ps, pk, pt, pch, pg, ph, py⟩ ⟨qc, qn, qs, qk, qt, qch, qg, qh, qy⟩ = true from decide_eq_true (p := (⟨pc, pn, ps, pk, pt, pch, pg, ph, py⟩ : Rq) = ⟨qc, qn, qs, qk, qt, qch, qg, qh, qy⟩) (by rw [Rq.mk.injEq]; exact ⟨eq_of_beq g0, eq_of_beq g1, eq_of_beq g2, eq_of_beq g3, eq_of_beq g4, HEQ.out, eq_of_beq (Bool.and_eq_true_iff.1 g5).1, eq_of_beq (Bool.and_eq_true_iff.1 g5).2, eq_of_beq g6⟩))
                      go_wp2_with fail
                      go_ret
                      exact ⟨by rw [HD.out]; rfl, HX.out.trans HB.out⟩
                    | false =>
                      have HD := Lib.hid (show eqQ ⟨pc, pn, ps, pk, pt, pch, pg, ph, py⟩ ⟨qc, qn, qs, qk, qt, qch, qg, qh, qy⟩ = false from decide_eq_false (p := (⟨pc, pn, ps, pk, pt, pch, pg, ph, py⟩ : Rq) = ⟨qc, qn, qs, qk, qt, qch, qg, qh, qy⟩) (by rw [Rq.mk.injEq]; rintro ⟨ec, en, es, ek, et, ech, eg, eh, ey⟩; exact ne_of_beq_false g6 ey))
                      go_wp2_with fail
                      go_ret
                      exact ⟨by rw [HD.out]; rfl, HX.out.trans HB.out⟩
                  | false =>
                    have he := eqB pg ph qg qh
                    rw [g5] at he
                    have HD := Lib.hid (show eqQ ⟨pc, pn, ps, pk, pt, pch, pg, ph, py⟩ ⟨qc, qn, qs, qk, qt, qch, qg, qh, qy⟩ = false from decide_eq_false (p := (⟨pc, pn, ps, pk, pt, pch, pg, ph, py⟩ : Rq) = ⟨qc, qn, qs, qk, qt, qch, qg, qh, qy⟩) (by rw [Rq.mk.injEq]; rintro ⟨ec, en, es, ek, et, ech, eg, eh, ey⟩; rw [eg, eh] at g5; simp at g5))
                    go_wp2_with fail
                    go_ret
                    exact ⟨by rw [HD.out]; rfl, HX.out.trans HB.out⟩
                | false =>
                  have HD := Lib.hid (show eqQ ⟨pc, pn, ps, pk, pt, pch, pg, ph, py⟩ ⟨qc, qn, qs, qk, qt, qch, qg, qh, qy⟩ = false from decide_eq_false (p := (⟨pc, pn, ps, pk, pt, pch, pg, ph, py⟩ : Rq) = ⟨qc, qn, qs, qk, qt, qch, qg, qh, qy⟩) (by rw [Rq.mk.injEq]; rintro ⟨ec, en, es, ek, et, ech, eg, eh, ey⟩; exact ne_of_beq_false g4 et))
                  go_wp2_with fail
                  go_ret
                  exact ⟨by rw [HD.out]; rfl, HX.out.trans HB.out⟩
              | false =>
                have HD := Lib.hid (show eqQ ⟨pc, pn, ps, pk, pt, pch, pg, ph, py⟩ ⟨qc, qn, qs, qk, qt, qch, qg, qh, qy⟩ = false from decide_eq_false (p := (⟨pc, pn, ps, pk, pt, pch, pg, ph, py⟩ : Rq) = ⟨qc, qn, qs, qk, qt, qch, qg, qh, qy⟩) (by rw [Rq.mk.injEq]; rintro ⟨ec, en, es, ek, et, ech, eg, eh, ey⟩; exact ne_of_beq_false g3 ek))
                go_wp2_with fail
                go_ret
                exact ⟨by rw [HD.out]; rfl, HX.out.trans HB.out⟩
            | false =>
              have HD := Lib.hid (show eqQ ⟨pc, pn, ps, pk, pt, pch, pg, ph, py⟩ ⟨qc, qn, qs, qk, qt, qch, qg, qh, qy⟩ = false from decide_eq_false (p := (⟨pc, pn, ps, pk, pt, pch, pg, ph, py⟩ : Rq) = ⟨qc, qn, qs, qk, qt, qch, qg, qh, qy⟩) (by rw [Rq.mk.injEq]; rintro ⟨ec, en, es, ek, et, ech, eg, eh, ey⟩; exact ne_of_beq_false g2 es))
              go_wp2_with fail
              go_ret
              exact ⟨by rw [HD.out]; rfl, HX.out.trans HB.out⟩
          | false =>
            have HD := Lib.hid (show eqQ ⟨pc, pn, ps, pk, pt, pch, pg, ph, py⟩ ⟨qc, qn, qs, qk, qt, qch, qg, qh, qy⟩ = false from decide_eq_false (p := (⟨pc, pn, ps, pk, pt, pch, pg, ph, py⟩ : Rq) = ⟨qc, qn, qs, qk, qt, qch, qg, qh, qy⟩) (by rw [Rq.mk.injEq]; rintro ⟨ec, en, es, ek, et, ech, eg, eh, ey⟩; exact ne_of_beq_false g1 en))
            go_wp2_with fail
            go_ret
            exact ⟨by rw [HD.out]; rfl, HX.out.trans HB.out⟩
        | false =>
          have HD := Lib.hid (show eqQ ⟨pc, pn, ps, pk, pt, pch, pg, ph, py⟩ ⟨qc, qn, qs, qk, qt, qch, qg, qh, qy⟩ = false from decide_eq_false (p := (⟨pc, pn, ps, pk, pt, pch, pg, ph, py⟩ : Rq) = ⟨qc, qn, qs, qk, qt, qch, qg, qh, qy⟩) (by rw [Rq.mk.injEq]; rintro ⟨ec, en, es, ek, et, ech, eg, eh, ey⟩; exact ne_of_beq_false g0 ec))
          go_wp2_with fail
          go_ret
          exact ⟨by rw [HD.out]; rfl, HX.out.trans HB.out⟩
  · have g1 : ((pch.length : Int) != (qch.length : Int)) = true := by simp; omega
    have HLE : Hid (pch ≠ qch) := Lib.hid fun e => hl (by rw [e])
    clear hl
    go_enter Tryd.func21, Tryd.ntmps21
    go_wp2_with fail
    go_ret
    exact ⟨ret_bool (decide_eq_false (by rw [Rq.mk.injEq]; rintro ⟨ec, en, es, ek, et, ech, eg, eh, ey⟩; exact HLE.out ech)).symm, HX.out⟩
set_option maxRecDepth 100000 in
set_option maxHeartbeats 6400000 in
theorem sameC_in (pc pn pr ps pl pe qc qn qr qs ql qe : Int) (pnm qnm : List Int) (ao ao2 : Option Addr) (cap cap2 : Nat) (w : World) (h : SL w 1 ao cap (irows pnm)) (h' : SL w 1 ao2 cap2 (irows qnm)) : Calls Tryd.prog 26 #[.agg #[.int .i64 pc, .int .i64 pn, .int .i64 pr, .int .i64 ps, .int .i64 pl, .int .i64 pe, .slice ao pnm.length cap], .agg #[.int .i64 qc, .int .i64 qn, .int .i64 qr, .int .i64 qs, .int .i64 ql, .int .i64 qe, .slice ao2 qnm.length cap2]] w fun e w' => e = .returned (.bool (eqC ⟨pc, pn, pr, ps, pl, pe, pnm⟩ ⟨qc, qn, qr, qs, ql, qe, qnm⟩)) ∧ Ext w w' := by
  have hX : Ext w ((w.alloc (.cells #[.int .i64 pc, .int .i64 pn, .int .i64 pr, .int .i64 ps, .int .i64 pl, .int .i64 pe, .slice ao pnm.length cap] 42)).alloc (.cells #[.int .i64 qc, .int .i64 qn, .int .i64 qr, .int .i64 qs, .int .i64 ql, .int .i64 qe, .slice ao2 qnm.length cap2] 42)) := ((Ext.refl w).alloc _).alloc _
  have HBA : Hid (BoxC ((w.alloc (.cells #[.int .i64 pc, .int .i64 pn, .int .i64 pr, .int .i64 ps, .int .i64 pl, .int .i64 pe, .slice ao pnm.length cap] 42)).alloc (.cells #[.int .i64 qc, .int .i64 qn, .int .i64 qr, .int .i64 qs, .int .i64 ql, .int .i64 qe, .slice ao2 qnm.length cap2] 42)) w.heap.size ⟨pc, pn, pr, ps, pl, pe, pnm⟩ ao cap) := Lib.hid ((BoxC.new w ⟨pc, pn, pr, ps, pl, pe, pnm⟩ ao cap 42 _ rfl).ext ((Ext.refl _).alloc (.cells #[.int .i64 qc, .int .i64 qn, .int .i64 qr, .int .i64 qs, .int .i64 ql, .int .i64 qe, .slice ao2 qnm.length cap2] 42)))
  have HBB : Hid (BoxC ((w.alloc (.cells #[.int .i64 pc, .int .i64 pn, .int .i64 pr, .int .i64 ps, .int .i64 pl, .int .i64 pe, .slice ao pnm.length cap] 42)).alloc (.cells #[.int .i64 qc, .int .i64 qn, .int .i64 qr, .int .i64 qs, .int .i64 ql, .int .i64 qe, .slice ao2 qnm.length cap2] 42)) (w.heap.size + 1) ⟨qc, qn, qr, qs, ql, qe, qnm⟩ ao2 cap2) := Lib.hid (BoxC.new (w.alloc (.cells #[.int .i64 pc, .int .i64 pn, .int .i64 pr, .int .i64 ps, .int .i64 pl, .int .i64 pe, .slice ao pnm.length cap] 42)) ⟨qc, qn, qr, qs, ql, qe, qnm⟩ ao2 cap2 42 (w.heap.size + 1) (by simp))
  have HL := Lib.hid h
  have HL' := Lib.hid h'
  have HX := Lib.hid hX
  have hs1 : (pnm.length : Int) ≤ 9223372036854775807 := irows_max h
  have hs2 : (qnm.length : Int) ≤ 9223372036854775807 := irows_max h'
  clear h h' hX
  obtain ⟨a0, a1, a2, a3, a4, a5, a6, -⟩ := HBA.out
  obtain ⟨b0, b1, b2, b3, b4, b5, b6, -⟩ := HBB.out
  dsimp only at a0 b0 a1 b1 a2 b2 a3 b3 a4 b4 a5 b5 a6 b6
  by_cases hl : pnm.length = qnm.length
  · have g1 : ((pnm.length : Int) != (qnm.length : Int)) = false := by simp; omega
    have HLE := Lib.hid hl
    clear hl
    go_enter Tryd.func26, Tryd.ntmps26
    go_wp2_with fail
    clear a0 b0 a1 b1 a2 b2 a3 b3 a4 b4 a5 b5 a6 b6
    generalize ((w.alloc (.cells #[.int .i64 pc, .int .i64 pn, .int .i64 pr, .int .i64 ps, .int .i64 pl, .int .i64 pe, .slice ao pnm.length cap] 42)).alloc (.cells #[.int .i64 qc, .int .i64 qn, .int .i64 qr, .int .i64 qs, .int .i64 ql, .int .i64 qe, .slice ao2 qnm.length cap2] 42)) = w1 at *
    go_loopw [5] (fun iv wr => ∃ k : Nat, iv = .int .i64 k ∧ k ≤ pnm.length ∧ pnm.take k = qnm.take k ∧ Ext w1 wr) (fun iv _ => pnm.length - (intOf iv).toNat)
    case atStart => exact ⟨0, rfl, by omega, by simp, Ext.refl _⟩
    case round =>
      obtain ⟨k, rfl, hk, ht, hB⟩ := hrel
      have HT := Lib.hid ht
      have HB := Lib.hid hB
      clear ht hB
      obtain ⟨a0, a1, a2, a3, a4, a5, a6, -⟩ := HBA.out.ext HB.out
      obtain ⟨b0, b1, b2, b3, b4, b5, b6, -⟩ := HBB.out.ext HB.out
      dsimp only at a0 b0 a1 b1 a2 b2 a3 b3 a4 b4 a5 b5 a6 b6
      by_cases hlt : k < pnm.length
      · have hki : (k : Int) < (pnm.length : Int) := by omega
        have hk' : k < qnm.length := by have := HLE.out; omega
        have hki' : (k : Int) < (qnm.length : Int) := by omega
        obtain ⟨b, o, rfl, c0⟩ := irows_cell HL.out (HX.out.trans HB.out) hlt
        obtain ⟨b', o', rfl, d0⟩ := irows_cell HL'.out (HX.out.trans HB.out) hk'
        have HNX := Lib.hid (take_eq_of hlt hk' HT.out)
        have HNE : Hid (pnm[k] ≠ qnm[k] → pnm ≠ qnm) := Lib.hid fun h e => h (by subst e; rfl)
        generalize pnm[k] = x at *
        generalize qnm[k] = y at *
        have gc0 := grow_cell c0
        have gd0 := grow_cell d0
        have ga := grow_cell a6
        have gb := grow_cell b6
        cases hc : (x != y) with
        | true =>
          have HXY : Hid (x ≠ y) := Lib.hid (by simpa using hc)
          go_wp2_with fail
          refine wp_region_rel_all (fun _ => none) (by kernel_rfl) (by kernel_rfl) ?_
          repeat (first
            | (refine wpRel_quick ?_ ?_ ?_ ?_
               · rfl
               · rfl
               · first | exact noEnter rfl | (intro f args W W'; go_simp)
               intro K hK
               go_big_quiet_op
               go_big_quiet_on)
            | (refine wpRel_skip ?_ ?_
               · rfl
               simp only [Act.put, List.setIfInBounds_toArray, List.set_cons_zero, List.set_cons_succ]))
          refine wpRel_nil ?_
          intro W3 hW3
          have HE3 := Lib.hid (HB.out.trans ((Ext.refl _).drew.trans hW3.1))
          clear hW3 gc0 gd0 ga gb 
          go_wp2_with fail
          go_ret
          exact ⟨ret_bool (decide_eq_false (by rw [Oc.mk.injEq]; rintro ⟨ec, en, er, es, el, ee, enm⟩; exact HNE.out HXY.out enm)).symm, HX.out.trans HE3.out⟩
        | false =>
          have HXY : Hid (x = y) := Lib.hid (by simpa using hc)
          go_wp2_with fail
          refine wp_region_rel_all (fun _ => none) (by kernel_rfl) (by kernel_rfl) ?_
          repeat (first
            | (refine wpRel_quick ?_ ?_ ?_ ?_
               · rfl
               · rfl
               · first | exact noEnter rfl | (intro f args W W'; go_simp)
               intro K hK
               go_big_quiet_op
               go_big_quiet_on)
            | (refine wpRel_skip ?_ ?_
               · rfl
               simp only [Act.put, List.setIfInBounds_toArray, List.set_cons_zero, List.set_cons_succ]))
          refine wpRel_nil ?_
          intro W3 hW3
          have HE3 := Lib.hid (HB.out.trans ((Ext.refl _).drew.trans hW3.1))
          clear hW3 gc0 gd0 ga gb 
          go_wp2_with fail
          go_roundw
          case rel => exact ⟨k + 1, by go_num, by omega, HNX.out HXY.out, HE3.out⟩
          case measure => simp [intOf] <;> omega
      · have hki : ¬ (k : Int) < (pnm.length : Int) := by omega
        have HEQ : Hid (pnm = qnm) := Lib.hid (by
          have h1 := HT.out
          rw [List.take_of_length_le (by omega), List.take_of_length_le (by have := HLE.out; omega)] at h1
          exact h1)
        clear HBA HBB
        cases g0 : (pc == qc) with
        | true =>
          cases g1 : (pn == qn) with
          | true =>
            cases g2 : (pr == qr) with
            | true =>
              cases g3 : (ps == qs && pl == ql) with
              | true =>
                have he := eqB ps pl qs ql
                rw [g3] at he
                cases g4 : (pe == qe) with
                | true =>
                  have HD := Lib.hid (show eqC ⟨pc, pn, pr, ps, pl, pe, pnm⟩ ⟨qc, qn, qr, qs, ql, qe, qnm⟩ = true from decide_eq_true (p := (⟨pc, pn, pr, ps, pl, pe, pnm⟩ : Oc) = ⟨qc, qn, qr, qs, ql, qe, qnm⟩) (by rw [Oc.mk.injEq]; exact ⟨eq_of_beq g0, eq_of_beq g1, eq_of_beq g2, eq_of_beq (Bool.and_eq_true_iff.1 g3).1, eq_of_beq (Bool.and_eq_true_iff.1 g3).2, eq_of_beq g4, HEQ.out⟩))
                  go_wp2_with fail
                  go_ret
                  exact ⟨by rw [HD.out]; rfl, HX.out.trans HB.out⟩
                | false =>
                  have HD := Lib.hid (show eqC ⟨pc, pn, pr, ps, pl, pe, pnm⟩ ⟨qc, qn, qr, qs, ql, qe, qnm⟩ = false from decide_eq_false (p := (⟨pc, pn, pr, ps, pl, pe, pnm⟩ : Oc) = ⟨qc, qn, qr, qs, ql, qe, qnm⟩) (by rw [Oc.mk.injEq]; rintro ⟨ec, en, er, es, el, ee, enm⟩; exact ne_of_beq_false g4 ee))
                  go_wp2_with fail
                  go_ret
                  exact ⟨by rw [HD.out]; rfl, HX.out.trans HB.out⟩
              | false =>
                have he := eqB ps pl qs ql
                rw [g3] at he
                have HD := Lib.hid (show eqC ⟨pc, pn, pr, ps, pl, pe, pnm⟩ ⟨qc, qn, qr, qs, ql, qe, qnm⟩ = false from decide_eq_false (p := (⟨pc, pn, pr, ps, pl, pe, pnm⟩ : Oc) = ⟨qc, qn, qr, qs, ql, qe, qnm⟩) (by rw [Oc.mk.injEq]; rintro ⟨ec, en, er, es, el, ee, enm⟩; rw [es, el] at g3; simp at g3))
                go_wp2_with fail
                go_ret
                exact ⟨by rw [HD.out]; rfl, HX.out.trans HB.out⟩
            | false =>
              have HD := Lib.hid (show eqC ⟨pc, pn, pr, ps, pl, pe, pnm⟩ ⟨qc, qn, qr, qs, ql, qe, qnm⟩ = false from decide_eq_false (p := (⟨pc, pn, pr, ps, pl, pe, pnm⟩ : Oc) = ⟨qc, qn, qr, qs, ql, qe, qnm⟩) (by rw [Oc.mk.injEq]; rintro ⟨ec, en, er, es, el, ee, enm⟩; exact ne_of_beq_false g2 er))
              go_wp2_with fail
              go_ret
              exact ⟨by rw [HD.out]; rfl, HX.out.trans HB.out⟩
          | false =>
            have HD := Lib.hid (show eqC ⟨pc, pn, pr, ps, pl, pe, pnm⟩ ⟨qc, qn, qr, qs, ql, qe, qnm⟩ = false from decide_eq_false (p := (⟨pc, pn, pr, ps, pl, pe, pnm⟩ : Oc) = ⟨qc, qn, qr, qs, ql, qe, qnm⟩) (by rw [Oc.mk.injEq]; rintro ⟨ec, en, er, es, el, ee, enm⟩; exact ne_of_beq_false g1 en))
            go_wp2_with fail
            go_ret
            exact ⟨by rw [HD.out]; rfl, HX.out.trans HB.out⟩
        | false =>
          have HD := Lib.hid (show eqC ⟨pc, pn, pr, ps, pl, pe, pnm⟩ ⟨qc, qn, qr, qs, ql, qe, qnm⟩ = false from decide_eq_false (p := (⟨pc, pn, pr, ps, pl, pe, pnm⟩ : Oc) = ⟨qc, qn, qr, qs, ql, qe, qnm⟩) (by rw [Oc.mk.injEq]; rintro ⟨ec, en, er, es, el, ee, enm⟩; exact ne_of_beq_false g0 ec))
          go_wp2_with fail
          go_ret
          exact ⟨by rw [HD.out]; rfl, HX.out.trans HB.out⟩
  · have g1 : ((pnm.length : Int) != (qnm.length : Int)) = true := by simp; omega
    have HLE : Hid (pnm ≠ qnm) := Lib.hid fun e => hl (by rw [e])
    clear hl
    go_enter Tryd.func26, Tryd.ntmps26
    go_wp2_with fail
    go_ret
    exact ⟨ret_bool (decide_eq_false (by rw [Oc.mk.injEq]; rintro ⟨ec, en, er, es, el, ee, enm⟩; exact HLE.out enm)).symm, HX.out⟩
theorem sameQ_any (r s : Rq) (ao ao2 : Option Addr) (cap cap2 : Nat) (w : World) (h : RepB w ao cap r.ch) (h' : RepB w ao2 cap2 s.ch) : Calls Tryd.prog 21 #[.agg (r.cells ao cap).toArray, .agg (s.cells ao2 cap2).toArray] w fun e w' => e = .returned (.bool (decide (r = s))) ∧ Ext w w' := by
  obtain ⟨pc, pn, ps, pk, pt, pch, pg, ph, py⟩ := r
  obtain ⟨qc, qn, qs, qk, qt, qch, qg, qh, qy⟩ := s
  exact sameQ_in pc pn ps pk pt pg ph py qc qn qs qk qt qg qh qy pch qch ao ao2 cap cap2 w h h'
theorem sameC_any (o p : Oc) (cs ds : List Value) (w : World) (h : RepO1 w cs o) (h' : RepO1 w ds p) : Calls Tryd.prog 26 #[.agg cs.toArray, .agg ds.toArray] w fun e w' => e = .returned (.bool (decide (o = p))) ∧ Ext w w' := by
  obtain ⟨ao, cap, rfl, h1⟩ := h
  obtain ⟨ao2, cap2, rfl, h2⟩ := h'
  obtain ⟨pc, pn, pr, ps, pl, pe, pnm⟩ := o
  obtain ⟨qc, qn, qr, qs, ql, qe, qnm⟩ := p
  exact sameC_in pc pn pr ps pl pe qc qn qr qs ql qe pnm qnm ao ao2 cap cap2 w h1 h2
set_option maxRecDepth 100000 in
set_option maxHeartbeats 6400000 in
theorem sameL_any (l l' : List Oc) (rows rows' : List (List Value)) (ao ao2 : Option Addr) (cap cap2 : Nat) (w : World) (h : RepOL w ao cap rows l) (h' : RepOL w ao2 cap2 rows' l') : Calls Tryd.prog 27 #[.slice ao l.length cap, .slice ao2 l'.length cap2] w fun e w' => e = .returned (.bool (decide (l = l'))) ∧ Ext w w' := by
  have HL := Lib.hid h
  have HL' := Lib.hid h'
  have hs1 := h.max
  have hs2 := h'.max
  clear h h'
  by_cases hl : l.length = l'.length
  · have g1 : ((l.length : Int) != (l'.length : Int)) = false := by simp; omega
    have HLE := Lib.hid hl
    clear hl
    go_enter Tryd.func27, Tryd.ntmps27
    go_wp2_with fail
    go_loopw [5] (fun iv wr => ∃ k : Nat, iv = .int .i64 k ∧ k ≤ l.length ∧ l.take k = l'.take k ∧ Ext w wr) (fun iv _ => l.length - (intOf iv).toNat)
    case atStart => exact ⟨0, rfl, by omega, by simp, Ext.refl _⟩
    case round =>
      obtain ⟨k, rfl, hk, ht, hB⟩ := hrel
      have HT := Lib.hid ht
      have HB := Lib.hid hB
      clear ht hB
      by_cases hlt : k < l.length
      · have hki : (k : Int) < (l.length : Int) := by omega
        have hk' : k < l'.length := by have := HLE.out; omega
        have hki' : (k : Int) < (l'.length : Int) := by omega
        obtain ⟨b, o, a, d, rfl, hnm, c0, c1, c2, c3, c4, c5, c6⟩ := oc_cells HL.out HB.out hlt
        obtain ⟨b', o', a', d', rfl, hnm', d0, d1, d2, d3, d4, d5, d6⟩ := oc_cells HL'.out HB.out hk'
        have HNX := Lib.hid (take_eq_of hlt hk' HT.out)
        have HNE : Hid (l[k] ≠ l'[k] → l ≠ l') := Lib.hid fun h e => h (by subst e; rfl)
        generalize l[k] = x at *
        generalize l'[k] = y at *
        have HSM : Hid (∀ W, Ext wr W → Calls Tryd.prog 26 #[.agg #[.int .i64 x.c, .int .i64 x.n, .int .i64 x.r, .int .i64 x.s, .int .i64 x.l, .int .i64 x.e, .slice a x.nm.length d], .agg #[.int .i64 y.c, .int .i64 y.n, .int .i64 y.r, .int .i64 y.s, .int .i64 y.l, .int .i64 y.e, .slice a' y.nm.length d']] W fun e w' => e = .returned (.bool (decide (x = y))) ∧ Ext W w') := Lib.hid fun W hE => sameC_any x y _ _ W ⟨a, d, rfl, (hnm.ext HB.out).ext hE⟩ ⟨a', d', rfl, (hnm'.ext HB.out).ext hE⟩
        clear hnm hnm'
        have gc0 := grow_cell c0
        have gd0 := grow_cell d0
        have gc1 := grow_cell c1
        have gd1 := grow_cell d1
        have gc2 := grow_cell c2
        have gd2 := grow_cell d2
        have gc3 := grow_cell c3
        have gd3 := grow_cell d3
        have gc4 := grow_cell c4
        have gd4 := grow_cell d4
        have gc5 := grow_cell c5
        have gd5 := grow_cell d5
        have gc6 := grow_cell c6
        have gd6 := grow_cell d6
        cases hc : decide (x = y) with
        | true =>
          have HXY := Lib.hid (of_decide_eq_true hc)
          rw [hc] at HSM
          clear hc
          go_wp2_with fail
          refine wp_region_rel_all (fun i => if i = 8 then some (spV (.bool true)) else none) (by kernel_rfl) (by kernel_rfl) ?_
          repeat (first
            | (refine wpRel_quick ?_ ?_ ?_ ?_
               · rfl
               · rfl
               · first | exact noEnter rfl | (intro f args W W'; go_simp)
               intro K hK
               go_big_quiet_op
               go_big_quiet_on)
            | (refine wpRel_skip ?_ ?_
               · rfl
               simp only [Act.put, List.setIfInBounds_toArray, List.set_cons_zero, List.set_cons_succ]))
          refine wpRel_rich _ rfl rfl (fun W hW => ?_) (fun v W3 hW3 hv => ?_)
          · have hc := HSM.out W ((Ext.refl wr).drew.trans hW.1)
            go_simp
            refine Calls.mono hc ?_
            rintro e w' ⟨rfl, h⟩
            exact ⟨_, rfl, rfl, by first | exact h | (subst h; exact Ext.refl _)⟩
          obtain rfl := hv
          clear hW3
          simp only [Act.put, List.setIfInBounds_toArray, List.set_cons_zero, List.set_cons_succ]
          repeat (first
            | (refine wpRel_quick ?_ ?_ ?_ ?_
               · rfl
               · rfl
               · first | exact noEnter rfl | (intro f args W W'; go_simp)
               intro K hK
               go_big_quiet_op
               go_big_quiet_on)
            | (refine wpRel_skip ?_ ?_
               · rfl
               simp only [Act.put, List.setIfInBounds_toArray, List.set_cons_zero, List.set_cons_succ]))
          refine wpRel_nil ?_
          intro W3 hW3
          have HE3 := Lib.hid (HB.out.trans ((Ext.refl _).drew.trans hW3.1))
          clear hW3 gc0 gd0 gc1 gd1 gc2 gd2 gc3 gd3 gc4 gd4 gc5 gd5 gc6 gd6
          go_wp2_with fail
          go_roundw
          case rel => exact ⟨k + 1, by go_num, by omega, HNX.out HXY.out, HE3.out⟩
          case measure => simp [intOf] <;> omega
        | false =>
          have HXY := Lib.hid (of_decide_eq_false hc)
          rw [hc] at HSM
          clear hc
          go_wp2_with fail
          refine wp_region_rel_all (fun i => if i = 8 then some (spV (.bool false)) else none) (by kernel_rfl) (by kernel_rfl) ?_
          repeat (first
            | (refine wpRel_quick ?_ ?_ ?_ ?_
               · rfl
               · rfl
               · first | exact noEnter rfl | (intro f args W W'; go_simp)
               intro K hK
               go_big_quiet_op
               go_big_quiet_on)
            | (refine wpRel_skip ?_ ?_
               · rfl
               simp only [Act.put, List.setIfInBounds_toArray, List.set_cons_zero, List.set_cons_succ]))
          refine wpRel_rich _ rfl rfl (fun W hW => ?_) (fun v W3 hW3 hv => ?_)
          · have hc := HSM.out W ((Ext.refl wr).drew.trans hW.1)
            go_simp
            refine Calls.mono hc ?_
            rintro e w' ⟨rfl, h⟩
            exact ⟨_, rfl, rfl, by first | exact h | (subst h; exact Ext.refl _)⟩
          obtain rfl := hv
          clear hW3
          simp only [Act.put, List.setIfInBounds_toArray, List.set_cons_zero, List.set_cons_succ]
          repeat (first
            | (refine wpRel_quick ?_ ?_ ?_ ?_
               · rfl
               · rfl
               · first | exact noEnter rfl | (intro f args W W'; go_simp)
               intro K hK
               go_big_quiet_op
               go_big_quiet_on)
            | (refine wpRel_skip ?_ ?_
               · rfl
               simp only [Act.put, List.setIfInBounds_toArray, List.set_cons_zero, List.set_cons_succ]))
          refine wpRel_nil ?_
          intro W3 hW3
          have HE3 := Lib.hid (HB.out.trans ((Ext.refl _).drew.trans hW3.1))
          clear hW3 gc0 gd0 gc1 gd1 gc2 gd2 gc3 gd3 gc4 gd4 gc5 gd5 gc6 gd6
          go_wp2_with fail
          go_ret
          exact ⟨ret_bool (decide_eq_false (HNE.out HXY.out)).symm, HE3.out⟩
      · have hki : ¬ (k : Int) < (l.length : Int) := by omega
        have HEQ : Hid (l = l') := Lib.hid (by
          have h1 := HT.out
          rw [List.take_of_length_le (by omega), List.take_of_length_le (by have := HLE.out; omega)] at h1
          exact h1)
        go_wp2_with fail
        go_ret
        exact ⟨ret_bool (decide_eq_true HEQ.out).symm, HB.out⟩
  · have g1 : ((l.length : Int) != (l'.length : Int)) = true := by simp; omega
    have HLE : Hid (l ≠ l') := Lib.hid fun e => hl (by rw [e])
    clear hl
    go_enter Tryd.func27, Tryd.ntmps27
    go_wp2_with fail
    go_ret
    exact ⟨ret_bool (decide_eq_false HLE.out).symm, Ext.refl _⟩
end Go.Proofs.YtahaplioegeloaaDoor
