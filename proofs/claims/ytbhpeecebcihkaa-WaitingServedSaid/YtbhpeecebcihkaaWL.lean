/- Waiting: plain facts on sorted lists. No program in sight. -/
import Derived.Test.YtbhpeecebcihkaaW7
import Derived.Test.YtbhpeecebcihkaaW8
import Derived.Test.YtbhpeecebcihkaaWQ
import Derived.Test.YtbhpeecebcihkaaWK
namespace Go.Sz
theorem orL_five (x y z u v : Int) : orL [x, y, z, u, v] = if x = 0 then (if y = 0 then (if z = 0 then (if u = 0 then v else u) else z) else y) else x := by
  simp only [orL]
  repeat' split
  all_goals simp_all
theorem cmpW_neg {o p : Wt} : cmpW o p < 0 ↔ o.a < p.a ∨ (o.a = p.a ∧ (o.b < p.b ∨ (o.b = p.b ∧ (o.k < p.k ∨ (o.k = p.k ∧ (o.t < p.t ∨ (o.t = p.t ∧ o.s < p.s))))))) := by
  unfold cmpW
  rw [orL_five]
  have h1 := @cmpI_zero o.a p.a
  have h2 := @cmpI_zero o.b p.b
  have h3 := @cmpI_zero o.k p.k
  have h4 := @cmpI_zero o.t p.t
  have g1 := @cmpI_neg o.a p.a
  have g2 := @cmpI_neg o.b p.b
  have g3 := @cmpI_neg o.k p.k
  have g4 := @cmpI_neg o.t p.t
  have g5 := @cmpI_neg o.s p.s
  repeat' split
  all_goals omega
theorem cmpW_zero {o p : Wt} : cmpW o p = 0 ↔ o = p := by
  rw [Wt.ext']
  unfold cmpW
  rw [orL_five]
  have h1 := @cmpI_zero o.a p.a
  have h2 := @cmpI_zero o.b p.b
  have h3 := @cmpI_zero o.k p.k
  have h4 := @cmpI_zero o.t p.t
  have h5 := @cmpI_zero o.s p.s
  repeat' split
  all_goals omega
theorem isW_iff {s a b : Int} {o : Wt} : isW s a b o = true ↔ plOf o = (s, a, b) := by
  unfold isW plOf
  simp only [Bool.and_eq_true, beq_iff_eq, Prod.mk.injEq]
theorem isW_self (x : Wt) : isW x.s x.a x.b x = true := isW_iff.2 rfl
theorem cmpW_trans {o p q : Wt} (h1 : cmpW o p < 0) (h2 : cmpW p q < 0) : cmpW o q < 0 := by
  rw [cmpW_neg] at *
  omega
theorem cmpW_irr (o : Wt) : ¬ cmpW o o < 0 := by rw [cmpW_neg]; omega
theorem cmpW_tri (o p : Wt) : cmpW o p < 0 ∨ o = p ∨ cmpW p o < 0 := by
  rw [Wt.ext', cmpW_neg, cmpW_neg]
  omega
theorem cmpW_asym {o p : Wt} (h : cmpW o p < 0) : ¬ cmpW p o < 0 := by
  rw [cmpW_neg] at *
  omega
/-- a valid list, as a sorted one -/
abbrev SortW (l : List Wt) : Prop := l.Pairwise fun a b => cmpW a b < 0
/-- no place twice -/
abbrev OneW (l : List Wt) : Prop := l.Pairwise fun a b => plOf a ≠ plOf b
theorem metB_false {l : List Wt} {k : Nat} (h : k < l.length) : metB l k = false ↔ ∀ j (hj : j < k), plOf (l[j]'(by omega)) ≠ plOf l[k] := by
  rw [metB_at h, Bool.eq_false_iff, Ne, List.contains_iff_mem]
  constructor
  · intro hc j hj he
    exact hc (List.mem_map.2 ⟨l[j], List.mem_iff_getElem.2 ⟨j, by rw [List.length_take]; omega, by rw [List.getElem_take]⟩, he⟩)
  · intro hc hm
    obtain ⟨x, hx, hxe⟩ := List.mem_map.1 hm
    obtain ⟨j, hj, rfl⟩ := List.mem_iff_getElem.1 hx
    rw [List.length_take] at hj
    rw [List.getElem_take] at hxe
    exact hc j (by omega) hxe
theorem sortW_step {l : List Wt} (h : ∀ k (hk : k < l.length), 0 < k → cmpW (l[k - 1]'(by omega)) l[k] < 0) : SortW l := by
  rw [SortW, List.pairwise_iff_getElem]
  intro i j hi hj hij
  obtain ⟨d, rfl⟩ : ∃ d, j = i + 1 + d := ⟨j - i - 1, by omega⟩
  induction d with
  | zero => have := h (i + 1) hj (by omega); simpa using this
  | succ d ih =>
    have h1 := ih (by omega) (by omega)
    have h2 := h (i + 1 + (d + 1)) hj (by omega)
    have e : i + 1 + (d + 1) - 1 = i + 1 + d := by omega
    simp only [e] at h2
    exact cmpW_trans h1 h2
theorem okLW_iff {l : List Wt} : okLW l = true ↔ (∀ x ∈ l, okW x = true) ∧ SortW l ∧ OneW l := by
  unfold okLW
  rw [List.all_eq_true]
  constructor
  · intro h
    have h' : ∀ k (hk : k < l.length), okAtW l k = true := fun k hk => h k (by simpa using hk)
    have hall : ∀ k (hk : k < l.length), okW l[k] = true ∧ (0 < k → cmpW (l[k - 1]'(by omega)) l[k] < 0) ∧ metB l k = false := by
      intro k hk
      have := h' k hk
      rcases Nat.eq_zero_or_pos k with h0 | h0
      · subst h0
        rw [okAtW_zero hk] at this
        simp only [Bool.and_eq_true, Bool.not_eq_true'] at this
        exact ⟨this.1, fun h => by omega, this.2⟩
      · rw [okAtW_succ hk h0] at this
        simp only [Bool.and_eq_true, Bool.not_eq_true', decide_eq_true_eq] at this
        exact ⟨this.1.1, fun _ => this.1.2, this.2⟩
    refine ⟨fun x hx => ?_, sortW_step fun k hk h0 => (hall k hk).2.1 h0, ?_⟩
    · obtain ⟨k, hk, rfl⟩ := List.mem_iff_getElem.1 hx
      exact (hall k hk).1
    · rw [OneW, List.pairwise_iff_getElem]
      intro i j hi hj hij
      exact (metB_false hj).1 (hall j hj).2.2 i hij
  · rintro ⟨h1, h2, h3⟩ k hk
    have hk' : k < l.length := by simpa using hk
    have hm : metB l k = false := (metB_false hk').2 fun j hj => List.pairwise_iff_getElem.1 h3 j k (by omega) hk' hj
    have hv := h1 _ (List.getElem_mem hk')
    rcases Nat.eq_zero_or_pos k with h0 | h0
    · subst h0
      rw [okAtW_zero hk', hv, hm]
      rfl
    · rw [okAtW_succ hk' h0, hv, hm, decide_eq_true (List.pairwise_iff_getElem.1 h2 (k - 1) k (by omega) hk' (by omega))]
      rfl
theorem checkW_zero {l : List Wt} : checkW l = 0 ↔ okLW l = true := by
  unfold checkW
  split <;> simp_all
theorem SortW.get {l : List Wt} (h : SortW l) {i j : Nat} (hj : j < l.length) (hij : i < j) : cmpW (l[i]'(by omega)) l[j] < 0 := List.pairwise_iff_getElem.1 h i j (by omega) hj hij
theorem SortW.mono {l : List Wt} (h : SortW l) (x : Wt) : MonoW l x := fun s t ht hs hc => by
  rcases Nat.lt_or_ge s t with h1 | h1
  · exact cmpW_trans (h.get ht h1) hc
  · obtain rfl : s = t := by omega
    exact hc
/-- the place of x -/
def posW (l : List Wt) (x : Wt) : Nat := (l.takeWhile fun y => decide (cmpW y x < 0)).length
theorem posW_le (l : List Wt) (x : Wt) : posW l x ≤ l.length := by
  unfold posW
  exact (List.takeWhile_prefix _).length_le
theorem PosW.eq {l : List Wt} {x : Wt} {p : Nat} (h : PosW l x p) : p = posW l x := by
  unfold posW
  induction l generalizing p with
  | nil => have := h.le; simp at this; simpa using this
  | cons y l ih =>
    rw [List.takeWhile_cons]
    by_cases hy : cmpW y x < 0
    · rw [if_pos (decide_eq_true hy), List.length_cons]
      have hp : 0 < p := by
        rcases Nat.eq_zero_or_pos p with h0 | h0
        · have := h.ge 0 (by simp) (by omega)
          simp at this
          omega
        · exact h0
      obtain ⟨q, rfl⟩ : ∃ q, p = q + 1 := ⟨p - 1, by omega⟩
      rw [← ih (p := q) ⟨by have := h.le; simpa using this, fun t ht htq => h.lt (t + 1) (by simpa using ht) (by omega), fun t ht htq => h.ge (t + 1) (by simpa using ht) (by omega)⟩]
    · rw [if_neg (by simpa using hy)]
      rcases Nat.eq_zero_or_pos p with h0 | h0
      · simpa using h0
      · exact absurd (h.lt 0 (by simp) h0) hy
/-- some element has the place of x -/
def hasW (l : List Wt) (x : Wt) : Bool := l.any (isW x.s x.a x.b)
theorem findW_neg {l : List Wt} {P : Wt → Bool} : findW l P < 0 ↔ l.any P = false := by
  unfold findW
  cases h : l.findIdx? P with
  | none =>
    have := List.findIdx?_eq_none_iff.1 h
    simp only [List.any_eq_false]
    exact ⟨fun _ x hx => by rw [this x hx]; simp, fun _ => by omega⟩
  | some i =>
    obtain ⟨hi, hp, _⟩ := List.findIdx?_eq_some_iff_getElem.1 h
    constructor
    · intro h; simp only at h; omega
    · intro h
      rw [List.any_eq_false] at h
      exact absurd hp (h _ (List.getElem_mem hi))
theorem findW_or (l : List Wt) (P : Wt → Bool) : findW l P = -1 ∨ ∃ i : Nat, ∃ h : i < l.length, findW l P = i ∧ P l[i] = true := by
  unfold findW
  cases h : l.findIdx? P with
  | none => exact .inl rfl
  | some i =>
    obtain ⟨hi, hp, _⟩ := List.findIdx?_eq_some_iff_getElem.1 h
    exact .inr ⟨i, hi, rfl, hp⟩
theorem findW_or' (l : List Wt) (P : Wt → Bool) : l.findIdx? P = none ∨ ∃ i : Nat, ∃ _ : i < l.length, l.findIdx? P = some i ∧ findW l P = i := by
  unfold findW
  cases h : l.findIdx? P with
  | none => exact .inl rfl
  | some i =>
    obtain ⟨hi, _, _⟩ := List.findIdx?_eq_some_iff_getElem.1 h
    exact .inr ⟨i, hi, rfl, rfl⟩
theorem hasW_iff {l : List Wt} {x : Wt} : hasW l x = true ↔ ∃ y ∈ l, plOf y = plOf x := by
  unfold hasW
  rw [List.any_eq_true]
  exact ⟨fun ⟨y, h, e⟩ => ⟨y, h, isW_iff.1 e⟩, fun ⟨y, h, e⟩ => ⟨y, h, isW_iff.2 e⟩⟩
def joinW (l : List Wt) (x : Wt) : List Wt × Int := if okLW l = true then (if okW x = true then (if hasW l x = true then ([], 260) else (insW l (posW l x) x, 0)) else ([], 260)) else ([], 260)
def leaveW (l : List Wt) (s a b : Int) : List Wt × Int :=
  if okLW l = true then (match l.findIdx? (isW s a b) with
    | some i => (l.eraseIdx i, 0)
    | none => ([], 260)) else ([], 260)
/-- of those that wait for the bundle, the least -/
def stepF (a b : Int) (st : Wt × Bool) (v : Wt) : Wt × Bool := if ((v.a == a && v.b == b) && (!st.2 || decide (cmpW v st.1 < 0))) = true then (v, true) else st
def firstW (l : List Wt) (a b : Int) : Wt × Bool := l.foldl (stepF a b) (w0, false)
def aheadW (a b : Int) (x v : Wt) : Bool := (v.a == a && v.b == b) && decide (cmpW v x < 0)
def placeW (l : List Wt) (s a b : Int) : Int × Bool := match l.findIdx? (isW s a b) with
  | some i => (1 + ((l.countP (aheadW a b (l.getD i w0)) : Nat) : Int), true)
  | none => (0, false)
def ofW (l : List Wt) (s : Int) : List Bd := (l.filter fun o => o.s == s).map fun o => (o.a, o.b)
theorem joinW_bad {l : List Wt} {x : Wt} (h : okLW l = false) : joinW l x = ([], 260) := by unfold joinW; rw [h]; rfl
theorem leaveW_bad {l : List Wt} {s a b : Int} (h : okLW l = false) : leaveW l s a b = ([], 260) := by unfold leaveW; rw [h]; rfl
theorem leaveW_none {l : List Wt} {s a b : Int} (hn : l.findIdx? (isW s a b) = none) : leaveW l s a b = ([], 260) := by unfold leaveW; rw [hn]; split <;> rfl
theorem leaveW_some {l : List Wt} {s a b : Int} {i : Nat} (h : okLW l = true) (hn : l.findIdx? (isW s a b) = some i) : leaveW l s a b = (l.eraseIdx i, 0) := by unfold leaveW; rw [h, hn]; rfl
theorem placeW_none {l : List Wt} {s a b : Int} (hn : l.findIdx? (isW s a b) = none) : placeW l s a b = (0, false) := by unfold placeW; rw [hn]
theorem placeW_some {l : List Wt} {s a b : Int} {i : Nat} (hi : i < l.length) (hn : l.findIdx? (isW s a b) = some i) : placeW l s a b = (1 + ((l.countP (aheadW a b l[i]) : Nat) : Int), true) := by unfold placeW; rw [hn]; simp only; rw [getW hi]
theorem countPW_take {l : List Wt} {k : Nat} (h : k < l.length) (P : Wt → Bool) : (l.take (k + 1)).countP P = (l.take k).countP P + (if P l[k] = true then 1 else 0) := by
  rw [List.take_succ_eq_append_getElem h, List.countP_append, List.countP_singleton]
theorem countPW_le (l : List Wt) (k : Nat) (P : Wt → Bool) : (l.take k).countP P ≤ k := Nat.le_trans List.countP_le_length (List.length_take_le _ _)
theorem ofW_take {l : List Wt} {k : Nat} (h : k < l.length) (s : Int) : ofW (l.take (k + 1)) s = ofW (l.take k) s ++ (if (l[k].s == s) = true then [(l[k].a, l[k].b)] else []) := by
  unfold ofW
  rw [List.take_succ_eq_append_getElem h, List.filter_append, List.map_append]
  cases hc : (l[k].s == s) <;> simp [List.filter, hc]
theorem firstW_take {l : List Wt} {k : Nat} (h : k < l.length) (a b : Int) : firstW (l.take (k + 1)) a b = stepF a b (firstW (l.take k) a b) l[k] := by
  unfold firstW
  rw [List.take_succ_eq_append_getElem h, List.foldl_append]
  rfl
end Go.Sz
