/- Offers: plain facts on sorted lists. No program in sight. -/
import Derived.Test.YtbnaoefmjmlfbaaO8
namespace Go.Sz
theorem cmpO_zero {o p : Off} : cmpO o p = 0 ↔ o.s = p.s ∧ o.a = p.a ∧ o.b = p.b := by
  unfold cmpO
  rw [orL_three]
  have h1 := @cmpI_zero o.s p.s
  have h2 := @cmpI_zero o.a p.a
  have h5 := @cmpI_zero o.b p.b
  split
  · split
    · constructor
      · intro h; exact ⟨h1.1 (by assumption), h2.1 (by assumption), h5.1 h⟩
      · intro h; exact h5.2 h.2.2
    · constructor
      · intro h; exact absurd h (by assumption)
      · intro h; exact absurd (h2.2 h.2.1) (by assumption)
  · constructor
    · intro h; exact absurd h (by assumption)
    · intro h; exact absurd (h1.2 h.1) (by assumption)
theorem isO_iff {s a b : Int} {o : Off} : isO s a b o = true ↔ o.s = s ∧ o.a = a ∧ o.b = b := by
  unfold isO
  simp only [Bool.and_eq_true, beq_iff_eq]
theorem isO_cmp {o p : Off} : isO p.s p.a p.b o = true ↔ cmpO o p = 0 := by rw [isO_iff, cmpO_zero]
theorem cmpO_trans {o p q : Off} (h1 : cmpO o p < 0) (h2 : cmpO p q < 0) : cmpO o q < 0 := by
  rw [cmpO_neg] at *
  omega
theorem cmpO_irr (o : Off) : ¬ cmpO o o < 0 := by rw [cmpO_neg]; omega
theorem cmpO_tri (o p : Off) : cmpO o p < 0 ∨ cmpO o p = 0 ∨ cmpO p o < 0 := by
  rw [cmpO_neg, cmpO_zero, cmpO_neg]
  omega
theorem cmpO_congr {o p q : Off} (h : cmpO p q = 0) : cmpO o p < 0 ↔ cmpO o q < 0 := by
  rw [cmpO_zero] at h
  rw [cmpO_neg, cmpO_neg]
  omega
theorem cmpO_congr' {o p q : Off} (h : cmpO o p = 0) : cmpO o q < 0 ↔ cmpO p q < 0 := by
  rw [cmpO_zero] at h
  rw [cmpO_neg, cmpO_neg]
  omega
/-- a valid list, as a sorted one -/
abbrev SortO (l : List Off) : Prop := l.Pairwise fun a b => cmpO a b < 0
theorem okLO_iff {l : List Off} : okLO l = true ↔ (∀ x ∈ l, okO x = true) ∧ SortO l := by
  unfold okLO
  rw [List.all_eq_true]
  have hz : ∀ {x : Off} {l : List Off}, (∀ i, i < (x :: l).length → okAtO (x :: l) i = true) ↔ okO x = true ∧ (∀ h : 0 < l.length, cmpO x l[0] < 0) ∧ ∀ i, i < l.length → okAtO l i = true := by
    intro x l
    constructor
    · intro h
      refine ⟨by have := h 0 (by simp); rw [okAtO_zero (by simp)] at this; exact this, fun hl => ?_, fun i hi => ?_⟩
      · have := h 1 (by simpa using hl)
        rw [okAtO_succ (by simpa using hl) (by omega)] at this
        simp only [Bool.and_eq_true, decide_eq_true_eq] at this
        exact this.2
      · have := h (i + 1) (by simpa using hi)
        rw [okAtO_succ (by simpa using hi) (by omega)] at this
        simp only [List.getElem_cons_succ, Nat.add_sub_cancel, Bool.and_eq_true, decide_eq_true_eq] at this
        rcases Nat.eq_zero_or_pos i with h0 | h0
        · subst h0
          rw [okAtO_zero hi]
          exact this.1
        · rw [okAtO_succ hi h0, Bool.and_eq_true]
          refine ⟨this.1, ?_⟩
          have h2 := this.2
          obtain ⟨j, rfl⟩ : ∃ j, i = j + 1 := ⟨i - 1, by omega⟩
          simpa using h2
    · rintro ⟨h1, h2, h3⟩ i hi
      match i, hi with
      | 0, hi => rw [okAtO_zero (by simp)]; exact h1
      | i + 1, hi =>
        have hi' : i < l.length := by simpa using hi
        rw [okAtO_succ hi (by omega), Bool.and_eq_true]
        simp only [List.getElem_cons_succ, Nat.add_sub_cancel, decide_eq_true_eq]
        have h4 := h3 i hi'
        rcases Nat.eq_zero_or_pos i with h0 | h0
        · subst h0
          rw [okAtO_zero hi'] at h4
          exact ⟨h4, h2 hi'⟩
        · rw [okAtO_succ hi' h0, Bool.and_eq_true] at h4
          refine ⟨h4.1, ?_⟩
          obtain ⟨j, rfl⟩ : ∃ j, i = j + 1 := ⟨i - 1, by omega⟩
          simpa using h4.2
  have key : (∀ i, i < l.length → okAtO l i = true) ↔ (∀ x ∈ l, okO x = true) ∧ SortO l := by
    induction l with
    | nil => simp [SortO]
    | cons x l ih =>
      rw [hz, ih]
      simp only [SortO, List.pairwise_cons]
      constructor
      · rintro ⟨h1, h2, h3, h4⟩
        refine ⟨?_, ?_, h4⟩
        · intro y hy
          rcases List.mem_cons.1 hy with rfl | hy
          · exact h1
          · exact h3 y hy
        · intro y hy
          cases l with
          | nil => cases hy
          | cons z l =>
            have hxz : cmpO x z < 0 := h2 (by simp)
            rcases List.mem_cons.1 hy with rfl | hy
            · exact hxz
            · exact cmpO_trans hxz ((List.pairwise_cons.1 h4).1 y hy)
      · rintro ⟨h1, h2, h3⟩
        refine ⟨h1 x (by simp), fun hl => h2 _ (List.getElem_mem hl), fun y hy => h1 y (by simp [hy]), h3⟩
  rw [← key]
  simp only [List.mem_range]
theorem checkO_zero {l : List Off} : checkO l = 0 ↔ okLO l = true := by
  unfold checkO
  split <;> simp_all
theorem SortO.get {l : List Off} (h : SortO l) {i j : Nat} (hj : j < l.length) (hij : i < j) : cmpO (l[i]'(by omega)) l[j] < 0 := List.pairwise_iff_getElem.1 h i j (by omega) hj hij
theorem SortO.mono {l : List Off} (h : SortO l) (x : Off) : MonoO l x := fun s t ht hs hc => by
  rcases Nat.lt_or_ge s t with h1 | h1
  · exact cmpO_trans (h.get ht h1) hc
  · obtain rfl : s = t := by omega
    exact hc
/-- the place of x -/
def posN (l : List Off) (x : Off) : Nat := (l.takeWhile fun y => decide (cmpO y x < 0)).length
theorem posN_le (l : List Off) (x : Off) : posN l x ≤ l.length := by
  unfold posN
  exact (List.takeWhile_prefix _).length_le
theorem PosO.eq {l : List Off} {x : Off} {p : Nat} (h : PosO l x p) : p = posN l x := by
  unfold posN
  induction l generalizing p with
  | nil => have := h.le; simp at this; simpa using this
  | cons y l ih =>
    rw [List.takeWhile_cons]
    by_cases hy : cmpO y x < 0
    · rw [if_pos (decide_eq_true hy), List.length_cons]
      have hp : 0 < p := by
        rcases Nat.eq_zero_or_pos p with h0 | h0
        · have := h.ge 0 (by simp) (by omega)
          simp at this
          omega
        · exact h0
      obtain ⟨q, rfl⟩ : ∃ q, p = q + 1 := ⟨p - 1, by omega⟩
      rw [← ih (p := q) ⟨by have := h.le; simpa using this, fun t ht htq => h.lt (t + 1) (by simpa using ht) (by omega), fun t ht htq => h.ge (t + 1) (by simpa using ht) (by omega)⟩]
    · rw [if_neg (by simpa using hy)]
      rcases Nat.eq_zero_or_pos p with h0 | h0
      · simpa using h0
      · exact absurd (h.lt 0 (by simp) h0) hy
/-- some element has x's key -/
def hasO (l : List Off) (x : Off) : Bool := l.any (isO x.s x.a x.b)
theorem findO_neg {l : List Off} {P : Off → Bool} : findO l P < 0 ↔ l.any P = false := by
  unfold findO
  cases h : l.findIdx? P with
  | none =>
    have := List.findIdx?_eq_none_iff.1 h
    simp only [List.any_eq_false]
    exact ⟨fun _ x hx => by rw [this x hx]; simp, fun _ => by omega⟩
  | some i =>
    obtain ⟨hi, hp, _⟩ := List.findIdx?_eq_some_iff_getElem.1 h
    constructor
    · intro h; simp only at h; omega
    · intro h
      rw [List.any_eq_false] at h
      exact absurd hp (h _ (List.getElem_mem hi))
theorem findO_or (l : List Off) (P : Off → Bool) : findO l P = -1 ∨ ∃ i : Nat, ∃ h : i < l.length, findO l P = i ∧ P l[i] = true := by
  unfold findO
  cases h : l.findIdx? P with
  | none => exact .inl rfl
  | some i =>
    obtain ⟨hi, hp, _⟩ := List.findIdx?_eq_some_iff_getElem.1 h
    exact .inr ⟨i, hi, rfl, hp⟩
theorem findO_or' (l : List Off) (P : Off → Bool) : l.findIdx? P = none ∨ ∃ i : Nat, ∃ _ : i < l.length, l.findIdx? P = some i ∧ findO l P = i := by
  unfold findO
  cases h : l.findIdx? P with
  | none => exact .inl rfl
  | some i =>
    obtain ⟨hi, _, _⟩ := List.findIdx?_eq_some_iff_getElem.1 h
    exact .inr ⟨i, hi, rfl, rfl⟩
theorem metO_eq {l : List Off} {x : Off} {p : Nat} (hs : SortO l) (h : PosO l x p) : metO l x p = hasO l x := by
  unfold metO hasO
  rw [Bool.eq_iff_iff, Bool.and_eq_true, decide_eq_true_eq, beq_iff_eq, List.any_eq_true]
  constructor
  · rintro ⟨hp, hc⟩
    rw [List.getD_eq_getElem?_getD, List.getElem?_eq_getElem hp] at hc
    exact ⟨l[p], List.getElem_mem hp, isO_cmp.2 hc⟩
  · rintro ⟨y, hy, hc⟩
    obtain ⟨t, ht, rfl⟩ := List.mem_iff_getElem.1 hy
    have hc0 := isO_cmp.1 hc
    have hpt : p ≤ t := by
      rcases Nat.lt_or_ge t p with h1 | h1
      · have := h.lt t ht h1; omega
      · exact h1
    have hpt' : p = t := by
      rcases Nat.lt_or_ge p t with h1 | h1
      · have h2 := hs.get ht h1
        rw [cmpO_congr hc0] at h2
        have := h.ge p (by omega) (Nat.le_refl _)
        omega
      · omega
    subst hpt'
    exact ⟨ht, by rw [List.getD_eq_getElem?_getD, List.getElem?_eq_getElem ht]; exact hc0⟩
def makeO (l : List Off) (o : Off) : List Off × Int := if okLO l = true then (if okO o = true then (if hasO l o = true then ([], 310) else (insO l (posN l o) o, 0)) else ([], 310)) else ([], 310)
def takeO (l : List Off) (s a b now : Int) : List Off × Int :=
  if okLO l = true then (match l.findIdx? (isO s a b) with
    | some i => if now < (l.getD i ⟨0, 0, 0, 0⟩).u then (l.eraseIdx i, 0) else ([], 310)
    | none => ([], 310)) else ([], 310)
theorem takeO_bad {l : List Off} {s a b now : Int} (h : okLO l = false) : takeO l s a b now = ([], 310) := by unfold takeO; rw [h]; rfl
theorem takeO_none {l : List Off} {s a b now : Int} (h : okLO l = true) (hn : l.findIdx? (isO s a b) = none) : takeO l s a b now = ([], 310) := by unfold takeO; rw [h, hn]; rfl
theorem takeO_some {l : List Off} {s a b now : Int} {i : Nat} (h : okLO l = true) (hi : i < l.length) (hn : l.findIdx? (isO s a b) = some i) : takeO l s a b now = if now < l[i].u then (l.eraseIdx i, 0) else ([], 310) := by
  unfold takeO
  rw [h, hn]
  simp only [if_true]
  rw [getO hi]
end Go.Sz
