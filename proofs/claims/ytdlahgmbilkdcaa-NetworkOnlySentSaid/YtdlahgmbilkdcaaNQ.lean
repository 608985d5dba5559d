/- Cutting and mending links: plain lists. -/
import Derived.Test.YtdlahgmbilkdcaaNLf
namespace Go.Sz
open Go.RowKit
theorem allPairs_nodup : allPairs.Nodup := by decide
theorem mem_allPairs {p : Int × Int} : p ∈ allPairs ↔ okL p.1 p.2 = true := by
  constructor
  · intro h
    have : ∀ p ∈ allPairs, okL p.1 p.2 = true := by decide
    exact this p h
  · intro h
    simp only [okL, Bool.and_eq_true, decide_eq_true_eq] at h
    obtain ⟨x, y⟩ := p
    simp only at h
    have h1 : x = 0 ∨ x = 1 ∨ x = 2 ∨ x = 3 ∨ x = 4 ∨ x = 5 := by omega
    have h2 : y = 1 ∨ y = 2 ∨ y = 3 ∨ y = 4 ∨ y = 5 ∨ y = 6 := by omega
    rcases h1 with rfl | rfl | rfl | rfl | rfl | rfl <;> rcases h2 with rfl | rfl | rfl | rfl | rfl | rfl <;> first | (exfalso; omega) | decide
theorem hasL_iff {a : List (Int × Int)} {x y : Int} : hasL a x y = true ↔ (x, y) ∈ a := by
  simp only [hasL, List.any_eq_true, Bool.and_eq_true, beq_iff_eq]
  constructor
  · rintro ⟨p, hp, rfl, rfl⟩; exact hp
  · intro h; exact ⟨_, h, rfl, rfl⟩
theorem hasL_cutL {a : List (Int × Int)} {x y : Int} {on : Bool} {u v : Int} (h : okL u v = true) : hasL (cutL a x y on) u v = isOn a x y on (u, v) := by
  rw [Bool.eq_iff_iff, hasL_iff, cutL, List.mem_filter]
  exact ⟨fun h => h.2, fun h' => ⟨mem_allPairs.2 h, h'⟩⟩
theorem cutL_cutL (a : List (Int × Int)) (x y : Int) (b c : Bool) : cutL (cutL a x y b) x y c = cutL a x y c := by
  unfold cutL
  apply List.filter_congr
  intro p hp
  have h1 : hasL (cutL a x y b) p.1 p.2 = isOn a x y b p := hasL_cutL (mem_allPairs.1 hp)
  show isOn (cutL a x y b) x y c p = isOn a x y c p
  by_cases hne : (p.1 == x && p.2 == y) = true
  · simp only [isOn, if_pos hne]
  · have h2 : isOn (cutL a x y b) x y c p = hasL (cutL a x y b) p.1 p.2 := by unfold isOn; rw [if_neg hne]
    have h3 : isOn a x y b p = hasL a p.1 p.2 := by unfold isOn; rw [if_neg hne]
    have h4 : isOn a x y c p = hasL a p.1 p.2 := by unfold isOn; rw [if_neg hne]
    rw [h2, h1, h3, h4]
theorem filter_count {l : List (Int × Int)} (hl : l.Nodup) {c : Int × Int} (hc : c ∈ l) (P : Int × Int → Bool) :
    (l.filter fun p => if p = c then true else P p).length = (l.filter fun p => if p = c then false else P p).length + 1 := by
  induction l with
  | nil => cases hc
  | cons x xs ih =>
    rw [List.nodup_cons] at hl
    rcases List.mem_cons.1 hc with rfl | hc'
    · have : ∀ p ∈ xs, p ≠ c := fun p hp e => hl.1 (e ▸ hp)
      rw [List.filter_cons_of_pos (by simp), List.filter_cons_of_neg (by simp), List.length_cons]
      congr 2
      apply List.filter_congr
      intro p hp
      rw [if_neg (this p hp), if_neg (this p hp)]
    · have hx : x ≠ c := fun e => hl.1 (e ▸ hc')
      have := ih hl.2 hc'
      cases hP : P x with
      | true => rw [List.filter_cons_of_pos (by rw [if_neg hx]; exact hP), List.filter_cons_of_pos (by rw [if_neg hx]; exact hP), List.length_cons, List.length_cons, this]
      | false => rw [List.filter_cons_of_neg (by rw [if_neg hx, hP]; simp), List.filter_cons_of_neg (by rw [if_neg hx, hP]; simp), this]
theorem cutL_len {a : List (Int × Int)} {x y : Int} (h : okL x y = true) : (cutL a x y true).length = (cutL a x y false).length + 1 := by
  have := filter_count allPairs_nodup ((mem_allPairs (p := (x, y))).2 h) (fun p => hasL a p.1 p.2)
  unfold cutL
  have e : ∀ b, allPairs.filter (isOn a x y b) = allPairs.filter fun p => if p = (x, y) then b else hasL a p.1 p.2 := fun b => by
    apply List.filter_congr
    intro p _
    unfold isOn
    by_cases hp : p = (x, y)
    · subst hp; simp
    · rw [if_neg hp, if_neg (by
        intro h
        simp only [Bool.and_eq_true, beq_iff_eq] at h
        exact hp (Prod.ext h.1 h.2))]
  rw [e, e]
  exact this
/-- sorted, and each pair valid -/
theorem okA_iff (a : List (Int × Int)) : okA a = true ↔ (∀ x ∈ a, okL x.1 x.2 = true) ∧ (∀ i, 0 < i → i < a.length → lt2 (a.getD (i - 1) (0, 0)).1 (a.getD (i - 1) (0, 0)).2 (a.getD i (0, 0)).1 (a.getD i (0, 0)).2 = true) := by
  simp only [okA, List.all_eq_true, List.mem_range, okAt, Bool.and_eq_true, Bool.or_eq_true, beq_iff_eq]
  constructor
  · intro h
    refine ⟨fun x hx => ?_, fun i hi0 hi => ?_⟩
    · obtain ⟨i, hi, rfl⟩ := List.mem_iff_getElem.1 hx
      have := (h i hi).1
      rwa [getD_lt hi] at this
    · rcases (h i hi).2 with h0 | h0
      · omega
      · exact h0
  · intro h i hi
    refine ⟨by rw [getD_lt hi]; exact h.1 _ (List.getElem_mem hi), ?_⟩
    rcases Nat.eq_zero_or_pos i with h0 | h0
    · exact .inl h0
    · exact .inr (h.2 i h0 hi)
def Lt2 (p q : Int × Int) : Prop := lt2 p.1 p.2 q.1 q.2 = true
instance (p q : Int × Int) : Decidable (Lt2 p q) := inferInstanceAs (Decidable (_ = _))
theorem allPairs_sorted : allPairs.Pairwise Lt2 := by decide
theorem okA_cutL (a : List (Int × Int)) (x y : Int) (on : Bool) : okA (cutL a x y on) = true := by
  rw [okA_iff]
  refine ⟨fun p hp => mem_allPairs.1 (List.mem_filter.1 hp).1, fun i hi0 hi => ?_⟩
  have hs : (cutL a x y on).Pairwise Lt2 := allPairs_sorted.filter _
  rw [getD_lt (show i - 1 < _ by omega), getD_lt hi]
  exact List.pairwise_iff_getElem.1 hs (i - 1) i (by omega) hi (by omega)
theorem okN_cutL {n : Nw} (h : okN n = true) (x y : Int) (on : Bool) : okN ⟨n.q, cutL n.a x y on⟩ = true := by
  rw [okN_parts] at *
  exact ⟨h.1, h.2.1, okA_cutL _ _ _ _⟩
theorem cutN_ok {n : Nw} (h : okN n = true) {x y : Int} (hl : okL (min x y) (max x y) = true) (on : Bool) : cutN n x y on = (⟨n.q, cutL n.a (min x y) (max x y) on⟩, 0) := by
  unfold cutN; rw [if_pos h, if_pos hl]
theorem cutN_bad {n : Nw} (h : okN n = true) {x y : Int} (hl : okL (min x y) (max x y) = false) (on : Bool) : cutN n x y on = (⟨[], []⟩, 1) := by
  unfold cutN; rw [if_pos h, if_neg (by rw [hl]; simp)]
theorem okP_link {p : Pk} (h : okP p = true) : okL (min p.f p.t) (max p.f p.t) = true := by
  simp only [okP, Bool.and_eq_true] at h
  exact h.1
/-- the two packets that are delivered -/
theorem cuts_facts (a : List (Int × Int)) (x y : Int) (p : Pk) (hp : okP p = true) (hl : okL (min x y) (max x y) = true) :
    (hasL (cutL a (min x y) (max x y) true) (min p.f p.t) (max p.f p.t) = true ∧ hasL (cutL a (min x y) (max x y) false) (min p.f p.t) (max p.f p.t) = false ∧ (p.f = x ∧ p.t = y ∧ x ≠ y ∨ p.f = y ∧ p.t = x ∧ x ≠ y)) ∨
    (hasL (cutL a (min x y) (max x y) true) (min p.f p.t) (max p.f p.t) = hasL (cutL a (min x y) (max x y) false) (min p.f p.t) (max p.f p.t) ∧ ¬ (p.f = x ∧ p.t = y) ∧ ¬ (p.f = y ∧ p.t = x)) := by
  rw [hasL_cutL (okP_link hp), hasL_cutL (okP_link hp)]
  have hne : x ≠ y := by
    simp only [okL, Bool.and_eq_true, decide_eq_true_eq] at hl
    omega
  unfold isOn
  by_cases h : (((min p.f p.t) == min x y) && ((max p.f p.t) == max x y)) = true
  · left
    rw [if_pos h, if_pos h]
    simp only [Bool.and_eq_true, beq_iff_eq] at h
    refine ⟨rfl, rfl, ?_⟩
    omega
  · right
    rw [if_neg h, if_neg h]
    simp only [Bool.and_eq_true, beq_iff_eq] at h
    refine ⟨rfl, ?_, ?_⟩
    · rintro ⟨rfl, rfl⟩; exact h ⟨rfl, rfl⟩
    · rintro ⟨rfl, rfl⟩; exact h ⟨by omega, by omega⟩
theorem okL_ne {x y : Int} (h : okL (min x y) (max x y) = true) : x ≠ y := by
  simp only [okL, Bool.and_eq_true, decide_eq_true_eq] at h
  omega
theorem cutL_le {a : List (Int × Int)} {x y : Int} (h : okL x y = true) : ((cutL a x y false).length : Int) + 1 ≤ 100 := by
  have h0 := cutL_len (a := a) h
  have h1 := List.length_filter_le (isOn a x y true) allPairs
  have h2 : allPairs.length = 21 := by decide
  unfold cutL at *
  omega
def CutsCase (x y : Int) (p r : Pk) : Prop :=
  (p = ⟨0, 0, []⟩ ∧ r.f = x ∧ r.t = y ∧ x ≠ y) ∨ (p = ⟨0, 0, []⟩ ∧ r.f = y ∧ r.t = x ∧ x ≠ y) ∨
  (r = p ∧ p.f = x ∧ p.t ≠ y ∧ p.f ≠ y) ∨ (r = p ∧ p.f ≠ x ∧ p.f = y ∧ p.t ≠ x) ∨ (r = p ∧ p.f ≠ x ∧ p.f ≠ y)
theorem cuts_case {x y : Int} {p : Pk} (hne : x ≠ y) (h1 : ¬ (p.f = x ∧ p.t = y)) (h2 : ¬ (p.f = y ∧ p.t = x)) : CutsCase x y p p := by
  unfold CutsCase
  by_cases h3 : p.f = x
  · right; right; left; exact ⟨rfl, h3, fun h => h1 ⟨h3, h⟩, fun h => hne (h3 ▸ h)⟩
  · by_cases h4 : p.f = y
    · right; right; right; left; exact ⟨rfl, h3, h4, fun h => h2 ⟨h4, h⟩⟩
    · right; right; right; right; exact ⟨rfl, h3, h4⟩
theorem cuts_deliver {n nx nk : Nw} {x y : Int} {k : Nat} (h : okN n = true) (hl : okL (min x y) (max x y) = true) (hk : k < n.q.length)
    (hxq : nx.q = n.q) (hxa : nx.a = cutL n.a (min x y) (max x y) true) (hkq : nk.q = n.q) (hka : nk.a = cutL n.a (min x y) (max x y) false) :
    ∃ p r, deliverN nx k = (p, cutQ nx k, 0) ∧ deliverN nk k = (r, cutQ nk k, 0) ∧ CutsCase x y p r := by
  have hX := okN_cutL h (min x y) (max x y) true
  have hK := okN_cutL h (min x y) (max x y) false
  obtain ⟨xq, xa⟩ := nx
  obtain ⟨kq, ka⟩ := nk
  subst hxq hxa hkq hka
  refine ⟨_, _, deliverN_ok hX hk, deliverN_ok hK hk, ?_⟩
  have hne := okL_ne hl
  dsimp only
  rcases cuts_facts n.a x y n.q[k] (okP_get h hk) hl with ⟨e1, e2, h3⟩ | ⟨e1, h3, h4⟩
  · rw [if_pos e1, if_neg (by rw [e2]; simp)]
    rcases h3 with ⟨h3, h4, h5⟩ | ⟨h3, h4, h5⟩
    · exact .inl ⟨rfl, h3, h4, h5⟩
    · exact .inr (.inl ⟨rfl, h3, h4, h5⟩)
  · rw [e1]
    split
    · exact cuts_case hne (fun h => hne (h.1.symm.trans h.2)) (fun h => hne (h.2.symm.trans h.1))
    · exact cuts_case hne h3 h4
end Go.Sz
