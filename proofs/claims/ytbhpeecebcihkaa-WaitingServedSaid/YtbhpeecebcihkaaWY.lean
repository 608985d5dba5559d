/- Waiting: plain facts for the laws Order, Back, Others. No program in sight. -/
import Derived.Test.YtbhpeecebcihkaaWX
namespace Go.Sz
theorem hasW_insW {l : List Wt} {k : Nat} {x y : Wt} : hasW (insW l k x) y = true ↔ plOf x = plOf y ∨ hasW l y = true := by
  rw [hasW_iff, hasW_iff]
  constructor
  · rintro ⟨z, hz, he⟩
    rcases insW_mem.1 hz with rfl | hz
    · exact .inl he
    · exact .inr ⟨z, hz, he⟩
  · rintro (he | ⟨z, hz, he⟩)
    · exact ⟨x, insW_mem.2 (.inl rfl), he⟩
    · exact ⟨z, insW_mem.2 (.inr hz), he⟩
theorem hasW_insW_false {l : List Wt} {k : Nat} {x y : Wt} : hasW (insW l k x) y = false ↔ plOf x ≠ plOf y ∧ hasW l y = false := by
  rw [← Bool.not_eq_true, hasW_insW, ← Bool.not_eq_true, not_or]
theorem joinW_len (l : List Wt) (x : Wt) : (joinW l x).1.length ≤ l.length + 1 := by
  rcases joinW_cases l x with h | ⟨_, _, _, h⟩ <;> rw [h]
  · simp
  · simp [insW_len]
theorem joinW_or (l : List Wt) (x : Wt) : (joinW l x).2 = 0 ∨ (joinW l x).2 = 260 := by
  rcases joinW_cases l x with h | ⟨_, _, _, h⟩ <;> rw [h]
  · exact .inr rfl
  · exact .inl rfl
theorem joinW_bad2 {l : List Wt} {x : Wt} (h : okLW l = false) : joinW l x = ([], 260) := joinW_bad h
/-- both are joined, if that may be -/
theorem join_two {l : List Wt} {x y : Wt} : ((joinW l x).2 = 0 ∧ (joinW (joinW l x).1 y).2 = 0) ↔ okLW l = true ∧ okW x = true ∧ okW y = true ∧ hasW l x = false ∧ hasW l y = false ∧ plOf x ≠ plOf y := by
  constructor
  · rintro ⟨h1, h2⟩
    obtain ⟨a, b, c⟩ := joinW_ok.1 h1
    rw [joinW_to a b c] at h2
    obtain ⟨_, e, f⟩ := joinW_ok.1 h2
    obtain ⟨f1, f2⟩ := hasW_insW_false.1 f
    exact ⟨a, b, e, c, f2, f1⟩
  · rintro ⟨a, b, c, d, e, f⟩
    refine ⟨joinW_ok.2 ⟨a, b, d⟩, ?_⟩
    rw [joinW_to a b d]
    exact joinW_ok.2 ⟨okLW_ins a b d, c, hasW_insW_false.2 ⟨f, e⟩⟩
theorem order_iff {l : List Wt} {x y : Wt} : ((joinW l x).2 = 0 ∧ (joinW (joinW l x).1 y).2 = 0) ↔ ((joinW l y).2 = 0 ∧ (joinW (joinW l y).1 x).2 = 0) := by
  rw [join_two, join_two]
  exact ⟨fun ⟨a, b, c, d, e, f⟩ => ⟨a, c, b, e, d, f.symm⟩, fun ⟨a, b, c, d, e, f⟩ => ⟨a, c, b, e, d, f.symm⟩⟩
theorem join_two_is {l : List Wt} {x y : Wt} (h : (joinW l x).2 = 0 ∧ (joinW (joinW l x).1 y).2 = 0) : okLW (joinW (joinW l x).1 y).1 = true ∧ (joinW (joinW l x).1 y).1.Perm (y :: x :: l) := by
  obtain ⟨a, b, c, d, e, f⟩ := join_two.1 h
  rw [joinW_to a b d]
  have h1 := okLW_ins a b d
  have h2 : hasW (insW l (posW l x) x) y = false := hasW_insW_false.2 ⟨f, e⟩
  rw [joinW_to h1 c h2]
  exact ⟨okLW_ins h1 c h2, (insW_perm _ _ _).trans ((insW_perm _ _ _).cons _)⟩
theorem order_is {l : List Wt} {x y : Wt} (h : (joinW l x).2 = 0 ∧ (joinW (joinW l x).1 y).2 = 0) : (joinW (joinW l x).1 y).1 = (joinW (joinW l y).1 x).1 ∧ checkW (joinW (joinW l x).1 y).1 = 0 ∧ (joinW (joinW l x).1 y).1.length = l.length + 2 := by
  obtain ⟨h1, h2⟩ := join_two_is h
  obtain ⟨h3, h4⟩ := join_two_is (order_iff.1 h)
  refine ⟨sortW_eq (okLW_iff.1 h1).2.1 (okLW_iff.1 h3).2.1 (h2.trans ((List.Perm.swap _ _ _).trans h4.symm)), checkW_zero.2 h1, ?_⟩
  rw [h2.length_eq]
  rfl
theorem back_join {l : List Wt} {x : Wt} (h : (joinW l x).2 = 0) : leaveW (joinW l x).1 x.s x.a x.b = (l, 0) := by
  obtain ⟨a, b, c⟩ := joinW_ok.1 h
  rw [joinW_to a b c]
  rw [leaveW_some (okLW_ins a b c) (find_insW c (posW_le l x)), erase_insW (posW_le l x)]
theorem okLW_erase {l : List Wt} (h : okLW l = true) (i : Nat) : okLW (l.eraseIdx i) = true := by
  obtain ⟨h1, h2, h3⟩ := okLW_iff.1 h
  have hs := List.eraseIdx_sublist l i
  exact okLW_iff.2 ⟨fun x hx => h1 x (hs.subset hx), h2.sublist hs, h3.sublist hs⟩
theorem perm_eraseW {l : List Wt} {i : Nat} (hi : i < l.length) : (l[i] :: l.eraseIdx i).Perm l := by
  rw [List.eraseIdx_eq_take_drop_succ]
  have h := @List.perm_middle _ l[i] (l.take i) (l.drop (i + 1))
  rw [← List.drop_eq_getElem_cons hi, List.take_append_drop] at h
  exact h.symm
theorem back_leave {l : List Wt} (h : okLW l = true) {i : Nat} (hi : i < l.length) : leaveW l l[i].s l[i].a l[i].b = (l.eraseIdx i, 0) ∧ joinW (l.eraseIdx i) l[i] = (l, 0) ∧ (l.eraseIdx i).length = l.length - 1 := by
  refine ⟨leaveW_some h (find_at h hi), ?_, by rw [List.length_eraseIdx, if_pos hi]⟩
  obtain ⟨h1, h2, h3⟩ := okLW_iff.1 h
  have hp : (l[i] :: l.eraseIdx i).Perm l := perm_eraseW hi
  have hone := oneW_perm hp.symm h3
  have hh : hasW (l.eraseIdx i) l[i] = false := by
    rw [Bool.eq_false_iff]
    intro hc
    obtain ⟨y, hy, he⟩ := hasW_iff.1 hc
    exact (List.pairwise_cons.1 hone).1 y hy he.symm
  have ho := h1 _ (List.getElem_mem hi)
  rw [joinW_to (okLW_erase h i) ho hh]
  have := okLW_ins (okLW_erase h i) ho hh
  rw [sortW_eq (okLW_iff.1 this).2.1 h2 ((insW_perm _ _ _).trans hp)]
theorem rank_ins (l : List Wt) (k : Nat) (x v : Wt) : rankW (insW l k x) v = rankW l v + (if (inB v.a v.b x && decide (cmpW x v < 0)) = true then 1 else 0) := by
  unfold rankW
  rw [(insW_perm l k x).countP_eq, List.countP_cons]
  have : aheadW v.a v.b v x = (inB v.a v.b x && decide (cmpW x v < 0)) := rfl
  rw [this]
  split <;> simp <;> omega
theorem ofW_ins_other {l : List Wt} {k : Nat} {x : Wt} {s : Int} (h : x.s ≠ s) : ofW (insW l k x) s = ofW l s := by
  unfold ofW insW
  rw [List.filter_append, List.filter_cons, if_neg (by simpa using h), ← List.filter_append, List.take_append_drop]
theorem ofW_ins_len (l : List Wt) (k : Nat) (x : Wt) : (ofW (insW l k x) x.s).length = (ofW l x.s).length + 1 := by
  unfold ofW
  rw [List.length_map, List.length_map, ← List.countP_eq_length_filter, ← List.countP_eq_length_filter, (insW_perm l k x).countP_eq, List.countP_cons]
  simp
/-- what Others says of one that waits -/
theorem others_at {l : List Wt} {x v : Wt} (h : (joinW l x).2 = 0) (hv : v ∈ l) : placeW l v.s v.a v.b = (rankW l v, true) ∧ placeW (joinW l x).1 v.s v.a v.b = (rankW l v + (if (inB v.a v.b x && lessW x v) = true then 1 else 0), true) := by
  obtain ⟨a, b, c⟩ := joinW_ok.1 h
  rw [joinW_to a b c]
  refine ⟨placeW_at a hv, ?_⟩
  rw [placeW_at (okLW_ins a b c) (insW_mem.2 (.inr hv)), rank_ins]
  cases hb : inB v.a v.b x with
  | false => rfl
  | true =>
    have := lessW_iff (x := x) (y := v) (inB_sym hb)
    cases hls : lessW x v with
    | true => rw [decide_eq_true (this.1 hls)]
    | false => rw [decide_eq_false (fun hc => by rw [this.2 hc] at hls; cases hls)]
theorem others_of {l : List Wt} {x : Wt} (h : (joinW l x).2 = 0) : (∀ s, x.s ≠ s → ofW (joinW l x).1 s = ofW l s) ∧ (ofW (joinW l x).1 x.s).length = (ofW l x.s).length + 1 := by
  obtain ⟨a, b, c⟩ := joinW_ok.1 h
  rw [joinW_to a b c]
  exact ⟨fun s hs => ofW_ins_other hs, ofW_ins_len _ _ _⟩
end Go.Sz
