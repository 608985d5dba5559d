/- Offers: plain facts for the laws. No program in sight. -/
import Derived.Test.YtbnaoefmjmlfbaaOL1
namespace Go.Sz
theorem insO_perm (l : List Off) (k : Nat) (x : Off) : List.Perm (insO l k x) (x :: l) := by
  unfold insO
  have h := @List.perm_middle _ x (l.take k) (l.drop k)
  rwa [List.take_append_drop] at h
theorem insO_mem {l : List Off} {k : Nat} {x y : Off} : y ∈ insO l k x ↔ y = x ∨ y ∈ l := by rw [(insO_perm l k x).mem_iff, List.mem_cons]
theorem makeO_cases (l : List Off) (x : Off) : makeO l x = ([], 310) ∨ (okLO l = true ∧ okO x = true ∧ hasO l x = false ∧ makeO l x = (insO l (posN l x) x, 0)) := by
  unfold makeO
  split
  · split
    · split
      · exact .inl rfl
      · exact .inr ⟨by assumption, by assumption, by simp_all, rfl⟩
    · exact .inl rfl
  · exact .inl rfl
theorem heldO_ins (l : List Off) (k : Nat) (x : Off) (n : Int) : heldO (insO l k x) n = heldO l n + if 0 ≤ n ∧ (n = x.a ∨ n = x.b) then 1 else 0 := by
  unfold heldO
  by_cases hn : n < 0
  · rw [if_pos hn, if_pos hn, if_neg (by omega)]; rfl
  · rw [if_neg hn, if_neg hn, (insO_perm l k x).countP_eq, List.countP_cons]
    by_cases hx : n = x.a ∨ n = x.b
    · rw [if_pos (by rw [Bool.or_eq_true, beq_iff_eq, beq_iff_eq]; omega), if_pos ⟨by omega, hx⟩]; rfl
    · rw [if_neg (by rw [Bool.or_eq_true, beq_iff_eq, beq_iff_eq]; omega), if_neg (fun h => hx h.2)]; rfl
theorem posN_pos {l : List Off} (hs : SortO l) (x : Off) : PosO l x (posN l x) := by
  unfold posN
  induction l with
  | nil => exact ⟨by simp, fun t ht => by simp at ht, fun t ht => by simp at ht⟩
  | cons y l ih =>
    have hs' := (List.pairwise_cons.1 hs).2
    have hy' := (List.pairwise_cons.1 hs).1
    rw [List.takeWhile_cons]
    by_cases hy : cmpO y x < 0
    · rw [if_pos (decide_eq_true hy)]
      have h := ih hs'
      refine ⟨by have := h.le; simpa using this, fun t ht htp => ?_, fun t ht htp => ?_⟩
      · cases t with
        | zero => exact hy
        | succ t => exact h.lt t (by simpa using ht) (by simpa using htp)
      · cases t with
        | zero => simp at htp
        | succ t => exact h.ge t (by simpa using ht) (by simpa using htp)
    · rw [if_neg (by simpa using hy)]
      refine ⟨by simp, fun t ht htp => by simp at htp, fun t ht _ => ?_⟩
      cases t with
      | zero => exact Int.not_lt.1 hy
      | succ t =>
        refine Int.not_lt.1 fun hc => ?_
        exact hy (cmpO_trans (hy' _ (List.getElem_mem (by simpa using ht))) hc)
theorem sort_ins {l : List Off} {x : Off} (hs : SortO l) (hx : hasO l x = false) : SortO (insO l (posN l x) x) := by
  have hp := posN_pos hs x
  have hne : ∀ y ∈ l, cmpO y x ≠ 0 := fun y hy hc => by
    have := List.any_eq_false.1 hx y hy
    exact this (isO_cmp.2 hc)
  unfold insO
  rw [SortO, List.pairwise_append]
  refine ⟨hs.sublist (List.take_sublist _ _), ?_, ?_⟩
  · rw [List.pairwise_cons]
    refine ⟨fun y hy => ?_, hs.sublist (List.drop_sublist _ _)⟩
    obtain ⟨i, hi, rfl⟩ := List.mem_iff_getElem.1 hy
    rw [List.getElem_drop]
    rw [List.length_drop] at hi
    have h1 := hp.ge (posN l x + i) (by omega) (by omega)
    have h2 := hne _ (List.getElem_mem (l := l) (n := posN l x + i) (by omega))
    rcases cmpO_tri l[posN l x + i] x with h | h | h
    · exact absurd h (Int.not_lt.2 h1)
    · exact absurd h h2
    · exact h
  · intro y hy z hz
    obtain ⟨i, hi, rfl⟩ := List.mem_iff_getElem.1 hy
    rw [List.length_take] at hi
    rw [List.getElem_take]
    have h1 := hp.lt i (by omega) (by omega)
    rcases List.mem_cons.1 hz with rfl | hz
    · exact h1
    · obtain ⟨j, hj, rfl⟩ := List.mem_iff_getElem.1 hz
      rw [List.length_drop] at hj
      rw [List.getElem_drop]
      exact hs.get (by omega) (by omega)
theorem okLO_ins {l : List Off} {x : Off} (h : okLO l = true) (ho : okO x = true) (hx : hasO l x = false) : okLO (insO l (posN l x) x) = true := by
  obtain ⟨h1, h2⟩ := okLO_iff.1 h
  refine okLO_iff.2 ⟨fun y hy => ?_, sort_ins h2 hx⟩
  rcases insO_mem.1 hy with rfl | hy
  · exact ho
  · exact h1 y hy
theorem hasO_ins (l : List Off) (k : Nat) (x : Off) : hasO (insO l k x) x = true := by
  unfold hasO
  rw [List.any_eq_true]
  exact ⟨x, insO_mem.2 (.inl rfl), isO_iff.2 ⟨rfl, rfl, rfl⟩⟩
theorem find_ins {l : List Off} {x : Off} (hx : hasO l x = false) {k : Nat} (hk : k ≤ l.length) : (insO l k x).findIdx? (isO x.s x.a x.b) = some k := by
  rw [List.findIdx?_eq_some_iff_getElem]
  refine ⟨by rw [insO_len]; omega, ?_, fun j hj => ?_⟩
  · unfold insO
    rw [List.getElem_append_right (by rw [List.length_take]; omega)]
    simp only [List.length_take, Nat.min_eq_left hk, Nat.sub_self, List.getElem_cons_zero]
    exact isO_iff.2 ⟨rfl, rfl, rfl⟩
  · unfold insO
    rw [List.getElem_append_left (by rw [List.length_take]; omega), List.getElem_take]
    exact List.any_eq_false.1 hx _ (List.getElem_mem _)
theorem erase_ins {l : List Off} {x : Off} {k : Nat} (hk : k ≤ l.length) : (insO l k x).eraseIdx k = l := by
  unfold insO
  rw [List.eraseIdx_append_of_length_le (by rw [List.length_take]; omega)]
  simp only [List.length_take, Nat.min_eq_left hk, Nat.sub_self, List.eraseIdx_cons_zero]
  exact List.take_append_drop _ _
theorem get_ins {l : List Off} {x : Off} {k : Nat} (hk : k ≤ l.length) (h : k < (insO l k x).length) : (insO l k x)[k] = x := by
  have h2 : (insO l k x)[k]? = some x := by
    unfold insO
    rw [List.getElem?_append_right (by rw [List.length_take]; omega)]
    simp only [List.length_take, Nat.min_eq_left hk, Nat.sub_self, List.getElem?_cons_zero]
  rw [List.getElem?_eq_getElem h] at h2
  exact Option.some.inj h2
theorem take_ins {l : List Off} {x : Off} (h : okLO l = true) (ho : okO x = true) (hx : hasO l x = false) (now : Int) : takeO (insO l (posN l x) x) x.s x.a x.b now = if now < x.u then (l, 0) else ([], 310) := by
  have hk := posN_le l x
  have hl : posN l x < (insO l (posN l x) x).length := by rw [insO_len]; omega
  rw [takeO_some (okLO_ins h ho hx) hl (find_ins hx hk), get_ins hk hl, erase_ins hk]
theorem take_back {l : List Off} {x : Off} (h : okLO l = true) (hx : hasO l x = false) (now : Int) : takeO l x.s x.a x.b now = ([], 310) := takeO_none h (by
  rw [List.findIdx?_eq_none_iff]
  intro y hy
  have := List.any_eq_false.1 hx y hy
  simpa using this)
theorem make_twice {l : List Off} {x : Off} : makeO (insO l (posN l x) x) x = ([], 310) := by
  rcases makeO_cases (insO l (posN l x) x) x with h | ⟨_, _, h, _⟩
  · exact h
  · rw [hasO_ins] at h; cases h
end Go.Sz
