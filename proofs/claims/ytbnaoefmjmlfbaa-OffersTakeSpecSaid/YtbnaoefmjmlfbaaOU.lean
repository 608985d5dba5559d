/- Offers: making offers in any order, in plain Lean. No program in sight. -/
import Derived.Test.YtbnaoefmjmlfbaaOQ
namespace Go.Sz
/-- one offer is made -/
theorem make_step {l : List Off} {y : Off} : (∃ z, makeO l y = (z, 0) ∧ okLO z = true ∧ z.Perm (y :: l) ∧ z.length = l.length + 1) ∨ makeO l y = ([], 310) := by
  rcases makeO_cases l y with hm | ⟨hk, ho, hh, hm⟩
  · exact .inr hm
  · exact .inl ⟨_, hm, okLO_ins hk ho hh, insO_perm _ _ _, insO_len _ _ _⟩
abbrev KeyD (l : List Off) : Prop := l.Pairwise fun a b => cmpO a b ≠ 0
theorem cmpO_sym {a b : Off} (h : cmpO a b ≠ 0) : cmpO b a ≠ 0 := fun hc => h (by rw [cmpO_zero] at *; omega)
theorem SortO.keyD {l : List Off} (h : SortO l) : KeyD l := h.imp fun hab => by omega
theorem KeyD.perm {l l' : List Off} (h : KeyD l) (p : l.Perm l') : KeyD l' := (p.pairwise_iff fun hab => cmpO_sym hab).1 h
/-- l, turned by t -/
def rotO (l : List Off) (t : Nat) : List Off := l.drop t ++ l.take t
theorem rotO_perm (l : List Off) (t : Nat) : (rotO l t).Perm l := by
  unfold rotO
  have h := @List.perm_append_comm _ (l.drop t) (l.take t)
  rwa [List.take_append_drop] at h
theorem rotO_get {l : List Off} {t i : Nat} (ht : t < l.length) (hi : i < l.length) : (rotO l t)[i]? = l[(i + t) % l.length]? := by
  unfold rotO
  rcases Nat.lt_or_ge i (l.length - t) with h | h
  · rw [List.getElem?_append_left (by rw [List.length_drop]; omega), List.getElem?_drop, Nat.mod_eq_of_lt (by omega), Nat.add_comm]
  · rw [List.getElem?_append_right (by rw [List.length_drop]; omega), List.length_drop, List.getElem?_take_of_lt (by omega)]
    have h2 : (i + t) % l.length = i - (l.length - t) := by
      rw [Nat.mod_eq_sub_mod (by omega), Nat.mod_eq_of_lt (by omega)]
      omega
    rw [h2]
/-- the state behind i offers of the first loop -/
structure Inv1 (l x : List Off) (fits : Bool) (i : Nat) : Prop where
  ok : okLO x = true
  len : x.length ≤ i
  perm : fits = true → x.Perm (l.take i)
theorem Inv1.start (l : List Off) : Inv1 l [] true 0 := ⟨rfl, by simp, fun _ => by simp⟩
theorem take_snoc {l : List Off} {i : Nat} (hi : i < l.length) : l.take (i + 1) = l.take i ++ [l[i]] := by rw [List.take_succ_eq_append_getElem hi]
theorem Inv1.made {l x z : List Off} {fits : Bool} {i : Nat} {y : Off} (h : Inv1 l x fits i) (hi : i < l.length) (hy : l[i] = y) (hz : okLO z = true) (hp : z.Perm (y :: x)) : Inv1 l z fits (i + 1) := by
  subst hy
  refine ⟨hz, by rw [hp.length_eq, List.length_cons]; have := h.len; omega, fun hf => ?_⟩
  rw [take_snoc hi]
  exact hp.trans (((h.perm hf).cons _).trans (List.perm_append_comm (l₁ := [l[i]])))
theorem Inv1.lost {l x : List Off} {fits : Bool} {i : Nat} (h : Inv1 l x fits i) : Inv1 l x false (i + 1) := ⟨h.ok, by have := h.len; omega, fun hf => by cases hf⟩
theorem Inv1.all {l x : List Off} {i : Nat} (h : Inv1 l x true i) (hi : i = l.length) : x.Perm l := by
  have := h.perm rfl
  rwa [hi, List.take_length] at this
/-- the state behind j offers of the second loop -/
structure Inv2 (l y : List Off) (t j : Nat) : Prop where
  ok : okLO y = true
  perm : y.Perm ((rotO l t).take j)
theorem Inv2.start (l : List Off) (t : Nat) : Inv2 l [] t 0 := ⟨rfl, by simp⟩
theorem Inv2.step {l x y : List Off} {t j : Nat} {e : Off} (hx : okLO x = true) (hp : x.Perm l) (h : Inv2 l y t j) (hj : j < l.length) (ht : t < l.length) (he : l[(j + t) % l.length]? = some e) : ∃ z, makeO y e = (z, 0) ∧ Inv2 l z t (j + 1) ∧ z.length = j + 1 := by
  have hlen : (rotO l t).length = l.length := (rotO_perm l t).length_eq
  have hjr : j < (rotO l t).length := by omega
  rw [← rotO_get ht hj, List.getElem?_eq_getElem hjr] at he
  have he := Option.some.inj he
  obtain ⟨ho, hs⟩ := okLO_iff.1 hx
  have hk : KeyD (rotO l t) := (hs.keyD.perm hp).perm (rotO_perm l t).symm
  have hmem : e ∈ x := hp.mem_iff.2 ((rotO_perm l t).mem_iff.1 (he ▸ List.getElem_mem hjr))
  have hh : hasO y e = false := by
    unfold hasO
    rw [List.any_eq_false]
    intro z hz hc
    have hc0 := isO_cmp.1 hc
    obtain ⟨i, hi, rfl⟩ := List.mem_iff_getElem.1 (h.perm.mem_iff.1 hz)
    rw [List.length_take] at hi
    rw [List.getElem_take] at hc0
    exact (List.pairwise_iff_getElem.1 hk) i j (by omega) hjr (by omega) (by rw [he]; exact hc0)
  have hm : makeO y e = (insO y (posN y e) e, 0) := by
    unfold makeO
    rw [h.ok, ho e hmem, hh]
    rfl
  have hyl : y.length = j := by rw [h.perm.length_eq, List.length_take]; omega
  refine ⟨_, hm, ⟨okLO_ins h.ok (ho e hmem) hh, ?_⟩, by rw [insO_len, hyl]⟩
  rw [List.take_succ_eq_append_getElem hjr, he]
  exact (insO_perm _ _ _).trans ((h.perm.cons _).trans (List.perm_append_comm (l₁ := [e])))
theorem cmpO_anti {a b : Off} (h1 : cmpO a b < 0) (h2 : cmpO b a < 0) : a = b := absurd (cmpO_trans h1 h2) (cmpO_irr a)
theorem Inv2.all {l x y : List Off} {t : Nat} (hx : okLO x = true) (hp : x.Perm l) (h : Inv2 l y t l.length) : x = y := by
  have hlen : (rotO l t).length = l.length := (rotO_perm l t).length_eq
  have h1 := h.perm
  rw [← hlen, List.take_length] at h1
  exact List.Perm.eq_of_pairwise (fun a b _ _ h1 h2 => cmpO_anti h1 h2) (okLO_iff.1 hx).2 (okLO_iff.1 h.ok).2 (hp.trans (h1.trans (rotO_perm l t)).symm)
end Go.Sz
