/- Names: a circle, in plain Lean. -/
import Derived.Test.YtimigpfoflilcaaL11b
namespace Go.Sz
open Go.RowKit
theorem least_of {n : Nat} {Q : Nat → Prop} (h : ∃ m, m < n ∧ ¬ Q m) : ∃ m, m < n ∧ ¬ Q m ∧ ∀ j, j < m → Q j := by
  obtain ⟨m, hm⟩ := h
  induction m using Nat.strongRecOn with
  | _ m ih =>
    by_cases h2 : ∀ j, j < m → Q j
    · exact ⟨m, hm.1, hm.2, h2⟩
    · obtain ⟨j, hj⟩ := Classical.not_forall.1 h2
      have hj' := Classical.not_imp.1 hj
      exact ih j hj'.1 ⟨by omega, hj'.2⟩
/-- each one leads to the next, the last one to i -/
def chainN (l : List Cr) (is : List Bool) (way : List Nat) (i : Nat) : Prop := ∀ (t a : Nat), way[t]? = some a → nextN l is a = (way ++ [i])[t + 1]?
theorem chain_step {l : List Cr} {is : List Bool} {way : List Nat} {i n : Nat} (h : chainN l is way i) (hn : nextN l is i = some n) : chainN l is (way ++ [i]) n := fun t a ht => by
  by_cases h1 : t < way.length
  · rw [List.getElem?_append_left h1] at ht
    rw [h t a ht, List.getElem?_append_left (l₁ := way ++ [i]) (by simp; omega)]
  · have h2 : t = way.length := by
      have := (List.getElem?_eq_some_iff.1 ht).1
      simp at this
      omega
    subst h2
    rw [List.getElem?_append_right (Nat.le_refl _), Nat.sub_self] at ht
    cases ht
    rw [hn, List.getElem?_append_right (by simp)]
    simp
theorem wayN_spec {l : List Cr} : ∀ (f : Nat) (way : List Nat) (i : Nat), way.Nodup → (∀ x ∈ way, x < l.length) → i < l.length → i ∉ (listedN l).1 → l.length < f + way.length → chainN l (listedN l).2 way i →
    (wayN l (listedN l).2 f way i).2 ∈ (wayN l (listedN l).2 f way i).1 ∧ (wayN l (listedN l).2 f way i).1.Nodup ∧ (∀ x ∈ (wayN l (listedN l).2 f way i).1, x < l.length) ∧ chainN l (listedN l).2 (wayN l (listedN l).2 f way i).1 (wayN l (listedN l).2 f way i).2 := by
  intro f
  induction f with
  | zero =>
    intro way i h1 h2 h3 _ h5 _
    have := nodup_len h1 h2
    omega
  | succ f ih =>
    intro way i h1 h2 h3 h4 h5 h6
    by_cases hm : i ∈ way
    · rw [wayN_stop hm]
      exact ⟨hm, h1, h2, h6⟩
    · obtain ⟨c, hc⟩ : ∃ c, l[i]? = some c := ⟨_, List.getElem?_eq_getElem h3⟩
      obtain ⟨kx, n, hkx, hno, -, hnx⟩ := next_ex hc h4
      rw [wayN_step hm, hnx]
      refine ih (way ++ [i]) n ?_ ?_ (needsN_lt (List.mem_of_getElem? hkx)) hno (by rw [List.length_append, List.length_singleton]; omega) (chain_step h6 hnx)
      · rw [List.nodup_append]
        exact ⟨h1, by simp, fun a ha b hb e => hm (by have hb' := List.mem_singleton.1 hb; rw [← hb', ← e]; exact ha)⟩
      · intro x hx
        rcases List.mem_append.1 hx with hx | hx
        · exact h2 x hx
        · obtain rfl := List.mem_singleton.1 hx
          exact h3
theorem nextN_needs {l : List Cr} {is : List Bool} {a n : Nat} {c : Cr} (hc : l[a]? = some c) (h : nextN l is a = some n) : n ∈ needsN l c := by
  rw [nextN_at hc] at h
  exact List.mem_of_find?_eq_some h
/-- what Cycle answers -/
theorem circle_ok {l : List Cr} (hn : (l.map Cr.nu).Nodup) : ∃ D : List Nat, cycL l = D.map (nuAt l) ∧ (D = [] ↔ ordE l = 0) ∧
    (∀ t a : Nat, D[t]? = some a → a < l.length ∧ findI (D.map (nuAt l)) (nuAt l a) = (t : Int) ∧ ∃ n, D[(t + 1) % D.length]? = some n ∧ n < l.length ∧ ∀ c, l[a]? = some c → n ∈ needsN l c) := by
  by_cases hall : ∀ j, j < l.length → j ∈ (listedN l).1
  · refine ⟨[], ?_, ?_, fun t a h => by simp at h⟩
    · unfold cycL
      rw [find_none_is hall]
      rfl
    · have h1 := listedN_len l
      have h2 : (listedN l).2.count false = 0 := by
        rw [List.count_eq_zero]
        intro hm
        obtain ⟨j, hj⟩ := List.getElem?_of_mem hm
        have hjl := (List.getElem?_eq_some_iff.1 hj).1
        rw [h1.1] at hjl
        rw [listed_is l j hjl, decide_eq_true (hall j hjl)] at hj
        cases hj
      unfold ordE
      rw [if_neg (by omega)]
      simp
  · have hex : ∃ m, m < l.length ∧ m ∉ (listedN l).1 ∧ ∀ j, j < m → j ∈ (listedN l).1 := by
      have h1 : ∃ m, m < l.length ∧ m ∉ (listedN l).1 := Classical.byContradiction fun h => hall fun j hj => Classical.byContradiction fun h2 => h ⟨j, hj, h2⟩
      exact least_of (Q := fun m => m ∈ (listedN l).1) h1
    obtain ⟨m, hm, hmo, hmb⟩ := hex
    obtain ⟨h1, h2, h3, h4⟩ := wayN_spec (l := l) (l.length + 1) [] m List.nodup_nil (fun _ h => by cases h) hm hmo (by simp) (fun t a h => by simp at h)
    have hcy : cycL l = ((wayN l (listedN l).2 (l.length + 1) [] m).1.drop ((findI (ints (wayN l (listedN l).2 (l.length + 1) [] m).1) ((wayN l (listedN l).2 (l.length + 1) [] m).2 : Int)).toNat)).map (nuAt l) := by
      unfold cycL
      rw [find_first_is hm hmb hmo]
      rfl
    generalize (wayN l (listedN l).2 (l.length + 1) [] m).1 = way at *
    generalize (wayN l (listedN l).2 (l.length + 1) [] m).2 = at' at *
    obtain ⟨k0, hk0, hf0, -⟩ := findI_first (ints_mem.2 h1)
    have hw0 := ints_at' hk0
    rw [hf0] at hcy
    have hkl := (List.getElem?_eq_some_iff.1 hw0).1
    refine ⟨way.drop k0, hcy, ?_, fun t a ht => ?_⟩
    · constructor
      · intro h
        have := congrArg List.length h
        rw [List.length_drop, List.length_nil] at this
        omega
      · intro h
        exfalso
        unfold ordE at h
        split at h
        · cases h
        · rename_i hh
          exact hmo (listed_all hh hm)
    · rw [List.getElem?_drop] at ht
      have hal := h3 a (List.mem_of_getElem? ht)
      have htl := (List.getElem?_eq_some_iff.1 ht).1
      refine ⟨hal, ?_, ?_⟩
      · have hnd : (way.drop k0).Nodup := List.Sublist.nodup (List.drop_sublist k0 way) h2
        have hmem : nuAt l a ∈ (way.drop k0).map (nuAt l) := List.mem_map_of_mem (List.mem_of_getElem? (i := t) (by rw [List.getElem?_drop]; exact ht))
        obtain ⟨k, hk, hfk, -⟩ := findI_first hmem
        rw [hfk]
        rw [List.getElem?_map] at hk
        obtain ⟨b, hb, e⟩ := Option.map_eq_some_iff.1 hk
        have hbl : b < l.length := h3 b (List.mem_of_mem_drop (List.mem_of_getElem? hb))
        have hba := nu_inj hn hbl hal e
        subst hba
        have : k = t := (List.getElem?_inj (List.getElem?_eq_some_iff.1 hb).1 hnd).1 (hb.trans (by rw [List.getElem?_drop]; exact ht.symm))
        rw [this]
      · have hc4 := h4 (k0 + t) a ht
        by_cases hlast : k0 + t + 1 < way.length
        · rw [List.getElem?_append_left hlast] at hc4
          obtain ⟨n, hnn⟩ : ∃ n, way[k0 + t + 1]? = some n := ⟨_, List.getElem?_eq_getElem hlast⟩
          rw [hnn] at hc4
          refine ⟨n, ?_, h3 n (List.mem_of_getElem? hnn), fun c hc => nextN_needs hc hc4⟩
          rw [Nat.mod_eq_of_lt (by rw [List.length_drop]; omega), List.getElem?_drop, ← Nat.add_assoc]
          exact hnn
        · have he : k0 + t + 1 = way.length := by omega
          rw [he, List.getElem?_append_right (Nat.le_refl _), Nat.sub_self] at hc4
          refine ⟨at', ?_, h3 at' h1, fun c hc => nextN_needs hc hc4⟩
          rw [show t + 1 = (way.drop k0).length by rw [List.length_drop]; omega, Nat.mod_self, List.getElem?_drop, Nat.add_zero]
          exact hw0
end Go.Sz
