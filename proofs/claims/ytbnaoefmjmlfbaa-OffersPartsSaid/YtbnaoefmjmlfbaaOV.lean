/- Offers: what stands and what has expired, in plain Lean. No program in sight. -/
import Derived.Test.YtbnaoefmjmlfbaaOU
namespace Go.Sz
theorem filter_lens (P : Off → Bool) (l : List Off) : (l.filter P).length + (l.filter (fun o => !P o)).length = l.length := by
  induction l with
  | nil => rfl
  | cons x l ih =>
    rw [List.filter_cons, List.filter_cons]
    cases hP : P x
    · simp only [Bool.not_false, if_true, Bool.false_eq_true, if_false, List.length_cons]; omega
    · simp only [Bool.not_true, if_true, Bool.false_eq_true, if_false, List.length_cons]; omega
theorem filter_counts (P Q : Off → Bool) (l : List Off) : (l.filter P).countP Q + (l.filter (fun o => !P o)).countP Q = l.countP Q := by
  induction l with
  | nil => rfl
  | cons x l ih =>
    rw [List.filter_cons, List.filter_cons, List.countP_cons]
    cases hP : P x
    · simp only [Bool.not_false, if_true, Bool.false_eq_true, if_false, List.countP_cons]; omega
    · simp only [Bool.not_true, if_true, Bool.false_eq_true, if_false, List.countP_cons]; omega
theorem filter_at (P : Off → Bool) {l : List Off} {i : Nat} {y : Off} (hi : i < l.length) (hy : l[i] = y) (hP : P y = true) : (l.filter P)[(l.take i).countP P]? = some y := by
  have h : l = l.take i ++ y :: l.drop (i + 1) := by rw [← hy, List.getElem_cons_drop, List.take_append_drop]
  have h2 : l.filter P = (l.take i).filter P ++ y :: (l.drop (i + 1)).filter P := by
    conv => lhs; rw [h]
    rw [List.filter_append, List.filter_cons, if_pos hP]
  rw [h2, List.countP_eq_length_filter, List.getElem?_append_right (Nat.le_refl _), Nat.sub_self, List.getElem?_cons_zero]
theorem exp_held {l X G : List Off} {now : Int} (h : expO l now = (X, G)) (n : Int) : heldO X n + heldO G n = heldO l n := by
  unfold expO at h
  obtain ⟨rfl, rfl⟩ := Prod.mk.inj h
  unfold heldO
  split
  · rfl
  · have := filter_counts (fun o => decide (now < o.u)) (fun o => o.a == n || o.b == n) l
    omega
theorem exp_len {l X G : List Off} {now : Int} (h : expO l now = (X, G)) : X.length + G.length = l.length := by
  unfold expO at h
  obtain ⟨rfl, rfl⟩ := Prod.mk.inj h
  exact filter_lens _ l
theorem exp_later {l X G Y O Z M : List Off} {now d : Int} (h : expO l now = (X, G)) (h2 : expO l (now + d) = (Y, O)) (h3 : expO X (now + d) = (Z, M)) (hd : 0 ≤ d) : Z = Y := by
  unfold expO at *
  obtain ⟨rfl, rfl⟩ := Prod.mk.inj h
  obtain ⟨rfl, rfl⟩ := Prod.mk.inj h2
  obtain ⟨rfl, rfl⟩ := Prod.mk.inj h3
  rw [List.filter_filter]
  congr 1
  funext o
  by_cases h : now + d < o.u
  · simp [h, show now < o.u by omega]
  · simp [h]
theorem exp_ok {l X G : List Off} {now : Int} (h : expO l now = (X, G)) (hk : okLO l = true) : okLO X = true ∧ okLO G = true := by
  unfold expO at h
  obtain ⟨rfl, rfl⟩ := Prod.mk.inj h
  obtain ⟨h1, h2⟩ := okLO_iff.1 hk
  exact ⟨okLO_iff.2 ⟨fun x hx => h1 x ((List.mem_filter.1 hx).1), h2.sublist List.filter_sublist⟩, okLO_iff.2 ⟨fun x hx => h1 x ((List.mem_filter.1 hx).1), h2.sublist List.filter_sublist⟩⟩
/-- how many stand, how many have expired, among the first i -/
structure Cnt (l : List Off) (now : Int) (a b i : Nat) : Prop where
  a : a = (l.take i).countP fun o => decide (now < o.u)
  b : b = (l.take i).countP fun o => !decide (now < o.u)
theorem Cnt.start (l : List Off) (now : Int) : Cnt l now 0 0 0 := ⟨by simp, by simp⟩
theorem Cnt.stand {l X G : List Off} {now : Int} {a b i : Nat} {y : Off} (he : expO l now = (X, G)) (h : Cnt l now a b i) (hi : i < l.length) (hy : l[i] = y) (hu : now < y.u) : Cnt l now (a + 1) b (i + 1) ∧ ∃ h : a < X.length, X[a] = y := by
  unfold expO at he
  obtain ⟨rfl, rfl⟩ := Prod.mk.inj he
  refine ⟨⟨?_, ?_⟩, ?_⟩
  · rw [countP_take hi, hy, if_pos (by simpa using hu), h.a]
  · rw [countP_take hi, hy, if_neg (by simpa using hu), h.b, Nat.add_zero]
  · have h2 := filter_at (fun o => decide (now < o.u)) hi hy (by simpa using hu)
    rw [← h.a] at h2
    exact List.getElem?_eq_some_iff.1 h2
theorem Cnt.gone {l X G : List Off} {now : Int} {a b i : Nat} {y : Off} (he : expO l now = (X, G)) (h : Cnt l now a b i) (hi : i < l.length) (hy : l[i] = y) (hu : ¬ now < y.u) : Cnt l now a (b + 1) (i + 1) ∧ (∃ h : b < G.length, G[b] = y) ∧ ∀ h : a < X.length, X[a] ≠ y := by
  unfold expO at he
  obtain ⟨rfl, rfl⟩ := Prod.mk.inj he
  refine ⟨⟨?_, ?_⟩, ?_, ?_⟩
  · rw [countP_take hi, hy, if_neg (by simpa using hu), h.a, Nat.add_zero]
  · rw [countP_take hi, hy, if_pos (by simpa using hu), h.b]
  · have h2 := filter_at (fun o => !decide (now < o.u)) hi hy (by simpa using hu)
    rw [← h.b] at h2
    exact List.getElem?_eq_some_iff.1 h2
  · intro h2 h3
    have h4 := (List.mem_filter.1 (List.getElem_mem h2)).2
    rw [h3] at h4
    exact hu (by simpa using h4)
end Go.Sz
