/- Petitions: petitions, holds and groups, in plain Lean. -/
import Derived.Test.YtbniicobkhiniaaF1
namespace Go.Sz
open Go.RowKit
def objP (k : Int) : Int := if k = 6 ∨ k = 11 then 8 else if k = 7 ∨ k = 9 then 4096 else if k = 8 then 4000 else if k = 10 then 1 else 0
def mostP (k : Int) : Int := if k = 6 ∨ k = 11 then 1 else if 7 ≤ k ∧ k ≤ 10 then 1099511627776 else 0
/-- do a kind, a student, an object and a value fit together -/
def fitP (k s o v : Int) : Bool := decide (0 ≤ k) && decide (k < 13) && decide (0 ≤ s) && decide (s < 20000) && decide (0 ≤ o) && decide (o < objP k) && (v == -1 || (decide (1 ≤ v) && decide (v ≤ mostP k)))
def factP (x : Ft) : Ft × Int := if fitP x.k x.s x.o x.v = true then (if okF x = true then (x, 0) else (f0, 70)) else (f0, 270)
theorem factP_ok {x : Ft} {f : Ft} (h : factP x = (f, 0)) : f = x ∧ fitP x.k x.s x.o x.v = true ∧ okF x = true := by
  unfold factP at h
  split at h
  · split at h
    · exact ⟨(Prod.mk.inj h).1.symm, by assumption, by assumption⟩
    · cases (Prod.mk.inj h).2
  · cases (Prod.mk.inj h).2
theorem factP_bad {x : Ft} {f : Ft} {e : Int} (h : factP x = (f, e)) (he : e ≠ 0) : f = f0 ∧ (e = 270 ∨ e = 70) := by
  unfold factP at h
  split at h
  · split at h
    · exact absurd (Prod.mk.inj h).2.symm he
    · exact ⟨(Prod.mk.inj h).1.symm, Or.inr (Prod.mk.inj h).2.symm⟩
  · exact ⟨(Prod.mk.inj h).1.symm, Or.inl (Prod.mk.inj h).2.symm⟩
theorem check_one (x : Ft) : checkF [x] = if okF x = true then 0 else 70 := by
  unfold checkF ordF
  simp
theorem fitP_value {k s o v : Int} (h : fitP k s o v = true) : v = -1 ∨ 1 ≤ v := by
  unfold fitP at h
  simp only [Bool.and_eq_true, Bool.or_eq_true, beq_iff_eq, decide_eq_true_eq] at h
  omega
theorem okF_span {x : Ft} (h : okF x = true) : 0 ≤ x.fr ∧ x.fr < x.to ∧ x.to ≤ 1024 ∧ 1 ≤ x.kn ∧ x.kn ≤ 16777216 := by
  unfold okF withinB at h
  simp only [Bool.and_eq_true, decide_eq_true_eq] at h
  omega
/-- a petition applies in its terms -/
theorem applies_in {l : List Ft} {x : Ft} (ho : okF x = true) (hf : fitP x.k x.s x.o x.v = true) (hb : ∀ g ∈ l, befF g x = true) {t : Int} (h1 : x.fr ≤ t) (h2 : t < x.to) : activeF (l ++ [x]) x.key t x.kn = (if 1 ≤ x.v then x.v else 0, decide (1 ≤ x.v)) := by
  obtain ⟨s1, s2, s3, _, _⟩ := okF_span ho
  unfold activeF
  rw [lookF_add hb s1 s3 (Int.le_refl _) h1 h2]
  rcases fitP_value hf with hv | hv
  · rw [hv]; rfl
  · rw [if_pos hv, show max x.v 0 = x.v by omega]
    have : (decide (0 < x.v)) = decide (1 ≤ x.v) := by
      rw [decide_eq_decide]
      omega
    rw [this]
theorem active_other {l : List Ft} {x : Ft} {k : Ky} {t kn : Int} (h : inT x k t kn = false) : activeF (l ++ [x]) k t kn = activeF l k t kn := by
  unfold activeF
  rw [lookF_other h]
theorem inT_term {x : Ft} {k : Ky} {t kn : Int} (h : ¬ (x.fr ≤ t ∧ t < x.to)) : inT x k t kn = false := by
  rw [← Bool.not_eq_true]
  unfold inT
  simp only [Bool.and_eq_true, decide_eq_true_eq]
  omega
theorem inT_known {x : Ft} {k : Ky} {t kn : Int} (h : kn < x.kn) : inT x k t kn = false := by
  rw [← Bool.not_eq_true]
  unfold inT
  simp only [Bool.and_eq_true, decide_eq_true_eq]
  omega
theorem inT_key {x : Ft} {k : Ky} {t kn : Int} (h : x.key ≠ k) : inT x k t kn = false := by
  rw [← Bool.not_eq_true]
  unfold inT
  simp only [Bool.and_eq_true, decide_eq_true_eq]
  intro hc
  exact h hc.1.1.1
/-- groups of another kind or student are not touched -/
theorem ofF_other {l : List Ft} {x : Ft} {kd st t kn : Int} (h : ∀ n : Int, inT x ⟨kd, st, n⟩ t kn = false) : ofF (l ++ [x]) kd st t kn = ofF l kd st t kn := by
  unfold ofF
  congr 1
  funext n
  rw [lookF_other (h n)]
theorem ofF_has (l : List Ft) (kd st t kn : Int) (n : Int) : (ofF l kd st t kn).contains n = (decide (0 ≤ n) && decide (n < 8) && decide (lookF l ⟨kd, st, n⟩ t kn = 1)) := by
  rw [Bool.eq_iff_iff, List.contains_iff_mem]
  unfold ofF
  rw [List.mem_filter]
  simp only [Bool.and_eq_true, decide_eq_true_eq]
  constructor
  · rintro ⟨h, k⟩
    refine ⟨?_, k⟩
    simp at h
    omega
  · rintro ⟨⟨h1, h2⟩, k⟩
    refine ⟨?_, k⟩
    simp
    omega
theorem look_hold {l : List Ft} {x : Ft} (ho : okF x = true) (hb : ∀ g ∈ l, befF g x = true) {t : Int} (h1 : x.fr ≤ t) (h2 : t < x.to) (n : Int) : lookF (l ++ [x]) ⟨x.k, x.s, n⟩ t x.kn = if n = x.o then max x.v 0 else lookF l ⟨x.k, x.s, n⟩ t x.kn := by
  obtain ⟨s1, s2, s3, _, _⟩ := okF_span ho
  by_cases hn : n = x.o
  · subst hn
    rw [if_pos rfl]
    exact lookF_add hb s1 s3 (Int.le_refl _) h1 h2
  · rw [if_neg hn]
    refine lookF_other (inT_key fun hc => ?_)
    unfold Ft.key at hc
    simp only [Ky.mk.injEq] at hc
    exact hn hc.2.2.symm
end Go.Sz
