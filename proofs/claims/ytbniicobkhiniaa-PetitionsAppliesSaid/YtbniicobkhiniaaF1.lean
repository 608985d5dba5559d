/- Petitions: facts and petitions, in plain Lean. -/
import Derived.Test.YtbniicobkhiniaaI
namespace Go.Sz
open Go.RowKit
/-- a key -/
structure Ky where
  k : Int
  s : Int
  o : Int
deriving DecidableEq
/-- a fact -/
structure Ft where
  k : Int
  s : Int
  o : Int
  v : Int
  fr : Int
  to : Int
  kn : Int
  no : Int
deriving DecidableEq
def Ft.key (f : Ft) : Ky := ⟨f.k, f.s, f.o⟩
def f0 : Ft := ⟨0, 0, 0, 0, 0, 0, 0, 0⟩
def okF (f : Ft) : Bool := withinB f.k 1 12 && withinB f.s 0 20000 && withinB f.o 0 20000 && withinB f.v (-1) 1099511627776 && decide (0 ≤ f.fr) && decide (f.fr < f.to) && decide (f.to ≤ 1024) && withinB f.kn 1 16777216 && withinB f.no 0 65535
def cmpF (a b : Ft) : Int := orL [cmpI a.kn b.kn, cmpI a.no b.no]
def befF (a b : Ft) : Bool := decide (a.kn < b.kn) || (decide (a.kn = b.kn) && decide (a.no < b.no))
theorem cmpF_eq (a b : Ft) : cmpF a b = if a.kn < b.kn then -1 else if b.kn < a.kn then 1 else cmpI a.no b.no := by
  unfold cmpF
  simp only [orL]
  by_cases h1 : a.kn < b.kn
  · have : cmpI a.kn b.kn = -1 := by unfold cmpI; rw [if_pos h1]
    rw [this, if_neg (by decide), if_pos h1]
  · rw [if_neg h1]
    by_cases h2 : b.kn < a.kn
    · have : cmpI a.kn b.kn = 1 := by unfold cmpI; rw [if_neg h1, if_pos h2]
      rw [this, if_neg (by decide), if_pos h2]
    · have : cmpI a.kn b.kn = 0 := by unfold cmpI; rw [if_neg h1, if_neg h2]
      rw [this, if_pos rfl, if_neg h2]
      by_cases h3 : cmpI a.no b.no = 0
      · rw [if_pos h3, h3]
      · rw [if_neg h3]
theorem cmpF_neg {a b : Ft} : cmpF a b < 0 ↔ befF a b = true := by
  rw [cmpF_eq]
  unfold befF
  simp only [Bool.or_eq_true, Bool.and_eq_true, decide_eq_true_eq]
  have := @cmpI_neg a.no b.no
  split
  · omega
  · split
    · omega
    · omega
theorem cmpF_pos {a b : Ft} : 0 ≤ cmpF a b ↔ befF a b = false := by
  rw [← Bool.not_eq_true, ← cmpF_neg]
  omega
theorem befF_iff {a b : Ft} : befF a b = true ↔ a.kn < b.kn ∨ (a.kn = b.kn ∧ a.no < b.no) := by
  unfold befF
  simp only [Bool.or_eq_true, Bool.and_eq_true, decide_eq_true_eq]
theorem befF_trans {a b c : Ft} (h : befF a b = true) (k : befF b c = true) : befF a c = true := by
  rw [befF_iff] at *
  omega
theorem befF_asym {a b : Ft} (h : befF a b = true) : befF b a = false := by
  rw [← Bool.not_eq_true, befF_iff]
  rw [befF_iff] at h
  omega
/-- each comes before the next -/
def ordF (l : List Ft) : Bool := (List.range (l.length - 1)).all fun i => decide (cmpF (l.getD i f0) (l.getD (i + 1) f0) < 0)
def checkF (l : List Ft) : Int := if l.all okF = true then (if ordF l = true then 0 else 71) else 70
def lastF (l : List Ft) : Ft := l.getD (l.length - 1) f0
def addF (l : List Ft) (f : Ft) : List Ft × Int := if checkF l = 0 then (if okF f = true then (if l.length = 0 ∨ cmpF (lastF l) f < 0 then (l ++ [f], 0) else ([], 71)) else ([], 70)) else ([], checkF l)
def inT (f : Ft) (k : Ky) (t kn : Int) : Bool := decide (f.key = k) && decide (f.kn ≤ kn) && decide (f.fr ≤ t) && decide (t < f.to)
def betF (b : Option Ft) (f : Ft) : Bool := match b with
  | none => true
  | some b => decide (0 ≤ cmpF f b)
def stepB (k : Ky) (t kn : Int) (b : Option Ft) (f : Ft) : Option Ft := if inT f k t kn = true ∧ betF b f = true then some f else b
def bestF (l : List Ft) (k : Ky) (t kn : Int) : Option Ft := l.foldl (stepB k t kn) none
def vlF (b : Option Ft) : Int := match b with
  | none => -1
  | some f => max f.v (-1)
def valF (l : List Ft) (k : Ky) (t kn : Int) : Int := vlF (bestF l k t kn)
/-- the numbers from a on -/
def rngF (a b : Int) : List Int := (List.range (b - a).toNat).map fun (i : Nat) => a + (i : Int)
def ptsF (l : List Ft) (k : Ky) (a b kn : Int) : List (Int × Int) := ((rngF (max 0 a) (min b 1024)).filter fun t => decide (0 ≤ valF l k t kn)).map fun t => (t, valF l k t kn)
/-- what is looked at -/
def lookF (l : List Ft) (k : Ky) (t kn : Int) : Int := if 0 ≤ t ∧ t < 1024 ∧ 0 ≤ valF l k t kn then valF l k t kn else 0
def activeF (l : List Ft) (k : Ky) (t kn : Int) : Int × Bool := (lookF l k t kn, decide (0 < lookF l k t kn))
def ofF (l : List Ft) (kd st t kn : Int) : List Int := ([0, 1, 2, 3, 4, 5, 6, 7] : List Int).filter fun n => decide (lookF l ⟨kd, st, n⟩ t kn = 1)
theorem lookF_nonneg (l : List Ft) (k : Ky) (t kn : Int) : 0 ≤ lookF l k t kn := by
  unfold lookF
  split <;> omega
theorem rngF_nil {a b : Int} (h : b ≤ a) : rngF a b = [] := by
  unfold rngF
  rw [show (b - a).toNat = 0 by omega]
  rfl
theorem rngF_one (a : Int) : rngF a (a + 1) = [a] := by
  unfold rngF
  rw [show (a + 1 - a).toNat = 1 by omega]
  simp [List.range_succ]
theorem rngF_snoc {a b : Int} (h : a ≤ b) : rngF a (b + 1) = rngF a b ++ [b] := by
  unfold rngF
  rw [show (b + 1 - a).toNat = (b - a).toNat + 1 by omega, List.range_succ, List.map_append]
  simp
  omega
theorem ptsF_one (l : List Ft) (k : Ky) (t kn : Int) : ptsF l k t (t + 1) kn = if 0 ≤ t ∧ t < 1024 ∧ 0 ≤ valF l k t kn then [(t, valF l k t kn)] else [] := by
  unfold ptsF
  by_cases h : 0 ≤ t ∧ t < 1024
  · rw [show max 0 t = t by omega, show min (t + 1) 1024 = t + 1 by omega, rngF_one]
    by_cases h2 : 0 ≤ valF l k t kn
    · rw [if_pos ⟨h.1, h.2, h2⟩]
      simp [h2]
    · rw [if_neg (fun h3 => h2 h3.2.2)]
      simp [h2]
  · rw [rngF_nil (by omega), if_neg (fun h3 => h ⟨h3.1, h3.2.1⟩)]
    rfl
/-- what is looked at hangs on the points alone -/
theorem lookF_pts (l : List Ft) (k : Ky) (t kn : Int) : lookF l k t kn = match ptsF l k t (t + 1) kn with
  | [] => 0
  | p :: _ => p.2 := by
  rw [ptsF_one]
  unfold lookF
  split <;> rfl
theorem lookF_alike {l : List Ft} {k : Ky} {t a b : Int} (h : ptsF l k t (t + 1) a = ptsF l k t (t + 1) b) : lookF l k t a = lookF l k t b := by
  rw [lookF_pts, lookF_pts, h]
theorem bestF_snoc (l : List Ft) (f : Ft) (k : Ky) (t kn : Int) : bestF (l ++ [f]) k t kn = stepB k t kn (bestF l k t kn) f := by
  unfold bestF
  rw [List.foldl_append]
  rfl
theorem bestF_mem {l : List Ft} {k : Ky} {t kn : Int} {g : Ft} (h : bestF l k t kn = some g) : g ∈ l ∧ inT g k t kn = true := by
  have hh : ∀ (l : List Ft) (b : Option Ft), (l.foldl (stepB k t kn) b = some g) → b = some g ∨ (g ∈ l ∧ inT g k t kn = true) := by
    intro l
    induction l with
    | nil => intro b h; exact Or.inl h
    | cons x l ih =>
      intro b h
      rcases ih _ h with h | h
      · unfold stepB at h
        split at h
        · rename_i hc
          cases h
          exact Or.inr ⟨by simp, hc.1⟩
        · exact Or.inl h
      · exact Or.inr ⟨by simp [h.1], h.2⟩
  rcases hh l none h with h | h
  · cases h
  · exact h
theorem ordF_at {l : List Ft} (h : ordF l = true) {i : Nat} (hi : i + 1 < l.length) : befF (l.getD i f0) (l.getD (i + 1) f0) = true := by
  unfold ordF at h
  have := List.all_eq_true.1 h i (List.mem_range.2 (by omega))
  rw [decide_eq_true_eq] at this
  exact cmpF_neg.1 this
theorem ordF_lt {l : List Ft} (h : ordF l = true) : ∀ (i j : Nat), i < j → j < l.length → befF (l.getD i f0) (l.getD j f0) = true := by
  intro i j hij
  induction j with
  | zero => omega
  | succ j ih =>
    intro hj
    have h1 := ordF_at h hj
    rcases Nat.lt_or_ge i j with hl | hl
    · exact befF_trans (ih hl (by omega)) h1
    · obtain rfl : i = j := by omega
      exact h1
theorem addF_ok {l : List Ft} {f : Ft} {x : List Ft} (h : addF l f = (x, 0)) : x = l ++ [f] ∧ ∀ g ∈ l, befF g f = true := by
  unfold addF at h
  by_cases hc : checkF l = 0
  · rw [if_pos hc] at h
    split at h
    · split at h
      · rename_i hl
        have h1 := (Prod.mk.inj h).1.symm
        refine ⟨h1, fun g hg => ?_⟩
        unfold checkF at hc
        split at hc
        · split at hc
          · rename_i ho
            obtain ⟨i, hi, rfl⟩ := List.mem_iff_getElem.1 hg
            have hlast : befF (lastF l) f = true := by
              rcases hl with hl | hl
              · omega
              · exact cmpF_neg.1 hl
            have hgi : l.getD i f0 = l[i] := by simp [List.getD, hi]
            rcases Nat.lt_or_ge i (l.length - 1) with hlt | hlt
            · have := ordF_lt ho i (l.length - 1) hlt (by omega)
              rw [hgi] at this
              exact befF_trans this hlast
            · obtain rfl : i = l.length - 1 := by omega
              unfold lastF at hlast
              rw [hgi] at hlast
              exact hlast
          · cases hc
        · cases hc
      · have := (Prod.mk.inj h).2
        cases this
    · have := (Prod.mk.inj h).2
      cases this
  · rw [if_neg hc] at h
    exact absurd (Prod.mk.inj h).2 hc
theorem addF_bad {l : List Ft} {f : Ft} {x : List Ft} {e : Int} (h : addF l f = (x, e)) (he : e ≠ 0) : x = [] := by
  unfold addF at h
  split at h
  · split at h
    · split at h
      · exact absurd (Prod.mk.inj h).2.symm he
      · exact (Prod.mk.inj h).1.symm
    · exact (Prod.mk.inj h).1.symm
  · exact (Prod.mk.inj h).1.symm
/-- the new fact is the best in its terms -/
theorem bestF_add {l : List Ft} {f : Ft} (hb : ∀ g ∈ l, befF g f = true) {t kn : Int} (h1 : f.kn ≤ kn) (h2 : f.fr ≤ t) (h3 : t < f.to) : bestF (l ++ [f]) f.key t kn = some f := by
  rw [bestF_snoc]
  unfold stepB
  rw [if_pos]
  refine ⟨by unfold inT; simp [h1, h2, h3], ?_⟩
  cases hbest : bestF l f.key t kn with
  | none => rfl
  | some g =>
    have := hb g (bestF_mem hbest).1
    unfold betF
    rw [decide_eq_true_eq, cmpF_pos]
    exact befF_asym this
theorem bestF_other {l : List Ft} {f : Ft} {k : Ky} {t kn : Int} (h : inT f k t kn = false) : bestF (l ++ [f]) k t kn = bestF l k t kn := by
  rw [bestF_snoc]
  unfold stepB
  rw [if_neg (fun hc => by rw [h] at hc; cases hc.1)]
theorem lookF_other {l : List Ft} {f : Ft} {k : Ky} {t kn : Int} (h : inT f k t kn = false) : lookF (l ++ [f]) k t kn = lookF l k t kn := by
  unfold lookF valF
  rw [bestF_other h]
theorem lookF_add {l : List Ft} {f : Ft} (hb : ∀ g ∈ l, befF g f = true) (h0 : 0 ≤ f.fr) (ht : f.to ≤ 1024) {t kn : Int} (h1 : f.kn ≤ kn) (h2 : f.fr ≤ t) (h3 : t < f.to) : lookF (l ++ [f]) f.key t kn = max f.v 0 := by
  unfold lookF valF
  rw [bestF_add hb h1 h2 h3]
  unfold vlF
  dsimp only
  split <;> omega
end Go.Sz
