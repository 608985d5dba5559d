/- Names: the order of courses, programmes and classes does not matter, in plain Lean. -/
import Derived.Test.YtimigpfoflilcaaLAp
namespace Go.Sz
open Go.RowKit
theorem find_perm {α : Type} {l m : List α} (hp : l.Perm m) {P : α → Bool} (hu : ∀ a ∈ l, ∀ b ∈ l, P a = true → P b = true → a = b) : l.find? P = m.find? P := by
  cases e : l.find? P with
  | none =>
    symm
    rw [List.find?_eq_none]
    intro x hx
    exact List.find?_eq_none.1 e x (hp.mem_iff.2 hx)
  | some a =>
    cases e2 : m.find? P with
    | none => exact absurd (List.find?_some e) (List.find?_eq_none.1 e2 a (hp.mem_iff.1 (List.mem_of_find?_eq_some e)))
    | some b => rw [hu a (List.mem_of_find?_eq_some e) b (hp.mem_iff.2 (List.mem_of_find?_eq_some e2)) (List.find?_some e) (List.find?_some e2)]
theorem isF_one {l : List Cr} (h : (l.map Cr.nm).Nodup) (nm : ByteArray) : ∀ a ∈ l, ∀ b ∈ l, isF nm a = true → isF nm b = true → a = b := by
  intro a ha b hb h1 h2
  have e1 : a.nm = nm := toList_iff.1 (by simpa [isF] using h1)
  have e2 : b.nm = nm := toList_iff.1 (by simpa [isF] using h2)
  exact map_inj h ha hb (e1.trans e2.symm)
theorem isM_one {l : List Cr} (h : (l.map Cr.nm).Nodup) (h2 : (l.map Cr.nu).Nodup) (nm : ByteArray) (nu : Int) : ∀ a ∈ l, ∀ b ∈ l, isM nm nu a = true → isM nm nu b = true → a = b := by
  intro a ha b hb e1 e2
  cases he : nm.toList.isEmpty with
  | true =>
    rw [isM_none he] at e1 e2
    exact map_inj h2 ha hb ((by simpa using e1 : a.nu = nu).trans (by simpa using e2 : b.nu = nu).symm)
  | false =>
    rw [isM_some he] at e1 e2
    exact isF_one h nm a ha b hb e1 e2
theorem meantN_isM (l : List Cr) (nm : ByteArray) (nu : Int) : meantN l nm nu = l.findIdx? (isM nm nu) := rfl
theorem idx_find {l : List Cr} {P : Cr → Bool} {n : Nat} (h : l.findIdx? P = some n) : l.find? P = l[n]? := by
  have hc : findC l P = (n : Int) := by unfold findC; rw [h]
  obtain ⟨k, hk, e, hf⟩ := findC_lt (l := l) (P := P) (by rw [hc]; exact Int.natCast_nonneg n)
  have : k = n := by rw [hc] at e; omega
  subst this
  rw [hf, List.getElem?_eq_getElem hk]
theorem find_idx {l : List Cr} {P : Cr → Bool} {y : Cr} (h : l.find? P = some y) : ∃ n, l.findIdx? P = some n ∧ l[n]? = some y := by
  cases e : l.findIdx? P with
  | none =>
    have h1 := List.findIdx?_eq_none_iff.1 e y (List.mem_of_find?_eq_some h)
    have h2 := List.find?_some h
    rw [h1] at h2
    cases h2
  | some n => exact ⟨n, rfl, by rw [← idx_find e, h]⟩
theorem needs_perm {l m : List Cr} (hp : l.Perm m) (h1 : (l.map Cr.nm).Nodup) (h2 : (l.map Cr.nu).Nodup) {c x : Cr} {n : Nat} (hn : n ∈ needsN m c) (hx : m[n]? = some x) : ∃ k ∈ needsN l c, l[k]? = some x := by
  rw [needsN_def, List.mem_filterMap] at hn
  obtain ⟨p, hpp, hf⟩ := hn
  unfold needF at hf
  by_cases ho : p.op = 5 ∨ p.op = 6
  · rw [if_pos ho, meantN_isM] at hf
    have h3 := idx_find hf
    rw [hx, ← find_perm hp (isM_one h1 h2 p.nm p.co)] at h3
    obtain ⟨k, hk, hkx⟩ := find_idx h3
    refine ⟨k, ?_, hkx⟩
    rw [needsN_def, List.mem_filterMap]
    refine ⟨p, hpp, ?_⟩
    unfold needF
    rw [if_pos ho, meantN_isM, hk]
  · rw [if_neg ho] at hf
    cases hf
theorem listed_perm {l m : List Cr} (hp : l.Perm m) (h1 : (l.map Cr.nm).Nodup) (h2 : (l.map Cr.nu).Nodup) (h : ¬ (listedN l).1.length < l.length) : ¬ (listedN m).1.length < m.length := by
  intro hlt
  have hm2 : (m.map Cr.nu).Nodup := (hp.map Cr.nu).nodup_iff.1 h2
  obtain ⟨D, -, hD0, hD⟩ := circle_ok hm2
  have key : ∀ (v t a : Nat) (c : Cr), D[t]? = some a → m[a]? = some c → findI (ordL l) c.nu = (v : Int) → False := by
    intro v
    induction v using Nat.strongRecOn with
    | ind v ih =>
      intro t a c ht hc hv
      obtain ⟨-, -, n, hn, hnl, hnn⟩ := hD t a ht
      obtain ⟨x, hx⟩ : ∃ x, m[n]? = some x := ⟨_, List.getElem?_eq_getElem hnl⟩
      obtain ⟨k, hk, hkx⟩ := needs_perm hp h1 h2 (hnn c hc) hx
      obtain ⟨i, hi⟩ := List.getElem?_of_mem (hp.mem_iff.2 (List.mem_of_getElem? hc))
      obtain ⟨r, hr, hrr⟩ := after_ok h2 h hi
      obtain ⟨j, hj, hjr⟩ := hrr k hk x hkx
      rw [hr] at hv
      exact ih j (by omega) _ n x hn hx hj
  cases D with
  | nil =>
    have := hD0.1 rfl
    unfold ordE at this
    rw [if_pos hlt] at this
    cases this
  | cons a D =>
    obtain ⟨hal, -⟩ := hD 0 a rfl
    obtain ⟨c, hc⟩ : ∃ c, m[a]? = some c := ⟨_, List.getElem?_eq_getElem hal⟩
    obtain ⟨i, hi⟩ := List.getElem?_of_mem (hp.mem_iff.2 (List.mem_of_getElem? hc))
    obtain ⟨r, hr, -⟩ := after_ok h2 h hi
    exact key r 0 a c rfl hc hr
mutual
theorem res_nr {l m : List Cr} (h : ∀ nm v, numR l nm v = numR m nm v) : ∀ (r : Rt), r.res l = r.res m
  | .mk op co nm n d kids => by
    rw [Rt.res, Rt.res, resL_nr h kids]
    unfold Rt.num
    rw [h]
theorem resL_nr {l m : List Cr} (h : ∀ nm v, numR l nm v = numR m nm v) : ∀ (ks : List Rt), resL l ks = resL m ks
  | [] => by rw [resL, resL]
  | k :: ks => by rw [resL, resL, res_nr h k, resL_nr h ks]
end
theorem resC_nr {l m : List Cr} (h : ∀ nm v, numR l nm v = numR m nm v) : resC l = resC m := by
  funext x
  unfold resC
  simp only [res_nr h]
theorem resP_nr {l m : List Cr} (h : ∀ nm v, numR l nm v = numR m nm v) : resP l = resP m := by
  funext x
  unfold resP
  simp only [h]
theorem resG_nr {l m : List Cr} (h : ∀ nm v, numR l nm v = numR m nm v) : resG l = resG m := by
  have hq : resQ l = resQ m := by
    funext x
    unfold resQ
    simp only [h]
  funext x
  unfold resG
  rw [hq]
theorem travO_none {α β : Type} {f : α → Option β} : ∀ {l : List α}, travO f l = none ↔ ∃ a ∈ l, f a = none := by
  intro l
  induction l with
  | nil => simp [travO]
  | cons a l ih =>
    rw [travO]
    cases e : f a with
    | none => simp [e]
    | some b =>
      cases e2 : travO f l with
      | none =>
        obtain ⟨x, hx, hf⟩ := ih.1 e2
        exact ⟨fun _ => ⟨x, List.mem_cons_of_mem _ hx, hf⟩, fun _ => rfl⟩
      | some bs =>
        refine ⟨fun h => (nomatch h), fun ⟨x, hx, hf⟩ => ?_⟩
        rcases List.mem_cons.1 hx with rfl | hx
        · rw [e] at hf; cases hf
        · have := ih.2 ⟨x, hx, hf⟩
          rw [e2] at this
          cases this
theorem travO_perm {α β : Type} {f : α → Option β} {l m : List α} (hp : l.Perm m) : travO f l = none ↔ travO f m = none := by
  rw [travO_none, travO_none]
  simp only [hp.mem_iff]
theorem nums_none {c : Cat} : c.nums = none ↔ travO (resC c.cs) c.cs = none ∨ travO (resP c.cs) c.sm = none ∨ travO (resG c.cs) c.pg = none := by
  unfold Cat.nums
  cases travO (resC c.cs) c.cs with
  | none => simp
  | some a =>
    cases travO (resP c.cs) c.sm with
    | none => simp
    | some b =>
      cases travO (resG c.cs) c.pg with
      | none => simp
      | some g => simp
/-- what Resolve answers does not depend on the order -/
theorem resN_perm {c y : Cat} (hc : c.cs.Perm y.cs) (hp : c.pg.Perm y.pg) (hk : c.kl.Perm y.kl) (hs : y.sm = c.sm) (hf : y.fe = c.fe) (hh : y.ho = c.ho) : y.resN.1 = c.resN.1 ∧ y.resN.2.sm = c.resN.2.sm := by
  have harg : y.arg = c.arg := by
    unfold Cat.arg
    rw [Bool.eq_iff_iff]
    simp only [List.any_eq_true, hp.mem_iff]
  have honce : y.once ↔ c.once := by
    unfold Cat.once
    rw [← (hc.map Cr.nm).nodup_iff, ← (hc.map Cr.nu).nodup_iff, ← (hp.map Pg.nm).nodup_iff, ← (hp.map Pg.nu).nodup_iff, ← (hk.map Kl.nm).nodup_iff, hf, hh]
    simp only [hp.mem_iff]
  cases ha : c.arg with
  | true =>
    rw [Cat.resN_arg ha, Cat.resN_arg (harg.trans ha)]
    exact ⟨rfl, rfl⟩
  | false =>
    have ha' := harg.trans ha
    by_cases ho : c.once
    · have ho' := honce.2 ho
      have hN : ∀ nm v, numR c.cs nm v = numR y.cs nm v := fun nm v => by
        unfold numR
        rw [find_perm hc (isF_one ho.1 nm)]
      have hnn : y.nums = none ↔ c.nums = none := by
        rw [nums_none, nums_none, ← resC_nr hN, ← resP_nr hN, ← resG_nr hN, hs, ← travO_perm hc, ← travO_perm hp]
      cases hn : c.nums with
      | none =>
        rw [Cat.resN_name ha ho hn, Cat.resN_name ha' ho' (hnn.2 hn)]
        exact ⟨rfl, rfl⟩
      | some z =>
        cases hn' : y.nums with
        | none => rw [hnn.1 hn'] at hn; cases hn
        | some z' =>
          by_cases hl : (listedN c.cs).1.length < c.cs.length
          · have hl' : (listedN y.cs).1.length < y.cs.length := by
              rw [← Decidable.not_not (p := (listedN y.cs).1.length < y.cs.length)]
              intro h
              exact listed_perm hc.symm ho'.1 ho'.2.1 h hl
            rw [Cat.resN_cycle ha ho hn hl, Cat.resN_cycle ha' ho' hn' hl']
            exact ⟨rfl, rfl⟩
          · rw [Cat.resN_ok ha ho hn hl, Cat.resN_ok ha' ho' hn' (listed_perm hc ho.1 ho.2.1 hl)]
            refine ⟨rfl, ?_⟩
            obtain ⟨_, sm, _, -, e2, -, rfl⟩ := nums_of hn
            obtain ⟨_, sm', _, -, e2', -, rfl⟩ := nums_of hn'
            rw [hs, ← resP_nr hN, e2] at e2'
            exact (Option.some.inj e2').symm
    · rw [Cat.resN_twice ha ho, Cat.resN_twice ha' (fun h => ho (honce.1 h))]
      exact ⟨rfl, rfl⟩
/-- turned by k -/
def turnL {α : Type} (k : Nat) (l : List α) : List α := l.drop k ++ l.take k
theorem turnL_perm {α : Type} (k : Nat) (l : List α) : l.Perm (turnL k l) := by
  unfold turnL
  have h : (l.take k ++ l.drop k).Perm l := by rw [List.take_append_drop]
  exact h.symm.trans List.perm_append_comm
theorem turnL_len {α : Type} (k : Nat) (l : List α) : (turnL k l).length = l.length := (turnL_perm k l).length_eq.symm
theorem Ok_perm {c y : Cat} (h : c.Ok) (hc : c.cs.Perm y.cs) (hp : c.pg.Perm y.pg) (hk : c.kl.Perm y.kl) (hs : y.sm = c.sm) (hf : y.fe = c.fe) (hh : y.ho = c.ho) : y.Ok :=
  ⟨hc.length_eq ▸ h.n0, hs ▸ h.n1, hp.length_eq ▸ h.n2, hk.length_eq ▸ h.n3, hf ▸ h.n4, hh ▸ h.n5, fun p hpp => h.rq p (hp.mem_iff.2 hpp), fun x hx => h.ru x (hc.mem_iff.2 hx), fun x hx => h.s0 x (hc.mem_iff.2 hx), fun p hpp => h.s2 p (hp.mem_iff.2 hpp), fun x hx => h.s3 x (hk.mem_iff.2 hx), hf ▸ h.s4, hh ▸ h.s5⟩
end Go.Sz
