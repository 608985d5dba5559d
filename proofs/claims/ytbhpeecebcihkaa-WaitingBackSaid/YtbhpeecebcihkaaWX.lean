/- Waiting: plain facts for the laws. No program in sight. -/
import Derived.Test.YtbhpeecebcihkaaWSa
namespace Go.Sz
theorem insW_perm (l : List Wt) (k : Nat) (x : Wt) : List.Perm (insW l k x) (x :: l) := by
  unfold insW
  have h := @List.perm_middle _ x (l.take k) (l.drop k)
  rwa [List.take_append_drop] at h
theorem insW_mem {l : List Wt} {k : Nat} {x y : Wt} : y ∈ insW l k x ↔ y = x ∨ y ∈ l := by rw [(insW_perm l k x).mem_iff, List.mem_cons]
theorem joinW_cases (l : List Wt) (x : Wt) : joinW l x = ([], 260) ∨ (okLW l = true ∧ okW x = true ∧ hasW l x = false ∧ joinW l x = (insW l (posW l x) x, 0)) := by
  unfold joinW
  split
  · split
    · split
      · exact .inl rfl
      · exact .inr ⟨by assumption, by assumption, by simp_all, rfl⟩
    · exact .inl rfl
  · exact .inl rfl
theorem posW_pos {l : List Wt} (hs : SortW l) (x : Wt) : PosW l x (posW l x) := by
  unfold posW
  induction l with
  | nil => exact ⟨by simp, fun t ht => by simp at ht, fun t ht => by simp at ht⟩
  | cons y l ih =>
    have hs' := (List.pairwise_cons.1 hs).2
    have hy' := (List.pairwise_cons.1 hs).1
    rw [List.takeWhile_cons]
    by_cases hy : cmpW y x < 0
    · rw [if_pos (decide_eq_true hy)]
      have h := ih hs'
      refine ⟨by have := h.le; simpa using this, fun t ht htp => ?_, fun t ht htp => ?_⟩
      · cases t with
        | zero => exact hy
        | succ t => exact h.lt t (by simpa using ht) (by simpa using htp)
      · cases t with
        | zero => simp at htp
        | succ t => exact h.ge t (by simpa using ht) (by simpa using htp)
    · rw [if_neg (by simpa using hy)]
      refine ⟨by simp, fun t ht htp => by simp at htp, fun t ht _ => ?_⟩
      cases t with
      | zero => exact Int.not_lt.1 hy
      | succ t =>
        refine Int.not_lt.1 fun hc => ?_
        exact hy (cmpW_trans (hy' _ (List.getElem_mem (by simpa using ht))) hc)
theorem sortW_ins {l : List Wt} {x : Wt} (hs : SortW l) (hx : hasW l x = false) : SortW (insW l (posW l x) x) := by
  have hp := posW_pos hs x
  have hne : ∀ y ∈ l, y ≠ x := fun y hy hc => by
    have := List.any_eq_false.1 hx y hy
    exact this (hc ▸ isW_self y)
  unfold insW
  rw [SortW, List.pairwise_append]
  refine ⟨hs.sublist (List.take_sublist _ _), ?_, ?_⟩
  · rw [List.pairwise_cons]
    refine ⟨fun y hy => ?_, hs.sublist (List.drop_sublist _ _)⟩
    obtain ⟨i, hi, rfl⟩ := List.mem_iff_getElem.1 hy
    rw [List.getElem_drop]
    rw [List.length_drop] at hi
    have h1 := hp.ge (posW l x + i) (by omega) (by omega)
    have h2 := hne _ (List.getElem_mem (l := l) (n := posW l x + i) (by omega))
    rcases cmpW_tri l[posW l x + i] x with h | h | h
    · exact absurd h (Int.not_lt.2 h1)
    · exact absurd h h2
    · exact h
  · intro y hy z hz
    obtain ⟨i, hi, rfl⟩ := List.mem_iff_getElem.1 hy
    rw [List.length_take] at hi
    rw [List.getElem_take]
    have h1 := hp.lt i (by omega) (by omega)
    rcases List.mem_cons.1 hz with rfl | hz
    · exact h1
    · obtain ⟨j, hj, rfl⟩ := List.mem_iff_getElem.1 hz
      rw [List.length_drop] at hj
      rw [List.getElem_drop]
      exact hs.get (by omega) (by omega)
theorem hasW_false {l : List Wt} {x : Wt} (h : hasW l x = false) : ∀ y ∈ l, plOf y ≠ plOf x := fun y hy e => by
  have := hasW_iff.2 ⟨y, hy, e⟩
  rw [h] at this
  cases this
theorem oneW_perm {l l' : List Wt} (p : l.Perm l') (h : OneW l) : OneW l' := (p.pairwise_iff fun {a b} (hab : plOf a ≠ plOf b) => Ne.symm hab).1 h
theorem okLW_ins {l : List Wt} {x : Wt} (h : okLW l = true) (ho : okW x = true) (hx : hasW l x = false) : okLW (insW l (posW l x) x) = true := by
  obtain ⟨h1, h2, h3⟩ := okLW_iff.1 h
  refine okLW_iff.2 ⟨fun y hy => ?_, sortW_ins h2 hx, ?_⟩
  · rcases insW_mem.1 hy with rfl | hy
    · exact ho
    · exact h1 y hy
  · refine oneW_perm (insW_perm l _ x).symm ?_
    rw [OneW, List.pairwise_cons]
    exact ⟨fun y hy => Ne.symm (hasW_false hx y hy), h3⟩
theorem find_insW {l : List Wt} {x : Wt} (hx : hasW l x = false) {k : Nat} (hk : k ≤ l.length) : (insW l k x).findIdx? (isW x.s x.a x.b) = some k := by
  rw [List.findIdx?_eq_some_iff_getElem]
  refine ⟨by rw [insW_len]; omega, ?_, fun j hj => ?_⟩
  · unfold insW
    rw [List.getElem_append_right (by rw [List.length_take]; omega)]
    simp only [List.length_take, Nat.min_eq_left hk, Nat.sub_self, List.getElem_cons_zero]
    exact isW_self x
  · unfold insW
    rw [List.getElem_append_left (by rw [List.length_take]; omega), List.getElem_take]
    exact List.any_eq_false.1 hx _ (List.getElem_mem _)
theorem erase_insW {l : List Wt} {x : Wt} {k : Nat} (hk : k ≤ l.length) : (insW l k x).eraseIdx k = l := by
  unfold insW
  rw [List.eraseIdx_append_of_length_le (by rw [List.length_take]; omega)]
  simp only [List.length_take, Nat.min_eq_left hk, Nat.sub_self, List.eraseIdx_cons_zero]
  exact List.take_append_drop _ _
theorem get_insW {l : List Wt} {x : Wt} {k : Nat} (hk : k ≤ l.length) (h : k < (insW l k x).length) : (insW l k x)[k] = x := by
  have h2 : (insW l k x)[k]? = some x := by
    unfold insW
    rw [List.getElem?_append_right (by rw [List.length_take]; omega)]
    simp only [List.length_take, Nat.min_eq_left hk, Nat.sub_self, List.getElem?_cons_zero]
  rw [List.getElem?_eq_getElem h] at h2
  exact Option.some.inj h2
theorem cmpW_anti {a b : Wt} (h1 : cmpW a b < 0) (h2 : cmpW b a < 0) : a = b := absurd (cmpW_trans h1 h2) (cmpW_irr a)
theorem sortW_eq {l l' : List Wt} (h : SortW l) (h' : SortW l') (p : l.Perm l') : l = l' := List.Perm.eq_of_pairwise (fun a b _ _ h1 h2 => cmpW_anti h1 h2) h h' p
theorem joinW_ok {l : List Wt} {x : Wt} : (joinW l x).2 = 0 ↔ okLW l = true ∧ okW x = true ∧ hasW l x = false := by
  rcases joinW_cases l x with h | ⟨h1, h2, h3, h⟩
  · rw [h]
    constructor
    · intro h'; cases h'
    · rintro ⟨h1, h2, h3⟩
      unfold joinW at h
      rw [h1, h2, h3] at h
      simp at h
  · rw [h]
    exact ⟨fun _ => ⟨h1, h2, h3⟩, fun _ => rfl⟩
theorem joinW_to {l : List Wt} {x : Wt} (h1 : okLW l = true) (h2 : okW x = true) (h3 : hasW l x = false) : joinW l x = (insW l (posW l x) x, 0) := by
  unfold joinW
  rw [h1, h2, h3]
  rfl
theorem joinW_err {l : List Wt} {x : Wt} (h : (joinW l x).2 ≠ 0) : joinW l x = ([], 260) := by
  rcases joinW_cases l x with h' | ⟨_, _, _, h'⟩
  · exact h'
  · rw [h'] at h; exact absurd rfl h
/-- its place is found -/
theorem find_at {l : List Wt} (h : okLW l = true) {i : Nat} (hi : i < l.length) : l.findIdx? (isW l[i].s l[i].a l[i].b) = some i := by
  rw [List.findIdx?_eq_some_iff_getElem]
  refine ⟨hi, isW_self _, fun j hj => ?_⟩
  rw [Bool.not_eq_true, Bool.eq_false_iff]
  intro hc
  exact List.pairwise_iff_getElem.1 (okLW_iff.1 h).2.2 j i (by omega) hi hj (isW_iff.1 hc)
theorem countP_lt {P Q : Wt → Bool} {l : List Wt} (h : ∀ x ∈ l, P x = true → Q x = true) {z : Wt} (hz : z ∈ l) (hq : Q z = true) (hp : P z = false) : l.countP P < l.countP Q := by
  induction l with
  | nil => cases hz
  | cons y l ih =>
    rw [List.countP_cons, List.countP_cons]
    have hm : l.countP P ≤ l.countP Q := List.countP_mono_left fun x hx => h x (by simp [hx])
    rcases List.mem_cons.1 hz with rfl | hz
    · rw [hq, hp]
      simp
      omega
    · have := ih (fun x hx => h x (by simp [hx])) hz
      have hy := h y (by simp)
      cases hP : P y
      · simp
        omega
      · rw [hy hP]
        simp
        omega
def inB (a b : Int) (v : Wt) : Bool := v.a == a && v.b == b
theorem inB_iff {a b : Int} {v : Wt} : inB a b v = true ↔ v.a = a ∧ v.b = b := by unfold inB; simp
theorem aheadW_iff {a b : Int} {y v : Wt} : aheadW a b y v = true ↔ inB a b v = true ∧ cmpW v y < 0 := by unfold aheadW inB; simp
/-- how many are ahead of y, and y -/
def rankW (l : List Wt) (y : Wt) : Int := 1 + ((l.countP (aheadW y.a y.b y) : Nat) : Int)
theorem placeW_at {l : List Wt} (h : okLW l = true) {y : Wt} (hy : y ∈ l) : placeW l y.s y.a y.b = (rankW l y, true) := by
  obtain ⟨i, hi, rfl⟩ := List.mem_iff_getElem.1 hy
  exact placeW_some hi (find_at h hi)
theorem lessW_iff {x y : Wt} (h : inB x.a x.b y = true) : lessW x y = true ↔ cmpW x y < 0 := by
  rw [inB_iff] at h
  rw [cmpW_neg]
  unfold lessW
  split
  · rw [decide_eq_true_eq]; omega
  · split
    · rw [decide_eq_true_eq]; omega
    · rw [decide_eq_true_eq]; omega
theorem inB_sym {x y : Wt} (h : inB x.a x.b y = true) : inB y.a y.b x = true := by
  rw [inB_iff] at *
  omega
theorem inB_trans {x y z : Wt} (h : inB x.a x.b y = true) (k : inB y.a y.b z = true) : inB x.a x.b z = true := by
  rw [inB_iff] at *
  omega
theorem rankW_lt1 {l : List Wt} {x y : Wt} (hx : x ∈ l) (h : inB x.a x.b y = true) (hc : cmpW x y < 0) : rankW l x < rankW l y := by
  unfold rankW
  have := countP_lt (l := l) (P := aheadW x.a x.b x) (Q := aheadW y.a y.b y) (fun v _ hv => by
    rw [aheadW_iff] at *
    exact ⟨inB_trans (inB_sym h) hv.1, cmpW_trans hv.2 hc⟩) hx (aheadW_iff.2 ⟨inB_sym h, hc⟩) (by
    rw [Bool.eq_false_iff]
    intro hv
    exact cmpW_irr x (aheadW_iff.1 hv).2)
  omega
theorem rankW_lt {l : List Wt} {x y : Wt} (hx : x ∈ l) (hy : y ∈ l) (h : inB x.a x.b y = true) : decide (rankW l x < rankW l y) = lessW x y := by
  rw [Bool.eq_iff_iff, decide_eq_true_eq, lessW_iff h]
  constructor
  · intro hr
    rcases cmpW_tri x y with h1 | h1 | h1
    · exact h1
    · subst h1; omega
    · have := rankW_lt1 hy (inB_sym h) h1; omega
  · exact rankW_lt1 hx h
def manyW (l : List Wt) (x : Wt) : Int := ((l.countP (inB x.a x.b) : Nat) : Int)
theorem rankW_le {l : List Wt} {x : Wt} (hx : x ∈ l) : rankW l x ≤ manyW l x := by
  have := countP_lt (l := l) (P := aheadW x.a x.b x) (Q := inB x.a x.b) (fun v _ hv => (aheadW_iff.1 hv).1) hx (inB_iff.2 ⟨rfl, rfl⟩) (by
    rw [Bool.eq_false_iff]
    intro hv
    exact cmpW_irr x (aheadW_iff.1 hv).2)
  unfold rankW manyW
  omega
theorem rankW_pos (l : List Wt) (x : Wt) : 1 ≤ rankW l x := by unfold rankW; omega
/-- what First answers -/
theorem firstW_is (l : List Wt) (a b : Int) : (firstW l a b = (w0, false) ∧ ∀ v ∈ l, inB a b v = false) ∨ ((firstW l a b).2 = true ∧ (firstW l a b).1 ∈ l ∧ inB a b (firstW l a b).1 = true ∧ ∀ v ∈ l, inB a b v = true → ¬ cmpW v (firstW l a b).1 < 0) := by
  obtain ⟨n, hn⟩ : ∃ n, l.length = n := ⟨_, rfl⟩
  induction n generalizing l with
  | zero =>
    rw [List.length_eq_zero_iff.1 hn]
    exact .inl ⟨rfl, by simp⟩
  | succ n ih =>
    obtain rfl | ⟨l, x, rfl⟩ := List.eq_nil_or_concat l
    · cases hn
    rw [List.concat_eq_append] at *
    have hf : firstW (l ++ [x]) a b = stepF a b (firstW l a b) x := by unfold firstW; rw [List.foldl_append]; rfl
    have hi := ih l (by simpa using hn)
    rw [hf]
    cases hx : inB a b x with
    | false =>
      rw [stepF_no hx]
      rcases hi with ⟨h1, h2⟩ | ⟨h1, h2, h3, h4⟩
      · refine .inl ⟨h1, fun v hv => ?_⟩
        rcases List.mem_append.1 hv with hv | hv
        · exact h2 v hv
        · rw [List.mem_singleton.1 hv]; exact hx
      · refine .inr ⟨h1, by simp [h2], h3, fun v hv hvb => ?_⟩
        rcases List.mem_append.1 hv with hv | hv
        · exact h4 v hv hvb
        · rw [List.mem_singleton.1 hv, hx] at hvb; cases hvb
    | true =>
      rcases hi with ⟨h1, h2⟩ | ⟨h1, h2, h3, h4⟩
      · rw [h1, stepF_first hx rfl]
        refine .inr ⟨rfl, by simp, hx, fun v hv hvb => ?_⟩
        rcases List.mem_append.1 hv with hv | hv
        · rw [h2 v hv] at hvb; cases hvb
        · rw [List.mem_singleton.1 hv]; exact cmpW_irr x
      · by_cases hc : cmpW x (firstW l a b).1 < 0
        · rw [stepF_less hx h1 hc]
          refine .inr ⟨rfl, by simp, hx, fun v hv hvb => ?_⟩
          rcases List.mem_append.1 hv with hv | hv
          · intro h5
            exact h4 v hv hvb (cmpW_trans h5 hc)
          · rw [List.mem_singleton.1 hv]; exact cmpW_irr x
        · rw [stepF_more hx h1 hc]
          refine .inr ⟨h1, by simp [h2], h3, fun v hv hvb => ?_⟩
          rcases List.mem_append.1 hv with hv | hv
          · exact h4 v hv hvb
          · rw [List.mem_singleton.1 hv]; exact hc
theorem first_rank {l : List Wt} {x : Wt} (hx : x ∈ l) : (firstW l x.a x.b).2 = true ∧ decide (rankW l x = 1) = decide ((firstW l x.a x.b).1 = x) := by
  rcases firstW_is l x.a x.b with ⟨_, h2⟩ | ⟨h1, h2, h3, h4⟩
  · have := h2 x hx
    rw [inB_iff.2 ⟨rfl, rfl⟩] at this
    cases this
  · refine ⟨h1, ?_⟩
    rw [Bool.eq_iff_iff, decide_eq_true_eq, decide_eq_true_eq]
    have hxx : inB x.a x.b x = true := inB_iff.2 ⟨rfl, rfl⟩
    constructor
    · intro hr
      rcases cmpW_tri (firstW l x.a x.b).1 x with h5 | h5 | h5
      · have h6 : 0 < l.countP (aheadW x.a x.b x) := List.countP_pos_iff.2 ⟨_, h2, aheadW_iff.2 ⟨h3, h5⟩⟩
        unfold rankW at hr
        omega
      · exact h5
      · exact absurd h5 (h4 x hx hxx)
    · intro he
      unfold rankW
      have : l.countP (aheadW x.a x.b x) = 0 := by
        rw [List.countP_eq_zero]
        intro v hv hc
        rw [aheadW_iff] at hc
        have := h4 v hv hc.1
        rw [he] at this
        exact this hc.2
      omega
end Go.Sz
