/- Waiting: plain facts for the law Served. No program in sight. -/
import Derived.Test.YtbhpeecebcihkaaWY
namespace Go.Sz
def outB (a b : Int) (v : Wt) : Bool := !inB a b v
/-- what is left when m of those for the bundle have been served -/
structure RestW (l : List Wt) (a b : Int) (rest : List Wt) (m : Nat) : Prop where
  ok : okLW rest = true
  ins : rest.filter (inB a b) = (l.filter (inB a b)).drop m
  outs : rest.filter (outB a b) = l.filter (outB a b)
theorem RestW.start {l : List Wt} (h : okLW l = true) (a b : Int) : RestW l a b l 0 := ⟨h, by simp, rfl⟩
theorem RestW.none {l rest : List Wt} {a b : Int} {m : Nat} (h : RestW l a b rest m) (hd : (l.filter (inB a b)).drop m = []) : firstW rest a b = (w0, false) ∧ rest = l.filter (outB a b) := by
  have hn : ∀ v ∈ rest, inB a b v = false := fun v hv => by
    rw [Bool.eq_false_iff]
    intro hc
    have : v ∈ rest.filter (inB a b) := List.mem_filter.2 ⟨hv, hc⟩
    rw [h.ins, hd] at this
    cases this
  refine ⟨?_, ?_⟩
  · rcases firstW_is rest a b with h1 | ⟨_, h2, h3, _⟩
    · exact h1.1
    · rw [hn _ h2] at h3; cases h3
  · rw [← h.outs, List.filter_eq_self.2]
    intro v hv
    unfold outB
    rw [hn v hv]
    rfl
theorem RestW.next {l rest : List Wt} {a b : Int} {m : Nat} {y : Wt} {tl : List Wt} (hl : okLW l = true) (h : RestW l a b rest m) (hd : (l.filter (inB a b)).drop m = y :: tl) :
    firstW rest a b = (y, true) ∧ y.a = a ∧ y.b = b ∧ placeW l y.s a b = ((m : Int) + 1, true) ∧ m < l.length ∧ 0 < rest.length ∧ ∃ q, leaveW rest y.s a b = (q, 0) ∧ q.length = rest.length - 1 ∧ RestW l a b q (m + 1) := by
  have hf : rest.filter (inB a b) = y :: tl := by rw [h.ins, hd]
  have hyr := List.mem_filter.1 (show y ∈ rest.filter (inB a b) by rw [hf]; simp)
  have hs : SortW (y :: tl) := by rw [← hf]; exact (okLW_iff.1 h.ok).2.1.sublist List.filter_sublist
  have hfi : firstW rest a b = (y, true) := by
    rcases firstW_is rest a b with ⟨_, h2⟩ | ⟨h1, h2, h3, h4⟩
    · rw [h2 y hyr.1] at hyr; cases hyr.2
    · have hm : (firstW rest a b).1 ∈ y :: tl := by rw [← hf]; exact List.mem_filter.2 ⟨h2, h3⟩
      rcases List.mem_cons.1 hm with he | ht
      · exact Prod.ext he h1
      · exact absurd ((List.pairwise_cons.1 hs).1 _ ht) (h4 y hyr.1 hyr.2)
  obtain ⟨hya, hyb⟩ := inB_iff.1 hyr.2
  have hbs : l.filter (inB a b) = (l.filter (inB a b)).take m ++ y :: tl := by rw [← hd, List.take_append_drop]
  have hbl : m < (l.filter (inB a b)).length := by
    rcases Nat.lt_or_ge m (l.filter (inB a b)).length with h1 | h1
    · exact h1
    · rw [List.drop_of_length_le h1] at hd; cases hd
  have hml : m < l.length := Nat.lt_of_lt_of_le hbl (List.length_filter_le _ _)
  have hyl : y ∈ l := (List.mem_filter.1 (show y ∈ l.filter (inB a b) by rw [hbs]; simp)).1
  have hsb : SortW ((l.filter (inB a b)).take m ++ y :: tl) := by rw [← hbs]; exact (okLW_iff.1 hl).2.1.sublist List.filter_sublist
  have hrk : rankW l y = (m : Int) + 1 := by
    unfold rankW
    rw [hya, hyb]
    have h1 : l.countP (aheadW a b y) = (l.filter (inB a b)).countP (fun v => decide (cmpW v y < 0)) := by
      rw [List.countP_filter]
      refine List.countP_congr fun v _ => ?_
      rw [aheadW_iff, Bool.and_eq_true, decide_eq_true_eq]
      exact ⟨fun h => ⟨h.2, h.1⟩, fun h => ⟨h.2, h.1⟩⟩
    obtain ⟨hp1, hp2, hp3⟩ := List.pairwise_append.1 hsb
    have h2 : ((l.filter (inB a b)).take m).countP (fun v => decide (cmpW v y < 0)) = m := by
      rw [List.countP_eq_length.2 (fun v hv => decide_eq_true (hp3 v hv y (by simp))), List.length_take]
      omega
    have h3 : (y :: tl).countP (fun v => decide (cmpW v y < 0)) = 0 := by
      rw [List.countP_eq_zero]
      intro v hv hc
      have hc := of_decide_eq_true hc
      rcases List.mem_cons.1 hv with rfl | hv
      · exact cmpW_irr _ hc
      · exact cmpW_asym ((List.pairwise_cons.1 hs).1 v hv) hc
    rw [h1, hbs, List.countP_append, h2, h3]
    omega
  have hpl := placeW_at hl hyl
  rw [hya, hyb, hrk] at hpl
  obtain ⟨i, hi, hiy⟩ := List.mem_iff_getElem.1 hyr.1
  have hfa := find_at h.ok hi
  rw [hiy, hya, hyb] at hfa
  refine ⟨hfi, hya, hyb, hpl, hml, by omega, rest.eraseIdx i, leaveW_some h.ok hfa, by rw [List.length_eraseIdx, if_pos hi], okLW_erase h.ok i, ?_, ?_⟩
  · have hp : (y :: (rest.eraseIdx i).filter (inB a b)).Perm (y :: tl) := by
      have := (perm_eraseW hi).filter (inB a b)
      rw [hiy, List.filter_cons, if_pos hyr.2, hf] at this
      exact this
    rw [← List.tail_drop, hd, List.tail_cons]
    exact sortW_eq ((okLW_iff.1 (okLW_erase h.ok i)).2.1.sublist List.filter_sublist) (List.pairwise_cons.1 hs).2 (List.Perm.cons_inv hp)
  · have hp := (perm_eraseW hi).filter (outB a b)
    rw [hiy, List.filter_cons, if_neg (by unfold outB; rw [hyr.2]; simp), h.outs] at hp
    exact sortW_eq ((okLW_iff.1 (okLW_erase h.ok i)).2.1.sublist List.filter_sublist) ((okLW_iff.1 hl).2.1.sublist List.filter_sublist) hp
theorem out_get {l : List Wt} {a b : Int} {k : Nat} (hk : k < l.length) (ho : outB a b l[k] = true) : ∃ h : (l.take k).countP (outB a b) < (l.filter (outB a b)).length, (l.filter (outB a b))[(l.take k).countP (outB a b)] = l[k] := by
  have he : l.filter (outB a b) = (l.take k).filter (outB a b) ++ l[k] :: (l.drop (k + 1)).filter (outB a b) := by
    have h1 : l = l.take k ++ l[k] :: l.drop (k + 1) := by rw [← List.drop_eq_getElem_cons hk, List.take_append_drop]
    have h2 := congrArg (List.filter (outB a b)) h1
    rw [List.filter_append, List.filter_cons, if_pos ho] at h2
    exact h2
  have hc : (l.take k).countP (outB a b) = ((l.take k).filter (outB a b)).length := List.countP_eq_length_filter
  refine ⟨by rw [he, hc, List.length_append, List.length_cons]; omega, ?_⟩
  have : (l.filter (outB a b))[(l.take k).countP (outB a b)]? = some l[k] := by
    rw [he, hc, List.getElem?_append_right (Nat.le_refl _), Nat.sub_self, List.getElem?_cons_zero]
  exact (List.getElem?_eq_some_iff.1 this).2
theorem out_all (l : List Wt) (a b : Int) : l.countP (outB a b) = (l.filter (outB a b)).length := List.countP_eq_length_filter
end Go.Sz
