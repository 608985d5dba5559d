/- Names: what has numbers keeps them, in plain Lean. -/
import Derived.Test.YtimigpfoflilcaaLCp
namespace Go.Sz
open Go.RowKit
/-- what a search by name or number reads of a course -/
def Cr.hd (x : Cr) : ByteArray × Int := (x.nm, x.nu)
theorem find_hd {l m : List Cr} (h : l.map Cr.hd = m.map Cr.hd) (nm : ByteArray) : (l.find? (isF nm)).map Cr.nu = (m.find? (isF nm)).map Cr.nu := by
  have key : ∀ k : List Cr, (k.find? (isF nm)).map Cr.nu = ((k.map Cr.hd).find? fun p => p.1.toList == nm.toList).map Prod.snd := fun k => by
    rw [List.find?_map, Option.map_map]
    rfl
  rw [key, key, h]
theorem numR_hd {l m : List Cr} (h : l.map Cr.hd = m.map Cr.hd) (nm : ByteArray) (v : Int) : numR l nm v = numR m nm v := by
  unfold numR
  rw [find_hd h]
theorem meantN_hd {l m : List Cr} (h : l.map Cr.hd = m.map Cr.hd) (nm : ByteArray) (v : Int) : meantN l nm v = meantN m nm v := by
  have key : ∀ k : List Cr, meantN k nm v = (k.map Cr.hd).findIdx? fun p => if nm.toList.isEmpty then p.2 == v else p.1.toList == nm.toList := fun k => by
    unfold meantN
    rw [List.findIdx?_map]
    rfl
  rw [key, key, h]
theorem findR_hd {l m : List Cr} (h : l.map Cr.hd = m.map Cr.hd) (nm : ByteArray) : findR l nm = findR m nm := by
  have key : ∀ k : List Cr, findR k nm = match (k.find? (isF nm)).map Cr.nu with | some n => (n, true) | none => (0, false) := fun k => by
    unfold findR
    cases k.find? (isF nm) <;> rfl
  rw [key, key, find_hd h]
theorem numR_again {l : List Cr} {nm : ByteArray} {v x : Int} (h : numR l nm v = some x) : numR l nm x = some x := by
  unfold numR at h ⊢
  split at h
  · rename_i he
    rw [if_pos he]
  · rename_i he
    rw [if_neg he, h]
/-- the course that a part of a rule needs -/
def needF (l : List Cr) (p : Rt) : Option Nat := if p.op = 5 ∨ p.op = 6 then meantN l p.nm p.co else none
theorem needsN_def (l : List Cr) (c : Cr) : needsN l c = c.need.parts.filterMap (needF l) := rfl
theorem num_mk (l : List Cr) (op co : Int) (nm : ByteArray) (n d : Int) (ks : List Rt) : (Rt.mk op co nm n d ks).num l = if (op == 5 || op == 6 || op == 9) = true then numR l nm co else some co := rfl
theorem needF_mk (l : List Cr) (op co : Int) (nm : ByteArray) (n d : Int) (ks : List Rt) : needF l (.mk op co nm n d ks) = if op = 5 ∨ op = 6 then meantN l nm co else none := rfl
theorem num_again {l : List Cr} {op co : Int} {nm : ByteArray} {n d : Int} {c : Int} (h : (Rt.mk op co nm n d []).num l = some c) : (Rt.mk op c nm n d []).num l = some c := by
  rw [num_mk] at h ⊢
  by_cases he : (op == 5 || op == 6 || op == 9) = true
  · rw [if_pos he] at h ⊢
    exact numR_again h
  · rw [if_neg he]
theorem num_need {l : List Cr} {op co : Int} {nm : ByteArray} {n d : Int} {c : Int} {ks ks' : List Rt} (h : (Rt.mk op co nm n d []).num l = some c) : needF l (.mk op c nm n d ks') = needF l (.mk op co nm n d ks) := by
  rw [needF_mk, needF_mk]
  by_cases ho : op = 5 ∨ op = 6
  · rw [if_pos ho, if_pos ho]
    rw [num_mk, if_pos (by rcases ho with rfl | rfl <;> simp)] at h
    unfold numR at h
    unfold meantN
    by_cases he : nm.toList.isEmpty
    · rw [if_pos he] at h
      cases h
      rfl
    · simp only [if_neg he]
  · rw [if_neg ho, if_neg ho]
mutual
theorem res_again (l : List Cr) : ∀ (r x : Rt), r.res l = some x → x.res l = some x ∧ x.parts.filterMap (needF l) = r.parts.filterMap (needF l) ∧ x.parts.length = r.parts.length
  | .mk op co nm n d kids, x, h => by
    rw [Rt.res] at h
    cases e : (Rt.mk op co nm n d []).num l with
    | none => rw [e] at h; cases h
    | some c =>
      cases e2 : resL l kids with
      | none => rw [e, e2] at h; cases h
      | some ks =>
        rw [e, e2] at h
        cases h
        obtain ⟨h1, h2, h3⟩ := resL_again l kids ks e2
        refine ⟨?_, ?_, ?_⟩
        · rw [Rt.res, num_again e, h1]
          rfl
        · rw [Rt.parts, Rt.parts, List.filterMap_cons, List.filterMap_cons, num_need (ks := kids) e, h2]
        · rw [Rt.parts, Rt.parts, List.length_cons, List.length_cons, h3]
theorem resL_again (l : List Cr) : ∀ (ks xs : List Rt), resL l ks = some xs → resL l xs = some xs ∧ (partsL xs).filterMap (needF l) = (partsL ks).filterMap (needF l) ∧ (partsL xs).length = (partsL ks).length
  | [], xs, h => by
    rw [resL] at h
    cases h
    exact ⟨by rw [resL], rfl, rfl⟩
  | k :: ks, xs, h => by
    rw [resL] at h
    cases e : k.res l with
    | none => rw [e] at h; cases h
    | some y =>
      cases e2 : resL l ks with
      | none => rw [e, e2] at h; cases h
      | some ys =>
        rw [e, e2] at h
        cases h
        obtain ⟨h1, h2, h3⟩ := res_again l k y e
        obtain ⟨g1, g2, g3⟩ := resL_again l ks ys e2
        refine ⟨?_, ?_, ?_⟩
        · rw [resL, h1, g1]
          rfl
        · rw [partsL, partsL, List.filterMap_append, List.filterMap_append, h2, g2]
        · rw [partsL, partsL, List.length_append, List.length_append, h3, g3]
end
mutual
theorem res_hd {l m : List Cr} (h : l.map Cr.hd = m.map Cr.hd) : ∀ (r : Rt), r.res l = r.res m
  | .mk op co nm n d kids => by
    rw [Rt.res, Rt.res, resL_hd h kids]
    unfold Rt.num
    rw [numR_hd h]
theorem resL_hd {l m : List Cr} (h : l.map Cr.hd = m.map Cr.hd) : ∀ (ks : List Rt), resL l ks = resL m ks
  | [] => by rw [resL, resL]
  | k :: ks => by rw [resL, resL, res_hd h k, resL_hd h ks]
end
theorem needF_hd {l m : List Cr} (h : l.map Cr.hd = m.map Cr.hd) : needF l = needF m := by
  funext p
  unfold needF
  rw [meantN_hd h]
theorem resC_hd {l m : List Cr} (h : l.map Cr.hd = m.map Cr.hd) : resC l = resC m := by
  funext x
  unfold resC
  simp only [res_hd h]
theorem resP_hd {l m : List Cr} (h : l.map Cr.hd = m.map Cr.hd) : resP l = resP m := by
  funext x
  unfold resP
  simp only [numR_hd h]
theorem resQ_hd {l m : List Cr} (h : l.map Cr.hd = m.map Cr.hd) : resQ l = resQ m := by
  funext x
  unfold resQ
  simp only [numR_hd h]
theorem resG_hd {l m : List Cr} (h : l.map Cr.hd = m.map Cr.hd) : resG l = resG m := by
  funext x
  unfold resG
  rw [resQ_hd h]
theorem travO_at {α β : Type} {f : α → Option β} : ∀ {l : List α} {r : List β}, travO f l = some r → ∀ (i : Nat) (b : β), r[i]? = some b → ∃ a, l[i]? = some a ∧ f a = some b := by
  intro l
  induction l with
  | nil => intro r h i b hb; cases h; simp at hb
  | cons a l ih =>
    intro r h i b hb
    rw [travO] at h
    cases e : f a with
    | none => rw [e] at h; cases h
    | some y =>
      cases e2 : travO f l with
      | none => rw [e, e2] at h; cases h
      | some bs =>
        rw [e, e2] at h
        cases h
        cases i with
        | zero => cases hb; exact ⟨a, rfl, e⟩
        | succ i => exact ih e2 i b (by simpa using hb)
theorem travO_mem {α β : Type} {f : α → Option β} {l : List α} {r : List β} (h : travO f l = some r) {b : β} (hb : b ∈ r) : ∃ a ∈ l, f a = some b := by
  obtain ⟨i, hi⟩ := List.getElem?_of_mem hb
  obtain ⟨a, ha, hf⟩ := travO_at h i b hi
  exact ⟨a, List.mem_of_getElem? ha, hf⟩
theorem travO_again {α : Type} {f : α → Option α} (hf : ∀ a b, f a = some b → f b = some b) : ∀ {l r : List α}, travO f l = some r → travO f r = some r := by
  intro l
  induction l with
  | nil => intro r h; cases h; rfl
  | cons a l ih =>
    intro r h
    rw [travO] at h
    cases e : f a with
    | none => rw [e] at h; cases h
    | some y =>
      cases e2 : travO f l with
      | none => rw [e, e2] at h; cases h
      | some bs =>
        rw [e, e2] at h
        cases h
        rw [travO, hf _ _ e, ih e2]
        rfl
theorem travO_map {α β γ : Type} {f : α → Option β} {g : α → γ} {k : β → γ} (hf : ∀ a b, f a = some b → k b = g a) : ∀ {l : List α} {r : List β}, travO f l = some r → r.map k = l.map g := by
  intro l
  induction l with
  | nil => intro r h; cases h; rfl
  | cons a l ih =>
    intro r h
    rw [travO] at h
    cases e : f a with
    | none => rw [e] at h; cases h
    | some y =>
      cases e2 : travO f l with
      | none => rw [e, e2] at h; cases h
      | some bs =>
        rw [e, e2] at h
        cases h
        rw [List.map_cons, List.map_cons, hf _ _ e, ih e2]
theorem resC_of {l : List Cr} {c x : Cr} (h : resC l c = some x) : x.hd = c.hd ∧ resC l x = some x ∧ needsN l x = needsN l c ∧ x.need.parts.length = c.need.parts.length ∧ x.bar.parts.length = c.bar.parts.length := by
  unfold resC at h
  cases e : c.need.res l with
  | none => rw [e] at h; cases h
  | some n =>
    cases e2 : c.bar.res l with
    | none => rw [e, e2] at h; cases h
    | some b =>
      rw [e, e2] at h
      cases h
      obtain ⟨h1, h2, h3⟩ := res_again l _ _ e
      obtain ⟨g1, g2, g3⟩ := res_again l _ _ e2
      refine ⟨rfl, ?_, ?_, h3, g3⟩
      · unfold resC
        simp only [h1, g1]
        rfl
      · rw [needsN_def, needsN_def]
        exact h2
theorem resP_of {l : List Cr} {p x : Pr} (h : resP l p = some x) : x.a = p.a ∧ x.b = p.b ∧ numR l p.a p.x = some x.x ∧ resP l x = some x := by
  unfold resP at h
  cases e : numR l p.a p.x with
  | none => rw [e] at h; cases h
  | some n =>
    cases e2 : numR l p.b p.y with
    | none => rw [e, e2] at h; cases h
    | some b =>
      rw [e, e2] at h
      cases h
      refine ⟨rfl, rfl, rfl, ?_⟩
      unfold resP
      simp only [numR_again e, numR_again e2]
      rfl
theorem zip_again {l : List Cr} : ∀ {ns : List ByteArray} {fr fs : List Int}, travO (fun x : ByteArray × Int => numR l x.1 x.2) (ns.zip fr) = some fs → travO (fun x : ByteArray × Int => numR l x.1 x.2) (ns.zip fs) = some fs := by
  intro ns
  induction ns with
  | nil => intro fr fs h; cases h; rfl
  | cons n ns ih =>
    intro fr fs h
    cases fr with
    | nil => cases h; rfl
    | cons y fr =>
      rw [List.zip_cons_cons, travO] at h
      cases e : numR l n y with
      | none => rw [e] at h; cases h
      | some v =>
        cases e2 : travO (fun x : ByteArray × Int => numR l x.1 x.2) (ns.zip fr) with
        | none => rw [e, e2] at h; cases h
        | some vs =>
          rw [e, e2] at h
          cases h
          rw [List.zip_cons_cons, travO, numR_again e, ih e2]
          rfl
theorem resQ_of {l : List Cr} {q x : Rq} (h : resQ l q = some x) : x.nm = q.nm ∧ x.nms = q.nms ∧ x.fr.length = min q.nms.length q.fr.length ∧ resQ l x = some x := by
  unfold resQ at h
  cases e : travO (fun x : ByteArray × Int => numR l x.1 x.2) (q.nms.zip q.fr) with
  | none => rw [e] at h; cases h
  | some fs =>
    rw [e] at h
    cases h
    refine ⟨rfl, rfl, ?_, ?_⟩
    · rw [travO_len e, List.length_zip]
    · unfold resQ
      simp only [zip_again e]
      rfl
theorem resG_of {l : List Cr} {p x : Pg} (h : resG l p = some x) : x.nm = p.nm ∧ x.nu = p.nu ∧ x.rq.map Rq.nm = p.rq.map Rq.nm ∧ travO (resQ l) p.rq = some x.rq ∧ resG l x = some x := by
  unfold resG at h
  cases e : travO (resQ l) p.rq with
  | none => rw [e] at h; cases h
  | some rq =>
    rw [e] at h
    cases h
    refine ⟨rfl, rfl, travO_map (fun a b h => (resQ_of h).1) e, rfl, ?_⟩
    unfold resG
    simp only [travO_again (fun a b h => (resQ_of h).2.2.2) e]
    rfl
/-- the listing depends on what each course needs alone -/
theorem listN_same {l m : List Cr} (h : l.map (needsN l) = m.map (needsN m)) : ∀ (f : Nat) (o : List Nat) (is : List Bool), listN l f o is = listN m f o is := by
  have hlen : l.length = m.length := by simpa using congrArg List.length h
  have hr : ∀ is, readyN l is = readyN m is := fun is => by
    funext i
    have key : ∀ k : List Cr, readyN k is i = (!(is.getD i true) && (((k.map (needsN k))[i]?.map fun ns => ns.all fun n => is.getD n false).getD false)) := fun k => by
      unfold readyN
      rw [List.getElem?_map, Option.map_map]
      rfl
    rw [key, key, h]
  intro f
  induction f with
  | zero => intro o is; rfl
  | succ f ih =>
    intro o is
    have e : firstN l is = firstN m is := by
      unfold firstN
      rw [hlen, hr]
    rw [listN, listN, e]
    cases firstN m is with
    | none => rfl
    | some i => exact ih _ _
theorem listed_same {l m : List Cr} (h : l.map (needsN l) = m.map (needsN m)) : listedN l = listedN m := by
  have hlen : l.length = m.length := by simpa using congrArg List.length h
  unfold listedN
  rw [hlen]
  exact listN_same h _ _ _
/-- the parts of what Resolve answered well -/
theorem resN_zero {c x : Cat} (h : c.resN = (0, x)) : c.arg = false ∧ c.once ∧ c.nums = some x ∧ ¬ (listedN c.cs).1.length < c.cs.length := by
  cases ha : c.arg with
  | true => rw [Cat.resN_arg ha] at h; cases h
  | false =>
    by_cases ho : c.once
    · cases hn : c.nums with
      | none => rw [Cat.resN_name ha ho hn] at h; cases h
      | some y =>
        by_cases hl : (listedN c.cs).1.length < c.cs.length
        · rw [Cat.resN_cycle ha ho hn hl] at h
          cases h
        · rw [Cat.resN_ok ha ho hn hl] at h
          cases h
          exact ⟨rfl, ho, rfl, hl⟩
    · rw [Cat.resN_twice ha ho] at h
      cases h
theorem nums_of {c x : Cat} (h : c.nums = some x) : ∃ cs sm pg, travO (resC c.cs) c.cs = some cs ∧ travO (resP c.cs) c.sm = some sm ∧ travO (resG c.cs) c.pg = some pg ∧ x = { c with cs := cs, sm := sm, pg := pg } := by
  unfold Cat.nums at h
  cases e : travO (resC c.cs) c.cs with
  | none => rw [e] at h; cases h
  | some cs =>
    cases e2 : travO (resP c.cs) c.sm with
    | none => rw [e, e2] at h; cases h
    | some sm =>
      cases e3 : travO (resG c.cs) c.pg with
      | none => rw [e, e2, e3] at h; cases h
      | some pg =>
        rw [e, e2, e3] at h
        cases h
        exact ⟨cs, sm, pg, rfl, rfl, rfl, rfl⟩
theorem nums_of' {c : Cat} {cs : List Cr} {sm : List Pr} {pg : List Pg} (h1 : travO (resC c.cs) c.cs = some cs) (h2 : travO (resP c.cs) c.sm = some sm) (h3 : travO (resG c.cs) c.pg = some pg) : c.nums = some { c with cs := cs, sm := sm, pg := pg } := by
  unfold Cat.nums
  rw [h1, h2, h3]
  rfl
theorem map_inj {α β : Type} {f : α → β} : ∀ {l : List α}, (l.map f).Nodup → ∀ {a b : α}, a ∈ l → b ∈ l → f a = f b → a = b := by
  intro l
  induction l with
  | nil => intro _ a b h; simp at h
  | cons x l ih =>
    intro hn a b ha hb e
    rw [List.map_cons, List.nodup_cons] at hn
    rcases List.mem_cons.1 ha with h1 | h1
    · rcases List.mem_cons.1 hb with h2 | h2
      · rw [h1, h2]
      · exact absurd (show f x ∈ l.map f from h1 ▸ e ▸ List.mem_map_of_mem h2) hn.1
    · rcases List.mem_cons.1 hb with h2 | h2
      · exact absurd (show f x ∈ l.map f from h2 ▸ e ▸ List.mem_map_of_mem h1) hn.1
      · exact ih hn.2 h1 h2 e
theorem findR_own {l : List Cr} (h : (l.map Cr.nm).Nodup) {x : Cr} (hx : x ∈ l) : findR l x.nm = (x.nu, true) := by
  unfold findR
  cases e : l.find? (isF x.nm) with
  | none =>
    have := List.find?_eq_none.1 e x hx
    simp [isF] at this
  | some y =>
    have h1 := List.find?_some e
    have h2 : y.nm = x.nm := toList_iff.1 (by simpa [isF] using h1)
    have := map_inj h (List.mem_of_find?_eq_some e) hx h2
    subst this
    rfl
/-- resolving again changes nothing -/
theorem resN_again {c x : Cat} (h : c.resN = (0, x)) : x.resN = (0, x) ∧ x.cs.map Cr.hd = c.cs.map Cr.hd ∧ travO (resP c.cs) c.sm = some x.sm ∧ (c.Ok → x.Ok) ∧ c.once := by
  obtain ⟨ha, ho, hn, hl⟩ := resN_zero h
  obtain ⟨cs, sm, pg, e1, e2, e3, rfl⟩ := nums_of hn
  have hhd : cs.map Cr.hd = c.cs.map Cr.hd := travO_map (fun a b h => (resC_of h).1) e1
  have hnm : cs.map Cr.nm = c.cs.map Cr.nm := travO_map (fun a b h => congrArg Prod.fst (resC_of h).1) e1
  have hnu : cs.map Cr.nu = c.cs.map Cr.nu := travO_map (fun a b h => congrArg Prod.snd (resC_of h).1) e1
  have hneed : cs.map (needsN cs) = c.cs.map (needsN c.cs) := travO_map (fun a b h => by
    rw [← (resC_of h).2.2.1, needsN_def, needsN_def, needF_hd hhd]) e1
  have hlist := listed_same hneed
  have hlen := travO_len e1
  refine ⟨?_, hhd, e2, ?_, ho⟩
  · refine Cat.resN_ok ?_ ?_ ?_ ?_
    · unfold Cat.arg at ha ⊢
      rw [List.any_eq_false] at ha ⊢
      intro p hp
      obtain ⟨p0, hp0, hpe⟩ := travO_mem e3 hp
      have h1 := ha p0 hp0
      rw [Bool.not_eq_true, List.any_eq_false] at h1 ⊢
      intro q hq
      obtain ⟨q0, hq0, hqe⟩ := travO_mem (resG_of hpe).2.2.2.1 hq
      have h2 := h1 q0 hq0
      obtain ⟨-, g2, g3, -⟩ := resQ_of hqe
      rw [g2, g3]
      simp only [bne_iff_ne, ne_eq, Decidable.not_not] at h2 ⊢
      rw [h2]
      simp
    · obtain ⟨o1, o2, o3, o4, o5, o6, o7, o8⟩ := ho
      refine ⟨by rw [hnm]; exact o1, by rw [hnu]; exact o2, ?_, ?_, ?_, o6, o7, o8⟩
      · rw [show pg.map Pg.nm = c.pg.map Pg.nm from travO_map (fun a b h => (resG_of h).1) e3]
        exact o3
      · rw [show pg.map Pg.nu = c.pg.map Pg.nu from travO_map (fun a b h => (resG_of h).2.1) e3]
        exact o4
      · intro p hp
        obtain ⟨p0, hp0, hpe⟩ := travO_mem e3 hp
        rw [(resG_of hpe).2.2.1]
        exact o5 p0 hp0
    · refine nums_of' ?_ ?_ ?_
      · rw [resC_hd hhd]
        exact travO_again (fun a b h => (resC_of h).2.1) e1
      · rw [resP_hd hhd]
        exact travO_again (fun a b h => (resP_of h).2.2.2) e2
      · rw [resG_hd hhd]
        exact travO_again (fun a b h => (resG_of h).2.2.2.2) e3
    · rw [hlist, hlen]
      exact hl
  · intro hk
    refine ⟨by rw [hlen]; exact hk.n0, by rw [travO_len e2]; exact hk.n1, by rw [travO_len e3]; exact hk.n2, hk.n3, hk.n4, hk.n5, ?_, ?_, ?_, ?_, hk.s3, hk.s4, hk.s5⟩
    · intro p hp
      obtain ⟨p0, hp0, hpe⟩ := travO_mem e3 hp
      have h1 := hk.rq p0 hp0
      obtain ⟨g1, g2, g3, g4, g5⟩ := resG_of hpe
      refine ⟨by rw [travO_len g4]; exact h1.1, fun q hq => ?_⟩
      obtain ⟨q0, hq0, hqe⟩ := travO_mem g4 hq
      rw [(resQ_of hqe).2.2.1]
      have := h1.2 q0 hq0
      omega
    · intro y hy
      obtain ⟨y0, hy0, hye⟩ := travO_mem e1 hy
      rw [(resC_of hye).2.2.2.1, (resC_of hye).2.2.2.2]
      exact hk.ru y0 hy0
    · intro y hy
      obtain ⟨y0, hy0, hye⟩ := travO_mem e1 hy
      rw [show y.nm = y0.nm from congrArg Prod.fst (resC_of hye).1]
      exact hk.s0 y0 hy0
    · intro p hp
      obtain ⟨p0, hp0, hpe⟩ := travO_mem e3 hp
      obtain ⟨g1, g2, g3, g4, g5⟩ := resG_of hpe
      obtain ⟨h1, h2, h3⟩ := hk.s2 p0 hp0
      refine ⟨by rw [g1]; exact h1, by rw [g2]; exact h2, fun q hq => ?_⟩
      obtain ⟨q0, hq0, hqe⟩ := travO_mem g4 hq
      rw [(resQ_of hqe).1]
      exact h3 q0 hq0
/-- an error leaves the empty catalogue -/
theorem resN_err {c : Cat} (h : c.resN.1 ≠ 0) : c.resN.2 = .empty := by
  cases ha : c.arg with
  | true => rw [Cat.resN_arg ha]
  | false =>
    by_cases ho : c.once
    · cases hn : c.nums with
      | none => rw [Cat.resN_name ha ho hn]
      | some y =>
        by_cases hl : (listedN c.cs).1.length < c.cs.length
        · rw [Cat.resN_cycle ha ho hn hl]
        · rw [Cat.resN_ok ha ho hn hl] at h
          exact absurd rfl h
    · rw [Cat.resN_twice ha ho]
end Go.Sz
