/- Regions that draw their order, where operations make memory: ONE walk in the order of the text serves every order; a last part of the operations may be forced and is walked as ever. No program in sight. -/
import Derived.Test.YtbniicobkhiniaaGC
namespace Go.Sz
open Go.RowKit

/-- the same value again: the same world -/
theorem setCell_id {w : World} {q : Addr} {v : Value} (h : w.cell? q = some v) : w.setCell q v = w := by
  obtain ⟨hp, tp, dr, os, out⟩ := w
  unfold World.setCell
  simp only [World.mk.injEq, and_true]
  apply Array.ext_getElem?
  intro i
  rw [Array.getElem?_modify]
  split
  · rename_i hi
    subst hi
    unfold World.cell? at h
    simp only at h
    cases hb : hp[q.block]? with
    | none => rfl
    | some o =>
      rw [hb] at h
      cases o with
      | cells c e f =>
        simp only at h
        by_cases hs : q.spot.isSome = true
        · rw [if_pos hs] at h; cases h
        · rw [if_neg hs] at h
          have hc : c.setIfInBounds q.off v = c := by
            apply Array.ext_getElem?
            intro j
            rw [Array.getElem?_setIfInBounds]
            split
            · rename_i hj; subst hj; rw [if_pos (Array.getElem?_eq_some_iff.1 h).1]; exact h.symm
            · rfl
          simp [hs, hc]
      | _ => rfl
  · rfl
theorem setCell_id2 {w : World} {B : Nat} {u0 u1 : Value} (h0 : w.cell? ⟨B, 0, none⟩ = some u0) (h1 : w.cell? ⟨B, 1, none⟩ = some u1) : (w.setCell ⟨B, 0, none⟩ u0).setCell ⟨B, 1, none⟩ u1 = w := by rw [setCell_id h0, setCell_id h1]
theorem setCell_id3 {w : World} {B : Nat} {u0 u1 u2 : Value} (h0 : w.cell? ⟨B, 0, none⟩ = some u0) (h1 : w.cell? ⟨B, 1, none⟩ = some u1) (h2 : w.cell? ⟨B, 2, none⟩ = some u2) : ((w.setCell ⟨B, 0, none⟩ u0).setCell ⟨B, 1, none⟩ u1).setCell ⟨B, 2, none⟩ u2 = w := by rw [setCell_id h0, setCell_id h1, setCell_id h2]

/-- What an operation that makes memory yields: a relation that growth keeps. -/
structure Spec where
  R : Value → World → Prop
  mono : ∀ {v : Value} {W W' : World}, Ext W W' → R v W → R v W'

abbrev Gh := Nat → Option Value
def upd (g : Gh) (i : Nat) (v : Value) : Gh := fun j => if j = i then some v else g j
theorem upd_same (g : Gh) (i : Nat) (v : Value) : upd g i v i = some v := by simp [upd]
theorem upd_other (g : Gh) {i j : Nat} (v : Value) (h : j ≠ i) : upd g i v j = g j := by simp [upd, h]
theorem upd_comm (g : Gh) {i j : Nat} (v u : Value) (h : i ≠ j) : upd (upd g i v) j u = upd (upd g j u) i v := by
  funext k
  by_cases h1 : k = i
  · subst h1; rw [upd_other _ _ h, upd_same, upd_same]
  · by_cases h2 : k = j
    · subst h2; rw [upd_same, upd_other _ _ h1, upd_same]
    · rw [upd_other _ _ h2, upd_other _ _ h1, upd_other _ _ h1, upd_other _ _ h2]

section
variable {P : Program} {ops : Array Oper} {md : Region.Mode} {W0 : World} {T : Nat → Option Spec} {m : Nat}

/-- The worlds that have come of W0 by growth, and in which the facts on what the operations in A have yielded hold. -/
def Cl (W0 : World) (T : Nat → Option Spec) (A : Nat → Prop) (g : Gh) (W : World) : Prop :=
  Ext W0 W ∧ ∀ i, A i → ∀ v S, g i = some v → T i = some S → S.R v W
abbrev All : Nat → Prop := fun _ => True

theorem Cl.mono {A A' : Nat → Prop} {g g' : Gh} {W : World} (h : Cl W0 T A g W) (ha : ∀ i, A' i → A i) (hg : ∀ i, A' i → g' i = g i) : Cl W0 T A' g' W :=
  ⟨h.1, fun i hi v S hv hs => h.2 i (ha i hi) v S (by rw [← hg i hi]; exact hv) hs⟩
theorem Cl.upd {g : Gh} {W W' : World} {i : Nat} {v : Value} {S : Spec} (h : Cl W0 T All g W) (hE : Ext W W') (hT : T i = some S) (hR : S.R v W') : Cl W0 T All (upd g i v) W' :=
  ⟨h.1.trans hE, fun j _ u S' hu hs => by
    by_cases hj : j = i
    · subst hj
      rw [upd_same] at hu
      rw [hT] at hs
      cases hu; cases hs
      exact hR
    · rw [upd_other _ _ hj] at hu
      exact S'.mono hE (h.2 j trivial u S' hu hs)⟩
theorem Cl.drop {g : Gh} {W : World} {i : Nat} {v : Value} (h : Cl W0 T All (Sz.upd g i v) W) (hn : g i = none) : Cl W0 T All g W :=
  ⟨h.1, fun j _ u S hu hs => h.2 j trivial u S (by
    rw [upd_other _ _ (by rintro rfl; rw [hn] at hu; cases hu)]
    exact hu) hs⟩

/-- The operations that stand ahead of operation k, by its edges. -/
def direct (md : Region.Mode) (ops : Array Oper) (k : Nat) : List Nat :=
  match ops[k]? with
  | some o => o.after.toList.filterMap fun e => if Region.binds md e then some e.on else none
  | none => []
def ancGo (md : Region.Mode) (ops : Array Oper) : Nat → List Nat → List Nat
  | 0, l => l
  | i + 1, l => ancGo md ops i (if l.contains i then direct md ops i ++ l else l)
def ancs (md : Region.Mode) (ops : Array Oper) (k : Nat) : List Nat := ancGo md ops k (direct md ops k)
def Anc (md : Region.Mode) (ops : Array Oper) (k : Nat) : Nat → Prop := fun i => (ancs md ops k).contains i = true

def Down (md : Region.Mode) (ops : Array Oper) (listed : Array Bool) : Prop :=
  ∀ j, listed.getD j false = true → ∀ i ∈ direct md ops j, listed.getD i false = true

theorem direct_ready {listed : Array Bool} {k : Nat} (h : k ∈ Region.ready md ops listed) : ∀ i ∈ direct md ops k, listed.getD i false = true := by
  obtain ⟨_, o, ho, hall⟩ := mem_ready.1 h
  intro i hi
  unfold direct at hi
  rw [ho] at hi
  obtain ⟨e, he, hei⟩ := List.mem_filterMap.1 hi
  split at hei
  · cases hei
    exact hall e (by simpa using he) (by assumption)
  · cases hei

theorem ancGo_listed {listed : Array Bool} (hd : Down md ops listed) : ∀ (n : Nat) (l : List Nat), (∀ i ∈ l, listed.getD i false = true) → ∀ i ∈ ancGo md ops n l, listed.getD i false = true := by
  intro n
  induction n with
  | zero => intro l h i hi; exact h i hi
  | succ n ih =>
    intro l h i hi
    unfold ancGo at hi
    refine ih _ ?_ i hi
    split
    · rename_i hc
      intro k hk
      rcases List.mem_append.1 hk with hk | hk
      · exact hd n (h n (by simpa using hc)) k hk
      · exact h k hk
    · exact h

theorem anc_listed {listed : Array Bool} (hd : Down md ops listed) {k i : Nat} (h : k ∈ Region.ready md ops listed) (ha : Anc md ops k i) : listed.getD i false = true :=
  ancGo_listed hd k _ (direct_ready h) i (by simpa [Anc, ancs] using ha)

theorem Down.set {listed : Array Bool} (hd : Down md ops listed) {k : Nat} (h : k ∈ Region.ready md ops listed) : Down md ops (listed.setIfInBounds k true) := by
  intro j hj i hi
  refine getD_set_true ?_
  by_cases hjk : k = j
  · subst hjk; exact direct_ready h i hi
  · rw [getD_set_ne false hjk] at hj
    exact hd j hj i hi

theorem listed_ne {listed : Array Bool} {i j : Nat} (hi : listed.getD i false = true) (hj : listed.getD j true = false) : i ≠ j := by
  rintro rfl
  rcases Nat.lt_or_ge i listed.size with h | h
  · simp [h] at hi hj
    rw [hi] at hj
    cases hj
  · simp [Array.getElem?_eq_none h] at hi

def qUpon (W : World) (u : Value) : Result Next → Prop
  | .ok (.value v) W' => W' = W ∧ v = u
  | .ok .skip W' => W' = W ∧ u = undef
  | _ => False
/-- In the world W the operation yields u and leaves W as it was. -/
def qly (P : Program) (o : Oper) (a : Act) (W : World) (u : Value) : Prop := qUpon W u ((execOp a.eval o).run P W)
def gUpon (P : Program) (W : World) (R : Value → World → Prop) : Result Next → Prop
  | .ok (.value v) W' => R v W' ∧ Ext W W'
  | .ok (.enter f args) W' => Calls P f args W' (fun e w'' => ∃ v, e = .returned v ∧ R v w'' ∧ Ext W w'')
  | _ => False
/-- In the world W the operation yields what R holds of, and makes new memory alone. -/
def gives (P : Program) (o : Oper) (a : Act) (W : World) (R : Value → World → Prop) : Prop := gUpon P W R ((execOp a.eval o).run P W)

theorem gives_some {o : Oper} {a : Act} {W : World} {R : Value → World → Prop} (h : gives P o a W R) : ∃ v W', R v W' ∧ Ext W W' := by
  unfold gives at h
  generalize (execOp a.eval o).run P W = r at h
  cases r with
  | ok n w' =>
    cases n <;> simp only [gUpon] at h
    case value v => exact ⟨v, w', h⟩
    case enter f args =>
      obtain ⟨e, w'', fr, ⟨v, _, hR, hE⟩, _⟩ := h []
      exact ⟨v, w'', hR, hE⟩
  | halt x w' => simp only [gUpon] at h

theorem qly_unique {o : Oper} {a : Act} {W : World} {u u' : Value} (h : qly P o a W u) (h' : qly P o a W u') : u = u' := by
  unfold qly at h h'
  generalize (execOp a.eval o).run P W = r at h h'
  cases r with
  | ok n w' =>
    cases n <;> simp only [qUpon] at h h'
    case value v => exact h.2.symm.trans h'.2
    case skip => exact h.2.trans h'.2.symm
  | halt x w' => simp only [qUpon] at h

/-- Operation i yields u, and no fact on memory goes with it. -/
def Yq (P : Program) (ops : Array Oper) (md : Region.Mode) (W0 : World) (T : Nat → Option Spec) (i : Nat) (o : Oper) (a : Act) (g : Gh) (u : Value) : Prop :=
  (Region.wanted o (yielded ops a.tmps) = true ∧ T i = none ∧ ∀ W, Cl W0 T (Anc md ops i) g W → qly P o a W u) ∨ (Region.wanted o (yielded ops a.tmps) = false ∧ u = undef)
/-- Operation i yields what S holds of. -/
def Yr (P : Program) (ops : Array Oper) (md : Region.Mode) (W0 : World) (T : Nat → Option Spec) (i : Nat) (o : Oper) (a : Act) (g : Gh) (S : Spec) : Prop :=
  Region.wanted o (yielded ops a.tmps) = true ∧ T i = some S ∧ ∀ W, Cl W0 T (Anc md ops i) g W → gives P o a W S.R

theorem Yq.congr {i : Nat} {o : Oper} {a a' : Act} {g g' : Gh} {u : Value} (h : Yq P ops md W0 T i o a g u) (he : execOp a'.eval o = execOp a.eval o)
    (hw : Region.wanted o (yielded ops a'.tmps) = Region.wanted o (yielded ops a.tmps)) (hg : ∀ k, Anc md ops i k → g k = g' k) : Yq P ops md W0 T i o a' g' u := by
  unfold Yq qly at *
  rw [he, hw]
  exact h.imp (fun ⟨h1, h2, h3⟩ => ⟨h1, h2, fun W hW => h3 W (hW.mono (fun _ h => h) hg)⟩) id
theorem Yr.congr {i : Nat} {o : Oper} {a a' : Act} {g g' : Gh} {S : Spec} (h : Yr P ops md W0 T i o a g S) (he : execOp a'.eval o = execOp a.eval o)
    (hw : Region.wanted o (yielded ops a'.tmps) = Region.wanted o (yielded ops a.tmps)) (hg : ∀ k, Anc md ops i k → g k = g' k) : Yr P ops md W0 T i o a' g' S := by
  unfold Yr gives at *
  rw [he, hw]
  exact ⟨h.1, h.2.1, fun W hW => h.2.2 W (hW.mono (fun _ h => h) hg)⟩
theorem Yq.unique {i : Nat} {o : Oper} {a : Act} {g : Gh} {u u' : Value} {W : World} (h : Yq P ops md W0 T i o a g u) (h' : Yq P ops md W0 T i o a g u') (hW : Cl W0 T All g W) : u = u' := by
  have hW' : Cl W0 T (Anc md ops i) g W := hW.mono (fun _ _ => trivial) (fun _ _ => rfl)
  rcases h with ⟨h1, _, h3⟩ | ⟨h1, h2⟩ <;> rcases h' with ⟨k1, _, k3⟩ | ⟨k1, k2⟩
  · exact qly_unique (h3 W hW') (k3 W hW')
  · rw [h1] at k1; cases k1
  · rw [h1] at k1; cases k1
  · rw [h2, k2]
theorem Yq.not_Yr {i : Nat} {o : Oper} {a : Act} {g : Gh} {u : Value} {S : Spec} (h : Yq P ops md W0 T i o a g u) (h' : Yr P ops md W0 T i o a g S) : False := by
  rcases h with ⟨_, h2, _⟩ | ⟨h1, _⟩
  · rw [h'.2.1] at h2; cases h2
  · rw [h'.1] at h1; cases h1

def relOp (P : Program) (ops : Array Oper) (md : Region.Mode) (W0 : World) (T : Nat → Option Spec) (i : Nat) (o : Oper) (a : Act) (g : Gh) (K : Act → Gh → Prop) : Prop :=
  (∃ u, Yq P ops md W0 T i o a g u ∧ K (a.put o.dst u) g) ∨
  (∃ S, Yr P ops md W0 T i o a g S ∧ ∀ v, (∃ W, Cl W0 T All (upd g i v) W) → K (a.put o.dst v) (upd g i v))

theorem relOp_mono {i : Nat} {o : Oper} {a : Act} {g : Gh} {K K' : Act → Gh → Prop} (hW : ∃ W, Cl W0 T All g W) (h : relOp P ops md W0 T i o a g K) (hK : ∀ v g', (∃ W, Cl W0 T All g' W) → (∀ j, j ≠ i → g' j = g j) → K (a.put o.dst v) g' → K' (a.put o.dst v) g') : relOp P ops md W0 T i o a g K' := by
  rcases h with ⟨u, hy, h⟩ | ⟨S, hy, h⟩
  · exact .inl ⟨u, hy, hK _ _ hW (fun _ _ => rfl) h⟩
  · exact .inr ⟨S, hy, fun v hv => hK _ _ hv (fun j hj => upd_other _ _ hj) (h v hv)⟩

theorem Yr.val {i : Nat} {o : Oper} {a : Act} {g : Gh} {S : Spec} (h : Yr P ops md W0 T i o a g S) (hW : ∃ W, Cl W0 T All g W) : ∃ v W, Cl W0 T All (upd g i v) W := by
  obtain ⟨W, hW⟩ := hW
  obtain ⟨v, W', hR, hE⟩ := gives_some (h.2.2 W (hW.mono (fun _ _ => trivial) (fun _ _ => rfl)))
  exact ⟨v, W', hW.upd hE h.2.1 hR⟩

theorem relOp_some {i : Nat} {o : Oper} {a : Act} {g : Gh} {K : Act → Gh → Prop} (hW : ∃ W, Cl W0 T All g W) (h : relOp P ops md W0 T i o a g K) : ∃ a' g', K a' g' := by
  rcases h with ⟨u, hy, h⟩ | ⟨S, hy, h⟩
  · exact ⟨_, _, h⟩
  · obtain ⟨v, hv⟩ := hy.val hW
    exact ⟨_, _, h v hv⟩

def wpAnyR (P : Program) (ops : Array Oper) (md : Region.Mode) (W0 : World) (T : Nat → Option Spec) (m : Nat) (Q : Act → Gh → Prop) : Nat → Array Bool → Act → Gh → Prop
  | 0, listed, a, g => (∀ i, i < m → listed.getD i false = true) ∧ Q a g
  | fuel + 1, listed, a, g => (∃ i, i < m ∧ i ∈ Region.ready md ops listed) ∧
      ∀ i ∈ Region.ready md ops listed, i < m → ∀ o, ops[i]? = some o → relOp P ops md W0 T i o a g (fun a' g' => wpAnyR P ops md W0 T m Q fuel (listed.setIfInBounds i true) a' g')

/-- An operation that may come up now may be taken first. -/
theorem rel_first {Q : Act → Gh → Prop} {i : Nat} {oi : Oper} (hi : ops[i]? = some oi) (him : i < m) (hsel : ∀ (j : Nat) (o : Oper) cs b, ops[j]? = some o → o.op ≠ .select cs b) :
    ∀ (fuel : Nat) (listed : Array Bool) (a : Act) (g : Gh), Down md ops listed → (∀ j, listed.getD j true = false → g j = none) →
      (∀ j oj, ops[j]? = some oj → j ≠ i → listed.getD j true = false → (∀ e ∈ oj.after, Region.binds md e = true → e.on ≠ i) → oi.apart ops oj = true) →
      i ∈ Region.ready md ops listed → (∃ W, Cl W0 T All g W) →
      relOp P ops md W0 T i oi a g (fun a' g' => wpAnyR P ops md W0 T m Q fuel (listed.setIfInBounds i true) a' g') → wpAnyR P ops md W0 T m Q (fuel + 1) listed a g := by
  intro fuel
  induction fuel with
  | zero =>
    intro listed a g _ _ _ hr hW H
    refine ⟨⟨i, him, hr⟩, fun j hj hjm oj hoj => ?_⟩
    by_cases hji : j = i
    · subst hji; rw [hi] at hoj; cases hoj; exact H
    · obtain ⟨a', g', h⟩ := relOp_some hW H
      have h1 := h.1 j hjm
      rw [getD_set_ne false (Ne.symm hji)] at h1
      exact absurd rfl (listed_ne h1 (mem_ready.1 hj).1)
  | succ fuel ih =>
    intro listed a g hd hg hfree hr hW H
    refine ⟨⟨i, him, hr⟩, fun j hj hjm oj hoj => ?_⟩
    by_cases hji : j = i
    · subst hji; rw [hi] at hoj; cases hoj; exact H
    · obtain ⟨hjun, oj', hoj', hall⟩ := mem_ready.1 hj
      have hiun := (mem_ready.1 hr).1
      have hnot : ∀ e ∈ oj.after, Region.binds md e = true → e.on ≠ i := fun e he hb heq => by
        rw [hoj] at hoj'; cases hoj'
        have h1 := hall e he hb
        rw [heq] at h1
        exact absurd rfl (listed_ne h1 hiun)
      have hap := hfree j oj hoj hji hjun hnot
      obtain ⟨h1, h2, h3⟩ := Oper.apart_spec hap
      have hrj := ready_mono hj hji
      have hri := ready_mono hr (Ne.symm hji)
      have hfree' : ∀ k ok, ops[k]? = some ok → k ≠ i → (listed.setIfInBounds j true).getD k true = false →
          (∀ e ∈ ok.after, Region.binds md e = true → e.on ≠ i) → oi.apart ops ok = true := fun k ok hk hki hun hno => by
        refine hfree k ok hk hki ?_ hno
        by_cases hjk : j = k
        · subst hjk; exact hjun
        · rw [getD_set_ne true hjk] at hun; exact hun
      have hg' : ∀ (g' : Gh), (∀ k, k ≠ j → g' k = g k) → ∀ k, (listed.setIfInBounds j true).getD k true = false → g' k = none := fun g' he k hk => by
        by_cases hjk : j = k
        · subst hjk
          exfalso
          have hlt : j < listed.size := by
            rcases Nat.lt_or_ge j listed.size with h | h
            · exact h
            · simp [Array.getElem?_eq_none h] at hjun
          simp [hlt] at hk
        · rw [getD_set_ne true hjk] at hk
          rw [he k (Ne.symm hjk)]
          exact hg k hk
      -- what one does not see of the other
      have ei : ∀ (a : Act) u, execOp (a.put oj.dst u).eval oi = execOp a.eval oi := fun a u => execOp_put oi (fun cs b => hsel i oi cs b hi) a oj.dst u h3
      have wi : ∀ (a : Act) u, Region.wanted oi (yielded ops (a.put oj.dst u).tmps) = Region.wanted oi (yielded ops a.tmps) := fun a u => wanted_put oi a oj.dst u h3
      have ej : ∀ (a : Act) u, execOp (a.put oi.dst u).eval oj = execOp a.eval oj := fun a u => execOp_put oj (fun cs b => hsel j oj cs b hoj) a oi.dst u h1
      have wj : ∀ (a : Act) u, Region.wanted oj (yielded ops (a.put oi.dst u).tmps) = Region.wanted oj (yielded ops a.tmps) := fun a u => wanted_put oj a oi.dst u h1
      have ai : ∀ (g : Gh) u k, Anc md ops i k → g k = upd g j u k := fun g u k hk => (upd_other _ _ (listed_ne (anc_listed hd hr hk) hjun)).symm
      have aj : ∀ (g : Gh) u k, Anc md ops j k → g k = upd g i u k := fun g u k hk => (upd_other _ _ (listed_ne (anc_listed hd hj hk) hiun)).symm
      have hcm : (listed.setIfInBounds i true).setIfInBounds j true = (listed.setIfInBounds j true).setIfInBounds i true := Array.setIfInBounds_comm _ _ (Ne.symm hji)
      have hdj := hd.set hj
      rcases H with ⟨u, hy, hA⟩ | ⟨S, hy, hA⟩
      · rcases hA.2 j hrj hjm oj hoj with ⟨x, hx, hB⟩ | ⟨S', hx, hB⟩
        · refine .inl ⟨x, hx.congr (ej a u).symm (wj a u).symm (fun _ _ => rfl), ih _ _ _ hdj (hg' g fun _ _ => rfl) hfree' hri hW (.inl ⟨u, hy.congr (ei a x) (wi a x) (fun _ _ => rfl), ?_⟩)⟩
          rw [← hcm, ← Act.put_comm a u x h2]
          exact hB
        · refine .inr ⟨S', hx.congr (ej a u).symm (wj a u).symm (fun _ _ => rfl), fun x hxW => ih _ _ _ hdj (hg' _ fun k hk => upd_other _ _ hk) hfree' hri hxW (.inl ⟨u, hy.congr (ei a x) (wi a x) (ai g x), ?_⟩)⟩
          rw [← hcm, ← Act.put_comm a u x h2]
          exact hB x hxW
      · obtain ⟨v0, hv0⟩ := hy.val hW
        rcases (hA v0 hv0).2 j hrj hjm oj hoj with ⟨x, hx, _⟩ | ⟨S', hx, _⟩
        · have hx0 : Yq P ops md W0 T j oj a g x := hx.congr (ej a v0).symm (wj a v0).symm (fun k hk => (aj g v0 k hk).symm)
          refine .inl ⟨x, hx0, ih _ _ _ hdj (hg' g fun _ _ => rfl) hfree' hri hW (.inr ⟨S, hy.congr (ei a x) (wi a x) (fun _ _ => rfl), fun v hv => ?_⟩)⟩
          rcases (hA v hv).2 j hrj hjm oj hoj with ⟨x', hx', hB⟩ | ⟨S', hx', _⟩
          · have hx1 : Yq P ops md W0 T j oj a g x' := hx'.congr (ej a v).symm (wj a v).symm (fun k hk => (aj g v k hk).symm)
            obtain ⟨W, hW⟩ := hW
            have := hx0.unique hx1 hW
            subst this
            rw [← hcm, ← Act.put_comm a v x h2]
            exact hB
          · exact (hx0.not_Yr (hx'.congr (ej a v).symm (wj a v).symm (fun k hk => (aj g v k hk).symm))).elim
        · have hx0 : Yr P ops md W0 T j oj a g S' := hx.congr (ej a v0).symm (wj a v0).symm (fun k hk => (aj g v0 k hk).symm)
          refine .inr ⟨S', hx0, fun x hxW => ih _ _ _ hdj (hg' _ fun k hk => upd_other _ _ hk) hfree' hri hxW (.inr ⟨S, hy.congr (ei a x) (wi a x) (ai g x), fun v hv => ?_⟩)⟩
          have hv' : ∃ W, Cl W0 T All (upd g i v) W := by
            obtain ⟨W, hW⟩ := hv
            rw [← upd_comm _ _ _ (Ne.symm hji)] at hW
            exact ⟨W, hW.drop (by rw [upd_other _ _ hji]; exact hg j hjun)⟩
          rcases (hA v hv').2 j hrj hjm oj hoj with ⟨x', hx', _⟩ | ⟨S'', hx', hB⟩
          · exact ((hx'.congr (ej a v).symm (wj a v).symm (fun k hk => (aj g v k hk).symm) : Yq P ops md W0 T j oj a g x').not_Yr hx0).elim
          · rw [← hcm, ← Act.put_comm a v x h2, ← upd_comm _ _ _ (Ne.symm hji)]
            exact hB x (by rw [upd_comm _ _ _ (Ne.symm hji)]; exact hv)

/-- The walk in the order of the text. -/
def wpRel (P : Program) (ops : Array Oper) (md : Region.Mode) (W0 : World) (T : Nat → Option Spec) (Q : Act → Gh → Prop) : List Oper → Nat → Act → Gh → Prop
  | [], _, a, g => Q a g
  | o :: l, k, a, g => relOp P ops md W0 T k o a g (fun a' g' => wpRel P ops md W0 T Q l (k + 1) a' g')

def lexPre (md : Region.Mode) (ops : Array Oper) (m : Nat) : Nat → Nat → Array Bool → Bool
  | 0, _, listed => (List.range m).all fun i => listed.getD i false
  | fuel + 1, k, listed => (Region.ready md ops listed).contains k && Region.free md ops listed k && lexPre md ops m fuel (k + 1) (listed.setIfInBounds k true)

theorem rel_lex {Q : Act → Gh → Prop} (hs : Region.noSelect ops = true) : ∀ (l : List Oper) (k : Nat) (listed : Array Bool) (a : Act) (g : Gh), (∀ j, j < l.length → l[j]? = ops[k + j]?) → k + l.length = m →
    lexPre md ops m l.length k listed = true → Down md ops listed → (∀ j, listed.getD j true = false → g j = none) → (∃ W, Cl W0 T All g W) → wpRel P ops md W0 T Q l k a g → wpAnyR P ops md W0 T m Q l.length listed a g
  | [], k, listed, a, g, _, _, hB, _, _, _, h => ⟨fun i hi => by
      simp only [List.length_nil, lexPre, List.all_eq_true, List.mem_range] at hB
      exact hB i hi, h⟩
  | o :: l, k, listed, a, g, hl, hk, hB, hd, hg, hW, h => by
    have h0 : ops[k]? = some o := by simpa using (hl 0 (by simp)).symm
    simp only [List.length_cons, lexPre, Bool.and_eq_true] at hB
    obtain ⟨⟨hr, hf⟩, hB'⟩ := hB
    have hr : k ∈ Region.ready md ops listed := by simpa using hr
    refine rel_first h0 (by simp at hk; omega) (Region.noSelect_spec hs) l.length listed a g hd hg (Region.free_spec h0 hf) hr hW (relOp_mono hW h fun v g' hW' hg' hK => ?_)
    refine rel_lex hs l (k + 1) _ _ g' (fun j hj => by have := hl (j + 1) (by simp; omega); simpa [Nat.add_assoc, Nat.add_comm 1 j] using this) (by simp at hk; omega) hB' (hd.set hr) (fun j hj => ?_) hW' hK
    by_cases hjk : k = j
    · subst hjk
      exfalso
      have hlt : k < listed.size := by
        rcases Nat.lt_or_ge k listed.size with h | h
        · exact h
        · have := (mem_ready.1 hr).1
          simp [Array.getElem?_eq_none h] at this
      simp [hlt] at hj
    · rw [getD_set_ne true hjk] at hj
      rw [hg' j (Ne.symm hjk)]
      exact hg j hj

def firstB (m t : Nat) : Array Bool := Array.replicate m true ++ Array.replicate t false

theorem wpAny_of_rel {Q : Exit → Act → World → Prop} {t : Nat} (hmt : m + t = ops.size) (htail : ∀ j, m ≤ j → j < ops.size → ∀ i, i < m → Anc md ops j i) :
    ∀ (fuel : Nat) (listed : Array Bool) (a : Act) (g : Gh) (W : World), Down md ops listed → listed.size = ops.size → (∀ j, m ≤ j → j < ops.size → listed.getD j true = false) → Cl W0 T All g W →
      wpAnyR P ops md W0 T m (fun a' g' => ∀ W, Cl W0 T All g' W → wpAny P md ops Q t (firstB m t) a' W) fuel listed a g → wpAny P md ops Q (fuel + t) listed a W := by
  intro fuel
  induction fuel with
  | zero =>
    intro listed a g W hd hsz htl hW h
    rw [Nat.zero_add]
    have : listed = firstB m t := by
      unfold firstB
      apply Array.ext
      · simp [hsz, hmt]
      · intro j h1 h2
        by_cases hj : j < m
        · rw [Array.getElem_append_left (by simpa using hj)]
          have := h.1 j hj
          simpa [h1] using this
        · rw [Array.getElem_append_right (by simpa using hj)]
          have := htl j (by omega) (by omega)
          simpa [h1] using this
    rw [this]
    exact h.2 W hW
  | succ fuel ih =>
    intro listed a g W hd hsz htl hW h
    obtain ⟨⟨k, hkm, hk⟩, h⟩ := h
    rw [show fuel + 1 + t = (fuel + t) + 1 by omega]
    refine ⟨fun h0 => (by rw [h0] at hk; cases hk), fun i hi => ?_⟩
    obtain ⟨hun, o, ho, _⟩ := mem_ready.1 hi
    have hlt : i < ops.size := (Array.getElem?_eq_some_iff.1 ho).1
    have him : i < m := by
      rcases Nat.lt_or_ge i m with h1 | h1
      · exact h1
      · exact absurd rfl (listed_ne (anc_listed hd hi (htail i h1 hlt k hkm)) (mem_ready.1 hk).1)
    have next : ∀ v g' W', Cl W0 T All g' W' → wpAnyR P ops md W0 T m (fun a' g' => ∀ W, Cl W0 T All g' W → wpAny P md ops Q t (firstB m t) a' W) fuel (listed.setIfInBounds i true) (a.put o.dst v) g' → wpAny P md ops Q (fuel + t) (listed.setIfInBounds i true) (a.put o.dst v) W' := fun v g' W' hW' hK =>
      ih _ _ g' W' (hd.set hi) (by simpa using hsz) (fun j h1 h2 => by rw [getD_set_ne true (by omega)]; exact htl j h1 h2) hW' hK
    have hcl : Cl W0 T (Anc md ops i) g W := hW.mono (fun _ _ => trivial) (fun _ _ => rfl)
    unfold wpOp
    simp only [ho]
    rcases h i hi him o ho with ⟨u, hy, hK⟩ | ⟨S, hy, hK⟩
    · rcases hy with ⟨hw, _, hq⟩ | ⟨hw, rfl⟩
      · simp only [hw, if_true]
        refine .inl ?_
        have hq := hq W hcl
        unfold qly at hq
        unfold Oper.wp
        generalize (execOp a.eval o).run P W = r at hq
        cases r with
        | ok n w' =>
          cases n <;> simp only [qUpon] at hq
          case value v => obtain ⟨rfl, rfl⟩ := hq; exact next _ _ _ hW hK
          case skip => obtain ⟨rfl, rfl⟩ := hq; exact next _ _ _ hW hK
        | halt x w' => simp only [qUpon] at hq
      · simp only [hw, Bool.false_eq_true, if_false]
        exact next _ _ _ hW hK
    · simp only [hy.1, if_true]
      refine .inl ?_
      have hq := hy.2.2 W hcl
      unfold gives at hq
      unfold Oper.wp
      generalize (execOp a.eval o).run P W = r at hq
      cases r with
      | ok n w' =>
        cases n <;> simp only [gUpon] at hq
        case value v => exact next _ _ _ (hW.upd hq.2 hy.2.1 hq.1) (hK v ⟨_, hW.upd hq.2 hy.2.1 hq.1⟩)
        case enter f args =>
          refine Calls.mono hq ?_
          rintro e w'' ⟨v, rfl, hR, hE⟩
          exact next _ _ _ (hW.upd hE hy.2.1 hR) (hK v ⟨_, hW.upd hE hy.2.1 hR⟩)
      | halt x w' => simp only [gUpon] at hq

def relB (ops : Array Oper) (m t : Nat) : Bool :=
  decide (m + t = ops.size) && Region.noSelect ops && lexPre .any ops m m 0 (Array.replicate ops.size false) &&
    (List.range t).all fun j => (List.range m).all fun i => (ancs .any ops (m + j)).contains i

/-- The first m operations in the order of the text; the t behind them as ever. -/
theorem wp_region_rel {id : Nat} {Q : Exit → Act → World → Prop} {a : Act} {w : World} {l : List Oper} (T : Nat → Option Spec) (m t : Nat) (hm : P.follows .mixedOrders = true) (hB : relB l.toArray m t = true)
    (h : wpRel P l.toArray .any w.drew T (fun a' g' => ∀ W, Cl w.drew T All g' W → wpAny P .any l.toArray Q t (firstB m t) a' W) (l.take m) 0 a (fun _ => none)) : (Code.region id l.toArray true).wp P Q a w := by
  simp only [relB, Bool.and_eq_true, decide_eq_true_eq, List.all_eq_true, List.mem_range] at hB
  obtain ⟨⟨⟨hmt, hs⟩, hlex⟩, htail⟩ := hB
  have hml : m ≤ l.length := by simp at hmt; omega
  have hlen : (l.take m).length = m := by simp; omega
  have hW : Cl w.drew T All (fun _ => none) w.drew := ⟨Ext.refl _, fun _ _ _ _ hv => by cases hv⟩
  have hd : Down .any l.toArray (Array.replicate l.toArray.size false) := fun j hj => by
    exfalso
    rcases Nat.lt_or_ge j l.length with h | h <;> simp [h] at hj
  have key := rel_lex (P := P) (md := .any) (m := m) (W0 := w.drew) (T := T) (ops := l.toArray) hs (l.take m) 0 (Array.replicate l.toArray.size false) a (fun _ => none) (fun j hj => by
    rw [hlen] at hj
    rw [List.getElem?_take, if_pos hj]
    simp) (by simp; omega) (by rw [hlen]; exact hlex) hd (fun _ _ => rfl) ⟨_, hW⟩ h
  rw [hlen] at key
  refine wp_region_any hm ?_
  have := wpAny_of_rel (P := P) hmt (fun j h1 h2 i hi => by
    have := htail (j - m) (by omega) i hi
    rwa [show m + (j - m) = j by omega] at this) m _ a _ w.drew hd (by simp) (fun j h1 h2 => by
      simp only [List.size_toArray] at h2
      simp [h2]) hW key
  rw [hmt] at this
  exact this

/-- All of them in the order of the text. -/
theorem wp_region_rel_all {id : Nat} {Q : Exit → Act → World → Prop} {a : Act} {w : World} {l : List Oper} (T : Nat → Option Spec) (hm : P.follows .mixedOrders = true) (hB : relB l.toArray l.length 0 = true)
    (h : wpRel P l.toArray .any w.drew T (fun a' g' => ∀ W, Cl w.drew T All g' W → Q .normal a' W) l 0 a (fun _ => none)) : (Code.region id l.toArray true).wp P Q a w := by
  refine wp_region_rel T l.length 0 hm hB ?_
  rw [List.take_length]
  have hr : Region.ready .any l.toArray (firstB l.length 0) = [] := by
    unfold Region.ready firstB
    rw [List.filter_eq_nil_iff]
    intro i hi
    have : i < l.length := by simpa using List.mem_range.1 hi
    simp [this]
  have e : (fun (a' : Act) (g' : Gh) => ∀ W, Cl w.drew T All g' W → wpAny P .any l.toArray Q 0 (firstB l.length 0) a' W) = (fun a' g' => ∀ W, Cl w.drew T All g' W → Q .normal a' W) := by
    funext a' g'
    simp only [wpAny, hr, true_and]
  rw [e]
  exact h

def plainOp : Op → Bool
  | .move _ | .assign _ | .pick .. | .build .. | .load .. | .binOp .. | .unOp .. | .convert .. | .makeInterface .. | .makeFunc .. | .slice .. | .fieldAddr .. | .field .. | .indexAddr .. | .index .. | .extract .. => true
  | _ => false
theorem noEnter {ρ : Operand → Value} {o : Oper} (h : plainOp o.op = true) : ∀ f args W W', (execOp ρ o).run P W ≠ .ok (.enter f args) W' := by
  intro f args W W' he
  have key : ∀ (s : Sem Value), ((do let a ← s; pure (Next.value a)) : Sem Next).run P W ≠ .ok (.enter f args) W' := fun s he => by
    rw [Sem.run_bind] at he
    cases hs : s.run P W with
    | ok v w' => rw [hs] at he; simp only [Result.andThen_ok, Sem.run_pure] at he; cases he
    | halt x w' => rw [hs] at he; cases he
  obtain ⟨dst, op, type, pos, after, guard⟩ := o
  cases op <;> simp only [plainOp] at h <;> try cases h
  all_goals unfold execOp at he
  all_goals simp only at he
  all_goals first | exact key _ he | (simp only [Sem.run_pure] at he; cases he) | skip
  all_goals
    rw [Sem.run_bind] at he
    rename_i c a b
    cases hs : (asBool (ρ c)).run P W with
    | ok v w' => rw [hs] at he; simp only [Result.andThen_ok, Sem.run_pure] at he; cases he
    | halt x w' => rw [hs] at he; cases he
/-! The steps. -/
theorem wpRel_nil {Q : Act → Gh → Prop} {k : Nat} {a : Act} {g : Gh} (h : Q a g) : wpRel P ops md W0 T Q [] k a g := h
theorem wpRel_skip {Q : Act → Gh → Prop} {o : Oper} {l : List Oper} {k : Nat} {a : Act} {g : Gh} (hw : Region.wanted o (yielded ops a.tmps) = false) (h : wpRel P ops md W0 T Q l (k + 1) (a.put o.dst undef) g) : wpRel P ops md W0 T Q (o :: l) k a g :=
  .inl ⟨_, .inr ⟨hw, rfl⟩, h⟩
/-- by the kit's quick step: the goal that is left is one for go_big_quiet_op -/
theorem wpRel_quick {Q : Act → Gh → Prop} {o : Oper} {l : List Oper} {k : Nat} {a : Act} {g : Gh} (hw : Region.wanted o (yielded ops a.tmps) = true) (hT : T k = none) (hpl : ∀ f args, ∀ W W', (execOp a.eval o).run P W ≠ .ok (.enter f args) W')
    (h : ∀ K : Act → Prop, (∀ a, wpRel P ops md W0 T Q l (k + 1) a g → K a) → o.quiet P a (fun W => ∃ X, W = W0.grow X) K) : wpRel P ops md W0 T Q (o :: l) k a g := by
  obtain ⟨v, h1, h2⟩ := h _ (fun _ h => h)
  refine .inl ⟨v, .inl ⟨hw, hT, fun W hW => ?_⟩, h2⟩
  have h3 := h1 W hW.1.grow
  unfold Oper.quietAt at h3
  unfold qly
  generalize hr : (execOp a.eval o).run P W = r at h3
  cases r with
  | ok n w' =>
    cases n <;> simp only [Oper.quietUpon] at h3 <;> simp only [qUpon]
    case value u => exact h3
    case skip => exact h3
    case enter f args => exact absurd hr (hpl f args W w')
  | halt x w' => simp only [Oper.quietUpon] at h3
theorem wpRel_quiet {Q : Act → Gh → Prop} {o : Oper} {l : List Oper} {k : Nat} {a : Act} {g : Gh} (u : Value) (hw : Region.wanted o (yielded ops a.tmps) = true) (hT : T k = none)
    (hq : ∀ W, Cl W0 T (Anc md ops k) g W → qUpon W u ((execOp a.eval o).run P W)) (h : wpRel P ops md W0 T Q l (k + 1) (a.put o.dst u) g) : wpRel P ops md W0 T Q (o :: l) k a g :=
  .inl ⟨u, .inl ⟨hw, hT, hq⟩, h⟩
theorem wpRel_rich {Q : Act → Gh → Prop} {o : Oper} {l : List Oper} {k : Nat} {a : Act} {g : Gh} (S : Spec) (hT : T k = some S) (hw : Region.wanted o (yielded ops a.tmps) = true)
    (hq : ∀ W, Cl W0 T (Anc md ops k) g W → gUpon P W S.R ((execOp a.eval o).run P W)) (h : ∀ v W, Cl W0 T All (upd g k v) W → S.R v W → wpRel P ops md W0 T Q l (k + 1) (a.put o.dst v) (upd g k v)) : wpRel P ops md W0 T Q (o :: l) k a g :=
  .inr ⟨S, ⟨hw, hT, hq⟩, fun v ⟨W, hW⟩ => h v W hW (hW.2 k trivial v S (upd_same _ _ _) hT)⟩
/-- a slice of n elements and capacity c that holds the rows -/
def spSL (k n c : Nat) (rows : List (List Value)) : Spec := ⟨fun v W => ∃ ao, v = .slice ao n c ∧ SL W k ao c rows, fun hE ⟨ao, h1, h2⟩ => ⟨ao, h1, h2.ext hE⟩⟩
/-- a slice of n elements that holds the rows -/
def spSL' (k n : Nat) (rows : List (List Value)) : Spec := ⟨fun v W => ∃ ao c, v = .slice ao n c ∧ SL W k ao c rows, fun hE ⟨ao, c, h1, h2⟩ => ⟨ao, c, h1, h2.ext hE⟩⟩
/-- what an append onto ao yields: a slice of n elements that holds the rows; ao's own memory if nothing was appended, else memory from D on -/
def spAp (k n : Nat) (rows : List (List Value)) (D m : Nat) (ao0 : Option Addr) : Spec := ⟨fun v W => ∃ ao c, v = .slice ao n c ∧ SL W k ao c rows ∧ ((m = 0 ∧ ao = ao0) ∨ ∀ a, ao = some a → D ≤ a.block), fun hE ⟨ao, c, h1, h2, h3⟩ => ⟨ao, c, h1, h2.ext hE, h3⟩⟩
/-- a row of the call's own, in memory from D on -/
def spOwn (D : Nat) (e : TypeId) (k n : Nat) (rows : List (List Value)) : Spec := ⟨fun v W => W.ownsRow D e k v n rows.flatten, fun hE h => ownsRow_ext h hE⟩
/-- an empty row of the call's own -/
def spE (D : Nat) (e : TypeId) (k : Nat) : Spec := ⟨fun v W => ∃ g, v = .slice (some ⟨g, 0, none⟩) 0 0 ∧ W.ownsRow D e k v 0 [], fun hE ⟨g, h, h2⟩ => ⟨g, h, ownsRow_ext h2 hE⟩⟩
/-- this very value, of a call -/
def spV (u : Value) : Spec := ⟨fun v _ => v = u, fun _ h => h⟩

/-- new rows -/
theorem sl_news (W : World) (rows : List (List Value)) (k n : Nat) (e : TypeId) (hw : ∀ r ∈ rows, r.length = k) (hn : rows.length = n) (hm : n ≤ 9223372036854775807) : SL (W.alloc (.cells rows.flatten.toArray e)) k (some ⟨W.heap.size, 0, none⟩) n rows := by
  have hown : (W.alloc (.cells rows.flatten.toArray e)).ownsRow 0 e k (.slice (some ⟨W.heap.size, 0, none⟩) n n) n rows.flatten := by
    have h := World.ownsRow_lit (base := 0) (e := e) W rows.flatten.toArray n (size := k) (Nat.zero_le _) (by unfold maxLen; omega) (by simp only [List.size_toArray]; rw [flat_len rows hw, hn])
    simpa using h
  obtain ⟨ao, cap, hv, hs, _⟩ := SL.of_owns hown hw hn
  rw [hn] at hv
  cases hv
  exact hs
theorem sl_new (W : World) (cs : List Value) (k : Nat) (e : TypeId) (hk : cs.length = k) : SL (W.alloc (.cells cs.toArray e)) k (some ⟨W.heap.size, 0, none⟩) 1 [cs] := by
  have := sl_news W [cs] k 1 e (by simpa using hk) rfl (by omega)
  simpa using this

theorem g_append_full {o : Oper} {a : Act} {W : World} (s x : Operand) (t tx : TypeId)
    (ho : o.op = .call { callee := .builtin .append, args := #[s, x], argTypes := #[t, tx] })
    (e : TypeId) (i : TypeInfo) (z : Value) (size bytes : Nat) (ht : P.underlying t = some (.slice e)) (hi : P.info? e = some i) (hz : i.zero = some z)
    (hsize : i.size = size) (hby : i.bytes = bytes) (hzs : z.cells.size = size) (hsz : 0 < size)
    (ao : Option Addr) (n : Nat) (rows : List (List Value)) (hv : a.eval s = .slice ao n n) (hs : SL W size ao n rows) (hrn : rows.length = n) (sv : Value) (m : Nat) (hsp : m = 0 → rows = [] → ∀ a, ao = some a → a.spot = none)
    (rows2 : List (List Value)) (hx : a.eval x = sv) (hsrc : Src P size tx sv m rows2.flatten W) (hw2 : ∀ r ∈ rows2, r.length = size) (hm : rows2.length = m)
    (h63 : n + m ≤ maxLen) (hbytes : (n + m) * bytes ≤ 140737488355328) (D : Nat) (hD : D ≤ W.heap.size) : gUpon P W (spAp size (n + m) (rows ++ rows2) D m ao).R ((execOp a.eval o).run P W) := by
  obtain ⟨ao', cap', w', hr, h2, h3, h4⟩ := run_append_full (P := P) W t tx o.type e i z size bytes ht hi hz hsize hby hzs hsz ao n rows hs hrn sv m hsp rows2 hsrc hw2 hm h63 hbytes
  unfold execOp
  simp only [ho, resolve, invoke, builtin, Sem.run_bind, Sem.run_pure, Result.andThen_ok, List.map_toArray, List.map_cons, List.map_nil, hv, hx, hr]
  exact ⟨⟨ao', cap', rfl, h2, h4.imp id fun h a ha => Nat.le_trans hD (h a ha)⟩, h3⟩
/-- append onto an empty row of the call's own that has no room -/
theorem run_append_fresh (w : World) (t tx ty e : TypeId) (i : TypeInfo) (z : Value) (size bytes : Nat) (ht : P.underlying t = some (.slice e)) (hi : P.info? e = some i) (hz : i.zero = some z)
    (hsize : i.size = size) (hby : i.bytes = bytes) (hzs : z.cells.size = size) (hsz : 0 < size) (D : Nat) (hD : D ≤ w.heap.size)
    (b : Nat) (hown : w.ownsRow D e size (.slice (some ⟨b, 0, none⟩) 0 0) 0 [])
    (sv : Value) (m : Nat) (rows2 : List (List Value)) (hsrc : Src P size tx sv m rows2.flatten w) (hw2 : ∀ r ∈ rows2, r.length = size) (hm : rows2.length = m)
    (h63 : m ≤ maxLen) (hbytes : m * bytes ≤ 140737488355328) :
    ∃ v' w', (Builtin.append_ #[t, tx] ty #[.slice (some ⟨b, 0, none⟩) 0 0, sv]).run P w = .ok v' w' ∧ w'.ownsRow D e size v' m rows2.flatten ∧ Ext w w' := by
  obtain ⟨ao', cap', w1, hr1, _, h1, _⟩ := run_append_full (P := P) w t tx ty e i z size bytes ht hi hz hsize hby hzs hsz (some ⟨b, 0, none⟩) 0 [] (SL.done _) rfl sv m (fun _ _ a ha => by cases ha; rfl) rows2 hsrc hw2 hm (by rw [Nat.zero_add]; exact h63) (by rw [Nat.zero_add]; exact hbytes)
  obtain ⟨v', w', hr, h2, _⟩ := run_append_src_own (P := P) w D t tx ty e i z size bytes ht hi hz hsize hby hzs _ 0 [] hown sv m rows2.flatten hsrc (by rw [Nat.zero_add]; exact h63) (by rw [Nat.zero_add]; exact hbytes) hD
  rw [hr1] at hr
  cases hr
  refine ⟨_, _, hr1, ?_, h1⟩
  simp only [Nat.zero_add, List.nil_append] at h2 ⊢
  exact h2

theorem g_append_fresh {o : Oper} {a : Act} {W : World} (s x : Operand) (t tx : TypeId)
    (ho : o.op = .call { callee := .builtin .append, args := #[s, x], argTypes := #[t, tx] })
    (e : TypeId) (i : TypeInfo) (z : Value) (size bytes : Nat) (ht : P.underlying t = some (.slice e)) (hi : P.info? e = some i) (hz : i.zero = some z)
    (hsize : i.size = size) (hby : i.bytes = bytes) (hzs : z.cells.size = size) (hsz : 0 < size) (D : Nat) (hD : D ≤ W.heap.size)
    (b : Nat) (hv : a.eval s = .slice (some ⟨b, 0, none⟩) 0 0) (hown : W.ownsRow D e size (.slice (some ⟨b, 0, none⟩) 0 0) 0 [])
    (sv : Value) (m : Nat) (rows2 : List (List Value)) (hx : a.eval x = sv) (hsrc : Src P size tx sv m rows2.flatten W) (hw2 : ∀ r ∈ rows2, r.length = size) (hm : rows2.length = m)
    (h63 : m ≤ maxLen) (hbytes : m * bytes ≤ 140737488355328) : gUpon P W (spOwn D e size m rows2).R ((execOp a.eval o).run P W) := by
  obtain ⟨v', w', hr, h2, h3⟩ := run_append_fresh (P := P) W t tx o.type e i z size bytes ht hi hz hsize hby hzs hsz D hD b hown sv m rows2 hsrc hw2 hm h63 hbytes
  unfold execOp
  simp only [ho, resolve, invoke, builtin, Sem.run_bind, Sem.run_pure, Result.andThen_ok, List.map_toArray, List.map_cons, List.map_nil, hv, hx, hr]
  exact ⟨h2, h3⟩
theorem own_empty (W : World) (D : Nat) (hD : D ≤ W.heap.size) (e : TypeId) (k : Nat) : (W.alloc (.cells #[] e)).ownsRow D e k (.slice (some ⟨W.heap.size, 0, none⟩) 0 0) 0 [] := by
  have h := World.ownsRow_lit (base := D) (e := e) W #[] 0 (size := k) hD (by unfold maxLen; omega) (by simp)
  simpa using h
/-- An owned row, read; where its memory lies. -/
theorem SL.of_own {w : World} {D e size n : Nat} {v : Value} {rows : List (List Value)} (h : w.ownsRow D e size v n rows.flatten) (hw : ∀ r ∈ rows, r.length = size) (hn : rows.length = n) :
    ∃ ao cap, v = .slice ao n cap ∧ SL w size ao cap rows ∧ (∀ a, ao = some a → D ≤ a.block) := by
  obtain ⟨ao, cap, hv, hs, hb⟩ := SL.of_owns h hw hn
  exact ⟨ao, cap, by rw [hv, hn], hs, fun a ha => ownsRow_blocks h _ (hb a ha)⟩
end
end Go.Sz
