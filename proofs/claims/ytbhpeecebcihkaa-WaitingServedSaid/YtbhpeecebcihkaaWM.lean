/- Waiting: a set of places (a student and a bundle), kept in a map. -/
import Derived.Test.YtbhpeecebcihkaaW4
import Derived.DeepKeys4
import Derived.Maps.OwnSet
namespace Go.Sz
open Go.RowKit
abbrev Pl := Int × Int × Int
def plOf (o : Wt) : Pl := (o.s, o.a, o.b)
def okPl (p : Pl) : Prop := inI64 p.1 ∧ inI64 p.2.1 ∧ inI64 p.2.2
theorem okPl_of {o : Wt} (h : okW o = true) : okPl (plOf o) := by
  unfold okW okB withinB at h
  simp only [Bool.and_eq_true, decide_eq_true_eq] at h
  unfold okPl plOf inI64
  dsimp only
  omega
def plV (p : Pl) : Value := .agg #[.int .i64 p.1, .int .i64 p.2.1, .int .i64 p.2.2]
theorem plV_inj {p q : Pl} (h : plV p = plV q) : p = q := by
  obtain ⟨a, b, c⟩ := p
  obtain ⟨d, e, f⟩ := q
  simp [plV] at h
  simp [h]
theorem ext_grown {w W W' : World} {B : Nat} (h : Ext w W) (hB : w.heap.size ≤ B) (hg : W.grownBy W' (some B)) : Ext w W' :=
  Below.grown h hg h.size (fun x hx => by cases hx; exact hB)
end Go.Sz
namespace Go.Proofs.Ytbhpeecebcihkaa
open Go.RowKit Go.Sz
open Go.Maps (Keyed setOf setOf_snoc has_setOf)
theorem placeWide : (match Try.prog.underlying 58 with | some (.array _ _) | some (.struct _) => true | _ => false) = true := by kernel_rfl
theorem placeLaw : Keyed Try.prog 58 := Keyed.of_law (deep_law_laid (by kernel_rfl) (m := 3) (by omega) (of_decide_eq_true (by kernel_rfl)) (by kernel_rfl) placeWide)
theorem place_wf {n : Int} (h : inI64 n) : (Lit.int .i64 n).wf = true := by
  obtain ⟨h1, h2⟩ := h
  exact WalkArith.wf_i64 (by omega)
theorem key_some {p : Pl} (h : okPl p) : ∃ l, keyOf Try.prog 58 (plV p) = some l := by
  obtain ⟨h1, h2, h3⟩ := h
  have k1 := place_wf h1
  have k2 := place_wf h2
  have k3 := place_wf h3
  have hf : (plV p).formed Try.prog 58 = true := by
    have : Try.prog.cellsOf 58 = 3 := by kernel_rfl
    simp [plV, Value.formed, Try.underlying58, this]
  have ht : Try.prog.keyType 58 = true := by kernel_rfl
  obtain ⟨n, hn⟩ : ∃ n, Try.prog.types.size + 1 = n + 3 := ⟨Try.prog.types.size - 2, by
    have : 2 ≤ Try.prog.types.size := of_decide_eq_true (by kernel_rfl)
    omega⟩
  have c1 : Try.prog.cellsOf 58 = 3 := by kernel_rfl
  have c2 : Try.prog.cellsOf 24 = 2 := by kernel_rfl
  have c3 : Try.prog.cellsOf 3 = 1 := by kernel_rfl
  unfold keyOf
  rw [ht, hf, hn, Try.underlying58]
  simp [plV, Value.cells, Program.keyLits, Try.underlying58, Try.underlying24, Try.underlying3, c1, c2, c3, k1, k2, k3]
  rw [if_pos (by intro i hi; match i, hi with | 0, _ => intro h; simp at h | 1, _ => intro h; simp at h)]
  exact ⟨_, rfl⟩
noncomputable def plL (p : Pl) : Lit := (keyOf Try.prog 58 (plV p)).getD (.bool false)
theorem plL_key {p : Pl} (h : okPl p) : keyOf Try.prog 58 (plV p) = some (plL p) := by
  obtain ⟨l, hl⟩ := key_some h
  unfold plL
  rw [hl]
  rfl
theorem plL_inj {p q : Pl} (h : okPl p) (k : okPl q) (he : plL p = plL q) : p = q := plV_inj (placeLaw.inj (plL_key h) (he ▸ plL_key k))
/-- block B is a map that holds true at just the places ks -/
def MetW (w : World) (B n : Nat) (ks : List Pl) : Prop := w.ownsMap (H := Unit) Try.prog 58 (plainElem Try.prog 4) B n (setOf (.lit (.bool true)) (ks.map plL)) ∧ ∀ p ∈ ks, okPl p
theorem MetW.made (w : World) : MetW (w.alloc (.map #[] 0)) w.heap.size 0 [] := ⟨World.ownsMap_made _ _ _ _, by simp⟩
theorem MetW.ext {w W : World} {B n : Nat} {ks : List Pl} (h : MetW w B n ks) (hE : Ext w W) : MetW W B n ks := by
  obtain ⟨⟨es, clock, hb, r⟩, h2⟩ := h
  exact ⟨⟨es, clock, by rw [hE.block B (Array.getElem?_eq_some_iff.1 hb).1]; exact hb, r⟩, h2⟩
theorem MetW.lt {w : World} {B n : Nat} {ks : List Pl} (h : MetW w B n ks) : B < w.heap.size := h.1.lt
theorem zeroB (w : World) : (zeroValue 4).run Try.prog w = .ok (.bool false) w := by kernel_rfl
theorem atKey_setOf (ks : List Pl) (h : ∀ p ∈ ks, okPl p) (p : Pl) (hp : okPl p) : ((setOf (.lit (.bool true)) (ks.map plL) : DataW Unit).atKey (plL p) (.lit (.bool false))) = .lit (.bool (ks.contains p)) := by
  obtain ⟨n, hn⟩ : ∃ n, ks.length = n := ⟨_, rfl⟩
  induction n generalizing ks with
  | zero => rw [List.length_eq_zero_iff.1 hn]; rfl
  | succ n ih =>
    obtain rfl | ⟨ks, q, rfl⟩ := List.eq_nil_or_concat ks
    · cases hn
    rw [List.concat_eq_append] at *
    have hks : ∀ p ∈ ks, okPl p := fun p hp => h p (by simp [hp])
    have hq := h q (by simp)
    have hm : Maps.IsMap (setOf (.lit (.bool true)) (ks.map plL) : DataW Unit) := (Maps.tidy_setOf _ _ (fun x hx => by
      obtain ⟨y, hy, rfl⟩ := List.mem_map.1 hx
      exact placeLaw.key (plL_key (hks y hy)))).isMap
    rw [List.map_append, List.map_singleton, setOf_snoc]
    by_cases e : p = q
    · subst e
      rw [Maps.atKey_put_same hm (placeLaw.key (plL_key hq))]
      simp
    · rw [Maps.atKey_put_other (fun he => e (plL_inj hp hq he)), ih ks hks (by simpa using hn)]
      simp [e]
theorem MetW.look {w : World} {B n : Nat} {ks : List Pl} (h : MetW w B n ks) {p : Pl} (hp : okPl p) : (Instr.lookup 56 (.map (some B)) (plV p) false).run Try.prog w = .ok (.bool (ks.contains p)) w := by
  obtain ⟨v, ps, hr, hv⟩ := h.1.lookup placeLaw Try.underlying56 (zeroB w) (plainElem_bool Try.underlying4 false) (plL_key hp)
  rw [atKey_setOf ks h.2 p hp] at hv
  rw [hr]
  unfold plainElem at hv
  rw [Try.underlying4] at hv
  cases v <;> simp at hv
  rw [hv.1]
  simp
theorem MetW.store {w : World} {B n : Nat} {ks : List Pl} (h : MetW w B n ks) {p : Pl} (hp : okPl p) (hn : n < maxLen) : ∃ w', (Instr.mapUpdate 56 (.map (some B)) (plV p) (.bool true)).run Try.prog w = .ok () w' ∧ MetW w' B (n + 1) (ks ++ [p]) ∧ w.grownBy w' (some B) := by
  obtain ⟨w', hr, ho, hg⟩ := h.1.update placeLaw Try.underlying56 hn (plL_key hp) (plainElem_bool Try.underlying4 true)
  refine ⟨w', hr, ⟨?_, ?_⟩, hg⟩
  · rw [List.map_append, List.map_singleton, setOf_snoc]
    exact ho
  · intro q hq
    rcases List.mem_append.1 hq with hq | hq
    · exact h.2 q hq
    · obtain rfl := List.mem_singleton.1 hq
      exact hp
end Go.Proofs.Ytbhpeecebcihkaa
