/- Deliver: plain part. -/
import Derived.Test.YtdlahgmbilkdcaaNG
namespace Go.Sz
open Go.RowKit
def deliverN (n : Nw) (i : Int) : Pk × Nw × Int := if askN n i = 0 then (if hasL n.a (min (n.q.getD i.toNat ⟨0, 0, []⟩).f (n.q.getD i.toNat ⟨0, 0, []⟩).t) (max (n.q.getD i.toNat ⟨0, 0, []⟩).f (n.q.getD i.toNat ⟨0, 0, []⟩).t) = true then ⟨0, 0, []⟩ else n.q.getD i.toNat ⟨0, 0, []⟩, cutQ n i.toNat, 0) else (⟨0, 0, []⟩, ⟨[], []⟩, askN n i)
def RetD (r : Pk × Nw × Int) (w : World) (e : Ending) (w' : World) : Prop := ∃ cp cs : List Value, e = .returned (.tuple #[.agg cp.toArray, .agg cs.toArray, .int .i64 r.2.2]) ∧ RepP w' cp r.1 ∧ RepN w' cs r.2.1 ∧ Ext w w'
theorem Box2.far {w : World} {B : Nat} {k l : Value} (h : Box2 w B k l) {q : Addr} (u : Value) (hq : B ≠ q.block) : Box2 (w.setCell q u) B k l := h.keep (heap_setCell_far w q u B hq)
theorem Box3.far {w : World} {B : Nat} {k l m : Value} (h : Box3 w B k l m) {q : Addr} (u : Value) (hq : B ≠ q.block) : Box3 (w.setCell q u) B k l m := h.keep (heap_setCell_far w q u B hq)
theorem RepP.move {W W' : World} {cs : List Value} {p : Pk} (h : RepP W cs p) (hk : ∀ q (x : Int), W.cell? q = some (.int .u8 x) → W'.cell? q = some (.int .u8 x)) : RepP W' cs p := by
  obtain ⟨ao, cap, h1, h2, h3, hs⟩ := h
  refine ⟨ao, cap, h1, h2, h3, ⟨hs.le, hs.max, hs.nil, hs.wid, fun i j r v hr hv => ?_⟩⟩
  obtain ⟨b, o, e, hc⟩ := hs.cells i j r v hr hv
  refine ⟨b, o, e, ?_⟩
  simp only [br] at hr
  rw [List.getElem?_map] at hr
  obtain ⟨x, hx, hr⟩ := Option.map_eq_some_iff.1 hr
  subst hr
  have : v = .int .u8 x.toNat := by
    match j, hv with
    | 0, hv => simpa using hv.symm
    | j + 1, hv => simp at hv
  subst this
  exact hk _ _ hc
theorem RepP.set3 {W : World} {cs : List Value} {p : Pk} (h : RepP W cs p) {B : Nat} {x y : Int} {a : Option Addr} {k c : Nat} (hb : Box3 W B (.int .i64 x) (.int .i64 y) (.slice a k c)) (u0 u1 u2 : Value) :
    RepP (((W.setCell ⟨B, 0, none⟩ u0).setCell ⟨B, 1, none⟩ u1).setCell ⟨B, 2, none⟩ u2) cs p := by
  refine h.move fun q z hq => ?_
  have h0 : (⟨B, 0, none⟩ : Addr) ≠ q := fun e => by rw [← e, hb.c0] at hq; cases hq
  have h1 : (⟨B, 1, none⟩ : Addr) ≠ q := fun e => by rw [← e, hb.c1] at hq; cases hq
  have h2 : (⟨B, 2, none⟩ : Addr) ≠ q := fun e => by rw [← e, hb.c2] at hq; cases hq
  rw [World.cell?_setCell_other _ _ _ _ h2, World.cell?_setCell_other _ _ _ _ h1, World.cell?_setCell_other _ _ _ _ h0]
  exact hq
theorem RepP.set2 {W : World} {cs : List Value} {p : Pk} (h : RepP W cs p) {B : Nat} {a a' : Option Addr} {k c k' c' : Nat} (hb : Box2 W B (.slice a k c) (.slice a' k' c')) (u0 u1 : Value) :
    RepP ((W.setCell ⟨B, 0, none⟩ u0).setCell ⟨B, 1, none⟩ u1) cs p := by
  refine h.move fun q z hq => ?_
  have h0 : (⟨B, 0, none⟩ : Addr) ≠ q := fun e => by rw [← e, hb.c0] at hq; cases hq
  have h1 : (⟨B, 1, none⟩ : Addr) ≠ q := fun e => by rw [← e, hb.c1] at hq; cases hq
  rw [World.cell?_setCell_other _ _ _ _ h1, World.cell?_setCell_other _ _ _ _ h0]
  exact hq
/-- the same value again -/
theorem RepN.same {W : World} {cs : List Value} {n : Nw} (h : RepN W cs n) {q : Addr} {v : Value} (hq : W.cell? q = some v) : RepN (W.setCell q v) cs n := by
  refine h.move 0 0 (fun p u _ hp _ => ?_) (fun s _ _ _ hs => by omega) (fun s _ hs => by omega) (fun s _ hs => by omega)
  by_cases hpq : q = p
  · subst hpq
    rw [World.cell?_setCell_same' _ _ _ (by rw [hq]; rfl)]
    rw [hq] at hp
    exact hp
  · rw [World.cell?_setCell_other _ _ _ _ hpq]
    exact hp
theorem Box3.all {w : World} {B : Nat} {k l m : Value} (h : Box3 w B k l m) (u0 u1 u2 : Value) : Box3 (((w.setCell ⟨B, 0, none⟩ u0).setCell ⟨B, 1, none⟩ u1).setCell ⟨B, 2, none⟩ u2) B u0 u1 u2 := ((h.set0 u0).set1 u1).set2 u2
theorem RepN.same3 {W : World} {cs : List Value} {n : Nw} (h : RepN W cs n) {B : Nat} {k l m : Value} (hb : Box3 W B k l m) : RepN (((W.setCell ⟨B, 0, none⟩ k).setCell ⟨B, 1, none⟩ l).setCell ⟨B, 2, none⟩ m) cs n :=
  ((h.same hb.c0).same (hb.set0 k).c1).same ((hb.set0 k).set1 l).c2
end Go.Sz
