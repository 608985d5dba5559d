/- What a net reads is not turned by stores into a result's variable: by what the cells hold. -/
import Derived.Test.YtdlahgmbilkdcaaND
namespace Go.Sz
open Go.RowKit
/-- every cell that a net is read from -/
theorem RepN.move {W W' : World} {cs : List Value} {n : Nw} (h : RepN W cs n) (B lim : Nat)
    (hk : ∀ (p : Addr) v, p.spot = none → W.cell? p = some v → (p.block ≠ B ∨ lim ≤ p.off) → W'.cell? p = some v)
    (hq : ∀ (s : Nat) (x : Pk) ao c, s < lim → x ∈ n.q → W.cell? ⟨B, s, none⟩ = some (.int .i64 x.f) → W.cell? ⟨B, s + 1, none⟩ = some (.int .i64 x.t) → W.cell? ⟨B, s + 2, none⟩ = some (.slice ao x.d.length c) → False)
    (ha : ∀ (s : Nat) (x : Int × Int), s < lim → x ∈ n.a → W.cell? ⟨B, s, none⟩ = some (.int .i64 x.1) → W.cell? ⟨B, s + 1, none⟩ = some (.int .i64 x.2) → False)
    (hb : ∀ (s : Nat) (u : Int), s < lim → W.cell? ⟨B, s, none⟩ ≠ some (.int .u8 u)) : RepN W' cs n := by
  obtain ⟨ao, cap, bo, cap', rows, rfl, ⟨hs, hl, hel⟩, ⟨hsa, hra⟩⟩ := h
  refine ⟨ao, cap, bo, cap', rows, rfl, ⟨⟨hs.le, hs.max, hs.nil, hs.wid, fun i j r v hr hv => ?_⟩, hl, fun i r p hr hp => ?_⟩, ⟨⟨hsa.le, hsa.max, hsa.nil, hsa.wid, fun i j r v hr hv => ?_⟩, hra⟩⟩
  · obtain ⟨b, o, e, hc⟩ := hs.cells i j r v hr hv
    refine ⟨b, o, e, hk _ _ rfl hc ?_⟩
    by_cases hbB : b = B
    · refine .inr (Nat.le_of_not_lt fun hlt => ?_)
      subst hbB
      have hi : i < n.q.length := by have := (List.getElem?_eq_some_iff.1 hr).1; omega
      obtain ⟨ao', c', hrow, _⟩ := hel i r n.q[i] hr (List.getElem?_eq_getElem hi)
      subst hrow
      have c0 := hs.cells i 0 _ _ hr rfl
      have c1 := hs.cells i 1 _ _ hr rfl
      have c2 := hs.cells i 2 _ _ hr rfl
      rw [e] at c0 c1 c2
      obtain ⟨_, _, e0, c0⟩ := c0
      obtain ⟨_, _, e1, c1⟩ := c1
      obtain ⟨_, _, e2, c2⟩ := c2
      cases e0; cases e1; cases e2
      simp only at hlt
      exact hq (o + i * 3) n.q[i] _ _ (by omega) (List.getElem_mem hi) (by simpa using c0) (by simpa using c1) (by simpa using c2)
    · exact .inl hbB
  · obtain ⟨ao', c', hrow, h1, h2, hsd⟩ := hel i r p hr hp
    refine ⟨ao', c', hrow, h1, h2, ⟨hsd.le, hsd.max, hsd.nil, hsd.wid, fun i j r v hr hv => ?_⟩⟩
    obtain ⟨b, o, e, hc⟩ := hsd.cells i j r v hr hv
    refine ⟨b, o, e, hk _ _ rfl hc ?_⟩
    by_cases hbB : b = B
    · refine .inr (Nat.le_of_not_lt fun hlt => ?_)
      subst hbB
      simp only [br] at hr
      rw [List.getElem?_map] at hr
      obtain ⟨u, hu, hr⟩ := Option.map_eq_some_iff.1 hr
      subst hr
      have : v = .int .u8 u.toNat := by
        match j, hv with
        | 0, hv => simpa using hv.symm
        | j + 1, hv => simp at hv
      rw [this] at hc
      exact hb _ _ hlt hc
    · exact .inl hbB
  · obtain ⟨b, o, e, hc⟩ := hsa.cells i j r v hr hv
    refine ⟨b, o, e, hk _ _ rfl hc ?_⟩
    by_cases hbB : b = B
    · refine .inr (Nat.le_of_not_lt fun hlt => ?_)
      subst hbB
      have hi : i < n.a.length := by have := (List.getElem?_eq_some_iff.1 hr).1; rw [pr_length] at this; exact this
      have hrow : r = [.int .i64 n.a[i].1, .int .i64 n.a[i].2] := by
        simp only [pr] at hr
        rw [List.getElem?_map, List.getElem?_eq_getElem hi] at hr
        simpa using hr.symm
      subst hrow
      have c0 := hsa.cells i 0 _ _ hr rfl
      have c1 := hsa.cells i 1 _ _ hr rfl
      rw [e] at c0 c1
      obtain ⟨_, _, e0, c0⟩ := c0
      obtain ⟨_, _, e1, c1⟩ := c1
      cases e0; cases e1
      simp only at hlt
      exact ha (o + i * 2) n.a[i] (by omega) (List.getElem_mem hi) (by simpa using c0) (by simpa using c1)
    · exact .inl hbB

theorem cell_set2 {W : World} {B : Nat} {u0 u1 : Value} (p : Addr) (v : Value) (hsp : p.spot = none) (h : W.cell? p = some v) (hp : p.block ≠ B ∨ 2 ≤ p.off) : ((W.setCell ⟨B, 0, none⟩ u0).setCell ⟨B, 1, none⟩ u1).cell? p = some v := by
  obtain ⟨b, o, sp⟩ := p
  simp only at hsp hp
  subst hsp
  rw [World.cell?_setCell_other _ _ _ _ (by simp; omega), World.cell?_setCell_other _ _ _ _ (by simp; omega)]
  exact h
theorem cell_set3 {W : World} {B : Nat} {u0 u1 u2 : Value} (p : Addr) (v : Value) (hsp : p.spot = none) (h : W.cell? p = some v) (hp : p.block ≠ B ∨ 3 ≤ p.off) : (((W.setCell ⟨B, 0, none⟩ u0).setCell ⟨B, 1, none⟩ u1).setCell ⟨B, 2, none⟩ u2).cell? p = some v := by
  obtain ⟨b, o, sp⟩ := p
  simp only at hsp hp
  subst hsp
  rw [World.cell?_setCell_other _ _ _ _ (by simp; omega), World.cell?_setCell_other _ _ _ _ (by simp; omega), World.cell?_setCell_other _ _ _ _ (by simp; omega)]
  exact h

/-- a store into a variable that holds two slices -/
theorem RepN.setN {W : World} {cs : List Value} {n : Nw} (h : RepN W cs n) {B : Nat} {x0 x1 : Option Addr} {k0 k1 c0 c1 : Nat} (hb : Box2 W B (.slice x0 k0 c0) (.slice x1 k1 c1)) (u0 u1 : Value) :
    RepN ((W.setCell ⟨B, 0, none⟩ u0).setCell ⟨B, 1, none⟩ u1) cs n := by
  refine h.move B 2 (fun p v hs hc hp => cell_set2 p v hs hc hp) (fun s x ao c hs _ g0 _ _ => ?_) (fun s x hs _ g0 _ => ?_) (fun s u hs g0 => ?_)
  all_goals
    match s, hs with
    | 0, _ => rw [hb.c0] at g0; cases g0
    | 1, _ => rw [hb.c1] at g0; cases g0

theorem okN_q {n : Nw} (h : okN n = true) : ∀ x ∈ n.q, x.f ≠ x.t := by
  simp only [okN, Bool.and_eq_true, List.all_eq_true] at h
  intro x hx
  have := h.1.2 x hx
  rw [okP_ref] at this
  simp only [Bool.and_eq_true, bne_iff_ne] at this
  exact this.1.2
theorem okN_a {n : Nw} (h : okN n = true) : ∀ x ∈ n.a, x.1 ≠ x.2 := by
  simp only [okN, Bool.and_eq_true, okA, List.all_eq_true, List.mem_range] at h
  intro x hx
  obtain ⟨i, hi, rfl⟩ := List.mem_iff_getElem.1 hx
  have := h.2 i hi
  simp only [okAt, getD_lt hi, okL, Bool.and_eq_true, decide_eq_true_eq] at this
  omega
/-- a store into a variable that holds the zero packet -/
theorem RepN.setP {W : World} {cs : List Value} {n : Nw} (h : RepN W cs n) (hq : ∀ x ∈ n.q, x.f ≠ x.t) (ha : ∀ x ∈ n.a, x.1 ≠ x.2) {B : Nat} (hb : Box3 W B (.int .i64 0) (.int .i64 0) (.slice none 0 0)) (u0 u1 u2 : Value) :
    RepN (((W.setCell ⟨B, 0, none⟩ u0).setCell ⟨B, 1, none⟩ u1).setCell ⟨B, 2, none⟩ u2) cs n := by
  refine h.move B 3 (fun p v hs hc hp => cell_set3 p v hs hc hp) (fun s x ao c hs hx g0 g1 g2 => ?_) (fun s x hs hx g0 g1 => ?_) (fun s u hs g0 => ?_)
  · match s, hs with
    | 0, _ =>
      rw [hb.c0] at g0; rw [hb.c1] at g1
      simp at g0 g1
      exact hq x hx (by omega)
    | 1, _ => rw [hb.c2] at g1; cases g1
    | 2, _ => rw [hb.c2] at g0; cases g0
  · match s, hs with
    | 0, _ =>
      rw [hb.c0] at g0; rw [hb.c1] at g1
      simp at g0 g1
      exact ha x hx (by omega)
    | 1, _ => rw [hb.c2] at g1; cases g1
    | 2, _ => rw [hb.c2] at g0; cases g0
  · match s, hs with
    | 0, _ => rw [hb.c0] at g0; cases g0
    | 1, _ => rw [hb.c1] at g0; cases g0
    | 2, _ => rw [hb.c2] at g0; cases g0
/-- what a packet reads is bytes -/
theorem RepP.set {W : World} {cs : List Value} {p : Pk} (h : RepP W cs p) {q : Addr} (u : Value) (hq : ∀ x : Int, W.cell? q ≠ some (.int .u8 x)) : RepP (W.setCell q u) cs p := by
  obtain ⟨ao, cap, h1, h2, h3, hs⟩ := h
  refine ⟨ao, cap, h1, h2, h3, ⟨hs.le, hs.max, hs.nil, hs.wid, fun i j r v hr hv => ?_⟩⟩
  obtain ⟨b, o, e, hc⟩ := hs.cells i j r v hr hv
  refine ⟨b, o, e, ?_⟩
  simp only [br] at hr
  rw [List.getElem?_map] at hr
  obtain ⟨x, hx, hr⟩ := Option.map_eq_some_iff.1 hr
  subst hr
  have : v = .int .u8 x.toNat := by
    match j, hv with
    | 0, hv => simpa using hv.symm
    | j + 1, hv => simp at hv
  subst this
  rw [World.cell?_setCell_other _ _ _ _ (fun e => hq _ (by rw [e]; exact hc))]
  exact hc
end Go.Sz
