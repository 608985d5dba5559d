/- Names: rule of the reference. -/
import Derived.Test.YtimigpfoflilcaaZF
import Derived.Test.YtimigpfoflilcaaYL
namespace Go.Sz
open Go.RowKit
def Rt.numT (l : List Cr) (r : Rt) : Int × Bool := if r.op == 5 || r.op == 6 || r.op == 9 then ((numR l r.nm r.co).getD 0, (numR l r.nm r.co).isSome) else (r.co, true)
mutual
/-- the reference's rule: numbers where there are some -/
def Rt.resT (l : List Cr) : Rt → Rt × Bool
  | .mk op co nm n d kids => (.mk op ((Rt.mk op co nm n d []).numT l).1 nm n d (resTL l kids).1, ((Rt.mk op co nm n d []).numT l).2 && (resTL l kids).2)
def resTL (l : List Cr) : List Rt → List Rt × Bool
  | [] => ([], true)
  | k :: ks => ((k.resT l).1 :: (resTL l ks).1, (k.resT l).2 && (resTL l ks).2)
end
theorem resTL_eq (l : List Cr) (ks : List Rt) : resTL l ks = (ks.map fun k => (k.resT l).1, ks.all fun k => (k.resT l).2) := by
  induction ks with
  | nil => rw [resTL]; rfl
  | cons k ks ih => rw [resTL, ih]; rfl
theorem Rt.resT_eq (l : List Cr) (r : Rt) : r.resT l = (r.with (r.numT l).1 (r.kids.map fun k => (k.resT l).1), (r.numT l).2 && r.kids.all fun k => (k.resT l).2) := by
  cases r
  rw [Rt.resT, resTL_eq]
  rfl
theorem Rt.numT_some {l : List Cr} {r : Rt} {c : Int} (h : r.num l = some c) : r.numT l = (c, true) := by
  unfold Rt.num at h
  unfold Rt.numT
  split at h
  · rw [if_pos (by assumption), h]; rfl
  · rw [if_neg (by assumption)]; cases h; rfl
theorem Rt.numT_none {l : List Cr} {r : Rt} (h : r.num l = none) : (r.numT l).2 = false := by
  unfold Rt.num at h
  unfold Rt.numT
  split at h
  · rw [if_pos (by assumption), h]; rfl
  · cases h
mutual
theorem Rt.resT_spec (l : List Cr) : ∀ r : Rt, (∀ x, r.res l = some x → r.resT l = (x, true)) ∧ (r.res l = none → (r.resT l).2 = false)
  | .mk op co nm n d kids => by
    have ih := resTL_spec l kids
    constructor
    · intro x hx
      rw [Rt.res] at hx
      rw [Rt.resT]
      cases e : (Rt.mk op co nm n d []).num l with
      | none => rw [e] at hx; cases hx
      | some c =>
        rw [e] at hx
        cases e2 : resL l kids with
        | none => rw [e2] at hx; cases hx
        | some ks => rw [e2] at hx; cases hx; rw [Rt.numT_some e, ih.1 ks e2]; rfl
    · intro hx
      rw [Rt.res] at hx
      rw [Rt.resT]
      cases e : (Rt.mk op co nm n d []).num l with
      | none => simp only [Rt.numT_none e, Bool.false_and]
      | some c =>
        rw [e] at hx
        cases e2 : resL l kids with
        | none => simp only [ih.2 e2, Bool.and_false]
        | some ks => rw [e2] at hx; cases hx
theorem resTL_spec (l : List Cr) : ∀ ks : List Rt, (∀ xs, resL l ks = some xs → resTL l ks = (xs, true)) ∧ (resL l ks = none → (resTL l ks).2 = false)
  | [] => ⟨fun xs h => by rw [resL] at h; cases h; rw [resTL], fun h => by rw [resL] at h; cases h⟩
  | k :: ks => by
    have ih1 := Rt.resT_spec l k
    have ih2 := resTL_spec l ks
    constructor
    · intro x hx
      rw [resL] at hx
      rw [resTL]
      cases e : k.res l with
      | none => rw [e] at hx; cases hx
      | some c =>
        rw [e] at hx
        cases e2 : resL l ks with
        | none => rw [e2] at hx; cases hx
        | some ks' => rw [e2] at hx; cases hx; rw [ih1.1 c e, ih2.1 ks' e2]; rfl
    · intro hx
      rw [resL] at hx
      rw [resTL]
      cases e : k.res l with
      | none => simp only [ih1.2 e, Bool.false_and]
      | some c =>
        rw [e] at hx
        cases e2 : resL l ks with
        | none => simp only [ih2.2 e2, Bool.and_false]
        | some ks' => rw [e2] at hx; cases hx
end
theorem numT_ok {l : List Cr} {r : Rt} {c : Int} {b : Bool} (h : r.numT l = (c, b)) (ho : r.ok) (hl : ∀ c ∈ l, c.ok) : inI64 c := by
  unfold Rt.numT at h
  split at h
  · cases e : numR l r.nm r.co with
    | none => rw [e] at h; cases h; exact ⟨by decide, by decide⟩
    | some x => rw [e] at h; cases h; exact numR_ok e ho.2.1 hl
  · cases h; exact ho.2.1
theorem RepN.far {N : Nat} {W : World} {r : Rt} {c : List Value} {b : Option Nat} (h : RepN N W r c) (hb : ∀ k, b = some k → k < N) : Far b W fun V => RepN N V r c := fun W' _ h2 =>
  h.keep fun k o hN hk _ => (h2 k (Array.getElem?_eq_some_iff.1 hk).1 (fun e => by have := hb k e.symm; omega)).trans hk
theorem all_snoc {α : Type} {f : α → Bool} {l : List α} {m : Nat} {x : α} (h : l[m]? = some x) : (l.take (m + 1)).all f = ((l.take m).all f && f x) := by
  rw [List.take_add_one, h, List.all_append]
  simp
theorem Rt.ones (r : Rt) (a : Option Addr) (n : Nat) : ∀ u ∈ r.cells a n, u.oneCell' = true := by
  intro u hu
  simp only [Rt.cells, List.mem_cons, List.not_mem_nil, or_false] at hu
  rcases hu with rfl | rfl | rfl | rfl | rfl | rfl <;> rfl
theorem RuleV.grows {A B : World} {b : Nat} {t1 t2 : TypeId} {cat rc zr : List Value} {v v' : Value} (h : RuleV A b t1 t2 cat rc zr) (hg : Grows A v B v') (hv : ∀ k, v.ownBlock = some k → b + 2 < k) : RuleV B b t1 t2 cat rc zr := by
  have hr : ∀ (c : Nat) (t : TypeId) (cs : List Value), c ≤ b + 2 → Row A c t cs → Row B c t cs := fun c t cs hc h1 => (hg.by_.block c (Array.getElem?_eq_some_iff.1 h1).1 (fun e => by have := hv c e.symm; omega)).trans h1
  exact ⟨hr _ _ _ (by omega) h.1, hr _ _ _ (by omega) h.2.1, hr _ _ _ (by omega) h.2.2⟩
theorem kpE_set5 (W : World) (B o : Nat) (x : Value) : KpE B W (W.setCell ⟨B, o, none⟩ x) := ⟨by simp, fun b o' hb h1 _ => (heap_setCell_far _ _ _ _ hb).trans h1⟩
theorem getElem?_map_some' {α β : Type} {f : α → β} {l : List α} {i : Nat} {y : β} (h : (l.map f)[i]? = some y) : ∃ x, l[i]? = some x ∧ f x = y := by
  rw [List.getElem?_map] at h
  exact Option.map_eq_some_iff.1 h
theorem rows_snoc {α β : Type} {P : α → β → Prop} {l : List α} {rows : List β} {m : Nat} {x : α} {q : β} (hx : l[m]? = some x) (hl : rows.length = m) (h : ∀ (i : Nat) a b, (l.take m)[i]? = some a → rows[i]? = some b → P a b) (hq : P x q) :
    ∀ (i : Nat) a b, (l.take (m + 1))[i]? = some a → (rows ++ [q])[i]? = some b → P a b := fun i a b h1 h2 => by
  by_cases hi : i < m
  · rw [List.getElem?_append_left (by omega)] at h2
    refine h i a b ?_ h2
    rw [List.getElem?_take] at h1 ⊢
    rw [if_pos (by omega)] at h1
    rw [if_pos hi]
    exact h1
  · rw [List.getElem?_append_right (by omega)] at h2
    have hi0 : i - rows.length = 0 := by
      have := (List.getElem?_eq_some_iff.1 h2).1
      rw [List.length_singleton] at this
      omega
    rw [hi0] at h2
    cases h2
    obtain rfl : i = m := by omega
    rw [List.getElem?_take, if_pos (by omega), hx] at h1
    cases h1
    exact hq
end Go.Sz
namespace Go.Proofs.Ytimigpfoflilcaa
open Go.RowKit Go.Sz
/-- a rule with numbers, and whether it has them all -/
def RetRT (x : Rt × Bool) (w : World) : Ending → World → Prop := fun e w' => ∃ a n, e = .returned (.tuple #[.agg (x.1.cells a n).toArray, .bool x.2]) ∧ RepN w.heap.size w' x.1 (x.1.cells a n) ∧ Ext w w'
set_option maxRecDepth 100000 in
set_option maxHeartbeats 6400000 in
theorem refRule_any {l : List Cr} {w0 : World} {r : Rt} {c : List Value} (h : RepU w0 r c) : ∀ (ao : Option Addr) (cap : Nat) (v1 v2 v3 v4 v5 v6 : Value) (w : World), Ext w0 w → RepC w ao cap l → r.parts.length ≤ 1048576 →
    Calls Try.prog 51 #[.agg #[.slice ao l.length cap, v1, v2, v3, v4, v5, v6], .agg c.toArray] w (RetRT (r.resT l) w) := by
  obtain ⟨ir, hi0, hi1, hi2, hi3⟩ := info_parts infoR
  induction h with
  | mk r ka kc krows hs hl hk ho ih =>
    intro ao cap v1 v2 v3 v4 v5 v6 w hw hR hb
    have HII := Lib.hid (And.intro hi0 (And.intro hi1 (And.intro hi2 hi3)))
    have hX : Ext w (((w.alloc (.cells #[.slice ao l.length cap, v1, v2, v3, v4, v5, v6] 29)).alloc (.cells #[.int .i64 r.op, .int .i64 r.co, .string r.nm, .int .i64 r.n, .int .i64 r.d, .slice ka r.kids.length kc] 39)).alloc (.cells #[.int .i64 0, .int .i64 0, .string ⟨#[]⟩, .int .i64 0, .int .i64 0, .slice none 0 0] 39)) := (((Ext.refl w).alloc _).alloc _).alloc _
    have hV : RuleV (((w.alloc (.cells #[.slice ao l.length cap, v1, v2, v3, v4, v5, v6] 29)).alloc (.cells #[.int .i64 r.op, .int .i64 r.co, .string r.nm, .int .i64 r.n, .int .i64 r.d, .slice ka r.kids.length kc] 39)).alloc (.cells #[.int .i64 0, .int .i64 0, .string ⟨#[]⟩, .int .i64 0, .int .i64 0, .slice none 0 0] 39)) w.heap.size 29 39 [.slice ao l.length cap, v1, v2, v3, v4, v5, v6] [.int .i64 r.op, .int .i64 r.co, .string r.nm, .int .i64 r.n, .int .i64 r.d, .slice ka r.kids.length kc] [.int .i64 0, .int .i64 0, .string ⟨#[]⟩, .int .i64 0, .int .i64 0, .slice none 0 0] := by
      refine ⟨?_, ?_, ?_⟩
      all_goals
        unfold Row
        simp only [heap_al, World.size_alloc]
        all_goals (repeat rw [if_neg (by omega)])
        all_goals rfl
    have HV := Lib.hid hV
    have HX := Lib.hid hX
    have HW := Lib.hid hw
    have HR := Lib.hid hR
    have HB := Lib.hid hb
    have HIH := Lib.hid ih
    have HK := Lib.hid hk
    have HS := Lib.hid hs
    have HL := Lib.hid hl
    have HOK := Lib.hid ho
    have HNA := Lib.hid (refNumber_any l r.nm r.co ao cap v1 v2 v3 v4 v5 v6 (((w.alloc (.cells #[.slice ao l.length cap, v1, v2, v3, v4, v5, v6] 29)).alloc (.cells #[.int .i64 r.op, .int .i64 r.co, .string r.nm, .int .i64 r.n, .int .i64 r.d, .slice ka r.kids.length kc] 39)).alloc (.cells #[.int .i64 0, .int .i64 0, .string ⟨#[]⟩, .int .i64 0, .int .i64 0, .slice none 0 0] 39)) (hR.ext hX))
    have x0 : (((w.alloc (.cells #[.slice ao l.length cap, v1, v2, v3, v4, v5, v6] 29)).alloc (.cells #[.int .i64 r.op, .int .i64 r.co, .string r.nm, .int .i64 r.n, .int .i64 r.d, .slice ka r.kids.length kc] 39)).alloc (.cells #[.int .i64 0, .int .i64 0, .string ⟨#[]⟩, .int .i64 0, .int .i64 0, .slice none 0 0] 39)).cell? ⟨w.heap.size + 1, 0, none⟩ = some (.int .i64 r.op) := hV.2.1.cell rfl
    have x1 : (((w.alloc (.cells #[.slice ao l.length cap, v1, v2, v3, v4, v5, v6] 29)).alloc (.cells #[.int .i64 r.op, .int .i64 r.co, .string r.nm, .int .i64 r.n, .int .i64 r.d, .slice ka r.kids.length kc] 39)).alloc (.cells #[.int .i64 0, .int .i64 0, .string ⟨#[]⟩, .int .i64 0, .int .i64 0, .slice none 0 0] 39)).cell? ⟨w.heap.size + 1, 1, none⟩ = some (.int .i64 r.co) := hV.2.1.cell rfl
    have x2 : (((w.alloc (.cells #[.slice ao l.length cap, v1, v2, v3, v4, v5, v6] 29)).alloc (.cells #[.int .i64 r.op, .int .i64 r.co, .string r.nm, .int .i64 r.n, .int .i64 r.d, .slice ka r.kids.length kc] 39)).alloc (.cells #[.int .i64 0, .int .i64 0, .string ⟨#[]⟩, .int .i64 0, .int .i64 0, .slice none 0 0] 39)).cell? ⟨w.heap.size + 1, 2, none⟩ = some (.string r.nm) := hV.2.1.cell rfl
    have hks : (r.kids.length : Int) ≤ 9223372036854775807 := by have := hs.max; have := hs.le; rw [hl] at this; omega
    have HSW3 : Hid (w.heap.size + 3 ≤ (((w.alloc (.cells #[.slice ao l.length cap, v1, v2, v3, v4, v5, v6] 29)).alloc (.cells #[.int .i64 r.op, .int .i64 r.co, .string r.nm, .int .i64 r.n, .int .i64 r.d, .slice ka r.kids.length kc] 39)).alloc (.cells #[.int .i64 0, .int .i64 0, .string ⟨#[]⟩, .int .i64 0, .int .i64 0, .slice none 0 0] 39)).heap.size) := Lib.hid (by simp)
    clear hX hV hw hR hb ih hk hs hl ho hi0 hi1 hi2 hi3
    unfold Rt.cells
    cases hop : (r.op == 5 || r.op == 6 || r.op == 9) with
    | true =>
      have HN0 : Hid (r.numT l = ((numR l r.nm r.co).getD 0, (numR l r.nm r.co).isSome)) := Lib.hid (by unfold Rt.numT; rw [if_pos hop])
      have HM := Lib.hid (mentions_any r.op)
      rw [hop] at HM
      clear hop
      go_enter Try.func51, Try.ntmps51
      go_wp2_with (go_at_call 81; refine (HM.out _).mono ?_; rintro e wm ⟨rfl, rfl⟩)
      refine HNA.out.mono ?_
      rintro e w2 ⟨rfl, hE2⟩
      obtain ⟨c0, hc0⟩ : ∃ c0, (numR l r.nm r.co).getD 0 = c0 := ⟨_, rfl⟩
      obtain ⟨b0, hb0⟩ : ∃ b0, (numR l r.nm r.co).isSome = b0 := ⟨_, rfl⟩
      rw [hc0, hb0] at HN0
      rw [hc0, hb0]
      have HN : Hid (r.numT l = (c0, b0)) := HN0
      clear hc0 hb0
      have hv2 := HV.out.kpC hE2.kpC
      have y1 := hv2.2.1.cell (j := 1) rfl
      have z1 := hv2.2.1.froz 1
      have HV5 : Hid (RuleV (w2.setCell ⟨w.heap.size + 1, 1, none⟩ (.int .i64 c0)) w.heap.size 29 39 [.slice ao l.length cap, v1, v2, v3, v4, v5, v6] [.int .i64 r.op, .int .i64 c0, .string r.nm, .int .i64 r.n, .int .i64 r.d, .slice ka r.kids.length kc] [.int .i64 0, .int .i64 0, .string ⟨#[]⟩, .int .i64 0, .int .i64 0, .slice none 0 0]) := Lib.hid (hv2.put 1 (.int .i64 c0))
      have HE5 := Lib.hid ((HX.out.trans hE2).setCell (p := ⟨w.heap.size + 1, 1, none⟩) (by show w.heap.size ≤ w.heap.size + 1; omega) (.int .i64 c0))
      have HSW : Hid (w.heap.size + 3 ≤ (w2.setCell ⟨w.heap.size + 1, 1, none⟩ (.int .i64 c0)).heap.size) := Lib.hid (by have := HSW3.out; have := hE2.size; simp only [World.size_setCell]; omega)
      have y5 := HV5.out.2.1.cell (j := 5) rfl
      clear hv2 hE2 x0 x1 x2
      go_wp2_with fail
      clear y1 z1 y5 HV HX HNA HSW3
      have HO7 : Hid (((w2.setCell ⟨w.heap.size + 1, 1, none⟩ (.int .i64 c0)).alloc (.cells #[] 39)).ownsRow (w2.setCell ⟨w.heap.size + 1, 1, none⟩ (.int .i64 c0)).heap.size 39 6 (.slice (some ⟨w2.heap.size, 0, none⟩) 0 0) 0 []) := Lib.hid (by
        have h := own_empty (w2.setCell ⟨w.heap.size + 1, 1, none⟩ (.int .i64 c0)) (w2.setCell ⟨w.heap.size + 1, 1, none⟩ (.int .i64 c0)).heap.size (Nat.le_refl _) 39 6
        simp only [World.size_setCell] at h ⊢
        exact h)
      have HV7 := Lib.hid (HV5.out.kpC ((Ext.refl _).alloc (.cells #[] 39)).kpC)
      have HE7 := Lib.hid (HE5.out.alloc (.cells #[] 39))
      generalize w2.setCell ⟨w.heap.size + 1, 1, none⟩ (.int .i64 c0) = W5 at *
      have HW57 : Hid (Ext W5 (W5.alloc (.cells #[] 39))) := Lib.hid ((Ext.refl W5).alloc _)
      generalize (W5.alloc (.cells #[] 39)) = W7 at *
      go_loopw [6, 7, 8] (fun okv v iv wr => ∃ (m : Nat) (rows : List (List Value)) (b : Bool), okv = .bool b ∧ b = (b0 && (r.kids.take m).all fun k => (k.resT l).2) ∧ iv = .int .i64 m ∧ m ≤ r.kids.length ∧ RuleV wr w.heap.size 29 39 [.slice ao l.length cap, v1, v2, v3, v4, v5, v6] [.int .i64 r.op, .int .i64 c0, .string r.nm, .int .i64 r.n, .int .i64 r.d, .slice ka r.kids.length kc] [.int .i64 0, .int .i64 0, .string ⟨#[]⟩, .int .i64 0, .int .i64 0, .slice none 0 0] ∧ wr.ownsRow W5.heap.size 39 6 v m rows.flatten ∧ rows.length = m ∧ (∀ (i : Nat) (x : Rt) (q : List Value), (r.kids.take m)[i]? = some x → rows[i]? = some q → Far v.ownBlock wr fun V => RepN W5.heap.size V (x.resT l).1 q) ∧ Ext w wr ∧ W5.heap.size ≤ wr.heap.size) (fun _ _ iv _ => r.kids.length - (intOf iv).toNat)
      case atStart => exact ⟨0, [], b0, rfl, by simp, rfl, by omega, HV7.out, by simpa using HO7.out, rfl, fun i x q h => by simp at h, HE7.out, HW57.out.size⟩
      case round =>
        obtain ⟨m, rows, bk, rfl, hbk, rfl, hm, hV, hO, hrl, hrep, hE, hS⟩ := hrel
        have HBK := Lib.hid hbk
        have HV8 := Lib.hid hV
        have HO8 := Lib.hid hO
        have HRL := Lib.hid hrl
        have HRP := Lib.hid hrep
        have HE8 := Lib.hid hE
        have HS8 := Lib.hid hS
        have c5 := hV.2.1.cell (j := 5) rfl
        clear hbk hV hO hrl hrep hE hS
        by_cases hlt : m < r.kids.length
        · have hki : (m : Int) < (r.kids.length : Int) := by omega
          have HKL : Hid (m + 1 ≤ 1048576) := Lib.hid (by have := kids_len r; have := HB.out; omega)
          obtain ⟨k, hk⟩ : ∃ k, r.kids[m]? = some k := ⟨_, List.getElem?_eq_getElem hlt⟩
          obtain ⟨cc, hcc⟩ : ∃ cc, krows[m]? = some cc := ⟨_, List.getElem?_eq_getElem (by rw [HL.out]; exact hlt)⟩
          obtain ⟨qa, qc, rfl, -, -⟩ := (HK.out m k cc hk hcc).out
          have hsw := HS.out.ext (HW.out.trans HE8.out)
          obtain ⟨B, q, rfl, -⟩ := hsw.cells m 0 _ _ hcc rfl
          have hcellsAt : ∀ (j : Nat) (v : Value), (k.cells qa qc)[j]? = some v → wr.cell? ⟨B, q + m * 6 + j, none⟩ = some v := fun j v hj => by
            obtain ⟨b', o', e2, hw2⟩ := hsw.cells m j _ _ hcc hj
            cases e2
            exact hw2
          have HD : Hid (wr.cell? ⟨B, q + m * 6, none⟩ = some (.int .i64 k.op) ∧ wr.cell? ⟨B, q + m * 6 + 1, none⟩ = some (.int .i64 k.co) ∧ wr.cell? ⟨B, q + m * 6 + 2, none⟩ = some (.string k.nm) ∧ wr.cell? ⟨B, q + m * 6 + 3, none⟩ = some (.int .i64 k.n) ∧ wr.cell? ⟨B, q + m * 6 + 4, none⟩ = some (.int .i64 k.d) ∧ wr.cell? ⟨B, q + m * 6 + 5, none⟩ = some (.slice qa k.kids.length qc)) := Lib.hid ⟨hcellsAt 0 _ rfl, hcellsAt 1 _ rfl, hcellsAt 2 _ rfl, hcellsAt 3 _ rfl, hcellsAt 4 _ rfl, hcellsAt 5 _ rfl⟩
          have HKI := Lib.hid (HIH.out m k _ hk hcc)
          have HKB := Lib.hid (Nat.le_trans (kid_parts (List.mem_of_getElem? hk)) HB.out)
          have HTS := Lib.hid (all_snoc (f := fun k : Rt => (k.resT l).2) hk)
          have HKM := Lib.hid hk
          clear hk hcc hsw hcellsAt
          go_wp2_with fail
          have HCELL : Hid (∀ W, (RuleV W w.heap.size 29 39 [.slice ao l.length cap, v1, v2, v3, v4, v5, v6] [.int .i64 r.op, .int .i64 c0, .string r.nm, .int .i64 r.n, .int .i64 r.d, .slice (some ⟨B, q, none⟩) r.kids.length kc] [.int .i64 0, .int .i64 0, .string ⟨#[]⟩, .int .i64 0, .int .i64 0, .slice none 0 0] ∧ Ext wr W) → W.cell? ⟨w.heap.size, 0, none⟩ = some (.slice ao l.length cap) ∧ W.cell? ⟨w.heap.size, 1, none⟩ = some v1 ∧ W.cell? ⟨w.heap.size, 2, none⟩ = some v2 ∧ W.cell? ⟨w.heap.size, 3, none⟩ = some v3 ∧ W.cell? ⟨w.heap.size, 4, none⟩ = some v4 ∧ W.cell? ⟨w.heap.size, 5, none⟩ = some v5 ∧ W.cell? ⟨w.heap.size, 6, none⟩ = some v6 ∧ W.cell? ⟨w.heap.size + 1, 5, none⟩ = some (.slice (some ⟨B, q, none⟩) r.kids.length kc) ∧ W.cell? ⟨B, q + m * 6, none⟩ = some (.int .i64 k.op) ∧ W.cell? ⟨B, q + m * 6 + 1, none⟩ = some (.int .i64 k.co) ∧ W.cell? ⟨B, q + m * 6 + 2, none⟩ = some (.string k.nm) ∧ W.cell? ⟨B, q + m * 6 + 3, none⟩ = some (.int .i64 k.n) ∧ W.cell? ⟨B, q + m * 6 + 4, none⟩ = some (.int .i64 k.d) ∧ W.cell? ⟨B, q + m * 6 + 5, none⟩ = some (.slice qa k.kids.length qc)) := Lib.hid fun W h => ⟨h.1.1.cell rfl, h.1.1.cell rfl, h.1.1.cell rfl, h.1.1.cell rfl, h.1.1.cell rfl, h.1.1.cell rfl, h.1.1.cell rfl, h.1.2.1.cell rfl, h.2.cell HD.out.1, h.2.cell HD.out.2.1, h.2.cell HD.out.2.2.1, h.2.cell HD.out.2.2.2.1, h.2.cell HD.out.2.2.2.2.1, h.2.cell HD.out.2.2.2.2.2⟩
          refine wp_region_held_drew (S := fun W => RuleV W w.heap.size 29 39 [.slice ao l.length cap, v1, v2, v3, v4, v5, v6] [.int .i64 r.op, .int .i64 c0, .string r.nm, .int .i64 r.n, .int .i64 r.d, .slice (some ⟨B, q, none⟩) r.kids.length kc] [.int .i64 0, .int .i64 0, .string ⟨#[]⟩, .int .i64 0, .int .i64 0, .slice none 0 0] ∧ Ext wr W) (by kernel_rfl) ⟨HV8.out.kpC (Ext.refl _).drew.kpC, (Ext.refl _).drew⟩ (fun hHeld => ?_)
          refine wpAnyH_take (i := 0) (oi := ?oi92) (v := ?v92) ?hi92 (by kernel_rfl) (by kernel_rfl) (by kernel_rfl) ?hQ92 (Or.inl ⟨?hw92, ?hy92⟩) hHeld ?rest92
          case hi92 =>
            simp only [List.getElem?_toArray, List.getElem?_cons_zero] <;> rfl
          case hQ92 => exact fun _ _ _ h => h
          case hw92 => rfl
          case hy92 =>
            intro wS hSw
            obtain ⟨k0, k1, k2, k3, k4, k5, k6, y5, e0, e1, e2, e3, e4, e5⟩ := HCELL.out wS hSw
            go_simp
            first | done | with_reducible rfl | rfl
          simp only [Act.put, List.setIfInBounds_toArray, List.set_cons_zero, List.set_cons_succ]
          refine wpAnyH_take (i := 1) (oi := ?oi93) (v := ?v93) ?hi93 (by kernel_rfl) (by kernel_rfl) (by kernel_rfl) ?hQ93 (Or.inl ⟨?hw93, ?hy93⟩) hHeld ?rest93
          case hi93 =>
            simp only [List.getElem?_toArray, List.getElem?_cons_succ, List.getElem?_cons_zero] <;> rfl
          case hQ93 => exact fun _ _ _ h => h
          case hw93 => rfl
          case hy93 =>
            intro wS hSw
            obtain ⟨k0, k1, k2, k3, k4, k5, k6, y5, e0, e1, e2, e3, e4, e5⟩ := HCELL.out wS hSw
            go_simp
            first | done | with_reducible rfl | rfl
          simp only [Act.put, List.setIfInBounds_toArray, List.set_cons_zero, List.set_cons_succ]
          refine wpAnyH_take (i := 2) (oi := ?oi94) (v := ?v94) ?hi94 (by kernel_rfl) (by kernel_rfl) (by kernel_rfl) ?hQ94 (Or.inl ⟨?hw94, ?hy94⟩) hHeld ?rest94
          case hi94 =>
            simp only [List.getElem?_toArray, List.getElem?_cons_succ, List.getElem?_cons_zero] <;> rfl
          case hQ94 => exact fun _ _ _ h => h
          case hw94 => rfl
          case hy94 =>
            intro wS hSw
            obtain ⟨k0, k1, k2, k3, k4, k5, k6, y5, e0, e1, e2, e3, e4, e5⟩ := HCELL.out wS hSw
            go_simp
            first | done | with_reducible rfl | rfl
          simp only [Act.put, List.setIfInBounds_toArray, List.set_cons_zero, List.set_cons_succ]
          refine wpAnyH_take (i := 3) (oi := ?oi95) (v := ?v95) ?hi95 (by kernel_rfl) (by kernel_rfl) (by kernel_rfl) ?hQ95 (Or.inl ⟨?hw95, ?hy95⟩) hHeld ?rest95
          case hi95 =>
            simp only [List.getElem?_toArray, List.getElem?_cons_succ, List.getElem?_cons_zero] <;> rfl
          case hQ95 => exact fun _ _ _ h => h
          case hw95 => rfl
          case hy95 =>
            intro wS hSw
            obtain ⟨k0, k1, k2, k3, k4, k5, k6, y5, e0, e1, e2, e3, e4, e5⟩ := HCELL.out wS hSw
            go_simp
            first | done | with_reducible rfl | rfl
          simp only [Act.put, List.setIfInBounds_toArray, List.set_cons_zero, List.set_cons_succ]
          refine wpAnyH_take (i := 4) (oi := ?oi96) (v := ?v96) ?hi96 (by kernel_rfl) (by kernel_rfl) (by kernel_rfl) ?hQ96 (Or.inl ⟨?hw96, ?hy96⟩) hHeld ?rest96
          case hi96 =>
            simp only [List.getElem?_toArray, List.getElem?_cons_succ, List.getElem?_cons_zero] <;> rfl
          case hQ96 => exact fun _ _ _ h => h
          case hw96 => rfl
          case hy96 =>
            intro wS hSw
            obtain ⟨k0, k1, k2, k3, k4, k5, k6, y5, e0, e1, e2, e3, e4, e5⟩ := HCELL.out wS hSw
            go_simp
            first | done | with_reducible rfl | rfl
          simp only [Act.put, List.setIfInBounds_toArray, List.set_cons_zero, List.set_cons_succ]
          refine wpAnyH_take (i := 5) (oi := ?oi97) (v := ?v97) ?hi97 (by kernel_rfl) (by kernel_rfl) (by kernel_rfl) ?hQ97 (Or.inl ⟨?hw97, ?hy97⟩) hHeld ?rest97
          case hi97 =>
            simp only [List.getElem?_toArray, List.getElem?_cons_succ, List.getElem?_cons_zero] <;> rfl
          case hQ97 => exact fun _ _ _ h => h
          case hw97 => rfl
          case hy97 =>
            intro wS hSw
            obtain ⟨k0, k1, k2, k3, k4, k5, k6, y5, e0, e1, e2, e3, e4, e5⟩ := HCELL.out wS hSw
            go_simp
            first | done | with_reducible rfl | rfl
          simp only [Act.put, List.setIfInBounds_toArray, List.set_cons_zero, List.set_cons_succ]
          clear c5
          obtain ⟨x, hx⟩ : ∃ x, (k.resT l).1 = x := ⟨_, rfl⟩
          obtain ⟨xb, hxb⟩ : ∃ xb, (k.resT l).2 = xb := ⟨_, rfl⟩
          have HXX : Hid (k.resT l = (x, xb)) := Lib.hid (by rw [← hx, ← hxb])
          rw [hxb] at HTS
          clear hx hxb
          refine wpAnyH_ready (rs := [6, 10]) (by kernel_rfl) (by simp) ?_
          refine AllReadyH.cons rfl (fun K hK => ?_) (AllReadyH.cons rfl (fun K hK => ?_) AllReadyH.nil)
          · go_simp
            go_at_call 51
            refine (HKI.out ao cap v1 v2 v3 v4 v5 v6 _ (HW.out.trans (HE8.out.trans hHeld.2)) (HR.out.ext (HE8.out.trans hHeld.2)) HKB.out).mono ?_
            rw [HXX.out]
            rintro e w9 ⟨xa, xn, rfl, hN9, hE9⟩
            have HN9 := Lib.hid (hN9.mono hHeld.2.size)
            have HWS := Lib.hid (hHeld.2.trans hE9).size
            refine hK.out _ _ ⟨hHeld.1.kpC hE9.kpC, hHeld.2.trans hE9⟩ (fun hHeld => ?_)
            clear hK K hN9 hE9
            unfold Rt.cells
            try simp only []
            refine wpAnyH_take (i := 7) (oi := ?oi98) (v := ?v98) ?hi98 (by kernel_rfl) (by kernel_rfl) (by kernel_rfl) ?hQ98 (Or.inl ⟨?hw98, ?hy98⟩) hHeld ?rest98
            case hi98 =>
              simp only [List.getElem?_toArray, List.getElem?_cons_succ, List.getElem?_cons_zero] <;> rfl
            case hQ98 => exact fun _ _ _ h => h
            case hw98 => rfl
            case hy98 =>
              intro wS hSw
              obtain ⟨k0, k1, k2, k3, k4, k5, k6, y5, e0, e1, e2, e3, e4, e5⟩ := HCELL.out wS hSw
              go_simp
              first | done | with_reducible rfl | rfl
            simp only [Act.put, List.setIfInBounds_toArray, List.set_cons_zero, List.set_cons_succ]
            refine wpAnyH_take (i := 8) (oi := ?oi99) (v := ?v99) ?hi99 (by kernel_rfl) (by kernel_rfl) (by kernel_rfl) ?hQ99 (Or.inl ⟨?hw99, ?hy99⟩) hHeld ?rest99
            case hi99 =>
              simp only [List.getElem?_toArray, List.getElem?_cons_succ, List.getElem?_cons_zero] <;> rfl
            case hQ99 => exact fun _ _ _ h => h
            case hw99 => rfl
            case hy99 =>
              intro wS hSw
              obtain ⟨k0, k1, k2, k3, k4, k5, k6, y5, e0, e1, e2, e3, e4, e5⟩ := HCELL.out wS hSw
              go_simp
              first | done | with_reducible rfl | rfl
            simp only [Act.put, List.setIfInBounds_toArray, List.set_cons_zero, List.set_cons_succ]
            refine wpAnyH_take (i := 9) (oi := ?oi100) (v := ?v100) ?hi100 (by kernel_rfl) (by kernel_rfl) (by kernel_rfl) ?hQ100 (Or.inl ⟨?hw100, ?hy100⟩) hHeld ?rest100
            case hi100 =>
              simp only [List.getElem?_toArray, List.getElem?_cons_succ, List.getElem?_cons_zero] <;> rfl
            case hQ100 => exact fun _ _ _ h => h
            case hw100 => rfl
            case hy100 =>
              intro wS hSw
              obtain ⟨k0, k1, k2, k3, k4, k5, k6, y5, e0, e1, e2, e3, e4, e5⟩ := HCELL.out wS hSw
              go_simp
              first | done | with_reducible rfl | rfl
            simp only [Act.put, List.setIfInBounds_toArray, List.set_cons_zero, List.set_cons_succ]
            refine wpAnyH_ready (rs := [10]) (by kernel_rfl) (by simp) ?_
            refine AllReadyH.cons rfl (fun K hK => ?_) AllReadyH.nil
            go_simp
            have HROW : Hid (Row (w9.alloc (.cells #[.int .i64 0, .int .i64 0, .string ⟨#[]⟩, .int .i64 0, .int .i64 0, .slice none 0 0] 39)) w9.heap.size 39 [.int .i64 0, .int .i64 0, .string ⟨#[]⟩, .int .i64 0, .int .i64 0, .slice none 0 0]) := Lib.hid (by unfold Row; rw [heap_al, if_pos rfl])
            have HKP : Hid (∀ W : World, (∀ (k : Nat) (o : Obj), k ≠ w9.heap.size → (w9.alloc (.cells #[.int .i64 0, .int .i64 0, .string ⟨#[]⟩, .int .i64 0, .int .i64 0, .slice none 0 0] 39)).heap[k]? = some o → o.isCells = true → W.heap[k]? = some o) → RepN wr.heap.size W x (x.cells xa xn)) := Lib.hid fun W h => HN9.out.keep fun b o _ hb hc => h b o (by have := (Array.getElem?_eq_some_iff.1 hb).1; omega) (((Ext.refl w9).alloc (.cells #[.int .i64 0, .int .i64 0, .string ⟨#[]⟩, .int .i64 0, .int .i64 0, .slice none 0 0] 39)).kpC.2 b o hb hc) hc
            have HGW : Hid (wr.heap.size ≤ w9.heap.size) := HWS
            refine hK.out _ _ ⟨hHeld.1.kpC ((Ext.refl w9).alloc _).kpC, hHeld.2.alloc _⟩ (fun hHeld => ?_)
            clear hK K HN9
            try simp only [Act.put, List.setIfInBounds_toArray, List.set_cons_zero, List.set_cons_succ]
            generalize (w9.alloc (.cells #[.int .i64 0, .int .i64 0, .string ⟨#[]⟩, .int .i64 0, .int .i64 0, .slice none 0 0] 39)) = V at *
            generalize w9.heap.size = g at *
            refine wpAnyH_ready (rs := [11]) (by kernel_rfl) (by simp) ?_
            refine AllReadyH.cons rfl (fun K hK => ?_) AllReadyH.nil
            rw [if_pos (by rfl)]
            refine wp_store_mid _ _ _ rfl g 0 _ rfl rfl (HROW.out.there (Nat.le_refl _)) (by kernel_rfl) (by simp [Value.oneCell']) ?_
            have hgr := setCells_grown g [Value.int .i64 x.op, Value.int .i64 x.co, Value.string x.nm, Value.int .i64 x.n, Value.int .i64 x.d, Value.slice xa x.kids.length xn] V 0
            have hE11 : Ext wr (V.setCells g 0 [Value.int .i64 x.op, Value.int .i64 x.co, Value.string x.nm, Value.int .i64 x.n, Value.int .i64 x.d, Value.slice xa x.kids.length xn]) := Below.grown hHeld.2 hgr hHeld.2.size (fun y hy => by cases hy; exact HGW.out)
            have hR11 : Row (V.setCells g 0 [Value.int .i64 x.op, Value.int .i64 x.co, Value.string x.nm, Value.int .i64 x.n, Value.int .i64 x.d, Value.slice xa x.kids.length xn]) g 39 [Value.int .i64 x.op, Value.int .i64 x.co, Value.string x.nm, Value.int .i64 x.n, Value.int .i64 x.d, Value.slice xa x.kids.length xn] := HROW.out.set (vs := [Value.int .i64 x.op, Value.int .i64 x.co, Value.string x.nm, Value.int .i64 x.n, Value.int .i64 x.d, Value.slice xa x.kids.length xn]) (o := 0) (Nat.le_refl _)
            have hk11 : KpE g V (V.setCells g 0 [Value.int .i64 x.op, Value.int .i64 x.co, Value.string x.nm, Value.int .i64 x.n, Value.int .i64 x.d, Value.slice xa x.kids.length xn]) := grown_kpE hgr
            have hX11 : RepN wr.heap.size (V.setCells g 0 [Value.int .i64 x.op, Value.int .i64 x.co, Value.string x.nm, Value.int .i64 x.n, Value.int .i64 x.d, Value.slice xa x.kids.length xn]) x (x.cells xa xn) := HKP.out _ (fun k o hkg hk1 hk2 => hk11.2 k o hkg hk1 hk2)
            have hwg := (Array.getElem?_eq_some_iff.1 HV8.out.2.2).1
            refine hK.out _ _ ⟨hHeld.1.kpE hk11 (by have := HGW.out; omega), hE11⟩ (fun hHeld => ?_)
            clear hK K
            have HX11 := Lib.hid hX11
            have HR11 := Lib.hid hR11
            clear hgr hE11 hR11 hk11 hX11 HKP HROW
            generalize V.setCells g 0 [Value.int .i64 x.op, Value.int .i64 x.co, Value.string x.nm, Value.int .i64 x.n, Value.int .i64 x.d, Value.slice xa x.kids.length xn] = V2 at *
            try simp only [Act.put, List.setIfInBounds_toArray]
            refine wpAnyH_ready (rs := [12]) (by kernel_rfl) (by simp) ?_
            refine AllReadyH.cons rfl (fun K hK => ?_) AllReadyH.nil
            go_simp
            refine hK.out _ _ hHeld (fun hHeld => ?_)
            clear hK K
            try simp only [Act.put, List.setIfInBounds_toArray, List.set_cons_zero, List.set_cons_succ]
            refine wpAnyH_done (by kernel_rfl) ?_ _
            have HV11 := Lib.hid hHeld.1
            have HE11 := Lib.hid hHeld.2
            have HO11 := Lib.hid (ownsRow_ext HO8.out hHeld.2)
            clear hHeld hwg
            have x0 := HR11.out.cell (j := 0) rfl
            have x1 := HR11.out.cell (j := 1) rfl
            have x2 := HR11.out.cell (j := 2) rfl
            have x3 := HR11.out.cell (j := 3) rfl
            have x4 := HR11.out.cell (j := 4) rfl
            have x5 := HR11.out.cell (j := 5) rfl
            cases bk
            all_goals
              go_wp2_with (at_builtin; refine wpList_append_S rfl _ _ 37 37 rfl W5.heap.size 39 ir _ 6 72 Try.underlying37 HII.out.1 HII.out.2.1 HII.out.2.2.1 HII.out.2.2.2 rfl u7 _ _ rfl (ownsRow_ext HO11.out ((Ext.refl V2).alloc _)) _ 1 (x.cells xa xn) rfl (Src.ofOwn (own_row (cs := x.cells xa xn) (e := 39) (base := 0) rfl (Nat.zero_le _) rfl) Try.underlying37 (x.ones xa xn)) (by have := HKL.out; unfold maxLen; omega) (by have := HKL.out; omega) (by have := HS8.out; have := HE11.out.size; simp; omega) ?_; intro vo w6 ho6 hg6; have HO6 := Lib.hid ho6; have HG6 := Lib.hid hg6; clear ho6 hg6)
              have hE6 : Ext w w6 := Ext.own_step ((HE8.out.trans HE11.out).alloc _) HG6.out (ownsRow_rebase (ownsRow_ext HO11.out ((Ext.refl V2).alloc _)) (fun k hk => by have := ownsRow_blocks HO11.out k hk; have := HSW.out; omega))
              have hV6 : RuleV w6 w.heap.size 29 39 [.slice ao l.length cap, v1, v2, v3, v4, v5, v6] [.int .i64 r.op, .int .i64 c0, .string r.nm, .int .i64 r.n, .int .i64 r.d, .slice (some ⟨B, q, none⟩) r.kids.length kc] [.int .i64 0, .int .i64 0, .string ⟨#[]⟩, .int .i64 0, .int .i64 0, .slice none 0 0] := RuleV.grows (HV11.out.kpC ((Ext.refl V2).alloc (.cells #[Value.int .i64 x.op, Value.int .i64 x.co, Value.string x.nm, Value.int .i64 x.n, Value.int .i64 x.d, Value.slice xa x.kids.length xn] 39)).kpC) HG6.out (fun k hk => by have := ownsRow_blocks HO11.out k hk; have := HSW.out; omega)
              have hF6 := rows_snoc (P := fun (a : Rt) b => Far vo.ownBlock w6 fun V => RepN W5.heap.size V (a.resT l).1 b) (q := x.cells xa xn) HKM.out HRL.out (fun i a b h1 h2 => ((HRP.out i a b h1 h2).ext (HE11.out.alloc (.cells #[Value.int .i64 x.op, Value.int .i64 x.co, Value.string x.nm, Value.int .i64 x.n, Value.int .i64 x.d, Value.slice xa x.kids.length xn] 39))).grow HG6.out) (by
                have h1 := (HX11.out.far (b := u7.ownBlock) (fun k hk => ownsRow_lt' HO8.out k hk)).mono (Q := fun V => RepN W5.heap.size V x (x.cells xa xn)) (fun V h => h.mono HS8.out)
                have h2 := (h1.ext ((Ext.refl V2).alloc (.cells #[Value.int .i64 x.op, Value.int .i64 x.co, Value.string x.nm, Value.int .i64 x.n, Value.int .i64 x.d, Value.slice xa x.kids.length xn] 39))).grow HG6.out
                rw [HXX.out]
                exact h2)
              have HF := Lib.hid (And.intro hE6 (And.intro hV6 hF6))
              clear hE6 hV6 hF6 x0 x1 x2 x3 x4 x5
              go_roundw
              case rel => exact ⟨m + 1, rows ++ [x.cells xa xn], _, rfl, by rw [HTS.out, ← Bool.and_assoc, ← HBK.out]; first | rfl | simp, by go_num, by omega, HF.out.2.1, by rw [List.flatten_append]; simpa using HO6.out, by rw [List.length_append, HRL.out]; rfl, HF.out.2.2, HF.out.1, Nat.le_trans HS8.out (Nat.le_trans HE11.out.size (Nat.le_trans ((Ext.refl V2).alloc (.cells #[Value.int .i64 x.op, Value.int .i64 x.co, Value.string x.nm, Value.int .i64 x.n, Value.int .i64 x.d, Value.slice xa x.kids.length xn] 39)).size HG6.out.by_.size))⟩
              case measure => simp [intOf] <;> omega
          · go_simp
            have HROW0 : Hid (Row (wr.alloc (.cells #[.int .i64 0, .int .i64 0, .string ⟨#[]⟩, .int .i64 0, .int .i64 0, .slice none 0 0] 39)).drew wr.heap.size 39 [.int .i64 0, .int .i64 0, .string ⟨#[]⟩, .int .i64 0, .int .i64 0, .slice none 0 0]) := Lib.hid (by
              unfold Row
              show (wr.alloc (.cells #[.int .i64 0, .int .i64 0, .string ⟨#[]⟩, .int .i64 0, .int .i64 0, .slice none 0 0] 39)).heap[wr.heap.size]? = _
              rw [heap_al, if_pos rfl])
            have HGV : Hid (wr.heap.size < (wr.alloc (.cells #[.int .i64 0, .int .i64 0, .string ⟨#[]⟩, .int .i64 0, .int .i64 0, .slice none 0 0] 39)).drew.heap.size) := Lib.hid (by simp)
            refine hK.out _ _ ⟨hHeld.1.kpC ((Ext.refl wr.drew).alloc _).kpC, hHeld.2.alloc _⟩ (fun hHeld => ?_)
            clear hK K
            try simp only [Act.put, List.setIfInBounds_toArray, List.set_cons_zero, List.set_cons_succ]
            obtain ⟨g, hgd⟩ : ∃ g, g = wr.heap.size := ⟨_, rfl⟩
            have HGW : Hid (wr.heap.size ≤ g) := Lib.hid (by omega)
            rw [← hgd] at HROW0 HGV
            rw [← hgd]
            clear hgd
            replace hHeld : RuleV (wr.alloc (.cells #[.int .i64 0, .int .i64 0, .string ⟨#[]⟩, .int .i64 0, .int .i64 0, .slice none 0 0] 39)).drew w.heap.size 29 39 [.slice ao l.length cap, v1, v2, v3, v4, v5, v6] [.int .i64 r.op, .int .i64 c0, .string r.nm, .int .i64 r.n, .int .i64 r.d, .slice (some ⟨B, q, none⟩) r.kids.length kc] [.int .i64 0, .int .i64 0, .string ⟨#[]⟩, .int .i64 0, .int .i64 0, .slice none 0 0] ∧ Ext wr (wr.alloc (.cells #[.int .i64 0, .int .i64 0, .string ⟨#[]⟩, .int .i64 0, .int .i64 0, .slice none 0 0] 39)).drew := hHeld
            generalize (wr.alloc (.cells #[.int .i64 0, .int .i64 0, .string ⟨#[]⟩, .int .i64 0, .int .i64 0, .slice none 0 0] 39)).drew = V0 at *
            refine wpAnyH_ready (rs := [6]) (by kernel_rfl) (by simp) ?_
            refine AllReadyH.cons rfl (fun K hK => ?_) AllReadyH.nil
            go_simp
            go_at_call 51
            refine (HKI.out ao cap v1 v2 v3 v4 v5 v6 _ (HW.out.trans (HE8.out.trans hHeld.2)) (HR.out.ext (HE8.out.trans hHeld.2)) HKB.out).mono ?_
            rw [HXX.out]
            rintro e V ⟨xa, xn, rfl, hN9, hE9⟩
            have HKP : Hid (∀ W : World, (∀ (k : Nat) (o : Obj), k ≠ g → V.heap[k]? = some o → o.isCells = true → W.heap[k]? = some o) → RepN wr.heap.size W x (x.cells xa xn)) := Lib.hid fun W h => (hN9.keep fun b o hb h1 h2 => h b o (by have := HGV.out; omega) h1 h2).mono hHeld.2.size
            have HROW : Hid (Row V g 39 [.int .i64 0, .int .i64 0, .string ⟨#[]⟩, .int .i64 0, .int .i64 0, .slice none 0 0]) := Lib.hid (HROW0.out.kpC hE9.kpC)
            refine hK.out _ _ ⟨hHeld.1.kpC hE9.kpC, hHeld.2.trans hE9⟩ (fun hHeld => ?_)
            clear hK K hN9 hE9 HROW0
            unfold Rt.cells
            try simp only []
            refine wpAnyH_take (i := 7) (oi := ?oi101) (v := ?v101) ?hi101 (by kernel_rfl) (by kernel_rfl) (by kernel_rfl) ?hQ101 (Or.inl ⟨?hw101, ?hy101⟩) hHeld ?rest101
            case hi101 =>
              simp only [List.getElem?_toArray, List.getElem?_cons_succ, List.getElem?_cons_zero] <;> rfl
            case hQ101 => exact fun _ _ _ h => h
            case hw101 => rfl
            case hy101 =>
              intro wS hSw
              obtain ⟨k0, k1, k2, k3, k4, k5, k6, y5, e0, e1, e2, e3, e4, e5⟩ := HCELL.out wS hSw
              go_simp
              first | done | with_reducible rfl | rfl
            simp only [Act.put, List.setIfInBounds_toArray, List.set_cons_zero, List.set_cons_succ]
            refine wpAnyH_take (i := 8) (oi := ?oi102) (v := ?v102) ?hi102 (by kernel_rfl) (by kernel_rfl) (by kernel_rfl) ?hQ102 (Or.inl ⟨?hw102, ?hy102⟩) hHeld ?rest102
            case hi102 =>
              simp only [List.getElem?_toArray, List.getElem?_cons_succ, List.getElem?_cons_zero] <;> rfl
            case hQ102 => exact fun _ _ _ h => h
            case hw102 => rfl
            case hy102 =>
              intro wS hSw
              obtain ⟨k0, k1, k2, k3, k4, k5, k6, y5, e0, e1, e2, e3, e4, e5⟩ := HCELL.out wS hSw
              go_simp
              first | done | with_reducible rfl | rfl
            simp only [Act.put, List.setIfInBounds_toArray, List.set_cons_zero, List.set_cons_succ]
            refine wpAnyH_take (i := 9) (oi := ?oi103) (v := ?v103) ?hi103 (by kernel_rfl) (by kernel_rfl) (by kernel_rfl) ?hQ103 (Or.inl ⟨?hw103, ?hy103⟩) hHeld ?rest103
            case hi103 =>
              simp only [List.getElem?_toArray, List.getElem?_cons_succ, List.getElem?_cons_zero] <;> rfl
            case hQ103 => exact fun _ _ _ h => h
            case hw103 => rfl
            case hy103 =>
              intro wS hSw
              obtain ⟨k0, k1, k2, k3, k4, k5, k6, y5, e0, e1, e2, e3, e4, e5⟩ := HCELL.out wS hSw
              go_simp
              first | done | with_reducible rfl | rfl
            simp only [Act.put, List.setIfInBounds_toArray, List.set_cons_zero, List.set_cons_succ]
            refine wpAnyH_ready (rs := [11]) (by kernel_rfl) (by simp) ?_
            refine AllReadyH.cons rfl (fun K hK => ?_) AllReadyH.nil
            rw [if_pos (by rfl)]
            refine wp_store_mid _ _ _ rfl g 0 _ rfl rfl (HROW.out.there (Nat.le_refl _)) (by kernel_rfl) (by simp [Value.oneCell']) ?_
            have hgr := setCells_grown g [Value.int .i64 x.op, Value.int .i64 x.co, Value.string x.nm, Value.int .i64 x.n, Value.int .i64 x.d, Value.slice xa x.kids.length xn] V 0
            have hE11 : Ext wr (V.setCells g 0 [Value.int .i64 x.op, Value.int .i64 x.co, Value.string x.nm, Value.int .i64 x.n, Value.int .i64 x.d, Value.slice xa x.kids.length xn]) := Below.grown hHeld.2 hgr hHeld.2.size (fun y hy => by cases hy; exact HGW.out)
            have hR11 : Row (V.setCells g 0 [Value.int .i64 x.op, Value.int .i64 x.co, Value.string x.nm, Value.int .i64 x.n, Value.int .i64 x.d, Value.slice xa x.kids.length xn]) g 39 [Value.int .i64 x.op, Value.int .i64 x.co, Value.string x.nm, Value.int .i64 x.n, Value.int .i64 x.d, Value.slice xa x.kids.length xn] := HROW.out.set (vs := [Value.int .i64 x.op, Value.int .i64 x.co, Value.string x.nm, Value.int .i64 x.n, Value.int .i64 x.d, Value.slice xa x.kids.length xn]) (o := 0) (Nat.le_refl _)
            have hk11 : KpE g V (V.setCells g 0 [Value.int .i64 x.op, Value.int .i64 x.co, Value.string x.nm, Value.int .i64 x.n, Value.int .i64 x.d, Value.slice xa x.kids.length xn]) := grown_kpE hgr
            have hX11 : RepN wr.heap.size (V.setCells g 0 [Value.int .i64 x.op, Value.int .i64 x.co, Value.string x.nm, Value.int .i64 x.n, Value.int .i64 x.d, Value.slice xa x.kids.length xn]) x (x.cells xa xn) := HKP.out _ (fun k o hkg hk1 hk2 => hk11.2 k o hkg hk1 hk2)
            have hwg := (Array.getElem?_eq_some_iff.1 HV8.out.2.2).1
            refine hK.out _ _ ⟨hHeld.1.kpE hk11 (by have := HGW.out; omega), hE11⟩ (fun hHeld => ?_)
            clear hK K
            have HX11 := Lib.hid hX11
            have HR11 := Lib.hid hR11
            clear hgr hE11 hR11 hk11 hX11 HKP HROW
            generalize V.setCells g 0 [Value.int .i64 x.op, Value.int .i64 x.co, Value.string x.nm, Value.int .i64 x.n, Value.int .i64 x.d, Value.slice xa x.kids.length xn] = V2 at *
            try simp only [Act.put, List.setIfInBounds_toArray]
            refine wpAnyH_ready (rs := [12]) (by kernel_rfl) (by simp) ?_
            refine AllReadyH.cons rfl (fun K hK => ?_) AllReadyH.nil
            go_simp
            refine hK.out _ _ hHeld (fun hHeld => ?_)
            clear hK K
            try simp only [Act.put, List.setIfInBounds_toArray, List.set_cons_zero, List.set_cons_succ]
            refine wpAnyH_done (by kernel_rfl) ?_ _
            have HV11 := Lib.hid hHeld.1
            have HE11 := Lib.hid hHeld.2
            have HO11 := Lib.hid (ownsRow_ext HO8.out hHeld.2)
            clear hHeld hwg
            have x0 := HR11.out.cell (j := 0) rfl
            have x1 := HR11.out.cell (j := 1) rfl
            have x2 := HR11.out.cell (j := 2) rfl
            have x3 := HR11.out.cell (j := 3) rfl
            have x4 := HR11.out.cell (j := 4) rfl
            have x5 := HR11.out.cell (j := 5) rfl
            cases bk
            all_goals
              go_wp2_with (at_builtin; refine wpList_append_S rfl _ _ 37 37 rfl W5.heap.size 39 ir _ 6 72 Try.underlying37 HII.out.1 HII.out.2.1 HII.out.2.2.1 HII.out.2.2.2 rfl u7 _ _ rfl (ownsRow_ext HO11.out ((Ext.refl V2).alloc _)) _ 1 (x.cells xa xn) rfl (Src.ofOwn (own_row (cs := x.cells xa xn) (e := 39) (base := 0) rfl (Nat.zero_le _) rfl) Try.underlying37 (x.ones xa xn)) (by have := HKL.out; unfold maxLen; omega) (by have := HKL.out; omega) (by have := HS8.out; have := HE11.out.size; simp; omega) ?_; intro vo w6 ho6 hg6; have HO6 := Lib.hid ho6; have HG6 := Lib.hid hg6; clear ho6 hg6)
              have hE6 : Ext w w6 := Ext.own_step ((HE8.out.trans HE11.out).alloc _) HG6.out (ownsRow_rebase (ownsRow_ext HO11.out ((Ext.refl V2).alloc _)) (fun k hk => by have := ownsRow_blocks HO11.out k hk; have := HSW.out; omega))
              have hV6 : RuleV w6 w.heap.size 29 39 [.slice ao l.length cap, v1, v2, v3, v4, v5, v6] [.int .i64 r.op, .int .i64 c0, .string r.nm, .int .i64 r.n, .int .i64 r.d, .slice (some ⟨B, q, none⟩) r.kids.length kc] [.int .i64 0, .int .i64 0, .string ⟨#[]⟩, .int .i64 0, .int .i64 0, .slice none 0 0] := RuleV.grows (HV11.out.kpC ((Ext.refl V2).alloc (.cells #[Value.int .i64 x.op, Value.int .i64 x.co, Value.string x.nm, Value.int .i64 x.n, Value.int .i64 x.d, Value.slice xa x.kids.length xn] 39)).kpC) HG6.out (fun k hk => by have := ownsRow_blocks HO11.out k hk; have := HSW.out; omega)
              have hF6 := rows_snoc (P := fun (a : Rt) b => Far vo.ownBlock w6 fun V => RepN W5.heap.size V (a.resT l).1 b) (q := x.cells xa xn) HKM.out HRL.out (fun i a b h1 h2 => ((HRP.out i a b h1 h2).ext (HE11.out.alloc (.cells #[Value.int .i64 x.op, Value.int .i64 x.co, Value.string x.nm, Value.int .i64 x.n, Value.int .i64 x.d, Value.slice xa x.kids.length xn] 39))).grow HG6.out) (by
                have h1 := (HX11.out.far (b := u7.ownBlock) (fun k hk => ownsRow_lt' HO8.out k hk)).mono (Q := fun V => RepN W5.heap.size V x (x.cells xa xn)) (fun V h => h.mono HS8.out)
                have h2 := (h1.ext ((Ext.refl V2).alloc (.cells #[Value.int .i64 x.op, Value.int .i64 x.co, Value.string x.nm, Value.int .i64 x.n, Value.int .i64 x.d, Value.slice xa x.kids.length xn] 39))).grow HG6.out
                rw [HXX.out]
                exact h2)
              have HF := Lib.hid (And.intro hE6 (And.intro hV6 hF6))
              clear hE6 hV6 hF6 x0 x1 x2 x3 x4 x5
              go_roundw
              case rel => exact ⟨m + 1, rows ++ [x.cells xa xn], _, rfl, by rw [HTS.out, ← Bool.and_assoc, ← HBK.out]; first | rfl | simp, by go_num, by omega, HF.out.2.1, by rw [List.flatten_append]; simpa using HO6.out, by rw [List.length_append, HRL.out]; rfl, HF.out.2.2, HF.out.1, Nat.le_trans HS8.out (Nat.le_trans HE11.out.size (Nat.le_trans ((Ext.refl V2).alloc (.cells #[Value.int .i64 x.op, Value.int .i64 x.co, Value.string x.nm, Value.int .i64 x.n, Value.int .i64 x.d, Value.slice xa x.kids.length xn] 39)).size HG6.out.by_.size))⟩
              case measure => simp [intOf] <;> omega
        · have hki : ¬ (m : Int) < (r.kids.length : Int) := by omega
          obtain rfl : m = r.kids.length := by omega
          rw [List.take_length] at HBK HRP
          obtain ⟨a2, c2, rfl⟩ := ownsRow_slice HO8.out
          have HV9 := Lib.hid (HV8.out.put 5 (.slice a2 r.kids.length c2))
          have HO9 := Lib.hid (own_far (q := ⟨w.heap.size + 1, 5, none⟩) (u := .slice a2 r.kids.length c2) HO8.out (by have := HSW.out; show w.heap.size + 1 < W5.heap.size; omega))
          have HRP9 : Hid (∀ (i : Nat) (x : Rt) (q : List Value), r.kids[i]? = some x → rows[i]? = some q → RepN W5.heap.size (wr.setCell ⟨w.heap.size + 1, 5, none⟩ (.slice a2 r.kids.length c2)) (x.resT l).1 q) := Lib.hid fun i x q h1 h2 => (HRP.out i x q h1 h2).now.kpE (kpE_set5 wr (w.heap.size + 1) 5 _) (by have := HSW.out; omega)
          have HE9 := Lib.hid (HE8.out.setCell (p := ⟨w.heap.size + 1, 5, none⟩) (by show w.heap.size ≤ w.heap.size + 1; omega) (.slice a2 r.kids.length c2))
          have y5 := HV8.out.2.1.cell (j := 5) rfl
          have z5 := HV8.out.2.1.froz 5
          clear c5
          try clear d0
          have y0 := HV8.out.2.1.cell (j := 0) rfl
          have y1 := HV8.out.2.1.cell (j := 1) rfl
          have y2 := HV8.out.2.1.cell (j := 2) rfl
          have y3 := HV8.out.2.1.cell (j := 3) rfl
          have y4 := HV8.out.2.1.cell (j := 4) rfl
          have q0 := HV8.out.2.2.cell (j := 0) rfl
          have f0 := HV8.out.2.2.froz 0
          have q1 := HV8.out.2.2.cell (j := 1) rfl
          have f1 := HV8.out.2.2.froz 1
          have q2 := HV8.out.2.2.cell (j := 2) rfl
          have f2 := HV8.out.2.2.froz 2
          have q3 := HV8.out.2.2.cell (j := 3) rfl
          have f3 := HV8.out.2.2.froz 3
          have q4 := HV8.out.2.2.cell (j := 4) rfl
          have f4 := HV8.out.2.2.froz 4
          have q5 := HV8.out.2.2.cell (j := 5) rfl
          have f5 := HV8.out.2.2.froz 5
          go_wp2_with fail
          replace HV9 : Hid (RuleV (wr.setCell ⟨w.heap.size + 1, 5, none⟩ (.slice a2 r.kids.length c2)) w.heap.size 29 39 [.slice ao l.length cap, v1, v2, v3, v4, v5, v6] [.int .i64 r.op, .int .i64 c0, .string r.nm, .int .i64 r.n, .int .i64 r.d, .slice a2 r.kids.length c2] [.int .i64 0, .int .i64 0, .string ⟨#[]⟩, .int .i64 0, .int .i64 0, .slice none 0 0]) := HV9
          have hIDW : wr.setCell ⟨w.heap.size + 1, 5, none⟩ (.slice a2 r.kids.length c2) = wr.setCell ⟨w.heap.size + 1, 5, none⟩ (.slice a2 r.kids.length c2) := rfl
          clear hIDW y0 y1 y2 y3 y4 y5 z5 q0 q1 q2 q3 q4 q5 f0 f1 f2 f3 f4 f5
          generalize wr.setCell ⟨w.heap.size + 1, 5, none⟩ (.slice a2 r.kids.length c2) = V9 at *
          obtain ⟨Wf, hWf⟩ : ∃ Wf, V9.setCells (w.heap.size + 2) 0 [Value.int .i64 r.op, Value.int .i64 c0, Value.string r.nm, Value.int .i64 r.n, Value.int .i64 r.d, Value.slice a2 r.kids.length c2] = Wf := ⟨_, rfl⟩
          have hgr := setCells_grown (w.heap.size + 2) [Value.int .i64 r.op, Value.int .i64 c0, Value.string r.nm, Value.int .i64 r.n, Value.int .i64 r.d, Value.slice a2 r.kids.length c2] V9 0
          have hrow : Row (V9.setCells (w.heap.size + 2) 0 [Value.int .i64 r.op, Value.int .i64 c0, Value.string r.nm, Value.int .i64 r.n, Value.int .i64 r.d, Value.slice a2 r.kids.length c2]) (w.heap.size + 2) 39 [Value.int .i64 r.op, Value.int .i64 c0, Value.string r.nm, Value.int .i64 r.n, Value.int .i64 r.d, Value.slice a2 r.kids.length c2] := HV9.out.2.2.set (vs := [Value.int .i64 r.op, Value.int .i64 c0, Value.string r.nm, Value.int .i64 r.n, Value.int .i64 r.d, Value.slice a2 r.kids.length c2]) (o := 0) (Nat.le_refl _)
          rw [hWf] at hgr hrow
          rw [show ((((((V9.setCell ⟨w.heap.size + 1 + 1, 0, none⟩ (.int .i64 r.op)).setCell ⟨w.heap.size + 1 + 1, 1, none⟩ (.int .i64 c0)).setCell ⟨w.heap.size + 1 + 1, 2, none⟩ (.string r.nm)).setCell ⟨w.heap.size + 1 + 1, 3, none⟩ (.int .i64 r.n)).setCell ⟨w.heap.size + 1 + 1, 4, none⟩ (.int .i64 r.d)).setCell ⟨w.heap.size + 1 + 1, 5, none⟩ (.slice a2 r.kids.length c2)) = Wf from hWf]
          have hke := grown_kpE hgr
          have hE : Ext w Wf := Below.grown HE9.out hgr HE9.out.size (fun x hx => by cases hx; omega)
          have e0 := hrow.cell (j := 0) rfl
          have e1 := hrow.cell (j := 1) rfl
          have e2 := hrow.cell (j := 2) rfl
          have e3 := hrow.cell (j := 3) rfl
          have e4 := hrow.cell (j := 4) rfl
          have e5 := hrow.cell (j := 5) rfl
          have hkm : (r.kids.map fun k => (k.resT l).1).length = r.kids.length := List.length_map _
          have hcx : (r.with c0 (r.kids.map fun k => (k.resT l).1)).cells a2 c2 = [Value.int .i64 r.op, Value.int .i64 c0, Value.string r.nm, Value.int .i64 r.n, Value.int .i64 r.d, Value.slice a2 r.kids.length c2] := by
            show [Value.int .i64 r.op, Value.int .i64 c0, Value.string r.nm, Value.int .i64 r.n, Value.int .i64 r.d, Value.slice a2 (r.kids.map fun k => (k.resT l).1).length c2] = _
            rw [hkm]
          obtain ⟨ax, cx, ex, hsl, hfar⟩ := SL.of_own (own_kpE HO9.out hke (by have := HSW.out; omega)) (fun q hq => by
            obtain ⟨i, hi⟩ := List.getElem?_of_mem hq
            have hil := (List.getElem?_eq_some_iff.1 hi).1
            obtain ⟨x, hx⟩ : ∃ x, r.kids[i]? = some x := ⟨_, List.getElem?_eq_getElem (by rw [← HRL.out]; exact hil)⟩
            exact (HRP9.out i x q hx hi).len) HRL.out
          cases ex
          have hrep : RepN w.heap.size Wf (r.with c0 (r.kids.map fun k => (k.resT l).1)) ((r.with c0 (r.kids.map fun k => (k.resT l).1)).cells a2 c2) := RepN.mk (r.with c0 (r.kids.map fun k => (k.resT l).1)) a2 c2 rows hsl (by rw [HRL.out]; exact hkm.symm) (fun i x q hx hq => by
            obtain ⟨x0, hx0, rfl⟩ := getElem?_map_some' hx
            exact ((HRP9.out i x0 q hx0 hq).kpE hke (by have := HSW.out; omega)).mono (by have := HSW.out; omega)) ⟨HOK.out.1, numT_ok HN.out HOK.out HR.out.oks, HOK.out.2.2.1, HOK.out.2.2.2⟩ (fun a ha _ => by
              have h1 : W5.heap.size ≤ a.block := by
                rw [ha] at HO9
                exact ownsRow_blocks HO9.out a.block rfl
              have h2 := HSW.out
              omega)
          rw [Rt.resT_eq, HN.out]
          refine ⟨rfl, .tuple #[.agg #[Value.int .i64 r.op, Value.int .i64 c0, Value.string r.nm, Value.int .i64 r.n, Value.int .i64 r.d, Value.slice a2 r.kids.length c2], .bool bk], by simp [results, Try.results51, go_sem, e0, e1, e2, e3, e4, e5], ⟨a2, c2, by rw [hcx, HBK.out], hrep, hE⟩⟩
    | false =>
      have HN : Hid (r.numT l = (r.co, true)) := Lib.hid (by unfold Rt.numT; rw [if_neg (by rw [hop]; simp)])
      have HM := Lib.hid (mentions_any r.op)
      rw [hop] at HM
      clear hop
      go_enter Try.func51, Try.ntmps51
      have HO7 : Hid (((((w.alloc (.cells #[.slice ao l.length cap, v1, v2, v3, v4, v5, v6] 29)).alloc (.cells #[.int .i64 r.op, .int .i64 r.co, .string r.nm, .int .i64 r.n, .int .i64 r.d, .slice ka r.kids.length kc] 39)).alloc (.cells #[.int .i64 0, .int .i64 0, .string ⟨#[]⟩, .int .i64 0, .int .i64 0, .slice none 0 0] 39)).alloc (.cells #[] 39)).ownsRow (((w.alloc (.cells #[.slice ao l.length cap, v1, v2, v3, v4, v5, v6] 29)).alloc (.cells #[.int .i64 r.op, .int .i64 r.co, .string r.nm, .int .i64 r.n, .int .i64 r.d, .slice ka r.kids.length kc] 39)).alloc (.cells #[.int .i64 0, .int .i64 0, .string ⟨#[]⟩, .int .i64 0, .int .i64 0, .slice none 0 0] 39)).heap.size 39 6 (.slice (some ⟨w.heap.size + 1 + 1 + 1, 0, none⟩) 0 0) 0 []) := Lib.hid (by
        have h := own_empty (((w.alloc (.cells #[.slice ao l.length cap, v1, v2, v3, v4, v5, v6] 29)).alloc (.cells #[.int .i64 r.op, .int .i64 r.co, .string r.nm, .int .i64 r.n, .int .i64 r.d, .slice ka r.kids.length kc] 39)).alloc (.cells #[.int .i64 0, .int .i64 0, .string ⟨#[]⟩, .int .i64 0, .int .i64 0, .slice none 0 0] 39)) (((w.alloc (.cells #[.slice ao l.length cap, v1, v2, v3, v4, v5, v6] 29)).alloc (.cells #[.int .i64 r.op, .int .i64 r.co, .string r.nm, .int .i64 r.n, .int .i64 r.d, .slice ka r.kids.length kc] 39)).alloc (.cells #[.int .i64 0, .int .i64 0, .string ⟨#[]⟩, .int .i64 0, .int .i64 0, .slice none 0 0] 39)).heap.size (Nat.le_refl _) 39 6
        simp only [World.size_alloc] at h ⊢
        exact h)
      have HV7 := Lib.hid (HV.out.kpC ((Ext.refl _).alloc (.cells #[] 39)).kpC)
      have HE7 := Lib.hid (HX.out.alloc (.cells #[] 39))
      have HW57 : Hid (Ext (((w.alloc (.cells #[.slice ao l.length cap, v1, v2, v3, v4, v5, v6] 29)).alloc (.cells #[.int .i64 r.op, .int .i64 r.co, .string r.nm, .int .i64 r.n, .int .i64 r.d, .slice ka r.kids.length kc] 39)).alloc (.cells #[.int .i64 0, .int .i64 0, .string ⟨#[]⟩, .int .i64 0, .int .i64 0, .slice none 0 0] 39)) ((((w.alloc (.cells #[.slice ao l.length cap, v1, v2, v3, v4, v5, v6] 29)).alloc (.cells #[.int .i64 r.op, .int .i64 r.co, .string r.nm, .int .i64 r.n, .int .i64 r.d, .slice ka r.kids.length kc] 39)).alloc (.cells #[.int .i64 0, .int .i64 0, .string ⟨#[]⟩, .int .i64 0, .int .i64 0, .slice none 0 0] 39)).alloc (.cells #[] 39))) := Lib.hid ((Ext.refl _).alloc _)
      have HSW := HSW3
      go_wp2_with (go_at_call 81; refine (HM.out _).mono ?_; rintro e wm ⟨rfl, rfl⟩)
      clear x0 x1 x2 HNA HX HV HSW3
      generalize (((w.alloc (.cells #[.slice ao l.length cap, v1, v2, v3, v4, v5, v6] 29)).alloc (.cells #[.int .i64 r.op, .int .i64 r.co, .string r.nm, .int .i64 r.n, .int .i64 r.d, .slice ka r.kids.length kc] 39)).alloc (.cells #[.int .i64 0, .int .i64 0, .string ⟨#[]⟩, .int .i64 0, .int .i64 0, .slice none 0 0] 39)) = W5 at *
      generalize (W5.alloc (.cells #[] 39)) = W7 at *
      go_loopw [6, 7, 8] (fun okv v iv wr => ∃ (m : Nat) (rows : List (List Value)) (b : Bool), okv = .bool b ∧ b = (true && (r.kids.take m).all fun k => (k.resT l).2) ∧ iv = .int .i64 m ∧ m ≤ r.kids.length ∧ RuleV wr w.heap.size 29 39 [.slice ao l.length cap, v1, v2, v3, v4, v5, v6] [.int .i64 r.op, .int .i64 r.co, .string r.nm, .int .i64 r.n, .int .i64 r.d, .slice ka r.kids.length kc] [.int .i64 0, .int .i64 0, .string ⟨#[]⟩, .int .i64 0, .int .i64 0, .slice none 0 0] ∧ wr.ownsRow W5.heap.size 39 6 v m rows.flatten ∧ rows.length = m ∧ (∀ (i : Nat) (x : Rt) (q : List Value), (r.kids.take m)[i]? = some x → rows[i]? = some q → Far v.ownBlock wr fun V => RepN W5.heap.size V (x.resT l).1 q) ∧ Ext w wr ∧ W5.heap.size ≤ wr.heap.size) (fun _ _ iv _ => r.kids.length - (intOf iv).toNat)
      case atStart => exact ⟨0, [], true, rfl, by simp, rfl, by omega, HV7.out, by simpa using HO7.out, rfl, fun i x q h => by simp at h, HE7.out, HW57.out.size⟩
      case round =>
        obtain ⟨m, rows, bk, rfl, hbk, rfl, hm, hV, hO, hrl, hrep, hE, hS⟩ := hrel
        have HBK := Lib.hid hbk
        have HV8 := Lib.hid hV
        have HO8 := Lib.hid hO
        have HRL := Lib.hid hrl
        have HRP := Lib.hid hrep
        have HE8 := Lib.hid hE
        have HS8 := Lib.hid hS
        have c5 := hV.2.1.cell (j := 5) rfl
        clear hbk hV hO hrl hrep hE hS
        by_cases hlt : m < r.kids.length
        · have hki : (m : Int) < (r.kids.length : Int) := by omega
          have HKL : Hid (m + 1 ≤ 1048576) := Lib.hid (by have := kids_len r; have := HB.out; omega)
          obtain ⟨k, hk⟩ : ∃ k, r.kids[m]? = some k := ⟨_, List.getElem?_eq_getElem hlt⟩
          obtain ⟨cc, hcc⟩ : ∃ cc, krows[m]? = some cc := ⟨_, List.getElem?_eq_getElem (by rw [HL.out]; exact hlt)⟩
          obtain ⟨qa, qc, rfl, -, -⟩ := (HK.out m k cc hk hcc).out
          have hsw := HS.out.ext (HW.out.trans HE8.out)
          obtain ⟨B, q, rfl, -⟩ := hsw.cells m 0 _ _ hcc rfl
          have hcellsAt : ∀ (j : Nat) (v : Value), (k.cells qa qc)[j]? = some v → wr.cell? ⟨B, q + m * 6 + j, none⟩ = some v := fun j v hj => by
            obtain ⟨b', o', e2, hw2⟩ := hsw.cells m j _ _ hcc hj
            cases e2
            exact hw2
          have HD : Hid (wr.cell? ⟨B, q + m * 6, none⟩ = some (.int .i64 k.op) ∧ wr.cell? ⟨B, q + m * 6 + 1, none⟩ = some (.int .i64 k.co) ∧ wr.cell? ⟨B, q + m * 6 + 2, none⟩ = some (.string k.nm) ∧ wr.cell? ⟨B, q + m * 6 + 3, none⟩ = some (.int .i64 k.n) ∧ wr.cell? ⟨B, q + m * 6 + 4, none⟩ = some (.int .i64 k.d) ∧ wr.cell? ⟨B, q + m * 6 + 5, none⟩ = some (.slice qa k.kids.length qc)) := Lib.hid ⟨hcellsAt 0 _ rfl, hcellsAt 1 _ rfl, hcellsAt 2 _ rfl, hcellsAt 3 _ rfl, hcellsAt 4 _ rfl, hcellsAt 5 _ rfl⟩
          have HKI := Lib.hid (HIH.out m k _ hk hcc)
          have HKB := Lib.hid (Nat.le_trans (kid_parts (List.mem_of_getElem? hk)) HB.out)
          have HTS := Lib.hid (all_snoc (f := fun k : Rt => (k.resT l).2) hk)
          have HKM := Lib.hid hk
          clear hk hcc hsw hcellsAt
          go_wp2_with fail
          have HCELL : Hid (∀ W, (RuleV W w.heap.size 29 39 [.slice ao l.length cap, v1, v2, v3, v4, v5, v6] [.int .i64 r.op, .int .i64 r.co, .string r.nm, .int .i64 r.n, .int .i64 r.d, .slice (some ⟨B, q, none⟩) r.kids.length kc] [.int .i64 0, .int .i64 0, .string ⟨#[]⟩, .int .i64 0, .int .i64 0, .slice none 0 0] ∧ Ext wr W) → W.cell? ⟨w.heap.size, 0, none⟩ = some (.slice ao l.length cap) ∧ W.cell? ⟨w.heap.size, 1, none⟩ = some v1 ∧ W.cell? ⟨w.heap.size, 2, none⟩ = some v2 ∧ W.cell? ⟨w.heap.size, 3, none⟩ = some v3 ∧ W.cell? ⟨w.heap.size, 4, none⟩ = some v4 ∧ W.cell? ⟨w.heap.size, 5, none⟩ = some v5 ∧ W.cell? ⟨w.heap.size, 6, none⟩ = some v6 ∧ W.cell? ⟨w.heap.size + 1, 5, none⟩ = some (.slice (some ⟨B, q, none⟩) r.kids.length kc) ∧ W.cell? ⟨B, q + m * 6, none⟩ = some (.int .i64 k.op) ∧ W.cell? ⟨B, q + m * 6 + 1, none⟩ = some (.int .i64 k.co) ∧ W.cell? ⟨B, q + m * 6 + 2, none⟩ = some (.string k.nm) ∧ W.cell? ⟨B, q + m * 6 + 3, none⟩ = some (.int .i64 k.n) ∧ W.cell? ⟨B, q + m * 6 + 4, none⟩ = some (.int .i64 k.d) ∧ W.cell? ⟨B, q + m * 6 + 5, none⟩ = some (.slice qa k.kids.length qc)) := Lib.hid fun W h => ⟨h.1.1.cell rfl, h.1.1.cell rfl, h.1.1.cell rfl, h.1.1.cell rfl, h.1.1.cell rfl, h.1.1.cell rfl, h.1.1.cell rfl, h.1.2.1.cell rfl, h.2.cell HD.out.1, h.2.cell HD.out.2.1, h.2.cell HD.out.2.2.1, h.2.cell HD.out.2.2.2.1, h.2.cell HD.out.2.2.2.2.1, h.2.cell HD.out.2.2.2.2.2⟩
          refine wp_region_held_drew (S := fun W => RuleV W w.heap.size 29 39 [.slice ao l.length cap, v1, v2, v3, v4, v5, v6] [.int .i64 r.op, .int .i64 r.co, .string r.nm, .int .i64 r.n, .int .i64 r.d, .slice (some ⟨B, q, none⟩) r.kids.length kc] [.int .i64 0, .int .i64 0, .string ⟨#[]⟩, .int .i64 0, .int .i64 0, .slice none 0 0] ∧ Ext wr W) (by kernel_rfl) ⟨HV8.out.kpC (Ext.refl _).drew.kpC, (Ext.refl _).drew⟩ (fun hHeld => ?_)
          refine wpAnyH_take (i := 0) (oi := ?oi104) (v := ?v104) ?hi104 (by kernel_rfl) (by kernel_rfl) (by kernel_rfl) ?hQ104 (Or.inl ⟨?hw104, ?hy104⟩) hHeld ?rest104
          case hi104 =>
            simp only [List.getElem?_toArray, List.getElem?_cons_zero] <;> rfl
          case hQ104 => exact fun _ _ _ h => h
          case hw104 => rfl
          case hy104 =>
            intro wS hSw
            obtain ⟨k0, k1, k2, k3, k4, k5, k6, y5, e0, e1, e2, e3, e4, e5⟩ := HCELL.out wS hSw
            go_simp
            first | done | with_reducible rfl | rfl
          simp only [Act.put, List.setIfInBounds_toArray, List.set_cons_zero, List.set_cons_succ]
          refine wpAnyH_take (i := 1) (oi := ?oi105) (v := ?v105) ?hi105 (by kernel_rfl) (by kernel_rfl) (by kernel_rfl) ?hQ105 (Or.inl ⟨?hw105, ?hy105⟩) hHeld ?rest105
          case hi105 =>
            simp only [List.getElem?_toArray, List.getElem?_cons_succ, List.getElem?_cons_zero] <;> rfl
          case hQ105 => exact fun _ _ _ h => h
          case hw105 => rfl
          case hy105 =>
            intro wS hSw
            obtain ⟨k0, k1, k2, k3, k4, k5, k6, y5, e0, e1, e2, e3, e4, e5⟩ := HCELL.out wS hSw
            go_simp
            first | done | with_reducible rfl | rfl
          simp only [Act.put, List.setIfInBounds_toArray, List.set_cons_zero, List.set_cons_succ]
          refine wpAnyH_take (i := 2) (oi := ?oi106) (v := ?v106) ?hi106 (by kernel_rfl) (by kernel_rfl) (by kernel_rfl) ?hQ106 (Or.inl ⟨?hw106, ?hy106⟩) hHeld ?rest106
          case hi106 =>
            simp only [List.getElem?_toArray, List.getElem?_cons_succ, List.getElem?_cons_zero] <;> rfl
          case hQ106 => exact fun _ _ _ h => h
          case hw106 => rfl
          case hy106 =>
            intro wS hSw
            obtain ⟨k0, k1, k2, k3, k4, k5, k6, y5, e0, e1, e2, e3, e4, e5⟩ := HCELL.out wS hSw
            go_simp
            first | done | with_reducible rfl | rfl
          simp only [Act.put, List.setIfInBounds_toArray, List.set_cons_zero, List.set_cons_succ]
          refine wpAnyH_take (i := 3) (oi := ?oi107) (v := ?v107) ?hi107 (by kernel_rfl) (by kernel_rfl) (by kernel_rfl) ?hQ107 (Or.inl ⟨?hw107, ?hy107⟩) hHeld ?rest107
          case hi107 =>
            simp only [List.getElem?_toArray, List.getElem?_cons_succ, List.getElem?_cons_zero] <;> rfl
          case hQ107 => exact fun _ _ _ h => h
          case hw107 => rfl
          case hy107 =>
            intro wS hSw
            obtain ⟨k0, k1, k2, k3, k4, k5, k6, y5, e0, e1, e2, e3, e4, e5⟩ := HCELL.out wS hSw
            go_simp
            first | done | with_reducible rfl | rfl
          simp only [Act.put, List.setIfInBounds_toArray, List.set_cons_zero, List.set_cons_succ]
          refine wpAnyH_take (i := 4) (oi := ?oi108) (v := ?v108) ?hi108 (by kernel_rfl) (by kernel_rfl) (by kernel_rfl) ?hQ108 (Or.inl ⟨?hw108, ?hy108⟩) hHeld ?rest108
          case hi108 =>
            simp only [List.getElem?_toArray, List.getElem?_cons_succ, List.getElem?_cons_zero] <;> rfl
          case hQ108 => exact fun _ _ _ h => h
          case hw108 => rfl
          case hy108 =>
            intro wS hSw
            obtain ⟨k0, k1, k2, k3, k4, k5, k6, y5, e0, e1, e2, e3, e4, e5⟩ := HCELL.out wS hSw
            go_simp
            first | done | with_reducible rfl | rfl
          simp only [Act.put, List.setIfInBounds_toArray, List.set_cons_zero, List.set_cons_succ]
          refine wpAnyH_take (i := 5) (oi := ?oi109) (v := ?v109) ?hi109 (by kernel_rfl) (by kernel_rfl) (by kernel_rfl) ?hQ109 (Or.inl ⟨?hw109, ?hy109⟩) hHeld ?rest109
          case hi109 =>
            simp only [List.getElem?_toArray, List.getElem?_cons_succ, List.getElem?_cons_zero] <;> rfl
          case hQ109 => exact fun _ _ _ h => h
          case hw109 => rfl
          case hy109 =>
            intro wS hSw
            obtain ⟨k0, k1, k2, k3, k4, k5, k6, y5, e0, e1, e2, e3, e4, e5⟩ := HCELL.out wS hSw
            go_simp
            first | done | with_reducible rfl | rfl
          simp only [Act.put, List.setIfInBounds_toArray, List.set_cons_zero, List.set_cons_succ]
          clear c5
          obtain ⟨x, hx⟩ : ∃ x, (k.resT l).1 = x := ⟨_, rfl⟩
          obtain ⟨xb, hxb⟩ : ∃ xb, (k.resT l).2 = xb := ⟨_, rfl⟩
          have HXX : Hid (k.resT l = (x, xb)) := Lib.hid (by rw [← hx, ← hxb])
          rw [hxb] at HTS
          clear hx hxb
          refine wpAnyH_ready (rs := [6, 10]) (by kernel_rfl) (by simp) ?_
          refine AllReadyH.cons rfl (fun K hK => ?_) (AllReadyH.cons rfl (fun K hK => ?_) AllReadyH.nil)
          · go_simp
            go_at_call 51
            refine (HKI.out ao cap v1 v2 v3 v4 v5 v6 _ (HW.out.trans (HE8.out.trans hHeld.2)) (HR.out.ext (HE8.out.trans hHeld.2)) HKB.out).mono ?_
            rw [HXX.out]
            rintro e w9 ⟨xa, xn, rfl, hN9, hE9⟩
            have HN9 := Lib.hid (hN9.mono hHeld.2.size)
            have HWS := Lib.hid (hHeld.2.trans hE9).size
            refine hK.out _ _ ⟨hHeld.1.kpC hE9.kpC, hHeld.2.trans hE9⟩ (fun hHeld => ?_)
            clear hK K hN9 hE9
            unfold Rt.cells
            try simp only []
            refine wpAnyH_take (i := 7) (oi := ?oi110) (v := ?v110) ?hi110 (by kernel_rfl) (by kernel_rfl) (by kernel_rfl) ?hQ110 (Or.inl ⟨?hw110, ?hy110⟩) hHeld ?rest110
            case hi110 =>
              simp only [List.getElem?_toArray, List.getElem?_cons_succ, List.getElem?_cons_zero] <;> rfl
            case hQ110 => exact fun _ _ _ h => h
            case hw110 => rfl
            case hy110 =>
              intro wS hSw
              obtain ⟨k0, k1, k2, k3, k4, k5, k6, y5, e0, e1, e2, e3, e4, e5⟩ := HCELL.out wS hSw
              go_simp
              first | done | with_reducible rfl | rfl
            simp only [Act.put, List.setIfInBounds_toArray, List.set_cons_zero, List.set_cons_succ]
            refine wpAnyH_take (i := 8) (oi := ?oi111) (v := ?v111) ?hi111 (by kernel_rfl) (by kernel_rfl) (by kernel_rfl) ?hQ111 (Or.inl ⟨?hw111, ?hy111⟩) hHeld ?rest111
            case hi111 =>
              simp only [List.getElem?_toArray, List.getElem?_cons_succ, List.getElem?_cons_zero] <;> rfl
            case hQ111 => exact fun _ _ _ h => h
            case hw111 => rfl
            case hy111 =>
              intro wS hSw
              obtain ⟨k0, k1, k2, k3, k4, k5, k6, y5, e0, e1, e2, e3, e4, e5⟩ := HCELL.out wS hSw
              go_simp
              first | done | with_reducible rfl | rfl
            simp only [Act.put, List.setIfInBounds_toArray, List.set_cons_zero, List.set_cons_succ]
            refine wpAnyH_take (i := 9) (oi := ?oi112) (v := ?v112) ?hi112 (by kernel_rfl) (by kernel_rfl) (by kernel_rfl) ?hQ112 (Or.inl ⟨?hw112, ?hy112⟩) hHeld ?rest112
            case hi112 =>
              simp only [List.getElem?_toArray, List.getElem?_cons_succ, List.getElem?_cons_zero] <;> rfl
            case hQ112 => exact fun _ _ _ h => h
            case hw112 => rfl
            case hy112 =>
              intro wS hSw
              obtain ⟨k0, k1, k2, k3, k4, k5, k6, y5, e0, e1, e2, e3, e4, e5⟩ := HCELL.out wS hSw
              go_simp
              first | done | with_reducible rfl | rfl
            simp only [Act.put, List.setIfInBounds_toArray, List.set_cons_zero, List.set_cons_succ]
            refine wpAnyH_ready (rs := [10]) (by kernel_rfl) (by simp) ?_
            refine AllReadyH.cons rfl (fun K hK => ?_) AllReadyH.nil
            go_simp
            have HROW : Hid (Row (w9.alloc (.cells #[.int .i64 0, .int .i64 0, .string ⟨#[]⟩, .int .i64 0, .int .i64 0, .slice none 0 0] 39)) w9.heap.size 39 [.int .i64 0, .int .i64 0, .string ⟨#[]⟩, .int .i64 0, .int .i64 0, .slice none 0 0]) := Lib.hid (by unfold Row; rw [heap_al, if_pos rfl])
            have HKP : Hid (∀ W : World, (∀ (k : Nat) (o : Obj), k ≠ w9.heap.size → (w9.alloc (.cells #[.int .i64 0, .int .i64 0, .string ⟨#[]⟩, .int .i64 0, .int .i64 0, .slice none 0 0] 39)).heap[k]? = some o → o.isCells = true → W.heap[k]? = some o) → RepN wr.heap.size W x (x.cells xa xn)) := Lib.hid fun W h => HN9.out.keep fun b o _ hb hc => h b o (by have := (Array.getElem?_eq_some_iff.1 hb).1; omega) (((Ext.refl w9).alloc (.cells #[.int .i64 0, .int .i64 0, .string ⟨#[]⟩, .int .i64 0, .int .i64 0, .slice none 0 0] 39)).kpC.2 b o hb hc) hc
            have HGW : Hid (wr.heap.size ≤ w9.heap.size) := HWS
            refine hK.out _ _ ⟨hHeld.1.kpC ((Ext.refl w9).alloc _).kpC, hHeld.2.alloc _⟩ (fun hHeld => ?_)
            clear hK K HN9
            try simp only [Act.put, List.setIfInBounds_toArray, List.set_cons_zero, List.set_cons_succ]
            generalize (w9.alloc (.cells #[.int .i64 0, .int .i64 0, .string ⟨#[]⟩, .int .i64 0, .int .i64 0, .slice none 0 0] 39)) = V at *
            generalize w9.heap.size = g at *
            refine wpAnyH_ready (rs := [11]) (by kernel_rfl) (by simp) ?_
            refine AllReadyH.cons rfl (fun K hK => ?_) AllReadyH.nil
            rw [if_pos (by rfl)]
            refine wp_store_mid _ _ _ rfl g 0 _ rfl rfl (HROW.out.there (Nat.le_refl _)) (by kernel_rfl) (by simp [Value.oneCell']) ?_
            have hgr := setCells_grown g [Value.int .i64 x.op, Value.int .i64 x.co, Value.string x.nm, Value.int .i64 x.n, Value.int .i64 x.d, Value.slice xa x.kids.length xn] V 0
            have hE11 : Ext wr (V.setCells g 0 [Value.int .i64 x.op, Value.int .i64 x.co, Value.string x.nm, Value.int .i64 x.n, Value.int .i64 x.d, Value.slice xa x.kids.length xn]) := Below.grown hHeld.2 hgr hHeld.2.size (fun y hy => by cases hy; exact HGW.out)
            have hR11 : Row (V.setCells g 0 [Value.int .i64 x.op, Value.int .i64 x.co, Value.string x.nm, Value.int .i64 x.n, Value.int .i64 x.d, Value.slice xa x.kids.length xn]) g 39 [Value.int .i64 x.op, Value.int .i64 x.co, Value.string x.nm, Value.int .i64 x.n, Value.int .i64 x.d, Value.slice xa x.kids.length xn] := HROW.out.set (vs := [Value.int .i64 x.op, Value.int .i64 x.co, Value.string x.nm, Value.int .i64 x.n, Value.int .i64 x.d, Value.slice xa x.kids.length xn]) (o := 0) (Nat.le_refl _)
            have hk11 : KpE g V (V.setCells g 0 [Value.int .i64 x.op, Value.int .i64 x.co, Value.string x.nm, Value.int .i64 x.n, Value.int .i64 x.d, Value.slice xa x.kids.length xn]) := grown_kpE hgr
            have hX11 : RepN wr.heap.size (V.setCells g 0 [Value.int .i64 x.op, Value.int .i64 x.co, Value.string x.nm, Value.int .i64 x.n, Value.int .i64 x.d, Value.slice xa x.kids.length xn]) x (x.cells xa xn) := HKP.out _ (fun k o hkg hk1 hk2 => hk11.2 k o hkg hk1 hk2)
            have hwg := (Array.getElem?_eq_some_iff.1 HV8.out.2.2).1
            refine hK.out _ _ ⟨hHeld.1.kpE hk11 (by have := HGW.out; omega), hE11⟩ (fun hHeld => ?_)
            clear hK K
            have HX11 := Lib.hid hX11
            have HR11 := Lib.hid hR11
            clear hgr hE11 hR11 hk11 hX11 HKP HROW
            generalize V.setCells g 0 [Value.int .i64 x.op, Value.int .i64 x.co, Value.string x.nm, Value.int .i64 x.n, Value.int .i64 x.d, Value.slice xa x.kids.length xn] = V2 at *
            try simp only [Act.put, List.setIfInBounds_toArray]
            refine wpAnyH_ready (rs := [12]) (by kernel_rfl) (by simp) ?_
            refine AllReadyH.cons rfl (fun K hK => ?_) AllReadyH.nil
            go_simp
            refine hK.out _ _ hHeld (fun hHeld => ?_)
            clear hK K
            try simp only [Act.put, List.setIfInBounds_toArray, List.set_cons_zero, List.set_cons_succ]
            refine wpAnyH_done (by kernel_rfl) ?_ _
            have HV11 := Lib.hid hHeld.1
            have HE11 := Lib.hid hHeld.2
            have HO11 := Lib.hid (ownsRow_ext HO8.out hHeld.2)
            clear hHeld hwg
            have x0 := HR11.out.cell (j := 0) rfl
            have x1 := HR11.out.cell (j := 1) rfl
            have x2 := HR11.out.cell (j := 2) rfl
            have x3 := HR11.out.cell (j := 3) rfl
            have x4 := HR11.out.cell (j := 4) rfl
            have x5 := HR11.out.cell (j := 5) rfl
            cases bk
            all_goals
              go_wp2_with (at_builtin; refine wpList_append_S rfl _ _ 37 37 rfl W5.heap.size 39 ir _ 6 72 Try.underlying37 HII.out.1 HII.out.2.1 HII.out.2.2.1 HII.out.2.2.2 rfl u7 _ _ rfl (ownsRow_ext HO11.out ((Ext.refl V2).alloc _)) _ 1 (x.cells xa xn) rfl (Src.ofOwn (own_row (cs := x.cells xa xn) (e := 39) (base := 0) rfl (Nat.zero_le _) rfl) Try.underlying37 (x.ones xa xn)) (by have := HKL.out; unfold maxLen; omega) (by have := HKL.out; omega) (by have := HS8.out; have := HE11.out.size; simp; omega) ?_; intro vo w6 ho6 hg6; have HO6 := Lib.hid ho6; have HG6 := Lib.hid hg6; clear ho6 hg6)
              have hE6 : Ext w w6 := Ext.own_step ((HE8.out.trans HE11.out).alloc _) HG6.out (ownsRow_rebase (ownsRow_ext HO11.out ((Ext.refl V2).alloc _)) (fun k hk => by have := ownsRow_blocks HO11.out k hk; have := HSW.out; omega))
              have hV6 : RuleV w6 w.heap.size 29 39 [.slice ao l.length cap, v1, v2, v3, v4, v5, v6] [.int .i64 r.op, .int .i64 r.co, .string r.nm, .int .i64 r.n, .int .i64 r.d, .slice (some ⟨B, q, none⟩) r.kids.length kc] [.int .i64 0, .int .i64 0, .string ⟨#[]⟩, .int .i64 0, .int .i64 0, .slice none 0 0] := RuleV.grows (HV11.out.kpC ((Ext.refl V2).alloc (.cells #[Value.int .i64 x.op, Value.int .i64 x.co, Value.string x.nm, Value.int .i64 x.n, Value.int .i64 x.d, Value.slice xa x.kids.length xn] 39)).kpC) HG6.out (fun k hk => by have := ownsRow_blocks HO11.out k hk; have := HSW.out; omega)
              have hF6 := rows_snoc (P := fun (a : Rt) b => Far vo.ownBlock w6 fun V => RepN W5.heap.size V (a.resT l).1 b) (q := x.cells xa xn) HKM.out HRL.out (fun i a b h1 h2 => ((HRP.out i a b h1 h2).ext (HE11.out.alloc (.cells #[Value.int .i64 x.op, Value.int .i64 x.co, Value.string x.nm, Value.int .i64 x.n, Value.int .i64 x.d, Value.slice xa x.kids.length xn] 39))).grow HG6.out) (by
                have h1 := (HX11.out.far (b := u7.ownBlock) (fun k hk => ownsRow_lt' HO8.out k hk)).mono (Q := fun V => RepN W5.heap.size V x (x.cells xa xn)) (fun V h => h.mono HS8.out)
                have h2 := (h1.ext ((Ext.refl V2).alloc (.cells #[Value.int .i64 x.op, Value.int .i64 x.co, Value.string x.nm, Value.int .i64 x.n, Value.int .i64 x.d, Value.slice xa x.kids.length xn] 39))).grow HG6.out
                rw [HXX.out]
                exact h2)
              have HF := Lib.hid (And.intro hE6 (And.intro hV6 hF6))
              clear hE6 hV6 hF6 x0 x1 x2 x3 x4 x5
              go_roundw
              case rel => exact ⟨m + 1, rows ++ [x.cells xa xn], _, rfl, by rw [HTS.out, ← Bool.and_assoc, ← HBK.out]; first | rfl | simp, by go_num, by omega, HF.out.2.1, by rw [List.flatten_append]; simpa using HO6.out, by rw [List.length_append, HRL.out]; rfl, HF.out.2.2, HF.out.1, Nat.le_trans HS8.out (Nat.le_trans HE11.out.size (Nat.le_trans ((Ext.refl V2).alloc (.cells #[Value.int .i64 x.op, Value.int .i64 x.co, Value.string x.nm, Value.int .i64 x.n, Value.int .i64 x.d, Value.slice xa x.kids.length xn] 39)).size HG6.out.by_.size))⟩
              case measure => simp [intOf] <;> omega
          · go_simp
            have HROW0 : Hid (Row (wr.alloc (.cells #[.int .i64 0, .int .i64 0, .string ⟨#[]⟩, .int .i64 0, .int .i64 0, .slice none 0 0] 39)).drew wr.heap.size 39 [.int .i64 0, .int .i64 0, .string ⟨#[]⟩, .int .i64 0, .int .i64 0, .slice none 0 0]) := Lib.hid (by
              unfold Row
              show (wr.alloc (.cells #[.int .i64 0, .int .i64 0, .string ⟨#[]⟩, .int .i64 0, .int .i64 0, .slice none 0 0] 39)).heap[wr.heap.size]? = _
              rw [heap_al, if_pos rfl])
            have HGV : Hid (wr.heap.size < (wr.alloc (.cells #[.int .i64 0, .int .i64 0, .string ⟨#[]⟩, .int .i64 0, .int .i64 0, .slice none 0 0] 39)).drew.heap.size) := Lib.hid (by simp)
            refine hK.out _ _ ⟨hHeld.1.kpC ((Ext.refl wr.drew).alloc _).kpC, hHeld.2.alloc _⟩ (fun hHeld => ?_)
            clear hK K
            try simp only [Act.put, List.setIfInBounds_toArray, List.set_cons_zero, List.set_cons_succ]
            obtain ⟨g, hgd⟩ : ∃ g, g = wr.heap.size := ⟨_, rfl⟩
            have HGW : Hid (wr.heap.size ≤ g) := Lib.hid (by omega)
            rw [← hgd] at HROW0 HGV
            rw [← hgd]
            clear hgd
            replace hHeld : RuleV (wr.alloc (.cells #[.int .i64 0, .int .i64 0, .string ⟨#[]⟩, .int .i64 0, .int .i64 0, .slice none 0 0] 39)).drew w.heap.size 29 39 [.slice ao l.length cap, v1, v2, v3, v4, v5, v6] [.int .i64 r.op, .int .i64 r.co, .string r.nm, .int .i64 r.n, .int .i64 r.d, .slice (some ⟨B, q, none⟩) r.kids.length kc] [.int .i64 0, .int .i64 0, .string ⟨#[]⟩, .int .i64 0, .int .i64 0, .slice none 0 0] ∧ Ext wr (wr.alloc (.cells #[.int .i64 0, .int .i64 0, .string ⟨#[]⟩, .int .i64 0, .int .i64 0, .slice none 0 0] 39)).drew := hHeld
            generalize (wr.alloc (.cells #[.int .i64 0, .int .i64 0, .string ⟨#[]⟩, .int .i64 0, .int .i64 0, .slice none 0 0] 39)).drew = V0 at *
            refine wpAnyH_ready (rs := [6]) (by kernel_rfl) (by simp) ?_
            refine AllReadyH.cons rfl (fun K hK => ?_) AllReadyH.nil
            go_simp
            go_at_call 51
            refine (HKI.out ao cap v1 v2 v3 v4 v5 v6 _ (HW.out.trans (HE8.out.trans hHeld.2)) (HR.out.ext (HE8.out.trans hHeld.2)) HKB.out).mono ?_
            rw [HXX.out]
            rintro e V ⟨xa, xn, rfl, hN9, hE9⟩
            have HKP : Hid (∀ W : World, (∀ (k : Nat) (o : Obj), k ≠ g → V.heap[k]? = some o → o.isCells = true → W.heap[k]? = some o) → RepN wr.heap.size W x (x.cells xa xn)) := Lib.hid fun W h => (hN9.keep fun b o hb h1 h2 => h b o (by have := HGV.out; omega) h1 h2).mono hHeld.2.size
            have HROW : Hid (Row V g 39 [.int .i64 0, .int .i64 0, .string ⟨#[]⟩, .int .i64 0, .int .i64 0, .slice none 0 0]) := Lib.hid (HROW0.out.kpC hE9.kpC)
            refine hK.out _ _ ⟨hHeld.1.kpC hE9.kpC, hHeld.2.trans hE9⟩ (fun hHeld => ?_)
            clear hK K hN9 hE9 HROW0
            unfold Rt.cells
            try simp only []
            refine wpAnyH_take (i := 7) (oi := ?oi113) (v := ?v113) ?hi113 (by kernel_rfl) (by kernel_rfl) (by kernel_rfl) ?hQ113 (Or.inl ⟨?hw113, ?hy113⟩) hHeld ?rest113
            case hi113 =>
              simp only [List.getElem?_toArray, List.getElem?_cons_succ, List.getElem?_cons_zero] <;> rfl
            case hQ113 => exact fun _ _ _ h => h
            case hw113 => rfl
            case hy113 =>
              intro wS hSw
              obtain ⟨k0, k1, k2, k3, k4, k5, k6, y5, e0, e1, e2, e3, e4, e5⟩ := HCELL.out wS hSw
              go_simp
              first | done | with_reducible rfl | rfl
            simp only [Act.put, List.setIfInBounds_toArray, List.set_cons_zero, List.set_cons_succ]
            refine wpAnyH_take (i := 8) (oi := ?oi114) (v := ?v114) ?hi114 (by kernel_rfl) (by kernel_rfl) (by kernel_rfl) ?hQ114 (Or.inl ⟨?hw114, ?hy114⟩) hHeld ?rest114
            case hi114 =>
              simp only [List.getElem?_toArray, List.getElem?_cons_succ, List.getElem?_cons_zero] <;> rfl
            case hQ114 => exact fun _ _ _ h => h
            case hw114 => rfl
            case hy114 =>
              intro wS hSw
              obtain ⟨k0, k1, k2, k3, k4, k5, k6, y5, e0, e1, e2, e3, e4, e5⟩ := HCELL.out wS hSw
              go_simp
              first | done | with_reducible rfl | rfl
            simp only [Act.put, List.setIfInBounds_toArray, List.set_cons_zero, List.set_cons_succ]
            refine wpAnyH_take (i := 9) (oi := ?oi115) (v := ?v115) ?hi115 (by kernel_rfl) (by kernel_rfl) (by kernel_rfl) ?hQ115 (Or.inl ⟨?hw115, ?hy115⟩) hHeld ?rest115
            case hi115 =>
              simp only [List.getElem?_toArray, List.getElem?_cons_succ, List.getElem?_cons_zero] <;> rfl
            case hQ115 => exact fun _ _ _ h => h
            case hw115 => rfl
            case hy115 =>
              intro wS hSw
              obtain ⟨k0, k1, k2, k3, k4, k5, k6, y5, e0, e1, e2, e3, e4, e5⟩ := HCELL.out wS hSw
              go_simp
              first | done | with_reducible rfl | rfl
            simp only [Act.put, List.setIfInBounds_toArray, List.set_cons_zero, List.set_cons_succ]
            refine wpAnyH_ready (rs := [11]) (by kernel_rfl) (by simp) ?_
            refine AllReadyH.cons rfl (fun K hK => ?_) AllReadyH.nil
            rw [if_pos (by rfl)]
            refine wp_store_mid _ _ _ rfl g 0 _ rfl rfl (HROW.out.there (Nat.le_refl _)) (by kernel_rfl) (by simp [Value.oneCell']) ?_
            have hgr := setCells_grown g [Value.int .i64 x.op, Value.int .i64 x.co, Value.string x.nm, Value.int .i64 x.n, Value.int .i64 x.d, Value.slice xa x.kids.length xn] V 0
            have hE11 : Ext wr (V.setCells g 0 [Value.int .i64 x.op, Value.int .i64 x.co, Value.string x.nm, Value.int .i64 x.n, Value.int .i64 x.d, Value.slice xa x.kids.length xn]) := Below.grown hHeld.2 hgr hHeld.2.size (fun y hy => by cases hy; exact HGW.out)
            have hR11 : Row (V.setCells g 0 [Value.int .i64 x.op, Value.int .i64 x.co, Value.string x.nm, Value.int .i64 x.n, Value.int .i64 x.d, Value.slice xa x.kids.length xn]) g 39 [Value.int .i64 x.op, Value.int .i64 x.co, Value.string x.nm, Value.int .i64 x.n, Value.int .i64 x.d, Value.slice xa x.kids.length xn] := HROW.out.set (vs := [Value.int .i64 x.op, Value.int .i64 x.co, Value.string x.nm, Value.int .i64 x.n, Value.int .i64 x.d, Value.slice xa x.kids.length xn]) (o := 0) (Nat.le_refl _)
            have hk11 : KpE g V (V.setCells g 0 [Value.int .i64 x.op, Value.int .i64 x.co, Value.string x.nm, Value.int .i64 x.n, Value.int .i64 x.d, Value.slice xa x.kids.length xn]) := grown_kpE hgr
            have hX11 : RepN wr.heap.size (V.setCells g 0 [Value.int .i64 x.op, Value.int .i64 x.co, Value.string x.nm, Value.int .i64 x.n, Value.int .i64 x.d, Value.slice xa x.kids.length xn]) x (x.cells xa xn) := HKP.out _ (fun k o hkg hk1 hk2 => hk11.2 k o hkg hk1 hk2)
            have hwg := (Array.getElem?_eq_some_iff.1 HV8.out.2.2).1
            refine hK.out _ _ ⟨hHeld.1.kpE hk11 (by have := HGW.out; omega), hE11⟩ (fun hHeld => ?_)
            clear hK K
            have HX11 := Lib.hid hX11
            have HR11 := Lib.hid hR11
            clear hgr hE11 hR11 hk11 hX11 HKP HROW
            generalize V.setCells g 0 [Value.int .i64 x.op, Value.int .i64 x.co, Value.string x.nm, Value.int .i64 x.n, Value.int .i64 x.d, Value.slice xa x.kids.length xn] = V2 at *
            try simp only [Act.put, List.setIfInBounds_toArray]
            refine wpAnyH_ready (rs := [12]) (by kernel_rfl) (by simp) ?_
            refine AllReadyH.cons rfl (fun K hK => ?_) AllReadyH.nil
            go_simp
            refine hK.out _ _ hHeld (fun hHeld => ?_)
            clear hK K
            try simp only [Act.put, List.setIfInBounds_toArray, List.set_cons_zero, List.set_cons_succ]
            refine wpAnyH_done (by kernel_rfl) ?_ _
            have HV11 := Lib.hid hHeld.1
            have HE11 := Lib.hid hHeld.2
            have HO11 := Lib.hid (ownsRow_ext HO8.out hHeld.2)
            clear hHeld hwg
            have x0 := HR11.out.cell (j := 0) rfl
            have x1 := HR11.out.cell (j := 1) rfl
            have x2 := HR11.out.cell (j := 2) rfl
            have x3 := HR11.out.cell (j := 3) rfl
            have x4 := HR11.out.cell (j := 4) rfl
            have x5 := HR11.out.cell (j := 5) rfl
            cases bk
            all_goals
              go_wp2_with (at_builtin; refine wpList_append_S rfl _ _ 37 37 rfl W5.heap.size 39 ir _ 6 72 Try.underlying37 HII.out.1 HII.out.2.1 HII.out.2.2.1 HII.out.2.2.2 rfl u7 _ _ rfl (ownsRow_ext HO11.out ((Ext.refl V2).alloc _)) _ 1 (x.cells xa xn) rfl (Src.ofOwn (own_row (cs := x.cells xa xn) (e := 39) (base := 0) rfl (Nat.zero_le _) rfl) Try.underlying37 (x.ones xa xn)) (by have := HKL.out; unfold maxLen; omega) (by have := HKL.out; omega) (by have := HS8.out; have := HE11.out.size; simp; omega) ?_; intro vo w6 ho6 hg6; have HO6 := Lib.hid ho6; have HG6 := Lib.hid hg6; clear ho6 hg6)
              have hE6 : Ext w w6 := Ext.own_step ((HE8.out.trans HE11.out).alloc _) HG6.out (ownsRow_rebase (ownsRow_ext HO11.out ((Ext.refl V2).alloc _)) (fun k hk => by have := ownsRow_blocks HO11.out k hk; have := HSW.out; omega))
              have hV6 : RuleV w6 w.heap.size 29 39 [.slice ao l.length cap, v1, v2, v3, v4, v5, v6] [.int .i64 r.op, .int .i64 r.co, .string r.nm, .int .i64 r.n, .int .i64 r.d, .slice (some ⟨B, q, none⟩) r.kids.length kc] [.int .i64 0, .int .i64 0, .string ⟨#[]⟩, .int .i64 0, .int .i64 0, .slice none 0 0] := RuleV.grows (HV11.out.kpC ((Ext.refl V2).alloc (.cells #[Value.int .i64 x.op, Value.int .i64 x.co, Value.string x.nm, Value.int .i64 x.n, Value.int .i64 x.d, Value.slice xa x.kids.length xn] 39)).kpC) HG6.out (fun k hk => by have := ownsRow_blocks HO11.out k hk; have := HSW.out; omega)
              have hF6 := rows_snoc (P := fun (a : Rt) b => Far vo.ownBlock w6 fun V => RepN W5.heap.size V (a.resT l).1 b) (q := x.cells xa xn) HKM.out HRL.out (fun i a b h1 h2 => ((HRP.out i a b h1 h2).ext (HE11.out.alloc (.cells #[Value.int .i64 x.op, Value.int .i64 x.co, Value.string x.nm, Value.int .i64 x.n, Value.int .i64 x.d, Value.slice xa x.kids.length xn] 39))).grow HG6.out) (by
                have h1 := (HX11.out.far (b := u7.ownBlock) (fun k hk => ownsRow_lt' HO8.out k hk)).mono (Q := fun V => RepN W5.heap.size V x (x.cells xa xn)) (fun V h => h.mono HS8.out)
                have h2 := (h1.ext ((Ext.refl V2).alloc (.cells #[Value.int .i64 x.op, Value.int .i64 x.co, Value.string x.nm, Value.int .i64 x.n, Value.int .i64 x.d, Value.slice xa x.kids.length xn] 39))).grow HG6.out
                rw [HXX.out]
                exact h2)
              have HF := Lib.hid (And.intro hE6 (And.intro hV6 hF6))
              clear hE6 hV6 hF6 x0 x1 x2 x3 x4 x5
              go_roundw
              case rel => exact ⟨m + 1, rows ++ [x.cells xa xn], _, rfl, by rw [HTS.out, ← Bool.and_assoc, ← HBK.out]; first | rfl | simp, by go_num, by omega, HF.out.2.1, by rw [List.flatten_append]; simpa using HO6.out, by rw [List.length_append, HRL.out]; rfl, HF.out.2.2, HF.out.1, Nat.le_trans HS8.out (Nat.le_trans HE11.out.size (Nat.le_trans ((Ext.refl V2).alloc (.cells #[Value.int .i64 x.op, Value.int .i64 x.co, Value.string x.nm, Value.int .i64 x.n, Value.int .i64 x.d, Value.slice xa x.kids.length xn] 39)).size HG6.out.by_.size))⟩
              case measure => simp [intOf] <;> omega
        · have hki : ¬ (m : Int) < (r.kids.length : Int) := by omega
          obtain rfl : m = r.kids.length := by omega
          rw [List.take_length] at HBK HRP
          obtain ⟨a2, c2, rfl⟩ := ownsRow_slice HO8.out
          have HV9 := Lib.hid (HV8.out.put 5 (.slice a2 r.kids.length c2))
          have HO9 := Lib.hid (own_far (q := ⟨w.heap.size + 1, 5, none⟩) (u := .slice a2 r.kids.length c2) HO8.out (by have := HSW.out; show w.heap.size + 1 < W5.heap.size; omega))
          have HRP9 : Hid (∀ (i : Nat) (x : Rt) (q : List Value), r.kids[i]? = some x → rows[i]? = some q → RepN W5.heap.size (wr.setCell ⟨w.heap.size + 1, 5, none⟩ (.slice a2 r.kids.length c2)) (x.resT l).1 q) := Lib.hid fun i x q h1 h2 => (HRP.out i x q h1 h2).now.kpE (kpE_set5 wr (w.heap.size + 1) 5 _) (by have := HSW.out; omega)
          have HE9 := Lib.hid (HE8.out.setCell (p := ⟨w.heap.size + 1, 5, none⟩) (by show w.heap.size ≤ w.heap.size + 1; omega) (.slice a2 r.kids.length c2))
          have y5 := HV8.out.2.1.cell (j := 5) rfl
          have z5 := HV8.out.2.1.froz 5
          clear c5
          try clear d0
          have y0 := HV8.out.2.1.cell (j := 0) rfl
          have y1 := HV8.out.2.1.cell (j := 1) rfl
          have y2 := HV8.out.2.1.cell (j := 2) rfl
          have y3 := HV8.out.2.1.cell (j := 3) rfl
          have y4 := HV8.out.2.1.cell (j := 4) rfl
          have q0 := HV8.out.2.2.cell (j := 0) rfl
          have f0 := HV8.out.2.2.froz 0
          have q1 := HV8.out.2.2.cell (j := 1) rfl
          have f1 := HV8.out.2.2.froz 1
          have q2 := HV8.out.2.2.cell (j := 2) rfl
          have f2 := HV8.out.2.2.froz 2
          have q3 := HV8.out.2.2.cell (j := 3) rfl
          have f3 := HV8.out.2.2.froz 3
          have q4 := HV8.out.2.2.cell (j := 4) rfl
          have f4 := HV8.out.2.2.froz 4
          have q5 := HV8.out.2.2.cell (j := 5) rfl
          have f5 := HV8.out.2.2.froz 5
          go_wp2_with fail
          replace HV9 : Hid (RuleV (wr.setCell ⟨w.heap.size + 1, 5, none⟩ (.slice a2 r.kids.length c2)) w.heap.size 29 39 [.slice ao l.length cap, v1, v2, v3, v4, v5, v6] [.int .i64 r.op, .int .i64 r.co, .string r.nm, .int .i64 r.n, .int .i64 r.d, .slice a2 r.kids.length c2] [.int .i64 0, .int .i64 0, .string ⟨#[]⟩, .int .i64 0, .int .i64 0, .slice none 0 0]) := HV9
          have hIDW : wr.setCell ⟨w.heap.size + 1, 5, none⟩ (.slice a2 r.kids.length c2) = wr.setCell ⟨w.heap.size + 1, 5, none⟩ (.slice a2 r.kids.length c2) := rfl
          clear hIDW y0 y1 y2 y3 y4 y5 z5 q0 q1 q2 q3 q4 q5 f0 f1 f2 f3 f4 f5
          generalize wr.setCell ⟨w.heap.size + 1, 5, none⟩ (.slice a2 r.kids.length c2) = V9 at *
          obtain ⟨Wf, hWf⟩ : ∃ Wf, V9.setCells (w.heap.size + 2) 0 [Value.int .i64 r.op, Value.int .i64 r.co, Value.string r.nm, Value.int .i64 r.n, Value.int .i64 r.d, Value.slice a2 r.kids.length c2] = Wf := ⟨_, rfl⟩
          have hgr := setCells_grown (w.heap.size + 2) [Value.int .i64 r.op, Value.int .i64 r.co, Value.string r.nm, Value.int .i64 r.n, Value.int .i64 r.d, Value.slice a2 r.kids.length c2] V9 0
          have hrow : Row (V9.setCells (w.heap.size + 2) 0 [Value.int .i64 r.op, Value.int .i64 r.co, Value.string r.nm, Value.int .i64 r.n, Value.int .i64 r.d, Value.slice a2 r.kids.length c2]) (w.heap.size + 2) 39 [Value.int .i64 r.op, Value.int .i64 r.co, Value.string r.nm, Value.int .i64 r.n, Value.int .i64 r.d, Value.slice a2 r.kids.length c2] := HV9.out.2.2.set (vs := [Value.int .i64 r.op, Value.int .i64 r.co, Value.string r.nm, Value.int .i64 r.n, Value.int .i64 r.d, Value.slice a2 r.kids.length c2]) (o := 0) (Nat.le_refl _)
          rw [hWf] at hgr hrow
          rw [show ((((((V9.setCell ⟨w.heap.size + 1 + 1, 0, none⟩ (.int .i64 r.op)).setCell ⟨w.heap.size + 1 + 1, 1, none⟩ (.int .i64 r.co)).setCell ⟨w.heap.size + 1 + 1, 2, none⟩ (.string r.nm)).setCell ⟨w.heap.size + 1 + 1, 3, none⟩ (.int .i64 r.n)).setCell ⟨w.heap.size + 1 + 1, 4, none⟩ (.int .i64 r.d)).setCell ⟨w.heap.size + 1 + 1, 5, none⟩ (.slice a2 r.kids.length c2)) = Wf from hWf]
          have hke := grown_kpE hgr
          have hE : Ext w Wf := Below.grown HE9.out hgr HE9.out.size (fun x hx => by cases hx; omega)
          have e0 := hrow.cell (j := 0) rfl
          have e1 := hrow.cell (j := 1) rfl
          have e2 := hrow.cell (j := 2) rfl
          have e3 := hrow.cell (j := 3) rfl
          have e4 := hrow.cell (j := 4) rfl
          have e5 := hrow.cell (j := 5) rfl
          have hkm : (r.kids.map fun k => (k.resT l).1).length = r.kids.length := List.length_map _
          have hcx : (r.with r.co (r.kids.map fun k => (k.resT l).1)).cells a2 c2 = [Value.int .i64 r.op, Value.int .i64 r.co, Value.string r.nm, Value.int .i64 r.n, Value.int .i64 r.d, Value.slice a2 r.kids.length c2] := by
            show [Value.int .i64 r.op, Value.int .i64 r.co, Value.string r.nm, Value.int .i64 r.n, Value.int .i64 r.d, Value.slice a2 (r.kids.map fun k => (k.resT l).1).length c2] = _
            rw [hkm]
          obtain ⟨ax, cx, ex, hsl, hfar⟩ := SL.of_own (own_kpE HO9.out hke (by have := HSW.out; omega)) (fun q hq => by
            obtain ⟨i, hi⟩ := List.getElem?_of_mem hq
            have hil := (List.getElem?_eq_some_iff.1 hi).1
            obtain ⟨x, hx⟩ : ∃ x, r.kids[i]? = some x := ⟨_, List.getElem?_eq_getElem (by rw [← HRL.out]; exact hil)⟩
            exact (HRP9.out i x q hx hi).len) HRL.out
          cases ex
          have hrep : RepN w.heap.size Wf (r.with r.co (r.kids.map fun k => (k.resT l).1)) ((r.with r.co (r.kids.map fun k => (k.resT l).1)).cells a2 c2) := RepN.mk (r.with r.co (r.kids.map fun k => (k.resT l).1)) a2 c2 rows hsl (by rw [HRL.out]; exact hkm.symm) (fun i x q hx hq => by
            obtain ⟨x0, hx0, rfl⟩ := getElem?_map_some' hx
            exact ((HRP9.out i x0 q hx0 hq).kpE hke (by have := HSW.out; omega)).mono (by have := HSW.out; omega)) ⟨HOK.out.1, numT_ok HN.out HOK.out HR.out.oks, HOK.out.2.2.1, HOK.out.2.2.2⟩ (fun a ha _ => by
              have h1 : W5.heap.size ≤ a.block := by
                rw [ha] at HO9
                exact ownsRow_blocks HO9.out a.block rfl
              have h2 := HSW.out
              omega)
          rw [Rt.resT_eq, HN.out]
          refine ⟨rfl, .tuple #[.agg #[Value.int .i64 r.op, Value.int .i64 r.co, Value.string r.nm, Value.int .i64 r.n, Value.int .i64 r.d, Value.slice a2 r.kids.length c2], .bool bk], by simp [results, Try.results51, go_sem, e0, e1, e2, e3, e4, e5], ⟨a2, c2, by rw [hcx, HBK.out], hrep, hE⟩⟩
end Go.Proofs.Ytimigpfoflilcaa
