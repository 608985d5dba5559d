/- Waiting: First, of the program and of the reference. -/
import Derived.Test.YtbhpeecebcihkaaWD
namespace Go.Sz
open Go.RowKit
/-- a variable that holds a wait -/
structure BoxW (w : World) (B : Nat) (o : Wt) : Prop where
  c0 : w.cell? ⟨B, 0, none⟩ = some (.int .i64 o.s)
  c1 : w.cell? ⟨B, 1, none⟩ = some (.int .i64 o.a)
  c2 : w.cell? ⟨B, 2, none⟩ = some (.int .i64 o.b)
  c3 : w.cell? ⟨B, 3, none⟩ = some (.int .i64 o.k)
  c4 : w.cell? ⟨B, 4, none⟩ = some (.int .i64 o.t)
  fz : ∀ i, w.frozen? ⟨B, i, none⟩ = false
theorem BoxW.lt {w : World} {B : Nat} {o : Wt} (h : BoxW w B o) : B < w.heap.size := World.block_lt_of_cell? _ _ h.c0
theorem BoxW.new (w : World) (o : Wt) (t : TypeId) (g : Nat) (hg : w.heap.size = g) : BoxW (w.alloc (.cells #[.int .i64 o.s, .int .i64 o.a, .int .i64 o.b, .int .i64 o.k, .int .i64 o.t] t)) g o := by subst hg; exact ⟨by simp, by simp, by simp, by simp, by simp, fun i => by simp⟩
theorem BoxW.keep {w w' : World} {B : Nat} {o : Wt} (h : BoxW w B o) (hk : w'.heap[B]? = w.heap[B]?) : BoxW w' B o :=
  ⟨by simp only [World.cell?, hk]; exact h.c0, by simp only [World.cell?, hk]; exact h.c1, by simp only [World.cell?, hk]; exact h.c2, by simp only [World.cell?, hk]; exact h.c3, by simp only [World.cell?, hk]; exact h.c4, fun i => by simp only [World.frozen?, hk]; exact h.fz i⟩
theorem BoxW.ext {w w' : World} {B : Nat} {o : Wt} (h : BoxW w B o) (hE : Ext w w') : BoxW w' B o := h.keep (hE.block B h.lt)
def set5 (w : World) (B : Nat) (o : Wt) : World := ((((w.setCell ⟨B, 0, none⟩ (.int .i64 o.s)).setCell ⟨B, 1, none⟩ (.int .i64 o.a)).setCell ⟨B, 2, none⟩ (.int .i64 o.b)).setCell ⟨B, 3, none⟩ (.int .i64 o.k)).setCell ⟨B, 4, none⟩ (.int .i64 o.t)
theorem cell_same {w : World} {p : Addr} {u v : Value} (h : w.cell? p = some v) : (w.setCell p u).cell? p = some u := World.cell?_setCell_same' _ _ _ (by rw [h]; rfl)
theorem BoxW.set {w : World} {B : Nat} {o : Wt} (h : BoxW w B o) (p : Wt) : BoxW (set5 w B p) B p :=
  ⟨((World.cell?_setCell_other _ _ _ _ (by simp)).trans ((World.cell?_setCell_other _ _ _ _ (by simp)).trans ((World.cell?_setCell_other _ _ _ _ (by simp)).trans ((World.cell?_setCell_other _ _ _ _ (by simp)).trans (cell_same h.c0))))), ((World.cell?_setCell_other _ _ _ _ (by simp)).trans ((World.cell?_setCell_other _ _ _ _ (by simp)).trans ((World.cell?_setCell_other _ _ _ _ (by simp)).trans (cell_same ((World.cell?_setCell_other _ _ _ _ (by simp)).trans h.c1))))), ((World.cell?_setCell_other _ _ _ _ (by simp)).trans ((World.cell?_setCell_other _ _ _ _ (by simp)).trans (cell_same ((World.cell?_setCell_other _ _ _ _ (by simp)).trans ((World.cell?_setCell_other _ _ _ _ (by simp)).trans h.c2))))), ((World.cell?_setCell_other _ _ _ _ (by simp)).trans (cell_same ((World.cell?_setCell_other _ _ _ _ (by simp)).trans ((World.cell?_setCell_other _ _ _ _ (by simp)).trans ((World.cell?_setCell_other _ _ _ _ (by simp)).trans h.c3))))), (cell_same ((World.cell?_setCell_other _ _ _ _ (by simp)).trans ((World.cell?_setCell_other _ _ _ _ (by simp)).trans ((World.cell?_setCell_other _ _ _ _ (by simp)).trans ((World.cell?_setCell_other _ _ _ _ (by simp)).trans h.c4))))), fun i => by unfold set5; simpa using h.fz i⟩
theorem ext_set5 {w W : World} {B : Nat} (h : Ext w W) (hB : w.heap.size ≤ B) (o : Wt) : Ext w (set5 W B o) := ((((h.setCell hB _).setCell hB _).setCell hB _).setCell hB _).setCell hB _
theorem cell_set5 {w : World} {B C i : Nat} {v : Value} (o : Wt) (hne : C ≠ B) (h : w.cell? ⟨C, i, none⟩ = some v) : (set5 w B o).cell? ⟨C, i, none⟩ = some v := by
  have hn : ∀ (w : World) (j : Nat) (u : Value), (w.setCell ⟨B, j, none⟩ u).cell? ⟨C, i, none⟩ = w.cell? ⟨C, i, none⟩ := fun w j u => World.cell?_setCell_other _ _ _ _ (by simp [hne])
  unfold set5
  rw [hn, hn, hn, hn, hn, h]
/-- a wait, and whether there is one -/
def RetF (r : Wt × Bool) (w : World) (e : Ending) (w' : World) : Prop := e = .returned (.tuple #[.agg r.1.enc.toArray, .bool r.2]) ∧ Ext w w'
theorem stepF_no {a b : Int} {st : Wt × Bool} {x : Wt} (h : (x.a == a && x.b == b) = false) : stepF a b st x = st := by unfold stepF; rw [h]; rfl
theorem stepF_first {a b : Int} {st : Wt × Bool} {x : Wt} (h : (x.a == a && x.b == b) = true) (h2 : st.2 = false) : stepF a b st x = (x, true) := by unfold stepF; rw [h, h2]; rfl
theorem stepF_less {a b : Int} {st : Wt × Bool} {x : Wt} (h : (x.a == a && x.b == b) = true) (h2 : st.2 = true) (h3 : cmpW x st.1 < 0) : stepF a b st x = (x, true) := by unfold stepF; rw [h, h2, decide_eq_true h3]; rfl
theorem stepF_more {a b : Int} {st : Wt × Bool} {x : Wt} (h : (x.a == a && x.b == b) = true) (h2 : st.2 = true) (h3 : ¬ cmpW x st.1 < 0) : stepF a b st x = st := by unfold stepF; rw [h, h2, decide_eq_false h3]; rfl
end Go.Sz
namespace Go.Proofs.Ytbhpeecebcihkaa
open Go.RowKit Go.Sz
set_option maxRecDepth 100000 in
set_option maxHeartbeats 6400000 in
theorem first_any (l : List Wt) (a b : Int) (ao : Option Addr) (cap : Nat) (w : World) (h : RepW w ao cap l) : Calls Try.prog 19 #[.slice ao l.length cap, .agg #[.int .i64 a, .int .i64 b]] w (RetF (firstW l a b) w) := by
  have HL := Lib.hid h
  have hs1 := h.max
  have hX0 : Ext w ((w.alloc (.cells #[.int .i64 a, .int .i64 b] 24)).alloc (.cells #[.int .i64 0, .int .i64 0, .int .i64 0, .int .i64 0, .int .i64 0] 26)) := ((Ext.refl w).alloc _).alloc _
  have hbx : BoxW ((w.alloc (.cells #[.int .i64 a, .int .i64 b] 24)).alloc (.cells #[.int .i64 0, .int .i64 0, .int .i64 0, .int .i64 0, .int .i64 0] 26)) (w.heap.size + 1) w0 := BoxW.new _ w0 _ _ (by simp)
  have d0 : ((w.alloc (.cells #[.int .i64 a, .int .i64 b] 24)).alloc (.cells #[.int .i64 0, .int .i64 0, .int .i64 0, .int .i64 0, .int .i64 0] 26)).cell? ⟨w.heap.size, 0, none⟩ = some (.int .i64 a) := by simp
  have d1 : ((w.alloc (.cells #[.int .i64 a, .int .i64 b] 24)).alloc (.cells #[.int .i64 0, .int .i64 0, .int .i64 0, .int .i64 0, .int .i64 0] 26)).cell? ⟨w.heap.size, 1, none⟩ = some (.int .i64 b) := by simp
  have HS := Lib.hid (And.intro hbx (And.intro d0 (And.intro d1 hX0)))
  clear h hX0 hbx d0 d1
  go_enter Try.func19, Try.ntmps19
  go_wp2_with fail
  generalize ((w.alloc (.cells #[.int .i64 a, .int .i64 b] 24)).alloc (.cells #[.int .i64 0, .int .i64 0, .int .i64 0, .int .i64 0, .int .i64 0] 26)) = wz at *
  obtain ⟨B, hB⟩ : ∃ B, w.heap.size = B := ⟨_, rfl⟩
  rw [hB] at HS ⊢
  have HB := Lib.hid hB
  clear hB
  go_loopw [5, 10] (fun okv iv wr => ∃ k : Nat, ∃ st, iv = .int .i64 k ∧ k ≤ l.length ∧ st = firstW (l.take k) a b ∧ okv = .bool st.2 ∧ BoxW wr (B + 1) st.1 ∧ wr.cell? ⟨B, 0, none⟩ = some (.int .i64 a) ∧ wr.cell? ⟨B, 1, none⟩ = some (.int .i64 b) ∧ Ext w wr) (fun _ iv _ => l.length - (intOf iv).toNat)
  case atStart => exact ⟨0, (w0, false), rfl, by omega, rfl, rfl, HS.out.1, HS.out.2.1, HS.out.2.2.1, HS.out.2.2.2⟩
  case round =>
    obtain ⟨k, st, rfl, hk, hst, rfl, hbx, d0, d1, hE⟩ := hrel
    have HST := Lib.hid hst
    have HBX := Lib.hid hbx
    have HE := Lib.hid hE
    have HDD := Lib.hid (And.intro d0 d1)
    clear hst hbx d0 d1 hE
    by_cases hlt : k < l.length
    · have hki : (k : Int) < (l.length : Int) := by omega
      obtain ⟨bb, o, rfl, c0, c1, c2, c3, c4⟩ := w_cells HL.out HE.out hlt
      have HTK := Lib.hid (firstW_take hlt a b)
      generalize l[k] = x at *
      have hX : Ext wr (wr.alloc (.cells #[.int .i64 x.s, .int .i64 x.a, .int .i64 x.b, .int .i64 x.k, .int .i64 x.t] 26)) := (Ext.refl wr).alloc _
      obtain ⟨b0, b1, b2, b3, b4, bf⟩ := HBX.out.ext hX
      have bf0 := bf 0
      have bf1 := bf 1
      have bf2 := bf 2
      have bf3 := bf 3
      have bf4 := bf 4
      have d0 := hX.cell HDD.out.1
      have d1 := hX.cell HDD.out.2
      have HX := Lib.hid hX
      have he := eqB x.a x.b a b
      clear hX bf
      cases h1 : (x.a == a && x.b == b) with
      | false =>
        rw [h1] at he
        have HN : Hid (stepF a b st x = st) := Lib.hid (stepF_no h1)
        clear h1
        go_wp2_with fail
        go_roundw
        case rel => exact ⟨k + 1, st, by go_num, by omega, by rw [HTK.out, ← HST.out, HN.out], rfl, HBX.out.ext HX.out, HX.out.cell HDD.out.1, HX.out.cell HDD.out.2, HE.out.trans HX.out⟩
        case measure => simp [intOf] <;> omega
      | true =>
        rw [h1] at he
        have H1 := Lib.hid h1
        clear h1
        obtain ⟨y, ok⟩ := st
        cases ok with
        | false =>
          have HN : Hid (stepF a b (y, false) x = (x, true)) := Lib.hid (stepF_first H1.out rfl)
          go_wp2_with fail
          go_roundw
          case rel => exact ⟨k + 1, (x, true), by go_num, by omega, by rw [HTK.out, ← HST.out, HN.out], rfl, (HBX.out.ext HX.out).set x, cell_set5 x (by omega) (HX.out.cell HDD.out.1), cell_set5 x (by omega) (HX.out.cell HDD.out.2), ext_set5 (HE.out.trans HX.out) (by rw [HB.out]; omega) x⟩
          case measure => simp [intOf] <;> omega
        | true =>
          try dsimp only at b0 b1 b2 b3 b4
          have HLS : Hid (cmpW x y < 0 → stepF a b (y, true) x = (x, true)) := Lib.hid fun h => stepF_less H1.out rfl h
          have HMO : Hid (¬ cmpW x y < 0 → stepF a b (y, true) x = (y, true)) := Lib.hid fun h => stepF_more H1.out rfl h
          have hx0 : (wr.alloc (.cells #[.int .i64 x.s, .int .i64 x.a, .int .i64 x.b, .int .i64 x.k, .int .i64 x.t] 26)).cell? ⟨wr.heap.size, 0, none⟩ = some (.int .i64 x.s) := by simp
          have hx1 : (wr.alloc (.cells #[.int .i64 x.s, .int .i64 x.a, .int .i64 x.b, .int .i64 x.k, .int .i64 x.t] 26)).cell? ⟨wr.heap.size, 1, none⟩ = some (.int .i64 x.a) := by simp
          have hx2 : (wr.alloc (.cells #[.int .i64 x.s, .int .i64 x.a, .int .i64 x.b, .int .i64 x.k, .int .i64 x.t] 26)).cell? ⟨wr.heap.size, 2, none⟩ = some (.int .i64 x.b) := by simp
          have hx3 : (wr.alloc (.cells #[.int .i64 x.s, .int .i64 x.a, .int .i64 x.b, .int .i64 x.k, .int .i64 x.t] 26)).cell? ⟨wr.heap.size, 3, none⟩ = some (.int .i64 x.k) := by simp
          have hx4 : (wr.alloc (.cells #[.int .i64 x.s, .int .i64 x.a, .int .i64 x.b, .int .i64 x.k, .int .i64 x.t] 26)).cell? ⟨wr.heap.size, 4, none⟩ = some (.int .i64 x.t) := by simp
          have HX5 := Lib.hid (And.intro hx0 (And.intro hx1 (And.intro hx2 (And.intro hx3 hx4))))
          clear hx0 hx1 hx2 hx3 hx4
          go_wp2_with fail
          clear b0 b1 b2 b3 b4 bf0 bf1 bf2 bf3 bf4 d0 d1 c0 c1 c2 c3 c4 he
          generalize (wr.alloc (.cells #[.int .i64 x.s, .int .i64 x.a, .int .i64 x.b, .int .i64 x.k, .int .i64 x.t] 26)) = w1 at *
          refine (compareW_any x y w1).mono ?_
          rintro e w3 ⟨rfl, hE3⟩
          obtain ⟨b0, b1, b2, b3, b4, bf⟩ := (HBX.out.ext HX.out).ext hE3
          try dsimp only at b0 b1 b2 b3 b4
          have bf0 := bf 0
          have bf1 := bf 1
          have bf2 := bf 2
          have bf3 := bf 3
          have bf4 := bf 4
          have hx0 := hE3.cell HX5.out.1
          have hx1 := hE3.cell HX5.out.2.1
          have hx2 := hE3.cell HX5.out.2.2.1
          have hx3 := hE3.cell HX5.out.2.2.2.1
          have hx4 := hE3.cell HX5.out.2.2.2.2
          have HE3 := Lib.hid (HX.out.trans hE3)
          clear hE3 bf
          by_cases hc : cmpW x y < 0
          · have HN := Lib.hid (HLS.out hc)
            go_wp2_with fail
            go_roundw
            case rel => exact ⟨k + 1, (x, true), by go_num, by omega, by rw [HTK.out, ← HST.out, HN.out], rfl, (HBX.out.ext HE3.out).set x, cell_set5 x (by omega) (HE3.out.cell HDD.out.1), cell_set5 x (by omega) (HE3.out.cell HDD.out.2), ext_set5 (HE.out.trans HE3.out) (by rw [HB.out]; omega) x⟩
            case measure => simp [intOf] <;> omega
          · have HN := Lib.hid (HMO.out (by omega))
            go_wp2_with fail
            go_roundw
            case rel => exact ⟨k + 1, (y, true), by go_num, by omega, by rw [HTK.out, ← HST.out, HN.out], rfl, HBX.out.ext HE3.out, HE3.out.cell HDD.out.1, HE3.out.cell HDD.out.2, HE.out.trans HE3.out⟩
            case measure => simp [intOf] <;> omega
    · have hki : ¬ (k : Int) < (l.length : Int) := by omega
      have HR : Hid (firstW l a b = st) := Lib.hid (by rw [HST.out, List.take_of_length_le (by omega)])
      obtain ⟨b0, b1, b2, b3, b4, bf⟩ := HBX.out
      have bf0 := bf 0
      have bf1 := bf 1
      have bf2 := bf 2
      have bf3 := bf 3
      have bf4 := bf 4
      clear bf
      go_wp2_with fail
      rw [setCell_id b0, setCell_id b1, setCell_id b2, setCell_id b3, setCell_id b4]
      (try simp only [Exit.inBlock, Exit.then])
      refine bodyPost_ret (v := .tuple #[.agg st.1.enc.toArray, .bool st.2]) (by simp [results, Try.results19, go_sem, b0, b1, b2, b3, b4]; try rfl) rfl ?_
      rw [HR.out]
      exact ⟨rfl, HE.out⟩
end Go.Proofs.Ytbhpeecebcihkaa
