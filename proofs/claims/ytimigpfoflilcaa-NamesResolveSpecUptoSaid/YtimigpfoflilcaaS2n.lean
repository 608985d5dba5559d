/- Names: sameRule and Same of the syntax. -/
import Derived.Test.YtimigpfoflilcaaS1n
namespace Go.Sz
open Go.RowKit
theorem Rt.ext_iff' {r s : Rt} : r = s ↔ r.op = s.op ∧ r.co = s.co ∧ r.nm = s.nm ∧ r.n = s.n ∧ r.d = s.d ∧ r.kids = s.kids := by
  cases r
  cases s
  simp [Rt.op, Rt.co, Rt.nm, Rt.n, Rt.d, Rt.kids]
theorem Cr.ext_iff' {r s : Cr} : r = s ↔ r.nm = s.nm ∧ r.nu = s.nu ∧ r.cr = s.cr ∧ r.rp = s.rp ∧ r.need = s.need ∧ r.bar = s.bar := by
  cases r
  cases s
  simp
theorem Rq.ext_iff' {r s : Rq} : r = s ↔ r.nm = s.nm ∧ r.cr = s.cr ∧ r.gr = s.gr ∧ r.ho = s.ho ∧ r.nms = s.nms ∧ r.fr = s.fr := by
  cases r
  cases s
  simp
theorem Pg.ext_iff' {r s : Pg} : r = s ↔ r.nm = s.nm ∧ r.nu = s.nu ∧ r.us = s.us ∧ r.ea = s.ea ∧ r.mn = s.mn ∧ r.md = s.md ∧ r.rq = s.rq := by
  cases r
  cases s
  simp
theorem Cat.ext_iff' {r s : Cat} : r = s ↔ r.cs = s.cs ∧ r.sm = s.sm ∧ r.pg = s.pg ∧ r.kl = s.kl ∧ r.fe = s.fe ∧ r.ho = s.ho ∧ r.cu = s.cu := by
  cases r
  cases s
  simp
end Go.Sz
namespace Go.Proofs.Ytimigpfoflilcaa
open Go.RowKit Go.Sz
/-- a bool that tells whether two things are the same -/
def RetEq (p : Prop) (w : World) : Ending → World → Prop := fun e w' => ∃ b, e = .returned (.bool b) ∧ (b = true ↔ p) ∧ Ext w w'
set_option maxRecDepth 100000 in
set_option maxHeartbeats 6400000 in
theorem eqfR_any (l l' : List Rt) (rows rows' : List (List Value)) (hrl : rows.length = l.length) (hrl' : rows'.length = l'.length) (hc : ∀ (i : Nat) x q, l[i]? = some x → rows[i]? = some q → ∃ a n, q = Rt.cells x a n) (hc' : ∀ (i : Nat) x q, l'[i]? = some x → rows'[i]? = some q → ∃ a n, q = Rt.cells x a n)
    (ao ao' : Option Addr) (cap cap' : Nat) (w : World) (h : SL w 6 ao cap rows) (h' : SL w 6 ao' cap' rows')
    (hf : ∀ (i : Nat) x y q q', l[i]? = some x → l'[i]? = some y → rows[i]? = some q → rows'[i]? = some q' → ∀ W, Ext w W → Calls Try.prog 54 #[.agg q.toArray, .agg q'.toArray] W (RetEq (x = y) W)) :
    Calls Try.prog 82 #[.slice ao l.length cap, .slice ao' l'.length cap', .func (Fn.func 54) #[] #[]] w (RetEq (l = l') w) := by
  have HL := Lib.hid h
  have HL' := Lib.hid h'
  have HF := Lib.hid hf
  have HRL := Lib.hid (And.intro hrl hrl')
  have HC := Lib.hid (And.intro hc hc')
  have hs1 : (l.length : Int) ≤ 9223372036854775807 := by have := h.max; have := h.le; omega
  have hs2 : (l'.length : Int) ≤ 9223372036854775807 := by have := h'.max; have := h'.le; omega
  clear h h' hf hrl hrl' hc hc'
  by_cases hl : l.length = l'.length
  · have g1 : ((l.length : Int) != (l'.length : Int)) = false := by simp; omega
    have HLE := Lib.hid hl
    clear hl
    go_enter Try.func82, Try.ntmps82
    go_wp2_with fail
    go_loopw [17] (fun iv wr => ∃ k : Nat, iv = .int .i64 k ∧ k ≤ l.length ∧ l.take k = l'.take k ∧ Ext w wr) (fun iv _ => l.length - (intOf iv).toNat)
    case atStart => exact ⟨0, rfl, by omega, by simp, Ext.refl _⟩
    case round =>
      obtain ⟨k, rfl, hk, ht, hB⟩ := hrel
      have HT := Lib.hid ht
      have HB := Lib.hid hB
      clear ht hB
      by_cases hlt : k < l.length
      · have hki : (k : Int) < (l.length : Int) := by omega
        have hk' : k < l'.length := by have := HLE.out; omega
        have hki' : (k : Int) < (l'.length : Int) := by omega
        obtain ⟨x, hx⟩ : ∃ x, l[k]? = some x := ⟨_, List.getElem?_eq_getElem hlt⟩
        obtain ⟨y, hy⟩ : ∃ y, l'[k]? = some y := ⟨_, List.getElem?_eq_getElem hk'⟩
        obtain ⟨q, hq⟩ : ∃ q, rows[k]? = some q := ⟨_, List.getElem?_eq_getElem (by rw [HRL.out.1]; exact hlt)⟩
        obtain ⟨q', hq'⟩ : ∃ q', rows'[k]? = some q' := ⟨_, List.getElem?_eq_getElem (by rw [HRL.out.2]; exact hk')⟩
        have hcall := fun W hW => HF.out k x y q q' hx hy hq hq' W hW
        obtain ⟨a1, n1, rfl⟩ := HC.out.1 k x q hx hq
        obtain ⟨a2, n2, rfl⟩ := HC.out.2 k y q' hy hq'
        obtain ⟨b, o, rfl, hc⟩ := (HL.out.ext HB.out).rowAt' hq (by simp [Rt.cells])
        obtain ⟨b', o', rfl, hd⟩ := (HL'.out.ext HB.out).rowAt' hq' (by simp [Rt.cells])
        have c0 : wr.cell? ⟨b, o + k * 6, none⟩ = some (.int .i64 x.op) := hc 0 _ rfl
        have c1 : wr.cell? ⟨b, o + k * 6 + 1, none⟩ = some (.int .i64 x.co) := hc 1 _ rfl
        have c2 : wr.cell? ⟨b, o + k * 6 + 2, none⟩ = some (.string x.nm) := hc 2 _ rfl
        have c3 : wr.cell? ⟨b, o + k * 6 + 3, none⟩ = some (.int .i64 x.n) := hc 3 _ rfl
        have c4 : wr.cell? ⟨b, o + k * 6 + 4, none⟩ = some (.int .i64 x.d) := hc 4 _ rfl
        have c5 : wr.cell? ⟨b, o + k * 6 + 5, none⟩ = some (.slice a1 x.kids.length n1) := hc 5 _ rfl
        have d0 : (wr.alloc (.cells #[.int .i64 x.op, .int .i64 x.co, .string x.nm, .int .i64 x.n, .int .i64 x.d, .slice a1 x.kids.length n1] 39)).cell? ⟨b', o' + k * 6, none⟩ = some (.int .i64 y.op) := ((Ext.refl wr).alloc _).cell (hd 0 _ rfl)
        have d1 : (wr.alloc (.cells #[.int .i64 x.op, .int .i64 x.co, .string x.nm, .int .i64 x.n, .int .i64 x.d, .slice a1 x.kids.length n1] 39)).cell? ⟨b', o' + k * 6 + 1, none⟩ = some (.int .i64 y.co) := ((Ext.refl wr).alloc _).cell (hd 1 _ rfl)
        have d2 : (wr.alloc (.cells #[.int .i64 x.op, .int .i64 x.co, .string x.nm, .int .i64 x.n, .int .i64 x.d, .slice a1 x.kids.length n1] 39)).cell? ⟨b', o' + k * 6 + 2, none⟩ = some (.string y.nm) := ((Ext.refl wr).alloc _).cell (hd 2 _ rfl)
        have d3 : (wr.alloc (.cells #[.int .i64 x.op, .int .i64 x.co, .string x.nm, .int .i64 x.n, .int .i64 x.d, .slice a1 x.kids.length n1] 39)).cell? ⟨b', o' + k * 6 + 3, none⟩ = some (.int .i64 y.n) := ((Ext.refl wr).alloc _).cell (hd 3 _ rfl)
        have d4 : (wr.alloc (.cells #[.int .i64 x.op, .int .i64 x.co, .string x.nm, .int .i64 x.n, .int .i64 x.d, .slice a1 x.kids.length n1] 39)).cell? ⟨b', o' + k * 6 + 4, none⟩ = some (.int .i64 y.d) := ((Ext.refl wr).alloc _).cell (hd 4 _ rfl)
        have d5 : (wr.alloc (.cells #[.int .i64 x.op, .int .i64 x.co, .string x.nm, .int .i64 x.n, .int .i64 x.d, .slice a1 x.kids.length n1] 39)).cell? ⟨b', o' + k * 6 + 5, none⟩ = some (.slice a2 y.kids.length n2) := ((Ext.refl wr).alloc _).cell (hd 5 _ rfl)
        have HNX := Lib.hid (take_eq_next hx hy HT.out)
        have HNE := Lib.hid (ne_at hx hy)
        have HCALL : Hid (Calls Try.prog 54 #[.agg #[.int .i64 x.op, .int .i64 x.co, .string x.nm, .int .i64 x.n, .int .i64 x.d, .slice a1 x.kids.length n1], .agg #[.int .i64 y.op, .int .i64 y.co, .string y.nm, .int .i64 y.n, .int .i64 y.d, .slice a2 y.kids.length n2]] ((wr.alloc (.cells #[.int .i64 x.op, .int .i64 x.co, .string x.nm, .int .i64 x.n, .int .i64 x.d, .slice a1 x.kids.length n1] 39)).alloc (.cells #[.int .i64 y.op, .int .i64 y.co, .string y.nm, .int .i64 y.n, .int .i64 y.d, .slice a2 y.kids.length n2] 39)) (RetEq (x = y) ((wr.alloc (.cells #[.int .i64 x.op, .int .i64 x.co, .string x.nm, .int .i64 x.n, .int .i64 x.d, .slice a1 x.kids.length n1] 39)).alloc (.cells #[.int .i64 y.op, .int .i64 y.co, .string y.nm, .int .i64 y.n, .int .i64 y.d, .slice a2 y.kids.length n2] 39)))) := Lib.hid (hcall _ ((HB.out.alloc _).alloc _))
        clear hx hy hc hd hcall hq hq'
        go_wp2_with fail
        refine HCALL.out.mono ?_
        rintro e w5 ⟨bb, rfl, hiff, hE5⟩
        have HIFF := Lib.hid hiff
        have HE5 := Lib.hid (((HB.out.alloc _).alloc _).trans hE5)
        clear hiff hE5 c0 d0 c1 d1 c2 d2 c3 d3 c4 d4 c5 d5
        cases bb with
        | true =>
          go_wp2_with fail
          go_roundw
          case rel => exact ⟨k + 1, by go_num, by omega, HNX.out (HIFF.out.1 (by simp)), HE5.out⟩
          case measure => simp [intOf] <;> omega
        | false =>
          go_wp2_with fail
          go_ret
          exact ⟨false, rfl, ⟨fun h => (by cases h), fun h => absurd h (HNE.out (fun e => by have := HIFF.out.2 e; cases this))⟩, HE5.out⟩
      · have hki : ¬ (k : Int) < (l.length : Int) := by omega
        have HEQ : Hid (l = l') := Lib.hid (by
          have h1 := HT.out
          rw [List.take_of_length_le (by omega), List.take_of_length_le (by have := HLE.out; omega)] at h1
          exact h1)
        go_wp2_with fail
        go_ret
        exact ⟨true, rfl, ⟨fun _ => HEQ.out, fun _ => rfl⟩, HB.out⟩
  · have g1 : ((l.length : Int) != (l'.length : Int)) = true := by simp; omega
    have HLE : Hid (l ≠ l') := Lib.hid fun e => hl (by rw [e])
    clear hl
    go_enter Try.func82, Try.ntmps82
    go_wp2_with fail
    go_ret
    exact ⟨false, rfl, ⟨fun h => (by cases h), fun h => absurd h HLE.out⟩, Ext.refl _⟩
set_option maxRecDepth 100000 in
set_option maxHeartbeats 6400000 in
theorem sameRule_any {w0 : World} {x : Rt} {q : List Value} (h : RepU w0 x q) : ∀ {y : Rt} {q' : List Value}, RepU w0 y q' → ∀ w, Ext w0 w → Calls Try.prog 54 #[.agg q.toArray, .agg q'.toArray] w (RetEq (x = y) w) := by
  induction h with
  | mk x a1 n1 rows hs hl hk ho ih =>
    intro y q' h' w hw
    cases h' with
    | mk _ a2 n2 rows' hs' hl' hk' ho' =>
    have hX : Ext w ((w.alloc (.cells #[.int .i64 x.op, .int .i64 x.co, .string x.nm, .int .i64 x.n, .int .i64 x.d, .slice a1 x.kids.length n1] 39)).alloc (.cells #[.int .i64 y.op, .int .i64 y.co, .string y.nm, .int .i64 y.n, .int .i64 y.d, .slice a2 y.kids.length n2] 39)) := ((Ext.refl w).alloc _).alloc _
    have HEF := Lib.hid (eqfR_any x.kids y.kids rows rows' hl hl' (fun i k c h1 h2 => by obtain ⟨a, n, e, -⟩ := (hk i k c h1 h2).out; exact ⟨a, n, e⟩) (fun i k c h1 h2 => by obtain ⟨a, n, e, -⟩ := (hk' i k c h1 h2).out; exact ⟨a, n, e⟩) a1 a2 n1 n2 ((w.alloc (.cells #[.int .i64 x.op, .int .i64 x.co, .string x.nm, .int .i64 x.n, .int .i64 x.d, .slice a1 x.kids.length n1] 39)).alloc (.cells #[.int .i64 y.op, .int .i64 y.co, .string y.nm, .int .i64 y.n, .int .i64 y.d, .slice a2 y.kids.length n2] 39)) (hs.ext (hw.trans hX)) (hs'.ext (hw.trans hX))
      (fun i k k2 c c2 h1 h2 h3 h4 W hW => ih i k c h1 h3 (hk' i k2 c2 h2 h4) W (hw.trans (hX.trans hW))))
    have HX := Lib.hid hX
    clear hX hs hl hk ho ih hs' hl' hk' ho' hw
    unfold Rt.cells
    cases hp0 : (x.op == y.op) with
    | false =>
      have HN0 := Lib.hid hp0
      go_enter Try.func54, Try.ntmps54
      go_wp2_with fail
      go_ret
      exact ⟨false, rfl, ⟨fun h => (by cases h), fun h => by have h1 := HN0.out; subst h; simp at h1⟩, HX.out⟩
    | true =>
      have HN0 := Lib.hid hp0
      cases hp1 : (x.co == y.co) with
      | false =>
        have HN1 := Lib.hid hp1
        go_enter Try.func54, Try.ntmps54
        go_wp2_with fail
        go_ret
        exact ⟨false, rfl, ⟨fun h => (by cases h), fun h => by have h1 := HN1.out; subst h; simp at h1⟩, HX.out⟩
      | true =>
        have HN1 := Lib.hid hp1
        cases hp2 : (x.nm.toList == y.nm.toList) with
        | false =>
          have HN2 := Lib.hid hp2
          go_enter Try.func54, Try.ntmps54
          go_wp2_with fail
          go_ret
          exact ⟨false, rfl, ⟨fun h => (by cases h), fun h => by have h1 := HN2.out; subst h; simp at h1⟩, HX.out⟩
        | true =>
          have HN2 := Lib.hid hp2
          cases hp3 : (x.n == y.n) with
          | false =>
            have HN3 := Lib.hid hp3
            go_enter Try.func54, Try.ntmps54
            go_wp2_with fail
            go_ret
            exact ⟨false, rfl, ⟨fun h => (by cases h), fun h => by have h1 := HN3.out; subst h; simp at h1⟩, HX.out⟩
          | true =>
            have HN3 := Lib.hid hp3
            cases hp4 : (x.d == y.d) with
            | false =>
              have HN4 := Lib.hid hp4
              go_enter Try.func54, Try.ntmps54
              go_wp2_with fail
              go_ret
              exact ⟨false, rfl, ⟨fun h => (by cases h), fun h => by have h1 := HN4.out; subst h; simp at h1⟩, HX.out⟩
            | true =>
              have HN4 := Lib.hid hp4
              go_enter Try.func54, Try.ntmps54
              go_wp2_with fail
              refine (HEF.out).mono ?_
              rintro e w5 ⟨bb, rfl, hiff, hE⟩
              have HI0 := Lib.hid hiff
              have HE0 := Lib.hid (HX.out.trans hE)
              clear hiff hE
              cases bb with
              | false =>
                go_wp2_with fail
                go_ret
                exact ⟨false, rfl, ⟨fun h => (by cases h), fun h => by have h1 := HI0.out.2 (by subst h; rfl); cases h1⟩, HE0.out⟩
              | true =>
                go_wp2_with fail
                go_ret
                exact ⟨true, rfl, ⟨fun _ => Rt.ext_iff'.2 ⟨eq_of_beq HN0.out, eq_of_beq HN1.out, toList_inj' (eq_of_beq HN2.out), eq_of_beq HN3.out, eq_of_beq HN4.out, HI0.out.1 (by simp)⟩, fun _ => rfl⟩, HE0.out⟩
set_option maxRecDepth 100000 in
set_option maxHeartbeats 6400000 in
theorem eqfQ_any (l l' : List Rq) (rows rows' : List (List Value)) (hrl : rows.length = l.length) (hrl' : rows'.length = l'.length) (hc : ∀ (i : Nat) x q, l[i]? = some x → rows[i]? = some q → ∃ a n b m, q = Rq.cells x a n b m) (hc' : ∀ (i : Nat) x q, l'[i]? = some x → rows'[i]? = some q → ∃ a n b m, q = Rq.cells x a n b m)
    (ao ao' : Option Addr) (cap cap' : Nat) (w : World) (h : SL w 6 ao cap rows) (h' : SL w 6 ao' cap' rows')
    (hf : ∀ (i : Nat) x y q q', l[i]? = some x → l'[i]? = some y → rows[i]? = some q → rows'[i]? = some q' → ∀ W, Ext w W → Calls Try.prog 55 #[.agg q.toArray, .agg q'.toArray] W (RetEq (x = y) W)) :
    Calls Try.prog 59 #[.slice ao l.length cap, .slice ao' l'.length cap', .func (Fn.func 55) #[] #[]] w (RetEq (l = l') w) := by
  have HL := Lib.hid h
  have HL' := Lib.hid h'
  have HF := Lib.hid hf
  have HRL := Lib.hid (And.intro hrl hrl')
  have HC := Lib.hid (And.intro hc hc')
  have hs1 : (l.length : Int) ≤ 9223372036854775807 := by have := h.max; have := h.le; omega
  have hs2 : (l'.length : Int) ≤ 9223372036854775807 := by have := h'.max; have := h'.le; omega
  clear h h' hf hrl hrl' hc hc'
  by_cases hl : l.length = l'.length
  · have g1 : ((l.length : Int) != (l'.length : Int)) = false := by simp; omega
    have HLE := Lib.hid hl
    clear hl
    go_enter Try.func59, Try.ntmps59
    go_wp2_with fail
    go_loopw [17] (fun iv wr => ∃ k : Nat, iv = .int .i64 k ∧ k ≤ l.length ∧ l.take k = l'.take k ∧ Ext w wr) (fun iv _ => l.length - (intOf iv).toNat)
    case atStart => exact ⟨0, rfl, by omega, by simp, Ext.refl _⟩
    case round =>
      obtain ⟨k, rfl, hk, ht, hB⟩ := hrel
      have HT := Lib.hid ht
      have HB := Lib.hid hB
      clear ht hB
      by_cases hlt : k < l.length
      · have hki : (k : Int) < (l.length : Int) := by omega
        have hk' : k < l'.length := by have := HLE.out; omega
        have hki' : (k : Int) < (l'.length : Int) := by omega
        obtain ⟨x, hx⟩ : ∃ x, l[k]? = some x := ⟨_, List.getElem?_eq_getElem hlt⟩
        obtain ⟨y, hy⟩ : ∃ y, l'[k]? = some y := ⟨_, List.getElem?_eq_getElem hk'⟩
        obtain ⟨q, hq⟩ : ∃ q, rows[k]? = some q := ⟨_, List.getElem?_eq_getElem (by rw [HRL.out.1]; exact hlt)⟩
        obtain ⟨q', hq'⟩ : ∃ q', rows'[k]? = some q' := ⟨_, List.getElem?_eq_getElem (by rw [HRL.out.2]; exact hk')⟩
        have hcall := fun W hW => HF.out k x y q q' hx hy hq hq' W hW
        obtain ⟨a1, n1, b1, m1, rfl⟩ := HC.out.1 k x q hx hq
        obtain ⟨a2, n2, b2, m2, rfl⟩ := HC.out.2 k y q' hy hq'
        obtain ⟨b, o, rfl, hc⟩ := (HL.out.ext HB.out).rowAt' hq (by simp [Rq.cells])
        obtain ⟨b', o', rfl, hd⟩ := (HL'.out.ext HB.out).rowAt' hq' (by simp [Rq.cells])
        have c0 : wr.cell? ⟨b, o + k * 6, none⟩ = some (.string x.nm) := hc 0 _ rfl
        have c1 : wr.cell? ⟨b, o + k * 6 + 1, none⟩ = some (.int .i64 x.cr) := hc 1 _ rfl
        have c2 : wr.cell? ⟨b, o + k * 6 + 2, none⟩ = some (.int .i64 x.gr) := hc 2 _ rfl
        have c3 : wr.cell? ⟨b, o + k * 6 + 3, none⟩ = some (.bool x.ho) := hc 3 _ rfl
        have c4 : wr.cell? ⟨b, o + k * 6 + 4, none⟩ = some (.slice a1 x.nms.length n1) := hc 4 _ rfl
        have c5 : wr.cell? ⟨b, o + k * 6 + 5, none⟩ = some (.slice b1 x.fr.length m1) := hc 5 _ rfl
        have d0 : (wr.alloc (.cells #[.string x.nm, .int .i64 x.cr, .int .i64 x.gr, .bool x.ho, .slice a1 x.nms.length n1, .slice b1 x.fr.length m1] 64)).cell? ⟨b', o' + k * 6, none⟩ = some (.string y.nm) := ((Ext.refl wr).alloc _).cell (hd 0 _ rfl)
        have d1 : (wr.alloc (.cells #[.string x.nm, .int .i64 x.cr, .int .i64 x.gr, .bool x.ho, .slice a1 x.nms.length n1, .slice b1 x.fr.length m1] 64)).cell? ⟨b', o' + k * 6 + 1, none⟩ = some (.int .i64 y.cr) := ((Ext.refl wr).alloc _).cell (hd 1 _ rfl)
        have d2 : (wr.alloc (.cells #[.string x.nm, .int .i64 x.cr, .int .i64 x.gr, .bool x.ho, .slice a1 x.nms.length n1, .slice b1 x.fr.length m1] 64)).cell? ⟨b', o' + k * 6 + 2, none⟩ = some (.int .i64 y.gr) := ((Ext.refl wr).alloc _).cell (hd 2 _ rfl)
        have d3 : (wr.alloc (.cells #[.string x.nm, .int .i64 x.cr, .int .i64 x.gr, .bool x.ho, .slice a1 x.nms.length n1, .slice b1 x.fr.length m1] 64)).cell? ⟨b', o' + k * 6 + 3, none⟩ = some (.bool y.ho) := ((Ext.refl wr).alloc _).cell (hd 3 _ rfl)
        have d4 : (wr.alloc (.cells #[.string x.nm, .int .i64 x.cr, .int .i64 x.gr, .bool x.ho, .slice a1 x.nms.length n1, .slice b1 x.fr.length m1] 64)).cell? ⟨b', o' + k * 6 + 4, none⟩ = some (.slice a2 y.nms.length n2) := ((Ext.refl wr).alloc _).cell (hd 4 _ rfl)
        have d5 : (wr.alloc (.cells #[.string x.nm, .int .i64 x.cr, .int .i64 x.gr, .bool x.ho, .slice a1 x.nms.length n1, .slice b1 x.fr.length m1] 64)).cell? ⟨b', o' + k * 6 + 5, none⟩ = some (.slice b2 y.fr.length m2) := ((Ext.refl wr).alloc _).cell (hd 5 _ rfl)
        have HNX := Lib.hid (take_eq_next hx hy HT.out)
        have HNE := Lib.hid (ne_at hx hy)
        have HCALL : Hid (Calls Try.prog 55 #[.agg #[.string x.nm, .int .i64 x.cr, .int .i64 x.gr, .bool x.ho, .slice a1 x.nms.length n1, .slice b1 x.fr.length m1], .agg #[.string y.nm, .int .i64 y.cr, .int .i64 y.gr, .bool y.ho, .slice a2 y.nms.length n2, .slice b2 y.fr.length m2]] ((wr.alloc (.cells #[.string x.nm, .int .i64 x.cr, .int .i64 x.gr, .bool x.ho, .slice a1 x.nms.length n1, .slice b1 x.fr.length m1] 64)).alloc (.cells #[.string y.nm, .int .i64 y.cr, .int .i64 y.gr, .bool y.ho, .slice a2 y.nms.length n2, .slice b2 y.fr.length m2] 64)) (RetEq (x = y) ((wr.alloc (.cells #[.string x.nm, .int .i64 x.cr, .int .i64 x.gr, .bool x.ho, .slice a1 x.nms.length n1, .slice b1 x.fr.length m1] 64)).alloc (.cells #[.string y.nm, .int .i64 y.cr, .int .i64 y.gr, .bool y.ho, .slice a2 y.nms.length n2, .slice b2 y.fr.length m2] 64)))) := Lib.hid (hcall _ ((HB.out.alloc _).alloc _))
        clear hx hy hc hd hcall hq hq'
        go_wp2_with fail
        refine HCALL.out.mono ?_
        rintro e w5 ⟨bb, rfl, hiff, hE5⟩
        have HIFF := Lib.hid hiff
        have HE5 := Lib.hid (((HB.out.alloc _).alloc _).trans hE5)
        clear hiff hE5 c0 d0 c1 d1 c2 d2 c3 d3 c4 d4 c5 d5
        cases bb with
        | true =>
          go_wp2_with fail
          go_roundw
          case rel => exact ⟨k + 1, by go_num, by omega, HNX.out (HIFF.out.1 (by simp)), HE5.out⟩
          case measure => simp [intOf] <;> omega
        | false =>
          go_wp2_with fail
          go_ret
          exact ⟨false, rfl, ⟨fun h => (by cases h), fun h => absurd h (HNE.out (fun e => by have := HIFF.out.2 e; cases this))⟩, HE5.out⟩
      · have hki : ¬ (k : Int) < (l.length : Int) := by omega
        have HEQ : Hid (l = l') := Lib.hid (by
          have h1 := HT.out
          rw [List.take_of_length_le (by omega), List.take_of_length_le (by have := HLE.out; omega)] at h1
          exact h1)
        go_wp2_with fail
        go_ret
        exact ⟨true, rfl, ⟨fun _ => HEQ.out, fun _ => rfl⟩, HB.out⟩
  · have g1 : ((l.length : Int) != (l'.length : Int)) = true := by simp; omega
    have HLE : Hid (l ≠ l') := Lib.hid fun e => hl (by rw [e])
    clear hl
    go_enter Try.func59, Try.ntmps59
    go_wp2_with fail
    go_ret
    exact ⟨false, rfl, ⟨fun h => (by cases h), fun h => absurd h HLE.out⟩, Ext.refl _⟩
theorem retEq_dec {p : Prop} [Decidable p] {w : World} {e : Ending} {w' : World} (h : e = .returned (.bool (decide p)) ∧ Ext w w') : RetEq p w e w' := ⟨decide p, h.1, by simp, h.2⟩
set_option maxRecDepth 100000 in
set_option maxHeartbeats 6400000 in
theorem same2_any (x y : Rq) (a1 b1 a2 b2 : Option Addr) (n1 m1 n2 m2 : Nat) (w : World) (h1 : SL w 1 a1 n1 (srows x.nms)) (h2 : SL w 1 b1 m1 (irows x.fr)) (h3 : SL w 1 a2 n2 (srows y.nms)) (h4 : SL w 1 b2 m2 (irows y.fr)) : Calls Try.prog 55 #[.agg (x.cells a1 n1 b1 m1).toArray, .agg (y.cells a2 n2 b2 m2).toArray] w (RetEq (x = y) w) := by
  have hX : Ext w ((w.alloc (.cells #[.string x.nm, .int .i64 x.cr, .int .i64 x.gr, .bool x.ho, .slice a1 x.nms.length n1, .slice b1 x.fr.length m1] 64)).alloc (.cells #[.string y.nm, .int .i64 y.cr, .int .i64 y.gr, .bool y.ho, .slice a2 y.nms.length n2, .slice b2 y.fr.length m2] 64)) := ((Ext.refl w).alloc _).alloc _
  have HC1 := Lib.hid ((equalS_any x.nms y.nms a1 a2 n1 n2 ((w.alloc (.cells #[.string x.nm, .int .i64 x.cr, .int .i64 x.gr, .bool x.ho, .slice a1 x.nms.length n1, .slice b1 x.fr.length m1] 64)).alloc (.cells #[.string y.nm, .int .i64 y.cr, .int .i64 y.gr, .bool y.ho, .slice a2 y.nms.length n2, .slice b2 y.fr.length m2] 64)) (h1.ext hX) (h3.ext hX)).mono fun e w' h => retEq_dec h)
  have HC2 := Lib.hid (fun V (hV : Ext ((w.alloc (.cells #[.string x.nm, .int .i64 x.cr, .int .i64 x.gr, .bool x.ho, .slice a1 x.nms.length n1, .slice b1 x.fr.length m1] 64)).alloc (.cells #[.string y.nm, .int .i64 y.cr, .int .i64 y.gr, .bool y.ho, .slice a2 y.nms.length n2, .slice b2 y.fr.length m2] 64)) V) => (equalI_any x.fr y.fr b1 b2 m1 m2 V (h2.ext (hX.trans hV)) (h4.ext (hX.trans hV))).mono fun e w' h => retEq_dec h)
  have HX := Lib.hid hX
  have HR1 : Hid (Row ((w.alloc (.cells #[.string x.nm, .int .i64 x.cr, .int .i64 x.gr, .bool x.ho, .slice a1 x.nms.length n1, .slice b1 x.fr.length m1] 64)).alloc (.cells #[.string y.nm, .int .i64 y.cr, .int .i64 y.gr, .bool y.ho, .slice a2 y.nms.length n2, .slice b2 y.fr.length m2] 64)) w.heap.size 64 [.string x.nm, .int .i64 x.cr, .int .i64 x.gr, .bool x.ho, .slice a1 x.nms.length n1, .slice b1 x.fr.length m1]) := Lib.hid (by
    unfold Row
    simp only [heap_al, World.size_alloc]
    all_goals (repeat rw [if_neg (by omega)])
    all_goals rfl)
  have HR2 : Hid (Row ((w.alloc (.cells #[.string x.nm, .int .i64 x.cr, .int .i64 x.gr, .bool x.ho, .slice a1 x.nms.length n1, .slice b1 x.fr.length m1] 64)).alloc (.cells #[.string y.nm, .int .i64 y.cr, .int .i64 y.gr, .bool y.ho, .slice a2 y.nms.length n2, .slice b2 y.fr.length m2] 64)) (w.heap.size + 1) 64 [.string y.nm, .int .i64 y.cr, .int .i64 y.gr, .bool y.ho, .slice a2 y.nms.length n2, .slice b2 y.fr.length m2]) := Lib.hid (by
    unfold Row
    simp only [heap_al, World.size_alloc]
    all_goals (repeat rw [if_neg (by omega)])
    all_goals rfl)
  clear hX h1 h2 h3 h4
  unfold Rq.cells
  cases hp0 : (x.nm.toList == y.nm.toList) with
  | false =>
    have HN0 := Lib.hid hp0
    go_enter Try.func55, Try.ntmps55
    go_wp2_with fail
    go_ret
    exact ⟨false, rfl, ⟨fun h => (by cases h), fun h => by have h1 := HN0.out; subst h; simp at h1⟩, HX.out⟩
  | true =>
    have HN0 := Lib.hid hp0
    cases hp1 : (x.cr == y.cr) with
    | false =>
      have HN1 := Lib.hid hp1
      go_enter Try.func55, Try.ntmps55
      go_wp2_with fail
      go_ret
      exact ⟨false, rfl, ⟨fun h => (by cases h), fun h => by have h1 := HN1.out; subst h; simp at h1⟩, HX.out⟩
    | true =>
      have HN1 := Lib.hid hp1
      cases hp2 : (x.gr == y.gr) with
      | false =>
        have HN2 := Lib.hid hp2
        go_enter Try.func55, Try.ntmps55
        go_wp2_with fail
        go_ret
        exact ⟨false, rfl, ⟨fun h => (by cases h), fun h => by have h1 := HN2.out; subst h; simp at h1⟩, HX.out⟩
      | true =>
        have HN2 := Lib.hid hp2
        cases hp3 : (x.ho == y.ho) with
        | false =>
          have HN3 := Lib.hid hp3
          go_enter Try.func55, Try.ntmps55
          go_wp2_with fail
          go_ret
          exact ⟨false, rfl, ⟨fun h => (by cases h), fun h => by have h1 := HN3.out; subst h; simp at h1⟩, HX.out⟩
        | true =>
          have HN3 := Lib.hid hp3
          go_enter Try.func55, Try.ntmps55
          go_wp2_with fail
          refine (HC1.out).mono ?_
          rintro e w5 ⟨bb, rfl, hiff, hE⟩
          have HI0 := Lib.hid hiff
          have HB0 := Lib.hid hE
          have HE0 := Lib.hid (HX.out.trans hE)
          clear hiff hE
          cases bb with
          | false =>
            go_wp2_with fail
            go_ret
            exact ⟨false, rfl, ⟨fun h => (by cases h), fun h => by have h1 := HI0.out.2 (by subst h; rfl); cases h1⟩, HE0.out⟩
          | true =>
            have e5 := (HR1.out.kpC HB0.out.kpC).cell (j := 5) rfl
            have f5 := (HR2.out.kpC HB0.out.kpC).cell (j := 5) rfl
            go_wp2_with fail
            refine (HC2.out _ HB0.out).mono ?_
            rintro e w6 ⟨bb, rfl, hiff, hE⟩
            have HI1 := Lib.hid hiff
            have HB1 := Lib.hid (HB0.out.trans hE)
            have HE1 := Lib.hid (HE0.out.trans hE)
            clear hiff hE
            cases bb with
            | false =>
              go_wp2_with fail
              go_ret
              exact ⟨false, rfl, ⟨fun h => (by cases h), fun h => by have h1 := HI1.out.2 (by subst h; rfl); cases h1⟩, HE1.out⟩
            | true =>
              go_wp2_with fail
              go_ret
              exact ⟨true, rfl, ⟨fun _ => Rq.ext_iff'.2 ⟨toList_inj' (eq_of_beq HN0.out), eq_of_beq HN1.out, eq_of_beq HN2.out, eq_of_beq HN3.out, HI0.out.1 (by simp), HI1.out.1 (by simp)⟩, fun _ => rfl⟩, HE1.out⟩
end Go.Proofs.Ytimigpfoflilcaa
