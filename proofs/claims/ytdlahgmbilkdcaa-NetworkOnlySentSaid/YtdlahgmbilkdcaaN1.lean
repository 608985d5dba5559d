/- Packets and links: plain values, how they lie in memory; the small functions. -/
import Derived.Test.YtdlahgmbilkdcaaGB
import Derived.Test.YtdlahgmbilkdcaaProg
namespace Go.Sz
open Go.RowKit
structure Pk where
  f : Int
  t : Int
  d : List UInt8
  deriving DecidableEq
structure Nw where
  q : List Pk
  a : List (Int × Int)
  deriving DecidableEq
def RepP (w : World) (cs : List Value) (p : Pk) : Prop := ∃ ao cap, cs = [.int .i64 p.f, .int .i64 p.t, .slice ao p.d.length cap] ∧ inI64 p.f ∧ inI64 p.t ∧ SL w 1 ao cap (br p.d)
theorem RepP.ext {w w' : World} {cs : List Value} {p : Pk} (h : RepP w cs p) (hE : Ext w w') : RepP w' cs p := by
  obtain ⟨ao, cap, h1, h2, h3, h4⟩ := h
  exact ⟨ao, cap, h1, h2, h3, h4.ext hE⟩
structure RepQ (w : World) (ao : Option Addr) (cap : Nat) (rows : List (List Value)) (q : List Pk) : Prop where
  sl : SL w 3 ao cap rows
  len : rows.length = q.length
  el : ∀ (i : Nat) (r : List Value) (p : Pk), rows[i]? = some r → q[i]? = some p → RepP w r p
theorem RepQ.ext {w w' : World} {ao : Option Addr} {cap : Nat} {rows : List (List Value)} {q : List Pk} (h : RepQ w ao cap rows q) (hE : Ext w w') : RepQ w' ao cap rows q := ⟨h.sl.ext hE, h.len, fun i r p h1 h2 => (h.el i r p h1 h2).ext hE⟩
def pr (a : List (Int × Int)) : List (List Value) := a.map fun x => [.int .i64 x.1, .int .i64 x.2]
theorem pr_length (a : List (Int × Int)) : (pr a).length = a.length := List.length_map _
structure RepA (w : World) (ao : Option Addr) (cap : Nat) (a : List (Int × Int)) : Prop where
  sl : SL w 2 ao cap (pr a)
  rg : ∀ x ∈ a, inI64 x.1 ∧ inI64 x.2
theorem RepA.ext {w w' : World} {ao : Option Addr} {cap : Nat} {a : List (Int × Int)} (h : RepA w ao cap a) (hE : Ext w w') : RepA w' ao cap a := ⟨h.sl.ext hE, h.rg⟩
def RepN (w : World) (cs : List Value) (n : Nw) : Prop := ∃ ao cap bo cap' rows, cs = [.slice ao n.q.length cap, .slice bo n.a.length cap'] ∧ RepQ w ao cap rows n.q ∧ RepA w bo cap' n.a
theorem RepN.ext {w w' : World} {cs : List Value} {n : Nw} (h : RepN w cs n) (hE : Ext w w') : RepN w' cs n := by
  obtain ⟨ao, cap, bo, cap', rows, h1, h2, h3⟩ := h
  exact ⟨ao, cap, bo, cap', rows, h1, h2.ext hE, h3.ext hE⟩
def okL (x y : Int) : Bool := decide (0 ≤ x) && decide (x < y) && decide (y < 7)
def okP (p : Pk) : Bool := okL (min p.f p.t) (max p.f p.t) && decide (p.d.length ≤ 1048576)
def campus (x : Int) : Bool := decide (0 ≤ x) && decide (x < 7)
theorem okP_ref (p : Pk) : okP p = (campus p.f && campus p.t && (p.f != p.t) && decide (p.d.length ≤ 1048576)) := by
  unfold okP okL campus
  congr 1
  rw [Bool.eq_iff_iff]
  simp only [Bool.and_eq_true, decide_eq_true_eq, bne_iff_ne, ne_eq]
  omega
def cmpI (a b : Int) : Int := if a < b then -1 else if b < a then 1 else 0
end Go.Sz
namespace Go.Proofs.Ytdlahgmbilkdcaa
open Go.RowKit Go.Sz

theorem valid_any (x y : Int) (w : World) : Calls Try.prog 32 #[.agg #[.int .i64 x, .int .i64 y]] w fun e w' => e = .returned (.bool (okL x y)) ∧ Ext w w' := by
  have HX : Hid (okL x y = (decide (0 ≤ x) && decide (x < y) && decide (y < 7))) := Lib.hid rfl
  go_enter Try.func32, Try.ntmps32
  go_wp2_with fail
  all_goals
    go_ret
    refine ⟨congrArg (fun b => Ending.returned (.bool b)) ?_, (Ext.refl w).alloc _⟩
    rw [HX.out, Bool.eq_iff_iff]
    simp
    try omega

theorem campus_any (x : Int) (w : World) : Calls Try.prog 34 #[.int .i64 x] w fun e w' => e = .returned (.bool (campus x)) ∧ w = w' := by
  have HX : Hid (campus x = (decide (0 ≤ x) && decide (x < 7))) := Lib.hid rfl
  go_enter Try.func34, Try.ntmps34
  go_wp2_with fail
  all_goals
    go_ret
    refine ⟨congrArg (fun b => Ending.returned (.bool b)) ?_, rfl⟩
    rw [HX.out, Bool.eq_iff_iff]
    simp
    try omega

theorem between_any (x y : Int) (w : World) : Calls Try.prog 37 #[.int .i64 x, .int .i64 y] w fun e w' => e = .returned (.agg #[.int .i64 (min x y), .int .i64 (max x y)]) ∧ Ext w w' := by
  go_enter Try.func37, Try.ntmps37
  go_wp2_with fail
  all_goals
    refine ⟨rfl, .agg #[.int .i64 (min x y), .int .i64 (max x y)], ?_, rfl, (Ext.refl w).alloc _⟩
    simp [results, Try.results37, go_sem]
    omega

theorem isNaN_any (x : Int) (w : World) : Calls Try.prog 47 #[.int .i64 x] w fun e w' => e = .returned (.bool false) ∧ w = w' := by
  have q : (x != x) = false := by simp
  go_enter Try.func47, Try.ntmps47
  go_wp2_with fail
  go_ret
  exact ⟨rfl, rfl⟩

theorem cmp_any (x y : Int) (w : World) : Calls Try.prog 44 #[.int .i64 x, .int .i64 y] w fun e w' => e = .returned (.int .i64 (cmpI x y)) ∧ w = w' := by
  have HX : Hid (cmpI x y = if x < y then -1 else if y < x then 1 else 0) := Lib.hid rfl
  go_enter Try.func44, Try.ntmps44
  go_wp2_with (go_at_call 47; refine (isNaN_any _ _).mono ?_; rintro e w' ⟨rfl, rfl⟩)
  all_goals
    go_ret
    refine ⟨congrArg (fun b => Ending.returned (.int .i64 b)) ?_, rfl⟩
    rw [HX.out]
    (try split) <;> (try split) <;> first | rfl | omega

/-- the codes 1 and so on of a test, as the code has it -/
theorem packet_any (p : Pk) (cs : List Value) (w : World) (h : RepP w cs p) : Calls Try.prog 28 #[.agg cs.toArray] w fun e w' => e = .returned (.bool (okP p)) ∧ Ext w w' := by
  obtain ⟨ao, cap, rfl, hf, ht, hs⟩ := h
  have HX : Hid (okP p = (okL (min p.f p.t) (max p.f p.t) && decide (p.d.length ≤ 1048576))) := Lib.hid rfl
  have hmax : (p.d.length : Int) ≤ 9223372036854775807 := by have h1 := hs.le; have h2 := hs.max; rw [br_length] at h1; omega
  clear hs
  obtain ⟨f, t, d⟩ := p
  simp only at HX hmax ⊢
  go_enter Try.func28, Try.ntmps28
  go_wp2_with fail
  refine (between_any _ _ _).mono ?_
  rintro e w1 ⟨rfl, hE1⟩
  have hX1 := ((Ext.refl w).alloc _).trans hE1
  obtain ⟨c0, c1, c2, _⟩ := (Box3.new w (.int .i64 f) (.int .i64 t) (.slice ao d.length cap) 28).ext hE1
  go_wp2_with fail
  refine (valid_any _ _ _).mono ?_
  rintro e w2 ⟨rfl, hE2⟩
  have m2 := hE2.cell c2
  cases hok : okL (min f t) (max f t) with
  | true =>
    rw [hok] at HX
    go_wp2_with fail
    go_ret
    refine ⟨congrArg (fun b => Ending.returned (.bool b)) ?_, hX1.trans hE2⟩
    rw [HX.out, Bool.eq_iff_iff]
    simp
    try omega
  | false =>
    rw [hok] at HX
    go_wp2_with fail
    go_ret
    refine ⟨congrArg (fun b => Ending.returned (.bool b)) ?_, hX1.trans hE2⟩
    rw [HX.out]; rfl

theorem refPacket_any (p : Pk) (cs : List Value) (w : World) (h : RepP w cs p) : Calls Try.prog 29 #[.agg cs.toArray] w fun e w' => e = .returned (.bool (okP p)) ∧ Ext w w' := by
  obtain ⟨ao, cap, rfl, hf, ht, hs⟩ := h
  have HX := Lib.hid (okP_ref p)
  have hmax : (p.d.length : Int) ≤ 9223372036854775807 := by have h1 := hs.le; have h2 := hs.max; rw [br_length] at h1; omega
  clear hs
  obtain ⟨f, t, d⟩ := p
  simp only at HX hmax ⊢
  cases h1 : campus f <;> cases h2 : campus t <;> cases h3 : (f != t)
  all_goals
    rw [h1, h2, h3] at HX
    have HC1 := Lib.hid fun (W : World) => campus_any f W
    have HC2 := Lib.hid fun (W : World) => campus_any t W
    rw [h1] at HC1
    rw [h2] at HC2
    clear h1 h2
    go_enter Try.func29, Try.ntmps29
    go_wp2_with (first
      | (go_at_call_of 34 (Value.int .i64 f); refine (HC1.out _).mono ?_; rintro e w' ⟨rfl, rfl⟩)
      | (go_at_call_of 34 (Value.int .i64 t); refine (HC2.out _).mono ?_; rintro e w' ⟨rfl, rfl⟩))
    go_ret
    refine ⟨congrArg (fun b => Ending.returned (.bool b)) ?_, (Ext.refl w).alloc _⟩
    rw [HX.out]
    try rw [Bool.eq_iff_iff]
    simp
    try omega
end Go.Proofs.Ytdlahgmbilkdcaa
