/- Waiting: plain words; in, validBundle, valid of the program. -/
import Derived.Test.YtbhpeecebcihkaaWC
namespace Go.Sz
open Go.RowKit
structure Wt where
  s : Int
  a : Int
  b : Int
  k : Int
  t : Int
deriving DecidableEq
def Wt.enc (o : Wt) : List Value := [.int .i64 o.s, .int .i64 o.a, .int .i64 o.b, .int .i64 o.k, .int .i64 o.t]
def wrows (l : List Wt) : List (List Value) := l.map Wt.enc
theorem wrows_length (l : List Wt) : (wrows l).length = l.length := List.length_map _
def okB (a b : Int) : Bool := withinB a 0 3999 && withinB b (-1) 3999 && (b != a)
def okW (o : Wt) : Bool := withinB o.s 0 19999 && okB o.a o.b && withinB o.k 0 1073741824 && withinB o.t 0 1048576
def cmpW (o p : Wt) : Int := orL [cmpI o.a p.a, cmpI o.b p.b, cmpI o.k p.k, cmpI o.t p.t, cmpI o.s p.s]
def RepW (w : World) (ao : Option Addr) (cap : Nat) (l : List Wt) : Prop := SL w 5 ao cap (wrows l)
theorem RepW.ext {w W : World} {ao : Option Addr} {cap : Nat} {l : List Wt} (h : RepW w ao cap l) (hE : Ext w W) : RepW W ao cap l := SL.ext h hE
theorem RepW.max {w : World} {ao : Option Addr} {cap : Nat} {l : List Wt} (h : RepW w ao cap l) : (l.length : Int) ≤ 9223372036854775807 := by
  have h1 := SL.max h; have h2 := SL.le h; rw [wrows_length] at h2; omega
theorem w_cells {w W : World} {ao : Option Addr} {cap : Nat} {l : List Wt} (h : RepW w ao cap l) (hE : Ext w W) {i : Nat} (hi : i < l.length) : ∃ b o, ao = some ⟨b, o, none⟩ ∧
    W.cell? ⟨b, o + i * 5, none⟩ = some (.int .i64 l[i].s) ∧ W.cell? ⟨b, o + i * 5 + 1, none⟩ = some (.int .i64 l[i].a) ∧ W.cell? ⟨b, o + i * 5 + 2, none⟩ = some (.int .i64 l[i].b) ∧ W.cell? ⟨b, o + i * 5 + 3, none⟩ = some (.int .i64 l[i].k) ∧ W.cell? ⟨b, o + i * 5 + 4, none⟩ = some (.int .i64 l[i].t) := by
  have hr : (wrows l)[i]? = some (Wt.enc l[i]) := by simp [wrows, hi]
  obtain ⟨b, o, rfl, _⟩ := SL.at h (by omega) i (by rw [wrows_length]; exact hi)
  exact ⟨b, o, rfl, by simpa using hE.cell (SL.cellAt h hr (j := 0) rfl), hE.cell (SL.cellAt h hr (j := 1) rfl), hE.cell (SL.cellAt h hr (j := 2) rfl), hE.cell (SL.cellAt h hr (j := 3) rfl), hE.cell (SL.cellAt h hr (j := 4) rfl)⟩
end Go.Sz
namespace Go.Proofs.Ytbhpeecebcihkaa
open Go.RowKit Go.Sz
theorem in_any (n lo hi : Int) (w : World) : Calls Try.prog 38 #[.int .i64 n, .int .i64 lo, .int .i64 hi] w fun e w' => e = .returned (.bool (withinB n lo hi)) ∧ w = w' := by
  by_cases h1 : lo ≤ n
  · by_cases h2 : n ≤ hi
    · go_enter Try.func38, Try.ntmps38
      go_wp2
      go_ret
      exact ⟨by simp [withinB, h1, h2], rfl⟩
    · go_enter Try.func38, Try.ntmps38
      go_wp2
      go_ret
      exact ⟨by simp [withinB, h1]; omega, rfl⟩
  · go_enter Try.func38, Try.ntmps38
    go_wp2
    go_ret
    exact ⟨by simp [withinB]; omega, rfl⟩
set_option maxHeartbeats 800000 in
theorem vb_any (a b : Int) (w : World) : Calls Try.prog 39 #[.agg #[.int .i64 a, .int .i64 b]] w fun e w' => e = .returned (.bool (okB a b)) ∧ Ext w w' := by
  go_enter Try.func39, Try.ntmps39
  go_wp2_with (go_at_call 38; refine (in_any _ _ _ _).mono ?_; rintro e w' ⟨rfl, rfl⟩)
  all_goals
    go_ret
    refine ⟨by simp_all [okB], ?_⟩
    repeat (first | exact Below.refl _ _ | refine Below.alloc ?_ (by simp) _ | refine Below.setCell ?_ (by simp) _)
end Go.Proofs.Ytbhpeecebcihkaa
