/- Petitions: equality; the reference's Valid, Before, Check. -/
import Derived.Test.YtbniicobkhiniaaF5
import Derived.Laws.StructEq
namespace Go.Sz
open Go.RowKit
/-- a read -/
structure Rd where
  k : Int
  s : Int
  o : Int
  fr : Int
  to : Int
deriving DecidableEq
def Rd.enc (r : Rd) : List Value := [.int .i64 r.k, .int .i64 r.s, .int .i64 r.o, .int .i64 r.fr, .int .i64 r.to]
def rrows (l : List Rd) : List (List Value) := l.map Rd.enc
theorem rrows_length (l : List Rd) : (rrows l).length = l.length := List.length_map _
def RepR (w : World) (ao : Option Addr) (cap : Nat) (l : List Rd) : Prop := SL w 5 ao cap (rrows l)
theorem RepR.ext {w W : World} {ao : Option Addr} {cap : Nat} {l : List Rd} (h : RepR w ao cap l) (hE : Ext w W) : RepR W ao cap l := SL.ext h hE
theorem RepR.nil (w : World) : RepR w none 0 [] := SL.empty _ _
theorem RepR.max {w : World} {ao : Option Addr} {cap : Nat} {l : List Rd} (h : RepR w ao cap l) : (l.length : Int) ≤ 9223372036854775807 := by
  have h1 := SL.max h; have h2 := SL.le h; rw [rrows_length] at h2; omega
theorem r_at {w W : World} {ao : Option Addr} {cap : Nat} {l : List Rd} (h : RepR w ao cap l) (hE : Ext w W) {i : Nat} {x : Rd} (hx : l[i]? = some x) : ∃ b o, ao = some ⟨b, o, none⟩ ∧
    W.cell? ⟨b, o + i * 5, none⟩ = some (.int .i64 x.k) ∧ W.cell? ⟨b, o + i * 5 + 1, none⟩ = some (.int .i64 x.s) ∧ W.cell? ⟨b, o + i * 5 + 2, none⟩ = some (.int .i64 x.o) ∧ W.cell? ⟨b, o + i * 5 + 3, none⟩ = some (.int .i64 x.fr) ∧ W.cell? ⟨b, o + i * 5 + 4, none⟩ = some (.int .i64 x.to) := by
  obtain ⟨hi, rfl⟩ := List.getElem?_eq_some_iff.1 hx
  have hr : (rrows l)[i]? = some (Rd.enc l[i]) := by simp [rrows, hi]
  obtain ⟨b, o, rfl, _⟩ := SL.at h (by omega) i (by rw [rrows_length]; exact hi)
  exact ⟨b, o, rfl, by simpa using hE.cell (SL.cellAt h hr (j := 0) rfl), hE.cell (SL.cellAt h hr (j := 1) rfl), hE.cell (SL.cellAt h hr (j := 2) rfl), hE.cell (SL.cellAt h hr (j := 3) rfl), hE.cell (SL.cellAt h hr (j := 4) rfl)⟩
theorem i_at {w W : World} {ao : Option Addr} {cap : Nat} {l : List Int} (h : SL w 1 ao cap (irows l)) (hE : Ext w W) {i : Nat} {x : Int} (hx : l[i]? = some x) : ∃ b o, ao = some ⟨b, o, none⟩ ∧ W.cell? ⟨b, o + i, none⟩ = some (.int .i64 x) := by
  obtain ⟨hi, rfl⟩ := List.getElem?_eq_some_iff.1 hx
  exact irows_cell h hE hi
theorem take_eq_next {α : Type} {l l' : List α} {k : Nat} {x y : α} (hx : l[k]? = some x) (hy : l'[k]? = some y) (h : l.take k = l'.take k) (he : x = y) : l.take (k + 1) = l'.take (k + 1) := by
  rw [List.take_add_one, List.take_add_one, h, hx, hy, he]
theorem ne_at {α : Type} {l l' : List α} {k : Nat} {x y : α} (hx : l[k]? = some x) (hy : l'[k]? = some y) (h : x ≠ y) : l ≠ l' := by
  rintro rfl
  rw [hx] at hy
  exact h (Option.some.inj hy)
end Go.Sz
namespace Go.Proofs.Ytbniicobkhiniaa
open Go.RowKit Go.Sz
set_option maxRecDepth 100000 in
set_option maxHeartbeats 6400000 in
theorem eqKy (x y : Ky) (w : World) : (Op.equalIn 10000 26 (.agg #[.int .i64 x.k, .int .i64 x.s, .int .i64 x.o]) (.agg #[.int .i64 y.k, .int .i64 y.s, .int .i64 y.o])).run Try.prog w = .ok (decide (x = y)) w := by
  rw [show (10000 : Nat) = 9998 + 1 + 1 from rfl, run_equalIn_struct w (9998 + 1) 26 _ _ (by kernel_rfl) (by kernel_rfl)]
  have hd : decide (x = y) = (x.k == y.k && x.s == y.s && x.o == y.o) := by
    obtain ⟨k, s, o⟩ := x
    obtain ⟨kp, sp, op⟩ := y
    rw [Bool.eq_iff_iff]
    simp [and_assoc]
  rw [hd]
  have hk : ∀ w, (Op.equalIn 9999 3 (.int .i64 x.k) (.int .i64 y.k)).run Try.prog w = .ok (x.k == y.k) w := fun w => run_equalIn_int w 9998 _ .i64 .i64 _ _ Try.underlying3
  have hs : ∀ w, (Op.equalIn 9999 3 (.int .i64 x.s) (.int .i64 y.s)).run Try.prog w = .ok (x.s == y.s) w := fun w => run_equalIn_int w 9998 _ .i64 .i64 _ _ Try.underlying3
  have ho : ∀ w, (Op.equalIn 9999 3 (.int .i64 x.o) (.int .i64 y.o)).run Try.prog w = .ok (x.o == y.o) w := fun w => run_equalIn_int w 9998 _ .i64 .i64 _ _ Try.underlying3
  simp [Program.fieldsOf, Try.underlying26, Op.eqFields, part]
  simp only [hk, hs, ho, Result.andThen_ok]
  cases (x.k == y.k) <;> cases (x.s == y.s) <;> cases (x.o == y.o) <;> rfl
set_option maxRecDepth 100000 in
set_option maxHeartbeats 6400000 in
theorem eqRd (x y : Rd) (w : World) : (Op.equalIn 10000 70 (.agg #[.int .i64 x.k, .int .i64 x.s, .int .i64 x.o, .int .i64 x.fr, .int .i64 x.to]) (.agg #[.int .i64 y.k, .int .i64 y.s, .int .i64 y.o, .int .i64 y.fr, .int .i64 y.to])).run Try.prog w = .ok (decide (x = y)) w := by
  rw [show (10000 : Nat) = 9997 + 1 + 1 + 1 from rfl, run_equalIn_struct w (9997 + 1 + 1) 70 _ _ (by kernel_rfl) (by kernel_rfl)]
  have hd : decide (x = y) = ((x.k == y.k && x.s == y.s && x.o == y.o) && x.fr == y.fr && x.to == y.to) := by
    obtain ⟨k, s, o, fr, to⟩ := x
    obtain ⟨kp, sp, op, frp, top⟩ := y
    rw [Bool.eq_iff_iff]
    simp [and_assoc]
  rw [hd]
  have hk : ∀ w, (Op.equalIn 9998 3 (.int .i64 x.k) (.int .i64 y.k)).run Try.prog w = .ok (x.k == y.k) w := fun w => run_equalIn_int w 9997 _ .i64 .i64 _ _ Try.underlying3
  have hs : ∀ w, (Op.equalIn 9998 3 (.int .i64 x.s) (.int .i64 y.s)).run Try.prog w = .ok (x.s == y.s) w := fun w => run_equalIn_int w 9997 _ .i64 .i64 _ _ Try.underlying3
  have ho : ∀ w, (Op.equalIn 9998 3 (.int .i64 x.o) (.int .i64 y.o)).run Try.prog w = .ok (x.o == y.o) w := fun w => run_equalIn_int w 9997 _ .i64 .i64 _ _ Try.underlying3
  have hkey : ∀ w, (Op.equalIn 9999 26 (.agg #[.int .i64 x.k, .int .i64 x.s, .int .i64 x.o]) (.agg #[.int .i64 y.k, .int .i64 y.s, .int .i64 y.o])).run Try.prog w = .ok (x.k == y.k && x.s == y.s && x.o == y.o) w := fun w => by
    rw [show (9999 : Nat) = 9998 + 1 from rfl, run_equalIn_struct w 9998 26 _ _ (by kernel_rfl) (by kernel_rfl)]
    simp [Program.fieldsOf, Try.underlying26, Op.eqFields, part]
    simp only [hk, hs, ho, Result.andThen_ok]
    cases (x.k == y.k) <;> cases (x.s == y.s) <;> cases (x.o == y.o) <;> rfl
  have hfr : ∀ w, (Op.equalIn 9999 3 (.int .i64 x.fr) (.int .i64 y.fr)).run Try.prog w = .ok (x.fr == y.fr) w := fun w => run_equalIn_int w 9998 _ .i64 .i64 _ _ Try.underlying3
  have hto : ∀ w, (Op.equalIn 9999 3 (.int .i64 x.to) (.int .i64 y.to)).run Try.prog w = .ok (x.to == y.to) w := fun w => run_equalIn_int w 9998 _ .i64 .i64 _ _ Try.underlying3
  simp [Program.fieldsOf, Try.underlying70, Op.eqFields, part]
  simp only [hkey, hfr, hto, Result.andThen_ok]
  cases (x.k == y.k) <;> cases (x.s == y.s) <;> cases (x.o == y.o) <;> cases (x.fr == y.fr) <;> cases (x.to == y.to) <;> rfl
set_option maxRecDepth 100000 in
set_option maxHeartbeats 6400000 in
theorem eqFt (x y : Ft) (w : World) : (Op.equalIn 10000 28 (.agg #[.int .i64 x.k, .int .i64 x.s, .int .i64 x.o, .int .i64 x.v, .int .i64 x.fr, .int .i64 x.to, .int .i64 x.kn, .int .i64 x.no]) (.agg #[.int .i64 y.k, .int .i64 y.s, .int .i64 y.o, .int .i64 y.v, .int .i64 y.fr, .int .i64 y.to, .int .i64 y.kn, .int .i64 y.no])).run Try.prog w = .ok (decide (x = y)) w := by
  rw [show (10000 : Nat) = 9997 + 1 + 1 + 1 from rfl, run_equalIn_struct w (9997 + 1 + 1) 28 _ _ (by kernel_rfl) (by kernel_rfl)]
  have hd : decide (x = y) = ((x.k == y.k && x.s == y.s && x.o == y.o) && x.v == y.v && (x.fr == y.fr && x.to == y.to) && x.kn == y.kn && x.no == y.no) := by
    obtain ⟨k, s, o, v, fr, to, kn, no⟩ := x
    obtain ⟨kp, sp, op, vp, frp, top, knp, nop⟩ := y
    rw [Bool.eq_iff_iff]
    simp [and_assoc]
  rw [hd]
  have hk : ∀ w, (Op.equalIn 9998 3 (.int .i64 x.k) (.int .i64 y.k)).run Try.prog w = .ok (x.k == y.k) w := fun w => run_equalIn_int w 9997 _ .i64 .i64 _ _ Try.underlying3
  have hs : ∀ w, (Op.equalIn 9998 3 (.int .i64 x.s) (.int .i64 y.s)).run Try.prog w = .ok (x.s == y.s) w := fun w => run_equalIn_int w 9997 _ .i64 .i64 _ _ Try.underlying3
  have ho : ∀ w, (Op.equalIn 9998 3 (.int .i64 x.o) (.int .i64 y.o)).run Try.prog w = .ok (x.o == y.o) w := fun w => run_equalIn_int w 9997 _ .i64 .i64 _ _ Try.underlying3
  have hkey : ∀ w, (Op.equalIn 9999 26 (.agg #[.int .i64 x.k, .int .i64 x.s, .int .i64 x.o]) (.agg #[.int .i64 y.k, .int .i64 y.s, .int .i64 y.o])).run Try.prog w = .ok (x.k == y.k && x.s == y.s && x.o == y.o) w := fun w => by
    rw [show (9999 : Nat) = 9998 + 1 from rfl, run_equalIn_struct w 9998 26 _ _ (by kernel_rfl) (by kernel_rfl)]
    simp [Program.fieldsOf, Try.underlying26, Op.eqFields, part]
    simp only [hk, hs, ho, Result.andThen_ok]
    cases (x.k == y.k) <;> cases (x.s == y.s) <;> cases (x.o == y.o) <;> rfl
  have hv : ∀ w, (Op.equalIn 9999 3 (.int .i64 x.v) (.int .i64 y.v)).run Try.prog w = .ok (x.v == y.v) w := fun w => run_equalIn_int w 9998 _ .i64 .i64 _ _ Try.underlying3
  have hfr : ∀ w, (Op.equalIn 9998 3 (.int .i64 x.fr) (.int .i64 y.fr)).run Try.prog w = .ok (x.fr == y.fr) w := fun w => run_equalIn_int w 9997 _ .i64 .i64 _ _ Try.underlying3
  have hto : ∀ w, (Op.equalIn 9998 3 (.int .i64 x.to) (.int .i64 y.to)).run Try.prog w = .ok (x.to == y.to) w := fun w => run_equalIn_int w 9997 _ .i64 .i64 _ _ Try.underlying3
  have hspan : ∀ w, (Op.equalIn 9999 23 (.agg #[.int .i64 x.fr, .int .i64 x.to]) (.agg #[.int .i64 y.fr, .int .i64 y.to])).run Try.prog w = .ok (x.fr == y.fr && x.to == y.to) w := fun w => by
    rw [show (9999 : Nat) = 9998 + 1 from rfl, run_equalIn_struct w 9998 23 _ _ (by kernel_rfl) (by kernel_rfl)]
    simp [Program.fieldsOf, Try.underlying23, Op.eqFields, part]
    simp only [hfr, hto, Result.andThen_ok]
    cases (x.fr == y.fr) <;> cases (x.to == y.to) <;> rfl
  have hkn : ∀ w, (Op.equalIn 9999 3 (.int .i64 x.kn) (.int .i64 y.kn)).run Try.prog w = .ok (x.kn == y.kn) w := fun w => run_equalIn_int w 9998 _ .i64 .i64 _ _ Try.underlying3
  have hno : ∀ w, (Op.equalIn 9999 3 (.int .i64 x.no) (.int .i64 y.no)).run Try.prog w = .ok (x.no == y.no) w := fun w => run_equalIn_int w 9998 _ .i64 .i64 _ _ Try.underlying3
  simp [Program.fieldsOf, Try.underlying28, Op.eqFields, part]
  simp only [hkey, hv, hspan, hkn, hno, Result.andThen_ok]
  cases (x.k == y.k) <;> cases (x.s == y.s) <;> cases (x.o == y.o) <;> cases (x.v == y.v) <;> cases (x.fr == y.fr) <;> cases (x.to == y.to) <;> cases (x.kn == y.kn) <;> cases (x.no == y.no) <;> rfl
set_option maxRecDepth 100000 in
set_option maxHeartbeats 6400000 in
theorem validF_any (x : Ft) (w : World) : Calls Try.prog 40 #[.agg x.enc.toArray] w fun e w' => e = .returned (.bool (okF x)) ∧ Ext w w' := by
  obtain ⟨k, s, o, v, fr, to, kn, no⟩ := x
  unfold Ft.enc
  dsimp only
  go_enter Try.func40, Try.ntmps40
  go_wp2_with fail
  all_goals
    go_ret
    refine ⟨by simp_all [okF, withinB] <;> (intros; omega), ?_⟩
    repeat (first | exact Below.refl _ _ | refine Below.alloc ?_ (by simp) _ | refine Below.setCell ?_ (by simp) _)
set_option maxRecDepth 100000 in
set_option maxHeartbeats 6400000 in
theorem before_any (x y : Ft) (w : World) : Calls Try.prog 41 #[.agg x.enc.toArray, .agg y.enc.toArray] w fun e w' => e = .returned (.bool (befF x y)) ∧ Ext w w' := by
  obtain ⟨k, s, o, v, fr, to, kn, no⟩ := x
  obtain ⟨kp, sp, op, vp, frp, top, knp, nop⟩ := y
  unfold Ft.enc
  dsimp only
  go_enter Try.func41, Try.ntmps41
  go_wp2_with fail
  all_goals
    go_ret
    refine ⟨by simp_all [befF] <;> (intros; omega), ?_⟩
    repeat (first | exact Below.refl _ _ | refine Below.alloc ?_ (by simp) _ | refine Below.setCell ?_ (by simp) _)
end Go.Proofs.Ytbniicobkhiniaa
