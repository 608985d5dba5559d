import Derived.Test.YtahaplioegeloaaDoorChecked
import Derived.Test.YtahaplioegeloaaDoorV
namespace Go.Proofs.YtahaplioegeloaaDoor
open Go.RowKit Go.Sz

def formedR (v : V) : Ending := .returned (.tuple #[.int .i64 (if v.wf then (v.dep : Int) else 0), .bool v.wf])


theorem size_toList (s : ByteArray) : s.size = 0 ↔ s.toList = [] := by
  rw [ByteArray.toList_eq]
  show s.data.size = 0 ↔ _
  rw [← Array.length_toList]
  exact List.length_eq_zero_iff

theorem formed_spec1 (n : Int) (s : ByteArray) (l : List V) : V.wf (.mk 1 n s l) = (s.size == 0 && l.isEmpty) := by simp [V.wf]
theorem formed_spec2 (n : Int) (s : ByteArray) (l : List V) : V.wf (.mk 2 n s l) = (n == 0 && l.isEmpty) := by simp [V.wf]
theorem formed_spec3 (n : Int) (s : ByteArray) (l : List V) : V.wf (.mk 3 n s l) = (n == 0 && s.size == 0 && V.wfL l) := by simp [V.wf]
theorem formed_specX (k n : Int) (s : ByteArray) (l : List V) (h1 : k ≠ 1) (h2 : k ≠ 2) (h3 : k ≠ 3) : V.wf (.mk k n s l) = false := by simp [V.wf, h1, h2, h3]

set_option maxHeartbeats 1600000 in
theorem formed_out (k n : Int) (s : ByteArray) (ao : Option Addr) (cap : Nat) (l : List V) (w : World) (h : k < 1 ∨ 3 < k) :
    Calls Tryd.prog 64 #[.agg #[.int .i64 k, .int .i64 n, .string s, .slice ao l.length cap]] w fun e w' => e = formedR (.mk k n s l) ∧ Ext w w' := by
  have hx : formedR (.mk k n s l) = .returned (.tuple #[.int .i64 0, .bool false]) := by
    simp only [formedR, formed_specX k n s l (by omega) (by omega) (by omega), Bool.false_eq_true, if_false]
  have HX := Lib.hid hx
  clear hx
  rcases h with h | h
  all_goals
    by_cases hs : s.toList = []
    all_goals
      by_cases hll : ((l.length : Int) == 0) = true
      all_goals
        by_cases hn0 : (n == 0) = true
        all_goals
          (try simp only [Bool.not_eq_true] at hll)
          (try simp only [Bool.not_eq_true] at hn0)
          go_enter Tryd.func64, Tryd.ntmps64
          go_wp2_with fail
          go_ret2
          exact ⟨HX.out.symm, by repeat (first | exact Ext.refl _ | refine Ext.alloc ?_ _)⟩


theorem isEmpty_len {α : Type} (l : List α) : l.isEmpty = ((l.length : Int) == 0) := by
  cases l
  · rfl
  · simp; omega
theorem size_beq (s : ByteArray) : (s.size == 0) = decide (s.toList = []) := by
  rw [Bool.eq_iff_iff, beq_iff_eq, decide_eq_true_iff]; exact size_toList s
theorem formedR1 (n : Int) (s : ByteArray) (l : List V) : formedR (.mk 1 n s l) = .returned (.tuple #[.int .i64 0, .bool (decide (s.toList = []) && ((l.length : Int) == 0))]) := by
  simp only [formedR, formed_spec1, V.dep, isEmpty_len, size_beq]; simp
theorem formedR2 (n : Int) (s : ByteArray) (l : List V) : formedR (.mk 2 n s l) = .returned (.tuple #[.int .i64 0, .bool ((n == 0) && ((l.length : Int) == 0))]) := by
  simp only [formedR, formed_spec2, V.dep, isEmpty_len]; simp
theorem formedR3 (n : Int) (s : ByteArray) (l : List V) (h : ((n == 0) && decide (s.toList = [])) = false) : formedR (.mk 3 n s l) = .returned (.tuple #[.int .i64 0, .bool false]) := by
  simp only [formedR, formed_spec3, size_beq, h, Bool.false_and]; simp

set_option maxHeartbeats 1600000 in
theorem formed_1 (n : Int) (s : ByteArray) (ao : Option Addr) (cap : Nat) (l : List V) (w : World) :
    Calls Tryd.prog 64 #[.agg #[.int .i64 1, .int .i64 n, .string s, .slice ao l.length cap]] w fun e w' => e = formedR (.mk 1 n s l) ∧ Ext w w' := by
  by_cases hs : s.toList = []
  all_goals
    by_cases hll : ((l.length : Int) == 0) = true
    all_goals
      by_cases hn0 : (n == 0) = true
      all_goals
        (try simp only [Bool.not_eq_true] at hll)
        (try simp only [Bool.not_eq_true] at hn0)
        skip
        have HX := Lib.hid (formedR1 n s l)
        go_enter Tryd.func64, Tryd.ntmps64
        go_wp2_with fail
        go_ret2
        exact ⟨by rw [HX.out]; simp [hs, hll], by repeat (first | exact Ext.refl _ | refine Ext.alloc ?_ _)⟩

set_option maxHeartbeats 1600000 in
theorem formed_2 (n : Int) (s : ByteArray) (ao : Option Addr) (cap : Nat) (l : List V) (w : World) :
    Calls Tryd.prog 64 #[.agg #[.int .i64 2, .int .i64 n, .string s, .slice ao l.length cap]] w fun e w' => e = formedR (.mk 2 n s l) ∧ Ext w w' := by
  by_cases hs : s.toList = []
  all_goals
    by_cases hll : ((l.length : Int) == 0) = true
    all_goals
      by_cases hn0 : (n == 0) = true
      all_goals
        (try simp only [Bool.not_eq_true] at hll)
        (try simp only [Bool.not_eq_true] at hn0)
        skip
        have HX := Lib.hid (formedR2 n s l)
        go_enter Tryd.func64, Tryd.ntmps64
        go_wp2_with fail
        go_ret2
        exact ⟨by rw [HX.out]; simp [hll, hn0], by repeat (first | exact Ext.refl _ | refine Ext.alloc ?_ _)⟩

set_option maxHeartbeats 1600000 in
theorem formed_3bad (n : Int) (s : ByteArray) (ao : Option Addr) (cap : Nat) (l : List V) (w : World) (h : ((n == 0) && decide (s.toList = [])) = false) :
    Calls Tryd.prog 64 #[.agg #[.int .i64 3, .int .i64 n, .string s, .slice ao l.length cap]] w fun e w' => e = formedR (.mk 3 n s l) ∧ Ext w w' := by
  have HX := Lib.hid (formedR3 n s l h)
  by_cases hs : s.toList = []
  all_goals
    by_cases hll : ((l.length : Int) == 0) = true
    all_goals
      by_cases hn0 : (n == 0) = true
      all_goals
        (try simp only [Bool.not_eq_true] at hll)
        (try simp only [Bool.not_eq_true] at hn0)
        first
          | (exfalso; rw [hn0] at h; simp [hs] at h; done)
          | (clear h
             first | (have hs' : s.toList.isEmpty = true := by simp [hs]) | (have hs' : s.toList.isEmpty = false := by simp [hs])
             go_enter Tryd.func64, Tryd.ntmps64
             go_wp2_with fail
             go_ret2
             exact ⟨by rw [HX.out]; rfl, by repeat (first | exact Ext.refl _ | refine Ext.alloc ?_ _)⟩)


end Go.Proofs.YtahaplioegeloaaDoor
