/- Names: a truth sought in a row; the walk of Cycle in plain Lean. -/
import Derived.Test.YtimigpfoflilcaaYG
namespace Go.Sz
open Go.RowKit
def findB (l : List Bool) (x : Bool) : Int := match l.findIdx? fun y => y == x with
  | some i => (i : Int)
  | none => -1
theorem findB_some {l : List Bool} {x : Bool} {k : Nat} (hk : k < l.length) (hb : ∀ j (h : j < k), (l[j]'(by omega)) ≠ x) (h : l[k] = x) : findB l x = (k : Int) := by
  unfold findB
  rw [List.findIdx?_eq_some_iff_getElem.2 ⟨hk, by simpa using h, fun j hj => by simpa using hb j hj⟩]
theorem findB_none {l : List Bool} {x : Bool} (hb : ∀ j (h : j < l.length), l[j] ≠ x) : findB l x = -1 := by
  unfold findB
  rw [List.findIdx?_eq_none_iff.2 (fun y hy => by
    obtain ⟨j, hj, rfl⟩ := List.mem_iff_getElem.1 hy
    simpa using hb j hj)]
theorem brows_cell {w W : World} {ao : Option Addr} {cap : Nat} {l : List Bool} (h : SL w 1 ao cap (brows l)) (hE : Ext w W) {i : Nat} (hi : i < l.length) : ∃ b o, ao = some ⟨b, o, none⟩ ∧ W.cell? ⟨b, o + i, none⟩ = some (.bool l[i]) :=
  b_at h hE.kpC (List.getElem?_eq_getElem hi)
/-- the next course of the walk: the first one that is needed and not listed -/
def nextN (l : List Cr) (is : List Bool) (i : Nat) : Option Nat := match l[i]? with
  | some c => (needsN l c).find? fun n => !is.getD n false
  | none => none
def wayN (l : List Cr) (is : List Bool) : Nat → List Nat → Nat → List Nat × Nat
  | 0, way, i => (way, i)
  | f + 1, way, i => if i ∈ way then (way, i) else wayN l is f (way ++ [i]) ((nextN l is i).getD i)
def cycAt (l : List Cr) (is : List Bool) : Option Nat → List Int
  | none => []
  | some i => ((wayN l is (l.length + 1) [] i).1.drop ((findI (ints (wayN l is (l.length + 1) [] i).1) ((wayN l is (l.length + 1) [] i).2 : Int)).toNat)).map (nuAt l)
def cycL (l : List Cr) : List Int := cycAt l (listedN l).2 ((listedN l).2.findIdx? fun b => b == false)
theorem wayN_stop {l : List Cr} {is : List Bool} {f i : Nat} {way : List Nat} (h : i ∈ way) : wayN l is f way i = (way, i) := by
  cases f with
  | zero => rfl
  | succ f => rw [wayN, if_pos h]
theorem wayN_step {l : List Cr} {is : List Bool} {f i : Nat} {way : List Nat} (h : i ∉ way) : wayN l is (f + 1) way i = wayN l is f (way ++ [i]) ((nextN l is i).getD i) := by rw [wayN, if_neg h]
theorem ints_mem {o : List Nat} {i : Nat} : (i : Int) ∈ ints o ↔ i ∈ o := by
  unfold ints
  rw [List.mem_map]
  exact ⟨fun ⟨j, h1, h2⟩ => by rw [Int.ofNat_inj.1 h2] at h1; exact h1, fun h => ⟨i, h, rfl⟩⟩
theorem findI_at {l : List Int} {x : Int} (h : x ∈ l) : ∃ k : Nat, k < l.length ∧ findI l x = (k : Int) := by
  unfold findI
  cases e : l.findIdx? fun y => y == x with
  | none => exact absurd (List.findIdx?_eq_none_iff.1 e x h) (by simp)
  | some k => exact ⟨k, (List.findIdx?_eq_some_iff_getElem.1 e).1, rfl⟩
theorem nodup_len : ∀ {n : Nat} {o : List Nat}, o.Nodup → (∀ i ∈ o, i < n) → o.length ≤ n := by
  intro n
  induction n with
  | zero =>
    intro o _ hl
    cases o with
    | nil => exact Nat.le_refl _
    | cons x xs => exact absurd (hl x (List.mem_cons_self ..)) (Nat.not_lt_zero _)
  | succ n ih =>
    intro o h hl
    by_cases hm : n ∈ o
    · have h1 := ih (h.erase n) fun i hi => by
        have h2 := (h.mem_erase_iff).1 hi
        have h3 := hl i h2.2
        have h4 := h2.1
        omega
      have h5 := List.length_erase_of_mem hm
      omega
    · have h1 := ih h fun i hi => by
        have h3 := hl i hi
        have h4 : i ≠ n := fun e => hm (e ▸ hi)
        omega
      omega
end Go.Sz
namespace Go.Proofs.Ytimigpfoflilcaa
open Go.RowKit Go.Sz
set_option maxRecDepth 100000 in
set_option maxHeartbeats 6400000 in
theorem indexB_any (l : List Bool) (x : Bool) (ao : Option Addr) (cap : Nat) (w : World) (h : SL w 1 ao cap (brows l)) : Calls Try.prog 70 #[.slice ao l.length cap, .bool x] w fun e w' => e = .returned (.int .i64 (findB l x)) ∧ Ext w w' := by
  have HL := Lib.hid h
  have hs1 := brows_max h
  clear h
  go_enter Try.func70, Try.ntmps70
  go_wp2_with fail
  go_loopw [8] (fun iv wr => ∃ k : Nat, iv = .int .i64 k ∧ k ≤ l.length ∧ (∀ j (h : j < l.length), j < k → l[j] ≠ x) ∧ Ext w wr) (fun iv _ => l.length - (intOf iv).toNat)
  case atStart => exact ⟨0, rfl, by omega, fun j _ h => by omega, Ext.refl _⟩
  case round =>
    obtain ⟨k, rfl, hk, hn, hE⟩ := hrel
    have HN := Lib.hid hn
    have HE := Lib.hid hE
    clear hn hE
    by_cases hlt : k < l.length
    · have hki : (k : Int) < (l.length : Int) := by omega
      obtain ⟨bb, o, rfl, c0⟩ := brows_cell HL.out HE.out hlt
      have HNX : Hid (l[k] ≠ x → ∀ j (h : j < l.length), j < k + 1 → l[j] ≠ x) := Lib.hid fun hi j hj hjk => by
        by_cases hjk' : j = k
        · subst hjk'; exact hi
        · exact HN.out j hj (by omega)
      have HFD : Hid (l[k] = x → findB l x = (k : Int)) := Lib.hid fun hi => by
        have := findB_some hlt (fun j hj => HN.out j (by omega) hj) hi
        exact this
      generalize l[k] = z at *
      cases hc : (x == z) with
      | true =>
        have HR := Lib.hid (HFD.out ((eq_of_beq hc).symm))
        go_wp2_with fail
        go_ret
        exact ⟨by rw [HR.out]; rfl, HE.out⟩
      | false =>
        have HR := Lib.hid (HNX.out (fun e => by subst e; simp at hc))
        go_wp2_with fail
        go_roundw
        case rel => exact ⟨k + 1, by go_num, by omega, HR.out, HE.out⟩
        case measure => simp [intOf] <;> omega
    · have hki : ¬ (k : Int) < (l.length : Int) := by omega
      have HR : Hid (findB l x = -1) := Lib.hid (by
        have := findB_none (l := l) (x := x) fun j hj => HN.out j hj (by omega)
        exact this)
      go_wp2_with fail
      go_ret
      exact ⟨by rw [HR.out]; rfl, HE.out⟩
end Go.Proofs.Ytimigpfoflilcaa
