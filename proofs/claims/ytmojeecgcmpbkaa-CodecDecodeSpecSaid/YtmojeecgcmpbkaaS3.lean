import Derived.Test.YtmojeecgcmpbkaaC10
import Derived.Test.YtmojeecgcmpbkaaLw
namespace Go.Sz
open Go.RowKit
/-- few parts: a short encoding, not deep -/
def Small (v : V) : Prop := v.enc.length ≤ 1000000 ∧ v.ht ≤ 1000000
theorem enc_le (k n : Int) (s : ByteArray) (l : List V) (hn : inI64 n) (hs : s.size ≤ 9223372036854775807) (hl : l.length ≤ 9223372036854775807) : (V.mk k n s l).enc.length ≤ 11 + s.size + (V.encL l).length := by
  have h1 := digits_len64 s.size (by omega)
  have h2 := digits_len64 l.length (by omega)
  have hz := zig_range n hn.1 hn.2
  have h3 := digits_len64 (zig n).toNat (by omega)
  simp only [V.enc]
  split
  · simp; omega
  · split
    · simp [bytesOf_length]; omega
    · simp; omega
theorem V.htL_take_succ {l : List V} {k : Nat} (hk : k < l.length) : V.htL (l.take (k + 1)) = max (V.htL (l.take k)) l[k].ht := by
  have happ : ∀ (a b : List V), V.htL (a ++ b) = max (V.htL a) (V.htL b) := by
    intro a b
    induction a with
    | nil => simp [V.htL]
    | cons y ys ih => simp only [List.cons_append, V.htL, ih]; omega
  rw [List.take_succ_eq_append_getElem hk, happ]; simp [V.htL]
end Go.Sz
namespace Go.Proofs.Ytmojeecgcmpbkaa
open Go.RowKit Go.Sz

set_option maxRecDepth 100000 in
set_option maxHeartbeats 1600000 in
theorem count_any : ∀ (D : Nat), D ≤ 100 → ∀ (x : V) (w : World) (cs : List Value) (F : Nat → Prop), RepV w F cs x →
    Calls Try.prog 32 #[.agg cs.toArray, .int .i64 ((D : Int) - 1)] w fun e w' => (∃ c : Nat, e = .returned (.int .i64 c) ∧ c ≤ 50000000000000000 + 1000 * D ∧ 1 ≤ c ∧ (c ≤ 200 → x.enc.length ≤ 300 * c ∧ x.ht ≤ D)) ∧ Ext w w' := by
  intro D
  induction D with
  | zero =>
    intro _ x w cs F hR
    cases x with
    | mk k n s l =>
    obtain ⟨ao, cap, rows, rfl, hk, hn, hs, hsl, hF, hlen, hel⟩ := hR.open
    go_enter Try.func32, Try.ntmps32
    go_wp2_with fail
    go_ret
    exact ⟨⟨1000, rfl, by omega, by omega, fun h => by omega⟩, (Ext.refl _).alloc _⟩
  | succ D ih =>
    intro hD x w cs F hR
    cases x with
    | mk k n s l =>
    obtain ⟨ao, cap, rows, rfl, hk, hn, hs, hsl, hF, hlen, hel⟩ := hR.open
    have hs1 : (l.length : Int) ≤ 9223372036854775807 := by have := hsl.max; have := hsl.le; omega
    rw [show ((D + 1 : Nat) : Int) - 1 = (D : Int) by omega]
    have hd0 : ¬ ((D : Int) < 0) := by omega
    by_cases h150 : 150 < l.length
    · have q1 : (150 : Int) < (l.length : Int) := by omega
      go_enter Try.func32, Try.ntmps32
      go_wp2_with fail
      go_ret
      refine ⟨⟨1000, rfl, by omega, by omega, fun h => by omega⟩, (Ext.refl _).alloc _⟩
    · have q1 : ¬ (150 : Int) < (l.length : Int) := by omega
      have HS := Lib.hid hsl
      have HEL := Lib.hid hel
      have HIH := Lib.hid (ih (by omega))
      have HEN := Lib.hid (enc_le k n s l hn hs (by omega))
      clear hsl hel ih hR hF
      go_enter Try.func32, Try.ntmps32
      go_wp2_with fail
      have hE0 : Ext w (w.alloc (.cells #[.int .i64 k, .int .i64 n, .string s, .slice ao l.length cap] 24)) := (Ext.refl w).alloc _
      have b3 : (w.alloc (.cells #[.int .i64 k, .int .i64 n, .string s, .slice ao l.length cap] 24)).cell? ⟨w.heap.size, 3, none⟩ = some (.slice ao l.length cap) := by simp
      generalize (w.alloc (.cells #[.int .i64 k, .int .i64 n, .string s, .slice ao l.length cap] 24)) = W1 at *
      go_loopw [5, 6] (fun v5 v6 wr => ∃ (c m : Nat), v5 = .int .i64 c ∧ v6 = .int .i64 m ∧ m ≤ l.length ∧ 1 ≤ c ∧ c ≤ 50000000000000000 + 1000 * (D + 1) ∧ (c ≤ 200 → 11 + s.size + (V.encL (l.take m)).length ≤ 300 * c ∧ V.htL (l.take m) ≤ D) ∧ Ext W1 wr) (fun _ i _ => l.length - (intOf i).toNat)
      case atStart => exact ⟨1 + s.size / 200, 0, congrArg (Value.int .i64) (by omega), rfl, by omega, by omega, by omega, fun _ => ⟨by simp [V.encL]; omega, by simp [V.htL]⟩, Ext.refl _⟩
      case round =>
        obtain ⟨c, m, rfl, rfl, hm, hc1, hc2, hcs, hB⟩ := hrel
        have HCS := Lib.hid hcs
        clear hcs
        have e3 := hB.cell b3
        by_cases hlt : m < l.length
        · by_cases hc : c ≤ 1000
          · obtain ⟨b, o, rfl, bl⟩ := HS.out.at (by omega) m (by omega)
            obtain ⟨kk, nn, ss, l', ao', cap', hlk, hR, c0, c1, c2, c3⟩ := rep_cells HS.out hlen HEL.out (hE0.trans hB) hlt
            have HC := Lib.hid (HIH.out _ wr _ _ hR)
            have HLK := Lib.hid hlk
            clear hR hlk
            go_wp2_with (go_at_call 32; refine HC.out.mono ?_; rintro e w4 ⟨⟨c', rfl, h1, h2, h3⟩, hE4⟩; have H3 := Lib.hid h3; clear h3)
            go_roundw
            case rel =>
              refine ⟨c + c', m + 1, by go_num, by go_num, by omega, by omega, by omega, fun h => ?_, hB.trans hE4⟩
              obtain ⟨i1, i2⟩ := HCS.out (by omega)
              obtain ⟨j1, j2⟩ := H3.out (by omega)
              rw [← HLK.out] at j1 j2
              rw [V.encL_take_succ hlt, V.htL_take_succ hlt]
              simp
              omega
            case measure => simp [intOf] <;> omega
          · go_wp2_with fail
            go_ret
            exact ⟨⟨c, rfl, by omega, by omega, fun h => by omega⟩, hE0.trans hB⟩
        · have hmn : m = l.length := by omega
          go_wp2_with fail
          go_ret
          refine ⟨⟨c, rfl, by omega, by omega, fun h => ?_⟩, hE0.trans hB⟩
          have h3 := HCS.out h
          rw [hmn, List.take_length] at h3
          have := HEN.out
          simp only [V.ht]
          omega

theorem Few_any (x : V) (w : World) (cs : List Value) (F : Nat → Prop) (hR : RepV w F cs x) :
    Calls Try.prog 21 #[.agg cs.toArray, .int .i64 20] w fun e w' => (∃ b : Bool, e = .returned (.bool b) ∧ (b = true → Small x)) ∧ Ext w w' := by
  cases x with
  | mk k n s l =>
  obtain ⟨ao, cap, rows, rfl, _⟩ := hR.open
  have hc : ∀ w', Ext w w' → Calls Try.prog 32 #[.agg #[.int .i64 k, .int .i64 n, .string s, .slice ao l.length cap], .int .i64 20] w' fun e w2 => (∃ c : Nat, e = .returned (.int .i64 c) ∧ c ≤ 50000000000000000 + 1000 * 21 ∧ 1 ≤ c ∧ (c ≤ 200 → (V.mk k n s l).enc.length ≤ 300 * c ∧ (V.mk k n s l).ht ≤ 21)) ∧ Ext w' w2 :=
    fun w' hE => count_any 21 (by omega) _ w' _ F (hR.ext hE)
  have HC := Lib.hid hc
  clear hc hR
  go_enter Try.func21, Try.ntmps21
  go_wp2_with fail
  refine (HC.out _ ((Ext.refl w).alloc _)).mono ?_
  rintro e w2 ⟨⟨c, rfl, h1, h2, h3⟩, hE⟩
  have H3 := Lib.hid h3
  clear h3
  go_wp2_with fail
  go_ret
  refine ⟨⟨_, rfl, fun hb => ?_⟩, ((Ext.refl w).alloc _).trans hE⟩
  have hb2 : c ≤ 200 := by simp at hb; omega
  have := H3.out hb2
  exact ⟨by omega, by omega⟩

set_option maxRecDepth 100000 in
set_option maxHeartbeats 1600000 in
theorem few_any (l : List V) (ao : Option Addr) (cap : Nat) (rows : List (List Value)) (F : Nat → Prop) (w : World) (hsl : SL w 4 ao cap rows) (hlen : rows.length = l.length)
    (hel : ∀ (i : Nat) (r : List Value) (x : V), rows[i]? = some r → l[i]? = some x → RepV w F r x) :
    Calls Try.prog 7 #[.slice ao l.length cap] w fun e w' => (∃ b : Bool, e = .returned (.bool b) ∧ (b = true → ∀ x ∈ l, Small x)) ∧ Ext w w' := by
  have hs1 : (l.length : Int) ≤ 9223372036854775807 := by have := hsl.max; have := hsl.le; omega
  have HS := Lib.hid hsl
  have HEL := Lib.hid hel
  clear hsl hel
  go_enter Try.func7, Try.ntmps7
  go_wp2_with fail
  go_loopw [7] (fun i wr => ∃ m : Nat, i = .int .i64 m ∧ m ≤ l.length ∧ (∀ x ∈ l.take m, Small x) ∧ Ext w wr) (fun i _ => l.length - (intOf i).toNat)
  case atStart => exact ⟨0, rfl, by omega, by simp, Ext.refl _⟩
  case round =>
    obtain ⟨m, rfl, hm, hall, hB⟩ := hrel
    have HALL := Lib.hid hall
    clear hall
    by_cases hlt : m < l.length
    · obtain ⟨b, o, rfl, bl⟩ := HS.out.at (by omega) m (by omega)
      obtain ⟨kk, nn, ss, l', ao', cap', hlk, hR, c0, c1, c2, c3⟩ := rep_cells HS.out hlen HEL.out hB hlt
      have HC : Hid (∀ w', Ext wr w' → Calls Try.prog 21 #[.agg #[.int .i64 kk, .int .i64 nn, .string ss, .slice ao' l'.length cap'], .int .i64 20] w' fun e w2 => (∃ b : Bool, e = .returned (.bool b) ∧ (b = true → Small (.mk kk nn ss l'))) ∧ Ext w' w2) :=
        Lib.hid fun w' hE => Few_any _ w' _ F (hR.ext hE)
      have HLK := Lib.hid hlk
      clear hR hlk
      go_wp2_with fail
      refine (HC.out _ ((Ext.refl wr).alloc _)).mono ?_
      rintro e w4 ⟨⟨bb, rfl, h3⟩, hE4⟩
      have H3 := Lib.hid h3
      clear h3
      cases bb with
      | true =>
        go_wp2_with fail
        go_roundw
        case rel =>
          refine ⟨m + 1, by go_num, by omega, fun x hx => ?_, hB.trans (((Ext.refl wr).alloc _).trans hE4)⟩
          rw [List.take_succ_eq_append_getElem hlt] at hx
          rcases List.mem_append.1 hx with hx | hx
          · exact HALL.out x hx
          · simp at hx
            rw [hx, HLK.out]
            exact H3.out (by trivial)
        case measure => simp [intOf] <;> omega
      | false =>
        go_wp2_with fail
        go_ret
        exact ⟨⟨false, rfl, fun h => by cases h⟩, hB.trans (((Ext.refl wr).alloc _).trans hE4)⟩
    · have hmn : m = l.length := by omega
      go_wp2_with fail
      go_ret
      refine ⟨⟨true, rfl, fun _ x hx => HALL.out x ?_⟩, hB⟩
      rw [hmn, List.take_length]
      exact hx
end Go.Proofs.Ytmojeecgcmpbkaa
