import Derived.Test.YtmojeecgcmpbkaaC10
namespace Go.Proofs.Ytmojeecgcmpbkaa
open Go.RowKit Go.Sz

set_option maxRecDepth 100000 in
set_option maxHeartbeats 1600000 in
theorem equalFunc_eq (l : List V) (ao ao2 : Option Addr) (cap cap2 : Nat) (rows rows2 : List (List Value)) (F G : Nat → Prop) (w : World) (hsl : SL w 4 ao cap rows) (hsl2 : SL w 4 ao2 cap2 rows2) (hlen : rows.length = l.length) (hlen2 : rows2.length = l.length)
    (hel : ∀ (i : Nat) (r : List Value) (x : V), rows[i]? = some r → l[i]? = some x → RepV w F r x) (hel2 : ∀ (i : Nat) (r : List Value) (x : V), rows2[i]? = some r → l[i]? = some x → RepV w G r x)
    (hq : ∀ x ∈ l, ∀ (w : World) (cs ds : List Value), RepV w F cs x → RepV w G ds x → Calls Try.prog 20 #[.agg cs.toArray, .agg ds.toArray] w fun e w' => e = .returned (.bool true) ∧ Ext w w') :
    Calls Try.prog 31 #[.slice ao l.length cap, .slice ao2 l.length cap2, .func (Fn.func 20) #[] #[]] w fun e w' => e = .returned (.bool true) ∧ Ext w w' := by
  have hs1 : (l.length : Int) ≤ 9223372036854775807 := by have := hsl.max; have := hsl.le; omega
  have q4 : ((l.length : Int) != (l.length : Int)) = false := by simp
  have HS := Lib.hid hsl
  have HS2 := Lib.hid hsl2
  have HEL := Lib.hid hel
  have HEL2 := Lib.hid hel2
  have HQ := Lib.hid hq
  clear hsl hsl2 hel hel2 hq
  go_enter Try.func31, Try.ntmps31
  go_wp2_with fail
  go_loopw [17] (fun i wr => ∃ m : Nat, i = .int .i64 m ∧ m ≤ l.length ∧ Ext w wr) (fun i _ => l.length - (intOf i).toNat)
  case atStart => exact ⟨0, rfl, by omega, Ext.refl _⟩
  case round =>
    obtain ⟨m, rfl, hm, hB⟩ := hrel
    by_cases hlt : m < l.length
    · obtain ⟨b, o, rfl, bl⟩ := HS.out.at (by omega) m (by omega)
      obtain ⟨b', o', rfl, bl'⟩ := HS2.out.at (by omega) m (by omega)
      obtain ⟨kk, nn, ss, l', ao', cap', hlk, hR, c0, c1, c2, c3⟩ := rep_cells HS.out hlen HEL.out hB hlt
      obtain ⟨kk2, nn2, ss2, l2, ao3, cap3, hlk2, hR2, g0, g1, g2, g3⟩ := rep_cells HS2.out hlen2 HEL2.out hB hlt
      rw [hlk] at hlk2
      cases hlk2
      have HC := Lib.hid fun (W : World) (hE : Ext wr W) => HQ.out _ (List.getElem_mem hlt) W _ _ (by rw [hlk]; exact hR.ext hE) (by rw [hlk]; exact hR2.ext hE)
      clear hR hR2 hlk
      have g0' := fun ob => ((Ext.refl wr).alloc ob).cell g0
      have g1' := fun ob => ((Ext.refl wr).alloc ob).cell g1
      have g2' := fun ob => ((Ext.refl wr).alloc ob).cell g2
      have g3' := fun ob => ((Ext.refl wr).alloc ob).cell g3
      go_wp2_with fail
      refine (HC.out _ (((Ext.refl wr).alloc _).alloc _)).mono ?_
      rintro e w4 ⟨rfl, hE4⟩
      go_wp2_with fail
      go_roundw
      case rel => exact ⟨m + 1, by go_num, by omega, hB.trans ((((Ext.refl wr).alloc _).alloc _).trans hE4)⟩
      case measure => simp [intOf] <;> omega
    · have hmn : m = l.length := by omega
      go_wp2_with fail
      go_ret
      exact ⟨rfl, hB⟩

set_option maxRecDepth 100000 in
set_option maxHeartbeats 1600000 in
theorem same_eq : ∀ (N : Nat) (x : V), x.ht ≤ N → ∀ (F G : Nat → Prop) (w : World) (cs ds : List Value), RepV w F cs x → RepV w G ds x →
    Calls Try.prog 20 #[.agg cs.toArray, .agg ds.toArray] w fun e w' => e = .returned (.bool true) ∧ Ext w w' := by
  intro N
  induction N with
  | zero => intro x hx; cases x; simp [V.ht] at hx
  | succ N ih =>
    intro x hx F G w cs ds hR hR'
    cases x with
    | mk k n s l =>
    have hht : V.htL l ≤ N := by simp only [V.ht] at hx; omega
    obtain ⟨ao, cap, rows, rfl, hk, hn, hs, hsl, hF, hlen, hel⟩ := hR.open
    obtain ⟨ao2, cap2, rows2, rfl, _, _, _, hsl2, hF2, hlen2, hel2⟩ := hR'.open
    have HC := Lib.hid fun (W : World) (hE : Ext w W) => equalFunc_eq l ao ao2 cap cap2 rows rows2 F G W (hsl.ext hE) (hsl2.ext hE) hlen hlen2 (fun i r x h1 h2 => (hel i r x h1 h2).ext hE) (fun i r x h1 h2 => (hel2 i r x h1 h2).ext hE)
      (fun x hx W cs ds h1 h2 => ih x (Nat.le_trans (V.htL_mem hx) hht) F G W cs ds h1 h2)
    have q1 : (k == k) = true := by simp
    have q2 : (n == n) = true := by simp
    clear hsl hsl2 hel hel2 ih hR hR' hk hn hs hF hF2 hx
    go_enter Try.func20, Try.ntmps20
    go_wp2_with fail
    refine (HC.out _ (((Ext.refl w).alloc _).alloc _)).mono ?_
    rintro e w4 ⟨rfl, hE4⟩
    go_wp2_with fail
    go_ret
    exact ⟨rfl, (((Ext.refl w).alloc _).alloc _).trans hE4⟩

theorem same_kind (k k' n n' : Int) (s s' : ByteArray) (ao ao' : Option Addr) (l l' c c' : Nat) (w : World) (h : k ≠ k') :
    Calls Try.prog 20 #[.agg #[.int .i64 k, .int .i64 n, .string s, .slice ao l c], .agg #[.int .i64 k', .int .i64 n', .string s', .slice ao' l' c']] w fun e w' => e = .returned (.bool false) ∧ Ext w w' := by
  have q1 : (k == k') = false := by simpa using h
  go_enter Try.func20, Try.ntmps20
  go_wp2_with fail
  go_ret
  exact ⟨rfl, ((Ext.refl w).alloc _).alloc _⟩
end Go.Proofs.Ytmojeecgcmpbkaa
