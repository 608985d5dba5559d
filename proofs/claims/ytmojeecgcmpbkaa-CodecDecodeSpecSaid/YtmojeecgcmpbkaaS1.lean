import Derived.Test.YtmojeecgcmpbkaaC10
namespace Go.Proofs.Ytmojeecgcmpbkaa
open Go.RowKit Go.Sz

theorem int_any (n : Int) (w : World) : Calls Try.prog 17 #[.int .i64 n] w fun e w' => e = .returned (.agg #[.int .i64 1, .int .i64 n, .string ⟨#[]⟩, .slice none 0 0]) ∧ Ext w w' := by
  go_enter Try.func17, Try.ntmps17
  go_wp2_with fail
  refine ⟨rfl, .agg #[.int .i64 1, .int .i64 n, .string ⟨#[]⟩, .slice none 0 0], ?_, rfl, ?_⟩
  · simp [results, Try.results17, go_sem]
  · exact (Ext.refl w).alloc _

theorem text_any (s : ByteArray) (w : World) : Calls Try.prog 19 #[.string s] w fun e w' => e = .returned (.agg #[.int .i64 2, .int .i64 0, .string s, .slice none 0 0]) ∧ Ext w w' := by
  go_enter Try.func19, Try.ntmps19
  go_wp2_with fail
  refine ⟨rfl, .agg #[.int .i64 2, .int .i64 0, .string s, .slice none 0 0], ?_, rfl, ?_⟩
  · simp [results, Try.results19, go_sem]
  · exact (Ext.refl w).alloc _

theorem list_any (ao : Option Addr) (len cap : Nat) (w : World) : Calls Try.prog 18 #[.slice ao len cap] w fun e w' => e = .returned (.agg #[.int .i64 3, .int .i64 0, .string ⟨#[]⟩, .slice ao len cap]) ∧ Ext w w' := by
  go_enter Try.func18, Try.ntmps18
  go_wp2_with fail
  refine ⟨rfl, .agg #[.int .i64 3, .int .i64 0, .string ⟨#[]⟩, .slice ao len cap], ?_, rfl, ?_⟩
  · simp [results, Try.results18, go_sem]
  · exact (Ext.refl w).alloc _

set_option maxRecDepth 100000 in
set_option maxHeartbeats 1600000 in
theorem refSame_eq : ∀ (N : Nat) (x : V), x.ht ≤ N → ∀ (w : World) (cs ds : List Value) (F G : Nat → Prop), RepV w F cs x → RepV w G ds x →
    Calls Try.prog 16 #[.agg cs.toArray, .agg ds.toArray] w fun e w' => e = .returned (.bool true) ∧ Ext w w' := by
  intro N
  induction N with
  | zero => intro x hx; cases x; simp [V.ht] at hx
  | succ N ih =>
    intro x hx w cs ds F G hR hR'
    cases x with
    | mk k n s l =>
    have hht : V.htL l ≤ N := by simp only [V.ht] at hx; omega
    obtain ⟨ao, cap, rows, rfl, hk, hn, hs, hsl, hF, hlen, hel⟩ := hR.open
    obtain ⟨ao2, cap2, rows2, rfl, _, _, _, hsl2, hF2, hlen2, hel2⟩ := hR'.open
    have q1 : (k != k) = false := by simp
    have q2 : (n != n) = false := by simp
    have q4 : ((l.length : Int) != (l.length : Int)) = false := by simp
    have hs1 : (l.length : Int) ≤ 9223372036854775807 := by have := hsl.max; have := hsl.le; omega
    have HS := Lib.hid hsl
    have HS2 := Lib.hid hsl2
    have HEL := Lib.hid hel
    have HEL2 := Lib.hid hel2
    have HIH := Lib.hid ih
    clear hsl hsl2 hel hel2 ih hR hR' hk hn hs hF hF2 hx
    go_enter Try.func16, Try.ntmps16
    go_wp2_with fail
    have hE0 : Ext w ((w.alloc (.cells #[.int .i64 k, .int .i64 n, .string s, .slice ao l.length cap] 24)).alloc (.cells #[.int .i64 k, .int .i64 n, .string s, .slice ao2 l.length cap2] 24)) := ((Ext.refl w).alloc _).alloc _
    have b3 : ((w.alloc (.cells #[.int .i64 k, .int .i64 n, .string s, .slice ao l.length cap] 24)).alloc (.cells #[.int .i64 k, .int .i64 n, .string s, .slice ao2 l.length cap2] 24)).cell? ⟨w.heap.size, 3, none⟩ = some (.slice ao l.length cap) := ((Ext.refl _).alloc _).cell (by simp)
    have d3 : ((w.alloc (.cells #[.int .i64 k, .int .i64 n, .string s, .slice ao l.length cap] 24)).alloc (.cells #[.int .i64 k, .int .i64 n, .string s, .slice ao2 l.length cap2] 24)).cell? ⟨w.heap.size + 1, 3, none⟩ = some (.slice ao2 l.length cap2) := by
      have h : (w.alloc (.cells #[.int .i64 k, .int .i64 n, .string s, .slice ao l.length cap] 24)).heap.size = w.heap.size + 1 := by simp
      generalize (w.alloc (.cells #[.int .i64 k, .int .i64 n, .string s, .slice ao l.length cap] 24)) = W at *
      rw [← h]
      simp
    generalize ((w.alloc (.cells #[.int .i64 k, .int .i64 n, .string s, .slice ao l.length cap] 24)).alloc (.cells #[.int .i64 k, .int .i64 n, .string s, .slice ao2 l.length cap2] 24)) = W1 at *
    go_loopw [5] (fun i wr => ∃ (m : Nat), i = .int .i64 m ∧ m ≤ l.length ∧ Ext W1 wr) (fun i _ => l.length - (intOf i).toNat)
    case atStart => exact ⟨0, rfl, by omega, Ext.refl _⟩
    case round =>
      obtain ⟨m, rfl, hm, hB⟩ := hrel
      have e3 := hB.cell b3
      have f3 := hB.cell d3
      by_cases hlt : m < l.length
      · obtain ⟨b, o, rfl, bl⟩ := HS.out.at (by omega) m (by omega)
        obtain ⟨b', o', rfl, bl'⟩ := HS2.out.at (by omega) m (by omega)
        obtain ⟨kk, nn, ss, l', ao', cap', hlk, hR, c0, c1, c2, c3⟩ := rep_cells HS.out hlen HEL.out (hE0.trans hB) hlt
        obtain ⟨kk2, nn2, ss2, l2, ao3, cap3, hlk2, hR2, g0, g1, g2, g3⟩ := rep_cells HS2.out hlen2 HEL2.out (hE0.trans hB) hlt
        rw [hlk] at hlk2
        cases hlk2
        have hhx : (V.mk kk nn ss l').ht ≤ N := by rw [← hlk]; exact Nat.le_trans (V.htL_mem (List.getElem_mem hlt)) hht
        have HC := Lib.hid (HIH.out _ hhx wr.drew _ _ _ _ (hR.ext (Ext.refl _).drew) (hR2.ext (Ext.refl _).drew))
        have HK := Lib.hid fun (W : World) (h : Ext wr W) => (⟨h.cell e3, h.cell f3, h.cell c0, h.cell c1, h.cell c2, h.cell c3, h.cell g0, h.cell g1, h.cell g2, h.cell g3⟩ : W.cell? ⟨w.heap.size, 3, none⟩ = _ ∧ W.cell? ⟨w.heap.size + 1, 3, none⟩ = _ ∧ _ ∧ _ ∧ _ ∧ _ ∧ _ ∧ _ ∧ _ ∧ _)
        clear hR hR2 hhx hlk
        go_wp2_with fail
        go_region_held3 (fun w' => w'.cell? ⟨w.heap.size, 3, none⟩ = some (.slice (some ⟨b, o, none⟩) l.length cap) ∧ w'.cell? ⟨w.heap.size + 1, 3, none⟩ = some (.slice (some ⟨b', o', none⟩) l.length cap2) ∧
            w'.cell? ⟨b, o + m * 4, none⟩ = some (.int .i64 kk) ∧ w'.cell? ⟨b, o + m * 4 + 1, none⟩ = some (.int .i64 nn) ∧ w'.cell? ⟨b, o + m * 4 + 2, none⟩ = some (.string ss) ∧ w'.cell? ⟨b, o + m * 4 + 3, none⟩ = some (.slice ao' l'.length cap') ∧
            w'.cell? ⟨b', o' + m * 4, none⟩ = some (.int .i64 kk) ∧ w'.cell? ⟨b', o' + m * 4 + 1, none⟩ = some (.int .i64 nn) ∧ w'.cell? ⟨b', o' + m * 4 + 2, none⟩ = some (.string ss) ∧ w'.cell? ⟨b', o' + m * 4 + 3, none⟩ = some (.slice ao3 l'.length cap3))
          (first | exact HK.out _ (Ext.refl _).drew | exact HK.out _ ((Ext.refl _).drew.trans hE4) | exact HK.out _ (Ext.refl _))
          (first
            | (go_at_call 16; refine HC.out.mono ?_; rintro e w4 ⟨rfl, hE4⟩))
        all_goals
          have hwm : IntKind.i64.wrap ((m : Int) + 1) = ((m + 1 : Nat) : Int) := by simp [IntKind.wrap, IntKind.bits, IntKind.signed]; omega
          go_wp2_with fail
          go_roundw
          case rel => exact ⟨m + 1, by go_num, by omega, hB.trans ((Ext.refl _).drew.trans hE4)⟩
          case measure => simp [intOf] <;> omega
      · have hmn : m = l.length := by omega
        go_wp2_with fail
        go_ret
        exact ⟨rfl, hE0.trans hB⟩
end Go.Proofs.Ytmojeecgcmpbkaa
