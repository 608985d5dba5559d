import Derived.Test.YtdlahgmbilkdcaaN2
import Derived.Laws.Strings
namespace Go.Sz
open Go.RowKit
theorem str_eq (d d' : List UInt8) : ((⟨d.toArray⟩ : ByteArray).toList == (⟨d'.toArray⟩ : ByteArray).toList) = decide (d = d') := by
  rw [ByteArray.toList_mk, ByteArray.toList_mk]
  rw [Bool.eq_iff_iff, decide_eq_true_eq]
  exact beq_iff_eq
def samePk (p q : Pk) : Bool := (p.f == q.f) && (p.t == q.t) && decide (p.d = q.d)
theorem samePk_iff (p q : Pk) : samePk p q = true ↔ p = q := by
  obtain ⟨f, t, d⟩ := p
  obtain ⟨f', t', d'⟩ := q
  simp [samePk, and_assoc]
end Go.Sz
namespace Go.Proofs.Ytdlahgmbilkdcaa
open Go.RowKit Go.Sz

set_option maxRecDepth 100000 in
set_option maxHeartbeats 1600000 in
theorem samePacket_any (p q : Pk) (cs ds : List Value) (w : World) (hp : RepP w cs p) (hq : RepP w ds q) : Calls Try.prog 19 #[.agg cs.toArray, .agg ds.toArray] w fun e w' => e = .returned (.bool (samePk p q)) ∧ Ext w w' := by
  obtain ⟨ao, cap, rfl, _, _, hs⟩ := hp
  obtain ⟨bo, cap', rfl, _, _, hs'⟩ := hq
  obtain ⟨f, t, d⟩ := p
  obtain ⟨f', t', d'⟩ := q
  have HX : Hid (samePk ⟨f, t, d⟩ ⟨f', t', d'⟩ = ((f == f') && (t == t') && decide (d = d'))) := Lib.hid rfl
  simp only at hs hs' ⊢
  have hX0 := ((Ext.refl w).alloc (.cells #[.int .i64 f, .int .i64 t, .slice ao d.length cap] 28)).alloc (.cells #[.int .i64 f', .int .i64 t', .slice bo d'.length cap'] 28)
  have hcv1 := (hs.ext hX0).toStr (P := Try.prog) 26 9 5 Try.underlying26 Try.underlying5 Try.underlying9
  have hcv2 := (hs'.ext hX0).toStr (P := Try.prog) 26 9 5 Try.underlying26 Try.underlying5 Try.underlying9
  have hse := str_eq d d'
  generalize (⟨d.toArray⟩ : ByteArray) = S at *
  generalize (⟨d'.toArray⟩ : ByteArray) = S' at *
  generalize decide (d = d') = b3 at *
  cases h1 : (f == f') <;> cases h2 : (t == t')
  all_goals
    rw [h1, h2] at HX
    go_enter Try.func19, Try.ntmps19
    go_wp2_with fail
    go_ret
    refine ⟨congrArg (fun b => Ending.returned (.bool b)) ?_, hX0⟩
    rw [HX.out]
    first | rfl | (rw [Bool.true_and, Bool.true_and]; exact hse)

theorem new_any (w : World) : Calls Try.prog 16 #[] w fun e w' => e = .returned (.agg #[.slice none 0 0, .slice none 0 0]) ∧ Ext w w' := by
  go_enter Try.func16, Try.ntmps16
  go_wp2_with fail
  refine ⟨rfl, .agg #[.slice none 0 0, .slice none 0 0], ?_, rfl, (Ext.refl w).alloc _⟩
  simp [results, Try.results16, go_sem]
theorem refNew_any (w : World) : Calls Try.prog 17 #[] w fun e w' => e = .returned (.agg #[.slice none 0 0, .slice none 0 0]) ∧ Ext w w' := by
  go_enter Try.func17, Try.ntmps17
  go_wp2_with fail
  refine ⟨rfl, .agg #[.slice none 0 0, .slice none 0 0], ?_, rfl, (Ext.refl w).alloc _⟩
  simp [results, Try.results17, go_sem]
end Go.Proofs.Ytdlahgmbilkdcaa
