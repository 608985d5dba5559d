/- happens, walked: one theorem for each kind of move. -/
import Derived.Test.YtdlahgmbilkdcaaNM
namespace Go.Sz
open Go.RowKit
theorem hapK0 (n : Nw) (m : Mv) (h : m.kind = 0) : happensN n m = ((sendN n ⟨m.x, m.y, [m.b4]⟩).1, ⟨0, 0, []⟩, (sendN n ⟨m.x, m.y, [m.b4]⟩).2) := by unfold happensN; rw [if_pos h]
theorem hapK1 (n : Nw) (m : Mv) (h : m.kind = 1) : happensN n m = ((deliverN n (m.at n)).2.1, (deliverN n (m.at n)).1, (deliverN n (m.at n)).2.2) := by unfold happensN; rw [h]; rfl
theorem hapK2 (n : Nw) (m : Mv) (h : m.kind = 2) : happensN n m = ((loseN n (m.at n)).1, ⟨0, 0, []⟩, (loseN n (m.at n)).2) := by unfold happensN; rw [h]; rfl
theorem hapK3 (n : Nw) (m : Mv) (h : m.kind = 3) : happensN n m = ((repeatN n (m.at n)).1, ⟨0, 0, []⟩, (repeatN n (m.at n)).2) := by unfold happensN; rw [h]; rfl
theorem hapK4 (n : Nw) (m : Mv) (h : m.kind = 4) : happensN n m = ((cutN n m.x m.y true).1, ⟨0, 0, []⟩, (cutN n m.x m.y true).2) := by unfold happensN; rw [h]; rfl
theorem hapK5 (n : Nw) (m : Mv) (h : m.kind = 5) : happensN n m = ((cutN n m.x m.y false).1, ⟨0, 0, []⟩, (cutN n m.x m.y false).2) := by unfold happensN; rw [h]; rfl
theorem deliver_ne (n : Nw) (i : Int) : (∀ x ∈ (deliverN n i).2.1.q, x.f ≠ x.t) ∧ (∀ x ∈ (deliverN n i).2.1.a, x.1 ≠ x.2) := by
  unfold deliverN
  by_cases h : askN n i = 0
  · rw [if_pos h]
    obtain ⟨hok, _, _⟩ := askN_zero h
    refine ⟨fun x hx => okN_q hok x ?_, fun x hx => okN_a hok x hx⟩
    simp only [cutQ] at hx
    rcases List.mem_append.1 hx with hx | hx
    · exact List.mem_of_mem_take hx
    · exact List.mem_of_mem_drop hx
  · rw [if_neg h]; exact ⟨by simp, by simp⟩
theorem sl_byte (W : World) (b : UInt8) (e : TypeId) (H : Nat) (hH : W.heap.size = H) : SL (W.alloc (.cells #[.int .u8 b.toNat] e)) 1 (some ⟨H, 0, none⟩) 1 (br [b]) := by subst hH; exact sl_new W [.int .u8 b.toNat] 1 e rfl
theorem mod7_in (b : UInt8) : inI64 ((b.toNat % 7 : Nat) : Int) := by have := b.toNat_lt; constructor <;> omega
end Go.Sz
