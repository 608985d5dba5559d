/- cmp.Compare and cmp.Or at integers, as walked; and 'within'. -/
import Derived.Test.YtbniicobkhiniaaI
import Derived.Test.YtbniicobkhiniaaChecked
namespace Go.Proofs.Ytbniicobkhiniaa
open Go.RowKit Go.Sz
theorem isNaN_any (x : Int) (w : World) : Calls Try.prog 50 #[.int .i64 x] w fun e w' => e = .returned (.bool false) ∧ w = w' := by
  go_enter Try.func50, Try.ntmps50
  go_wp2
  go_ret
  exact ⟨by simp, rfl⟩
theorem cmp_any (x y : Int) (w : World) : Calls Try.prog 47 #[.int .i64 x, .int .i64 y] w fun e w' => e = .returned (.int .i64 (cmpI x y)) ∧ w = w' := by
  go_enter Try.func47, Try.ntmps47
  go_wp2_with (go_at_call 50; refine (isNaN_any _ _).mono ?_; rintro e w' ⟨rfl, rfl⟩)
  all_goals go_ret
  all_goals (refine ⟨?_, rfl⟩; unfold cmpI; (repeat (first | rw [if_pos (by assumption)] | rw [if_neg (by omega)])); rfl)
set_option maxHeartbeats 800000 in
theorem or_any (l : List Int) (ao : Option Addr) (cap : Nat) (w : World) (h : SL w 1 ao cap (irows l)) : Calls Try.prog 46 #[.slice ao l.length cap] w fun e w' => e = .returned (.int .i64 (orL l)) ∧ Ext w w' := by
  have HL := Lib.hid h
  have hs1 := irows_max h
  clear h
  go_enter Try.func46, Try.ntmps46
  go_wp2_with fail
  go_loopw [8] (fun iv wr => ∃ k : Nat, iv = .int .i64 k ∧ k ≤ l.length ∧ orL (l.drop k) = orL l ∧ Ext w wr) (fun iv _ => l.length - (intOf iv).toNat)
  case atStart => exact ⟨0, rfl, by omega, rfl, Ext.refl _⟩
  case round =>
    obtain ⟨k, rfl, hk, ho, hB⟩ := hrel
    have HO := Lib.hid ho
    have HB := Lib.hid hB
    clear ho hB
    by_cases hlt : k < l.length
    · have hki : (k : Int) < (l.length : Int) := by omega
      obtain ⟨b, o, rfl, hc⟩ := irows_cell HL.out HB.out hlt
      have HSK := Lib.hid (orL_skip hlt)
      have HST := Lib.hid (orL_stop hlt)
      generalize l[k] = x at *
      by_cases h0 : x = 0
      · subst h0
        go_wp2_with fail
        go_roundw
        case rel => exact ⟨k + 1, by go_num, by omega, by rw [← HSK.out rfl]; exact HO.out, HB.out⟩
        case measure => simp [intOf] <;> omega
      · have g0 : (x != 0) = true := by simpa using h0
        have HX0 := Lib.hid h0
        clear h0
        go_wp2_with fail
        go_ret
        exact ⟨by rw [← HO.out, HST.out HX0.out]; rfl, HB.out⟩
    · have hki : ¬ (k : Int) < (l.length : Int) := by omega
      go_wp2_with fail
      go_ret
      exact ⟨by rw [← HO.out, List.drop_of_length_le (by omega)]; rfl, HB.out⟩
end Go.Proofs.Ytbniicobkhiniaa
