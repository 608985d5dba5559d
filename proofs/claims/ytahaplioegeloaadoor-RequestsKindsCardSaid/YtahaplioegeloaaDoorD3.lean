import Derived.Test.YtahaplioegeloaaDoorD2
import Derived.Test.YtahaplioegeloaaDoorPv
namespace Go.Proofs.YtahaplioegeloaaDoor
open Go.RowKit Go.Sz

def lenPost (p : Addr) (o : Option (Nat × List UInt8)) (e : Ending) (w' : World) : Prop :=
  match o with
  | some (n, r) => e = .returned (.int .i64 n) ∧ Rd w' p r ∧ n ≤ r.length
  | none => e = .panicked pan

set_option maxRecDepth 100000 in
theorem length_any {p : Addr} {bs : List UInt8} {w : World} (h : Rd w p bs) :
    Calls Tryd.prog 63 #[.pointer (some p)] w fun e w' => lenPost p (lenP bs) e w' ∧ Turn p.block w w' := by
  have HN := Lib.hid (number_any h)
  have hlt := numP_lt bs 0 0
  have HL : Hid (lenP bs = match numP 0 0 bs with
      | some (n, r) => if n ≤ r.length then some (n, r) else none
      | none => none) := rfl
  cases hn : numP 0 0 bs with
  | none =>
    rw [hn] at HN HL
    clear hn hlt h
    go_enter Tryd.func63, Tryd.ntmps63
    go_wp2_with fail
    refine HN.out.mono ?_
    rintro e w' ⟨he, hT⟩
    change e = .panicked pan at he
    subst he
    exact ⟨rfl, by rw [HL.out]; rfl, hT⟩
  | some nr =>
    obtain ⟨n, r⟩ := nr
    have h2 := (hlt n r hn (by simp) (by omega)).1
    rw [hn] at HN HL
    clear hn hlt h
    go_enter Tryd.func63, Tryd.ntmps63
    go_wp2_with fail
    refine HN.out.mono ?_
    rintro e w' ⟨⟨rfl, hR⟩, hT⟩
    obtain ⟨ao, cap, hc, hs, hb⟩ := hR.ex
    have hmax : (r.length : Int) ≤ 9223372036854775807 := by have := hs.le; have := hs.max; rw [br_length] at *; omega
    have hw : IntKind.u64.wrap (r.length : Int) = (r.length : Int) := u64_small _ (by omega) hmax
    have HR := Lib.hid hR
    clear hs hb
    by_cases hle : n ≤ r.length
    · have q : (n : Int) ≤ (r.length : Int) := by omega
      have hw2 : IntKind.i64.wrap (n : Int) = (n : Int) := by simp [IntKind.wrap, IntKind.bits, IntKind.signed]; omega
      go_wp2_with (go_at_call 48; refine (want_t _ _ _ (by first | rfl | assumption | (simp; omega))).mono ?_; rintro e w2 ⟨rfl, rfl⟩)
      go_ret
      exact ⟨by rw [HL.out]; simp only [if_pos hle]; exact ⟨rfl, HR.out, hle⟩, hT⟩
    · have q : ¬ (n : Int) ≤ (r.length : Int) := by omega
      go_wp2_with (go_at_call 48; refine (want_f _ _ _ (by first | rfl | assumption | (simp; omega))).mono ?_; rintro e w2 ⟨rfl, rfl⟩)
      exact ⟨rfl, by rw [HL.out]; simp only [if_neg hle]; exact rfl, hT⟩

end Go.Proofs.YtahaplioegeloaaDoor
