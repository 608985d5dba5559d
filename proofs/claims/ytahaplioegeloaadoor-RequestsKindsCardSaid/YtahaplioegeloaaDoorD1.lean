import Derived.Test.YtahaplioegeloaaDoorC10
import Derived.Test.YtahaplioegeloaaDoorRd
import Derived.Defers
import Derived.Recover
namespace Go.Proofs.YtahaplioegeloaaDoor
open Go.RowKit Go.Sz

/-- the codec's own panic -/
abbrev pan : List PanicEntry := [{ v := .iface 30 (.int .i64 10), recovered := false }]

theorem want_true (q : Value) (w : World) : Calls Tryd.prog 48 #[q, .bool true] w fun e w' => e = .returned (.tuple #[]) ∧ w = w' := by
  go_enter Tryd.func48, Tryd.ntmps48
  go_wp2_with fail
  go_end0
  exact ⟨rfl, rfl⟩

theorem want_false (q : Value) (w : World) : Calls Tryd.prog 48 #[q, .bool false] w fun e w' => e = .panicked pan ∧ w = w' := by
  go_enter Tryd.func48, Tryd.ntmps48
  go_wp2_with fail
  exact ⟨rfl, rfl, rfl⟩

theorem take_ok (p : Addr) (n : Nat) (ao : Option Addr) (len cap : Nat) (w : World) (hc : w.cell? p = some (.slice ao len cap)) (hz : w.frozen? p = false) (hn : n ≤ len) (hl : len ≤ cap) (_hm : cap ≤ 9223372036854775807) :
    Calls Tryd.prog 60 #[.pointer (some p), .int .i64 n] w fun e w' => e = .returned (.slice ao n n) ∧ ∃ ao', (ao' = ao.map (·.add n) ∧ n < cap ∨ ao' = ao ∧ n = len ∧ n = cap) ∧ w' = w.setCell p (.slice ao' (len - n) (cap - n)) := by
  have h1 : decide ((n : Int) ≤ (len : Int)) = true := by simp; omega
  have h2 : (n : Int) ≤ (len : Int) := by omega
  have h3 : (len : Int) ≤ (cap : Int) := by omega
  go_enter Tryd.func60, Tryd.ntmps60
  go_wp2_with (go_at_call 48; refine (want_true _ _).mono ?_; rintro e w' ⟨rfl, rfl⟩)
  · go_ret
    refine ⟨rfl, ao, ?_, ?_⟩
    · first | exact Or.inr ⟨rfl, by omega, by omega⟩ | exact ⟨rfl, by omega⟩ | (simp; omega)
    · first | rfl | rw [show cap - n = 0 by omega]
  · go_ret
    exact ⟨rfl, _, Or.inl ⟨rfl, by omega⟩, rfl⟩

theorem take_bad (p : Addr) (n : Nat) (ao : Option Addr) (len cap : Nat) (w : World) (hc : w.cell? p = some (.slice ao len cap)) (hn : len < n) :
    Calls Tryd.prog 60 #[.pointer (some p), .int .i64 n] w fun e w' => e = .panicked pan ∧ w = w' := by
  have h2 : ¬ (n : Int) ≤ (len : Int) := by omega
  clear hn
  go_enter Tryd.func60, Tryd.ntmps60
  go_wp2_with fail
  refine (want_false _ _).mono ?_
  rintro e w' ⟨rfl, rfl⟩
  exact ⟨rfl, rfl, rfl⟩

theorem take_rd {p : Addr} {bs : List UInt8} {w : World} (h : Rd w p bs) (n : Nat) (hn : n ≤ bs.length) :
    Calls Tryd.prog 60 #[.pointer (some p), .int .i64 n] w fun e w' => ∃ ao, e = .returned (.slice ao n n) ∧ SL w' 1 ao n (br (bs.take n)) ∧ (∀ a, ao = some a → bs ≠ [] → a.block < p.block) ∧ Rd w' p (bs.drop n) ∧ Turn p.block w w' := by
  obtain ⟨⟨ao, cap, hc, hs, hb⟩, hz⟩ := h
  have hlen : (br bs).length = bs.length := br_length bs
  have hle := hs.le
  have hT : ∀ u, Turn p.block w (w.setCell p u) := Turn.setCell w p
  have keep : ∀ u, SL (w.setCell p u) 1 ao cap (br bs) := fun u => hs.keep fun a ha hr => by
    have hne := hb a ha (fun e => hr (by rw [e]; rfl))
    by_cases hlt : a.block < w.heap.size
    · exact (hT u).block _ hlt (fun e => by have e2 : a.block = p.block := (by simpa using e); omega)
    · have hsz : (w.setCell p u).heap.size = w.heap.size := by simp [World.setCell]
      rw [Array.getElem?_eq_none (by omega), Array.getElem?_eq_none (by omega)]
  refine (take_ok p n ao bs.length cap w hc hz hn (by omega) hs.max).mono ?_
  rintro e w' ⟨rfl, ao', hao, rfl⟩
  refine ⟨ao, rfl, ?_, hb, ⟨⟨ao', cap - n, ?_, ?_, ?_⟩, by simpa using hz⟩, hT _⟩
  · rw [br_take]
    exact (keep _).takes (by omega) fun e => by have := hs.nil e; omega
  · rw [List.length_drop]
    exact World.cell?_setCell_same' _ _ _ (by rw [hc]; simp)
  · rcases hao with ⟨rfl, hlt⟩ | ⟨rfl, h1, h2⟩
    · rw [br_drop]
      exact (keep _).drops (by omega)
    · rw [h1, List.drop_length, ← h1, h2, Nat.sub_self]
      exact SL.done _
  · intro a ha hne
    rcases hao with ⟨rfl, hlt⟩ | ⟨rfl, h1, h2⟩
    · cases ao with
      | none => simp at ha
      | some a0 =>
        simp at ha
        have h0 := hb a0 rfl (by rintro rfl; simp at hne)
        have : a.block = a0.block := by rw [← ha]; unfold Addr.add; split <;> rfl
        rw [this]
        exact h0
    · rw [h1, List.drop_length] at hne
      exact absurd rfl hne

end Go.Proofs.YtahaplioegeloaaDoor
