import Derived.Test.YtahaplioegeloaaDoorD4
namespace Go.Proofs.YtahaplioegeloaaDoor
open Go.RowKit Go.Sz

set_option maxRecDepth 100000 in
theorem value_nil {p : Addr} {w : World} (h : Rd w p []) (k : Int) (inner : Nat → List UInt8 → Option (List V × List UInt8)) :
    Calls Tryd.prog 47 #[.pointer (some p), .int .i64 k] w fun e w' => valPost w p (headP inner []) e w' ∧ Turn p.block w w' := by
  have hplt := h.lt
  go_enter Tryd.func47, Tryd.ntmps47
  go_wp2_with fail
  have hE0 : Ext w (w.alloc (.cells #[.int .i64 0, .int .i64 0, .string ⟨#[]⟩, .slice none 0 0] 59)) := (Ext.refl w).alloc _
  refine (take_short (h.ext hE0) 1 (by simp)).mono ?_
  rintro e w1 ⟨rfl, rfl⟩
  exact ⟨rfl, rfl, Turn.of_ext hE0⟩

set_option maxRecDepth 100000 in
set_option maxHeartbeats 1600000 in
theorem value_out {p : Addr} {b : UInt8} {r : List UInt8} {w : World} (h : Rd w p (b :: r)) (h1 : b.toNat ≠ 1) (h2 : b.toNat ≠ 2) (h3 : b.toNat ≠ 3) (k : Int) (inner : Nat → List UInt8 → Option (List V × List UInt8)) :
    Calls Tryd.prog 47 #[.pointer (some p), .int .i64 k] w fun e w' => valPost w p (headP inner (b :: r)) e w' ∧ Turn p.block w w' := by
  have HP : Hid (headP inner (b :: r) = none) := Lib.hid (by simp [headP, h1, h2, h3])
  have hplt := h.lt
  obtain ⟨x, hx⟩ : ∃ x, x = b.toNat := ⟨_, rfl⟩
  have hx2 : x < 256 := by rw [hx]; exact b.toNat_lt
  rw [← hx] at h1 h2 h3
  have q1 : ((x : Int) == 1) = false := by simpa using (show ¬ (x : Int) = 1 by omega)
  have q2 : ((x : Int) == 2) = false := by simpa using (show ¬ (x : Int) = 2 by omega)
  have q3 : ((x : Int) == 3) = false := by simpa using (show ¬ (x : Int) = 3 by omega)
  clear h1 h2 h3
  go_enter Tryd.func47, Tryd.ntmps47
  go_wp2_with fail
  have hE0 : Ext w (w.alloc (.cells #[.int .i64 0, .int .i64 0, .string ⟨#[]⟩, .slice none 0 0] 59)) := (Ext.refl w).alloc _
  refine (take1_rd (h.ext hE0)).mono ?_
  rintro e w1 ⟨blk, off, rfl, hc, hR1, hT1⟩
  rw [← hx] at hc
  clear hx
  have hne : w.heap.size ≠ p.block := by omega
  have hB1 := (Box.new w (.int .i64 0) (.int .i64 0) (.string ⟨#[]⟩) (.slice none 0 0) 59).turn hT1 hne
  obtain ⟨b0, b1, b2, b3, bz⟩ := hB1
  have z0 := bz 0
  go_wp2_with (go_at_call 48; refine (want_false _ _).mono ?_; rintro e w2 ⟨rfl, rfl⟩)
  exact ⟨rfl, by rw [HP.out]; rfl, ((Turn.of_ext hE0).trans hT1).store _ _ (Nat.le_refl _)⟩

end Go.Proofs.YtahaplioegeloaaDoor
