import Derived.Test.YtahaplioegeloaaDoorD2
namespace Go.Sz
open Go.RowKit
/-- the reference's reader: three cells: bytes, place, bad -/
structure RRd (w : World) (B : Nat) (all : List UInt8) (pos : Nat) (bad : Bool) : Prop where
  ex : ∃ ao cap, w.cell? ⟨B, 0, none⟩ = some (.slice ao all.length cap) ∧ SL w 1 ao cap (br all) ∧ (∀ a, ao = some a → all ≠ [] → a.block < B)
  c1 : w.cell? ⟨B, 1, none⟩ = some (.int .i64 pos)
  c2 : w.cell? ⟨B, 2, none⟩ = some (.bool bad)
  z : ∀ i, w.frozen? ⟨B, i, none⟩ = false
  le : pos ≤ all.length
theorem RRd.lt {w : World} {B : Nat} {all : List UInt8} {pos : Nat} {bad : Bool} (h : RRd w B all pos bad) : B < w.heap.size := World.block_lt_of_cell? _ _ h.c1
theorem RRd.keep {w w' : World} {B : Nat} {all : List UInt8} {pos : Nat} {bad : Bool} (h : RRd w B all pos bad) (hk : ∀ b, b ≤ B → w'.heap[b]? = w.heap[b]?) : RRd w' B all pos bad := by
  obtain ⟨⟨ao, cap, hc, hs, hb⟩, c1, c2, z, hle⟩ := h
  exact ⟨⟨ao, cap, (World.cell?_of_block (w := w) (a := ⟨B, 0, none⟩) (hk _ (Nat.le_refl _))).trans hc, hs.keep fun a ha hr => hk _ (Nat.le_of_lt (hb a ha (fun e => hr (by rw [e]; rfl)))), hb⟩,
    (World.cell?_of_block (w := w) (a := ⟨B, 1, none⟩) (hk _ (Nat.le_refl _))).trans c1, (World.cell?_of_block (w := w) (a := ⟨B, 2, none⟩) (hk _ (Nat.le_refl _))).trans c2,
    fun i => (World.frozen?_of_block (w := w) (a := ⟨B, i, none⟩) (hk _ (Nat.le_refl _))).trans (z i), hle⟩
theorem RRd.ext {w w' : World} {B : Nat} {all : List UInt8} {pos : Nat} {bad : Bool} (h : RRd w B all pos bad) (hE : Ext w w') : RRd w' B all pos bad :=
  h.keep fun b hb => hE.block b (Nat.lt_of_le_of_lt hb h.lt)
theorem RRd.setPos {w : World} {B : Nat} {all : List UInt8} {pos : Nat} {bad : Bool} (h : RRd w B all pos bad) (q : Nat) (hq : q ≤ all.length) : RRd (w.setCell ⟨B, 1, none⟩ (.int .i64 q)) B all q bad := by
  obtain ⟨⟨ao, cap, hc, hs, hb⟩, c1, c2, z, hle⟩ := h
  exact ⟨⟨ao, cap, (World.cell?_setCell_other _ _ _ _ (by simp)).trans hc, hs.keep fun a ha hr => heap_setCell_far _ _ _ _ (by have := hb a ha (fun e => hr (by rw [e]; rfl)); show a.block ≠ B; omega), hb⟩,
    World.cell?_setCell_same' _ _ _ (by rw [c1]; rfl), (World.cell?_setCell_other _ _ _ _ (by simp)).trans c2, fun i => by simpa using z i, hq⟩
theorem RRd.setBad {w : World} {B : Nat} {all : List UInt8} {pos : Nat} {bad : Bool} (h : RRd w B all pos bad) (q : Bool) : RRd (w.setCell ⟨B, 2, none⟩ (.bool q)) B all pos q := by
  obtain ⟨⟨ao, cap, hc, hs, hb⟩, c1, c2, z, hle⟩ := h
  exact ⟨⟨ao, cap, (World.cell?_setCell_other _ _ _ _ (by simp)).trans hc, hs.keep fun a ha hr => heap_setCell_far _ _ _ _ (by have := hb a ha (fun e => hr (by rw [e]; rfl)); show a.block ≠ B; omega), hb⟩,
    (World.cell?_setCell_other _ _ _ _ (by simp)).trans c1, World.cell?_setCell_same' _ _ _ (by rw [c2]; rfl), fun i => by simpa using z i, hle⟩
theorem RRd.far {w : World} {B : Nat} {all : List UInt8} {pos : Nat} {bad : Bool} (h : RRd w B all pos bad) (q : Addr) (u : Value) (hq : B < q.block) : RRd (w.setCell q u) B all pos bad :=
  h.keep fun b hb => heap_setCell_far w q u b (by omega)

theorem ref_step {k a x : Nat} (hk : k ≤ 9) (ha : a < 128 ^ k) (h9 : k < 9 ∨ x ≤ 1) :
    IntKind.u64.wrap ((a : Int) + IntKind.u64.wrap ((x : Int) % 128 * 2 ^ (7 * k))) = ((a + x % 128 * 128 ^ k : Nat) : Int) := by
  have hd := digit_lt (x := x) hk h9
  have hp : (128 : Nat) ^ k ≤ 128 ^ 9 := Nat.pow_le_pow_right (by omega) hk
  have hp2 : (128 : Nat) ^ 9 = 9223372036854775808 := by decide +kernel
  have e1 : (x : Int) % 128 = ((x % 128 : Nat) : Int) := by omega
  rw [e1]
  have e2 : ((x % 128 : Nat) : Int) * 2 ^ (7 * k) = ((x % 128 * 128 ^ k : Nat) : Int) := by rw [pow128]; simp
  rw [e2]
  have gen : ∀ d : Nat, d ≤ 9223372036854775808 → IntKind.u64.wrap (d : Int) = (d : Int) := fun d h => by simp [IntKind.wrap, IntKind.bits, IntKind.signed]; omega
  rw [gen _ hd]
  have hs : a + x % 128 * 128 ^ k < 18446744073709551616 := by omega
  generalize x % 128 * 128 ^ k = d at *
  simp [IntKind.wrap, IntKind.bits, IntKind.signed]
  omega
end Go.Sz
namespace Go.Proofs.YtahaplioegeloaaDoor
open Go.RowKit Go.Sz

set_option maxRecDepth 100000 in
theorem next_end {B : Nat} {all : List UInt8} {bad : Bool} {w : World} (h : RRd w B all all.length bad) :
    Calls Tryd.prog 74 #[.pointer (some ⟨B, 0, none⟩)] w fun e w' => e = .returned (.int .u8 0) ∧ RRd w' B all all.length true ∧ Turn B w w' := by
  obtain ⟨⟨ao, cap, hc, hs, hb⟩, c1, c2, z, hle⟩ := h
  have q1 : ((all.length : Int) ≤ (all.length : Int)) := by omega
  have z2 := z 2
  have hs1 : (all.length : Int) ≤ 9223372036854775807 := by have := hs.le; have := hs.max; rw [br_length] at *; omega
  have HR := Lib.hid (RRd.mk ⟨ao, cap, hc, hs, hb⟩ c1 c2 z hle)
  clear hs hb z hle
  go_enter Tryd.func74, Tryd.ntmps74
  go_wp2_with fail
  go_region_held3 (fun w' => w'.cell? ⟨B, 0, none⟩ = some (.slice ao all.length cap) ∧ w'.cell? ⟨B, 1, none⟩ = some (.int .i64 all.length)) (go_keep)
    (fail)
  go_wp2_with fail
  go_ret
  exact ⟨rfl, (HR.out.setBad true).ext (Ext.refl _).drew, (Turn.setCell w ⟨B, 2, none⟩ _).trans (Turn.of_ext (Ext.refl _).drew)⟩

set_option maxRecDepth 100000 in
theorem next_ok {B : Nat} {all : List UInt8} {pos : Nat} {bad : Bool} {w : World} (h : RRd w B all pos bad) (hlt : pos < all.length) :
    Calls Tryd.prog 74 #[.pointer (some ⟨B, 0, none⟩)] w fun e w' => e = .returned (.int .u8 all[pos].toNat) ∧ RRd w' B all (pos + 1) bad ∧ Turn B w w' := by
  obtain ⟨⟨ao, cap, hc, hs, hb⟩, c1, c2, z, hle⟩ := h
  have q1 : ¬ ((all.length : Int) ≤ (pos : Int)) := by omega
  have z1 := z 1
  have hs1 : (all.length : Int) ≤ 9223372036854775807 := by have := hs.le; have := hs.max; rw [br_length] at *; omega
  obtain ⟨b, o, e1, _⟩ := hs.at (by omega) pos (by rw [br_length]; exact hlt)
  subst e1
  have hbB : b < B := hb _ rfl (by intro e; rw [e] at hlt; simp at hlt)
  have hne : ¬ b = B := by omega
  have hne2 : ¬ B = b := by omega
  have hcell : w.cell? ⟨b, o + pos, none⟩ = some (.int .u8 all[pos].toNat) := by
    have := hs.cellAt (i := pos) (j := 0) (r := [.int .u8 all[pos].toNat]) (v := .int .u8 all[pos].toNat) (by simp only [br]; rw [List.getElem?_map, List.getElem?_eq_getElem hlt]; rfl) rfl
    simpa using this
  obtain ⟨x, hx⟩ : ∃ x, x = all[pos].toNat := ⟨_, rfl⟩
  rw [← hx] at hcell ⊢
  have hlt2 : (pos : Int) < (all.length : Int) := by omega
  have HR := Lib.hid (RRd.mk ⟨_, cap, hc, hs, hb⟩ c1 c2 z hle)
  have hw1 : IntKind.i64.wrap ((pos : Int) + 1) = (pos : Int) + 1 := by simp [IntKind.wrap, IntKind.bits, IntKind.signed]; omega
  have hw2 : IntKind.i64.wrap ((pos : Int) + 1 - 1) = (pos : Int) := by simp [IntKind.wrap, IntKind.bits, IntKind.signed]; omega
  have hp0 : (0 : Int) ≤ (pos : Int) := by omega
  have hw3 : IntKind.i64.wrap (pos : Int) = (pos : Int) := by simp [IntKind.wrap, IntKind.bits, IntKind.signed]; omega
  clear hs hb z hle hx
  go_enter Tryd.func74, Tryd.ntmps74
  go_wp2_with fail
  go_region_held3 (fun w' => w'.cell? ⟨B, 0, none⟩ = some (.slice (some ⟨b, o, none⟩) all.length cap) ∧ w'.cell? ⟨B, 1, none⟩ = some (.int .i64 pos)) (go_keep)
    (fail)
  go_wp2_with fail
  have k0 : (w.setCell ⟨B, 1, none⟩ (.int .i64 ((pos : Int) + 1))).cell? ⟨B, 0, none⟩ = some (.slice (some ⟨b, o, none⟩) all.length cap) := (World.cell?_setCell_other _ _ _ _ (by simp)).trans hc
  have k2 : (w.setCell ⟨B, 1, none⟩ (.int .i64 ((pos : Int) + 1))).cell? ⟨b, o + pos, none⟩ = some (.int .u8 x) := (World.cell?_setCell_other _ _ _ _ (by simp)).trans hcell
  have k1 : (w.setCell ⟨B, 1, none⟩ (.int .i64 ((pos : Int) + 1))).cell? ⟨B, 1, none⟩ = some (.int .i64 ((pos : Int) + 1)) := World.cell?_setCell_same' _ _ _ (by rw [c1]; rfl)
  have HR2 : Hid (RRd (w.setCell ⟨B, 1, none⟩ (.int .i64 ((pos : Int) + 1))) B all (pos + 1) bad) := Lib.hid (HR.out.setPos (pos + 1) hlt)
  have HT2 : Hid (Turn B w (w.setCell ⟨B, 1, none⟩ (.int .i64 ((pos : Int) + 1)))) := Lib.hid (Turn.setCell w ⟨B, 1, none⟩ _)
  generalize (w.setCell ⟨B, 1, none⟩ (.int .i64 ((pos : Int) + 1))) = w2 at *
  go_region_held3 (fun w' => w'.cell? ⟨B, 0, none⟩ = some (.slice (some ⟨b, o, none⟩) all.length cap) ∧ w'.cell? ⟨B, 1, none⟩ = some (.int .i64 ((pos : Int) + 1)) ∧ w'.cell? ⟨b, o + pos, none⟩ = some (.int .u8 x)) (go_keep)
    (fail)
  go_wp2_with fail
  go_ret
  exact ⟨rfl, HR2.out.ext ((Ext.refl _).drewN 2), HT2.out.trans (Turn.of_ext ((Ext.refl _).drewN 2))⟩
end Go.Proofs.YtahaplioegeloaaDoor
