/- A reader over bytes: what a slice of bytes shows, what is left of it; the parser, as plain Lean. No program in sight. -/
import Derived.Test.YtahaplioegeloaaDoorC9
namespace Go.Sz
open Go.RowKit

/-- bytes, as rows of one cell -/
def br (bs : List UInt8) : List (List Value) := bs.map fun b => [.int .u8 b.toNat]
theorem br_length (bs : List UInt8) : (br bs).length = bs.length := List.length_map _
theorem br_take (bs : List UInt8) (n : Nat) : br (bs.take n) = (br bs).take n := List.map_take
theorem br_drop (bs : List UInt8) (n : Nat) : br (bs.drop n) = (br bs).drop n := List.map_drop
theorem br_flatten (bs : List UInt8) : (br bs).flatten = bs.map fun b => Value.int .u8 b.toNat := by
  induction bs with
  | nil => rfl
  | cons x xs ih => simp only [br, List.map_cons, List.flatten_cons] at ih ⊢; rw [ih]; rfl

theorem SL.takes {w : World} {n : Nat} {ao : Option Addr} {cap : Nat} {rows : List (List Value)} (h : SL w n ao cap rows) {k : Nat} (_ : k ≤ rows.length) (hn : ao = none → k = 0) : SL w n ao k (rows.take k) :=
  ⟨by simp; omega, by have := h.le; have := h.max; omega, hn, fun r hr => h.wid r (List.mem_of_mem_take hr), fun i j r v hr hv => h.cells i j r v (by
    rw [List.getElem?_take] at hr
    split at hr
    · exact hr
    · cases hr) hv⟩

theorem SL.drops {w : World} {ao : Option Addr} {cap : Nat} {rows : List (List Value)} (h : SL w 1 ao cap rows) {k : Nat} (_hk : k ≤ rows.length) : SL w 1 (ao.map (·.add k)) (cap - k) (rows.drop k) := by
  refine ⟨by have := h.le; simp; omega, by have := h.max; omega, fun hn => ?_, fun r hr => h.wid r (List.mem_of_mem_drop hr), fun i j r v hr hv => ?_⟩
  · have := h.nil (by simpa using hn)
    omega
  · rw [List.getElem?_drop] at hr
    obtain ⟨b, o, rfl, hc⟩ := h.cells (k + i) j r v hr hv
    refine ⟨b, o + k, ?_, ?_⟩
    · simp [Addr.add_lit]
    · rw [show o + k + i * 1 + j = o + (k + i) * 1 + j by omega]
      exact hc

theorem SL.done {w : World} {n : Nat} (ao : Option Addr) : SL w n ao 0 [] := ⟨by simp, by omega, fun _ => rfl, by simp, by simp⟩

/-- w' is w but for the block g and new blocks -/
abbrev Turn (g : Nat) (w w' : World) : Prop := w.grownBy w' (some g)
theorem Turn.refl (g : Nat) (w : World) : Turn g w w := World.grownBy.refl w _
theorem Turn.trans {g : Nat} {a b c : World} (h : Turn g a b) (k : Turn g b c) : Turn g a c := World.grownBy.trans h k
theorem Turn.of_ext {g : Nat} {a b : World} (h : Ext a b) : Turn g a b := ⟨h.os, h.tape, h.output, h.size, fun k hk _ => h.block k hk⟩
theorem Turn.setCell (w : World) (p : Addr) (u : Value) : Turn p.block w (w.setCell p u) := by
  have h : Below p.block w (w.setCell p u) := Below.setCell (Below.refl _ _) (Nat.le_refl _) u
  refine ⟨h.os, h.tape, h.output, h.size, fun k hk hne => ?_⟩
  have hne' : p.block ≠ k := fun e => hne (by rw [e])
  unfold World.setCell
  split <;> simp [Array.getElem?_modify, hne']

/-- A reader at p: its one cell is a slice that shows the bytes bs. -/
structure Rd (w : World) (p : Addr) (bs : List UInt8) : Prop where
  ex : ∃ ao cap, w.cell? p = some (.slice ao bs.length cap) ∧ SL w 1 ao cap (br bs) ∧ (∀ a, ao = some a → bs ≠ [] → a.block < p.block)
  fz : w.frozen? p = false

theorem Rd.lt {w : World} {p : Addr} {bs : List UInt8} (h : Rd w p bs) : p.block < w.heap.size := by
  obtain ⟨ao, cap, hc, _⟩ := h.ex
  exact World.block_lt_of_cell? _ _ hc
theorem Rd.keep {w w' : World} {p : Addr} {bs : List UInt8} (h : Rd w p bs) (hk : ∀ b, b ≤ p.block → w'.heap[b]? = w.heap[b]?) : Rd w' p bs := by
  obtain ⟨⟨ao, cap, hc, hs, hb⟩, hz⟩ := h
  refine ⟨⟨ao, cap, (World.cell?_of_block (w := w) (hk _ (Nat.le_refl _))).trans hc, hs.keep fun a ha hr => hk _ (Nat.le_of_lt (hb a ha (fun e => hr (by rw [e]; rfl)))), hb⟩, ?_⟩
  rw [World.frozen?_of_block (w := w) (hk _ (Nat.le_refl _))]
  exact hz
theorem Rd.ext {w w' : World} {p : Addr} {bs : List UInt8} (h : Rd w p bs) (hE : Ext w w') : Rd w' p bs :=
  h.keep fun b hb => hE.block b (Nat.lt_of_le_of_lt hb h.lt)
theorem heap_setCell_far (w : World) (q : Addr) (u : Value) (b : Nat) (hb : b ≠ q.block) : (w.setCell q u).heap[b]? = w.heap[b]? := by
  unfold World.setCell
  simp [Array.getElem?_modify, Ne.symm hb]
theorem Rd.setCell {w : World} {p : Addr} {bs : List UInt8} (h : Rd w p bs) (q : Addr) (u : Value) (hq : p.block < q.block) : Rd (w.setCell q u) p bs :=
  h.keep fun b hb => heap_setCell_far w q u b (by omega)
theorem Turn.cell {g : Nat} {w w' : World} (h : Turn g w w') {p : Addr} {u : Value} (hu : w.cell? p = some u) (hp : p.block ≠ g) : w'.cell? p = some u := World.grownBy.cell h hu (by simpa using hp)
theorem Turn.frozen {g : Nat} {w w' : World} (h : Turn g w w') {p : Addr} (hlt : p.block < w.heap.size) (hp : p.block ≠ g) : w'.frozen? p = w.frozen? p := World.grownBy.frozen_far h p hlt (by simpa using hp)
/-- a store into a block that came up behind w -/
theorem Turn.store {g : Nat} {w w' : World} (h : Turn g w w') (q : Addr) (u : Value) (hq : w.heap.size ≤ q.block) : Turn g w (w'.setCell q u) := by
  have hs : (w'.setCell q u).heap.size = w'.heap.size := by simp [World.setCell]
  exact ⟨h.os, h.tape, h.output, by rw [hs]; exact h.size, fun k hk hne => by rw [heap_setCell_far w' q u k (by omega)]; exact h.block k hk hne⟩

/-- a variable of four cells -/
structure Box (w : World) (B : Nat) (k n s l : Value) : Prop where
  c0 : w.cell? ⟨B, 0, none⟩ = some k
  c1 : w.cell? ⟨B, 1, none⟩ = some n
  c2 : w.cell? ⟨B, 2, none⟩ = some s
  c3 : w.cell? ⟨B, 3, none⟩ = some l
  z : ∀ i, w.frozen? ⟨B, i, none⟩ = false
theorem Box.lt {w : World} {B : Nat} {k n s l : Value} (h : Box w B k n s l) : B < w.heap.size := World.block_lt_of_cell? _ _ h.c0
theorem Box.new (w : World) (k n s l : Value) (t : TypeId) : Box (w.alloc (.cells #[k, n, s, l] t)) w.heap.size k n s l := ⟨by simp, by simp, by simp, by simp, fun i => by simp⟩
theorem Box.keep {w w' : World} {B : Nat} {k n s l : Value} (h : Box w B k n s l) (hk : w'.heap[B]? = w.heap[B]?) : Box w' B k n s l :=
  ⟨(World.cell?_of_block (w := w) (a := ⟨B, 0, none⟩) hk).trans h.c0, (World.cell?_of_block (w := w) (a := ⟨B, 1, none⟩) hk).trans h.c1, (World.cell?_of_block (w := w) (a := ⟨B, 2, none⟩) hk).trans h.c2, (World.cell?_of_block (w := w) (a := ⟨B, 3, none⟩) hk).trans h.c3, fun i => (World.frozen?_of_block (w := w) (a := ⟨B, i, none⟩) hk).trans (h.z i)⟩
theorem Box.turn {g : Nat} {w w' : World} {B : Nat} {k n s l : Value} (h : Box w B k n s l) (hT : Turn g w w') (hne : B ≠ g) : Box w' B k n s l :=
  h.keep (hT.block B h.lt (fun e => hne (by simpa using e)))
theorem Box.ext {w w' : World} {B : Nat} {k n s l : Value} (h : Box w B k n s l) (hE : Ext w w') : Box w' B k n s l := h.keep (hE.block B h.lt)
theorem Box.set0 {w : World} {B : Nat} {k n s l : Value} (h : Box w B k n s l) (u : Value) : Box (w.setCell ⟨B, 0, none⟩ u) B u n s l :=
  ⟨World.cell?_setCell_same' _ _ _ (by rw [h.c0]; rfl), (World.cell?_setCell_other _ _ _ _ (by simp)).trans h.c1, (World.cell?_setCell_other _ _ _ _ (by simp)).trans h.c2, (World.cell?_setCell_other _ _ _ _ (by simp)).trans h.c3, fun i => by simpa using h.z i⟩
theorem Box.set1 {w : World} {B : Nat} {k n s l : Value} (h : Box w B k n s l) (u : Value) : Box (w.setCell ⟨B, 1, none⟩ u) B k u s l :=
  ⟨(World.cell?_setCell_other _ _ _ _ (by simp)).trans h.c0, World.cell?_setCell_same' _ _ _ (by rw [h.c1]; rfl), (World.cell?_setCell_other _ _ _ _ (by simp)).trans h.c2, (World.cell?_setCell_other _ _ _ _ (by simp)).trans h.c3, fun i => by simpa using h.z i⟩
theorem Box.set2 {w : World} {B : Nat} {k n s l : Value} (h : Box w B k n s l) (u : Value) : Box (w.setCell ⟨B, 2, none⟩ u) B k n u l :=
  ⟨(World.cell?_setCell_other _ _ _ _ (by simp)).trans h.c0, (World.cell?_setCell_other _ _ _ _ (by simp)).trans h.c1, World.cell?_setCell_same' _ _ _ (by rw [h.c2]; rfl), (World.cell?_setCell_other _ _ _ _ (by simp)).trans h.c3, fun i => by simpa using h.z i⟩
theorem Box.set3 {w : World} {B : Nat} {k n s l : Value} (h : Box w B k n s l) (u : Value) : Box (w.setCell ⟨B, 3, none⟩ u) B k n s u :=
  ⟨(World.cell?_setCell_other _ _ _ _ (by simp)).trans h.c0, (World.cell?_setCell_other _ _ _ _ (by simp)).trans h.c1, (World.cell?_setCell_other _ _ _ _ (by simp)).trans h.c2, World.cell?_setCell_same' _ _ _ (by rw [h.c3]; rfl), fun i => by simpa using h.z i⟩

theorem and127 (x : Nat) (hx : x < 256) : bits .and .u8 (x : Int) 127 = ((x % 128 : Nat) : Int) := by
  have h := u8_and_nat x 127 hx (by omega)
  rw [show ((127 : Nat) : Int) = 127 from rfl] at h
  rw [h]
  congr 1
  have h3 : ∀ x : Nat, x < 256 → x &&& 127 = x % 128 := by decide +kernel
  exact h3 x hx

theorem pow128 (k : Nat) : (128 : Nat) ^ k = 2 ^ (7 * k) := by rw [Nat.pow_mul]

theorem digit_lt {k x : Nat} (hk : k ≤ 9) (h9 : k < 9 ∨ x ≤ 1) : x % 128 * 128 ^ k ≤ 9223372036854775808 := by
  rcases Nat.lt_or_ge k 9 with h | h
  · have h1 : (128 : Nat) ^ k ≤ 128 ^ 8 := Nat.pow_le_pow_right (by omega) (by omega)
    have h2 : x % 128 * 128 ^ k ≤ 127 * 128 ^ 8 := Nat.mul_le_mul (by omega) h1
    exact Nat.le_trans h2 (by decide +kernel)
  · have hk9 : k = 9 := by omega
    subst hk9
    have h2 : x % 128 * 128 ^ 9 ≤ 1 * 128 ^ 9 := Nat.mul_le_mul (by omega) (Nat.le_refl _)
    exact Nat.le_trans h2 (by decide +kernel)

theorem num_step {k a x : Nat} (hk : k ≤ 9) (ha : a < 128 ^ k) (hx : x < 256) (h9 : k < 9 ∨ x ≤ 1) :
    bits .or .u64 (a : Int) (IntKind.u64.wrap (IntKind.u64.wrap (bits .and .u8 (x : Int) 127) * 2 ^ (7 * k))) = ((a + x % 128 * 128 ^ k : Nat) : Int) := by
  have hd := digit_lt (x := x) hk h9
  have hp : (128 : Nat) ^ k ≤ 128 ^ 9 := Nat.pow_le_pow_right (by omega) hk
  have hp2 : (128 : Nat) ^ 9 = 9223372036854775808 := by decide +kernel
  rw [and127 x hx]
  have e1 : IntKind.u64.wrap ((x % 128 : Nat) : Int) = ((x % 128 : Nat) : Int) := u64_small _ (by omega) (by omega)
  rw [e1]
  have e2 : ((x % 128 : Nat) : Int) * 2 ^ (7 * k) = ((x % 128 * 128 ^ k : Nat) : Int) := by rw [pow128]; simp
  rw [e2]
  have gen : ∀ d : Nat, d ≤ 9223372036854775808 → IntKind.u64.wrap (d : Int) = (d : Int) := fun d h => by simp [IntKind.wrap, IntKind.bits, IntKind.signed]; omega
  rw [gen _ hd, u64_or_nat _ _ (by omega) (by omega)]
  congr 1
  rw [pow128] at ha ⊢
  have h := Nat.shiftLeft_add_eq_or_of_lt ha (x % 128)
  rw [Nat.shiftLeft_eq] at h
  rw [Nat.or_comm, ← h, Nat.add_comm]

/-- A number in base 128, lowest digit first: its one numeral that is not padded. -/
def numP : Nat → Nat → List UInt8 → Option (Nat × List UInt8)
  | _, _, [] => none
  | i, acc, b :: bs => if (i = 0 ∨ b.toNat ≠ 0) ∧ (i < 9 ∨ b.toNat ≤ 1) then
      (if b.toNat < 128 then some (acc + b.toNat % 128 * 128 ^ i, bs) else numP (i + 1) (acc + b.toNat % 128 * 128 ^ i) bs) else none
end Go.Sz
