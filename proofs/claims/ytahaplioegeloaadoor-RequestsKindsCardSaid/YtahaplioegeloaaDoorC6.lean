import Derived.Test.YtahaplioegeloaaDoorC5
import Derived.Laws.Alloc2
import Derived.Laws.NewBlocks
import Derived.Laws.EntriesVeiled
import Derived.Deep.RegionHeld3
namespace Go.Sz
open Go.RowKit
theorem Grows.cell {w w' : World} {v v' : Value} (h : Grows w v w' v') {p : Addr} {u : Value} (hn : ∀ k, v.ownBlock = some k → k ≠ p.block) (hu : w.cell? p = some u) : w'.cell? p = some u := by
  have hlt := World.block_lt_of_cell? w p hu
  rw [World.cell?_of_block (w := w) (h.by_.block p.block hlt fun e => hn _ e.symm rfl)]
  exact hu
/-- v's own block is not B -/
abbrev NotBlk (v : Value) (B : Nat) : Prop := ∀ k, v.ownBlock = some k → k ≠ B
theorem Grows.notBlk {w w' : World} {v v' : Value} (h : Grows w v w' v') {B : Nat} (hB : B < w.heap.size) (hn : NotBlk v B) : NotBlk v' B := fun k hk => by
  rcases h.own k hk with h1 | h1
  · exact hn k h1
  · omega
theorem NotBlk.fresh {w : World} {base e size n : Nat} {v : Value} {xs : List Value} (h : w.ownsRow base e size v n xs) : NotBlk v w.heap.size := fun k hk => by
  rcases h.2 with ⟨rfl, _⟩ | ⟨g, cap, cur, rfl, hb, hg, _⟩
  · simp [Value.ownBlock] at hk
  · simp [Value.ownBlock] at hk
    subst hk
    have := (Array.getElem?_eq_some_iff.1 hg).1
    omega
theorem ownsRow_blocks {w : World} {base e size n : Nat} {v : Value} {xs : List Value} (h : w.ownsRow base e size v n xs) : ∀ k, v.ownBlock = some k → base ≤ k := fun k hk => by
  rcases h.2 with ⟨rfl, _⟩ | ⟨g, cap, cur, rfl, hb, _⟩
  · simp [Value.ownBlock] at hk
  · simp [Value.ownBlock] at hk
    subst hk
    exact hb

theorem one_cell {W : World} {b o : Nat} {x : Value} (h : W.cell? ⟨b, o, none⟩ = some x) : ∀ (j : Nat) (u : Value), [x][j]? = some u → W.cell? ((⟨b, o, none⟩ : Addr).add j) = some u := by
  intro j u hj
  cases j with
  | zero => simp at hj; subst hj; exact h
  | succ j => simp at hj

theorem u64_small (n : Int) (h : 0 ≤ n) (h2 : n ≤ 9223372036854775807) : IntKind.u64.wrap n = n := by simp [IntKind.wrap, IntKind.bits, IntKind.signed]; omega

/-- How a value is written. -/
def bytesOf (s : ByteArray) : List UInt8 := s.data.toList
theorem bytesOf_length (s : ByteArray) : (bytesOf s).length = s.size := Array.length_toList
mutual
def V.enc : V → List UInt8
  | .mk k n s l => if k = 1 then 1 :: digits (zig n).toNat else if k = 2 then 2 :: (digits s.size ++ bytesOf s) else 3 :: (digits l.length ++ V.encL l)
def V.encL : List V → List UInt8
  | [] => []
  | x :: xs => x.enc ++ V.encL xs
end
theorem V.encL_append (l m : List V) : V.encL (l ++ m) = V.encL l ++ V.encL m := by
  induction l with
  | nil => rfl
  | cons x xs ih => rw [List.cons_append]; simp only [V.encL]; rw [ih, List.append_assoc]
theorem V.encL_take_succ {l : List V} {k : Nat} (hk : k < l.length) : V.encL (l.take (k + 1)) = V.encL (l.take k) ++ l[k].enc := by
  rw [List.take_succ_eq_append_getElem hk, V.encL_append]; simp [V.encL]
theorem V.encL_take_le {l : List V} (k : Nat) : (V.encL (l.take k)).length ≤ (V.encL l).length := by
  conv => rhs; rw [← List.take_append_drop k l, V.encL_append, List.length_append]
  omega
end Go.Sz

namespace Go.Proofs.YtahaplioegeloaaDoor
open Go.RowKit Go.Sz

theorem newWriter_any (w : World) :
    Calls Tryd.prog 50 #[] w fun e w' => e = .returned (.pointer (some ⟨w.heap.size, 0, none⟩)) ∧ Ext w w' ∧
      w'.cell? ⟨w.heap.size, 1, none⟩ = some (.func (.func 65) #[] #[]) ∧ w'.cell? ⟨w.heap.size, 2, none⟩ = some (.func (.func 68) #[] #[]) ∧
      w'.cell? ⟨w.heap.size, 3, none⟩ = some (.func (.func 69) #[] #[.pointer (some ⟨w.heap.size + 1, 0, none⟩)]) ∧ w'.cell? ⟨w.heap.size + 1, 0, none⟩ = some (.pointer (some ⟨w.heap.size, 0, none⟩)) := by
  go_enter Tryd.func50, Tryd.ntmps50
  go_wp2_with fail
  go_ret
  exact ⟨rfl, ((Ext.refl _).alloc _).alloc _, by simp, by simp, by simp, by simp⟩

set_option maxRecDepth 100000 in
set_option maxHeartbeats 1600000 in
theorem writer1_any (n : Int) (s : ByteArray) (c3 : Value) (v : Value) (bs : List UInt8) (w : World) (base : Nat) (hn : inI64 n) (hown : OwnB w base v bs) (hbase : base ≤ w.heap.size) (hb : bs.length + (1 :: digits (zig n).toNat).length ≤ 1000000) :
    Calls Tryd.prog 65 #[v, .agg #[.int .i64 1, .int .i64 n, .string s, c3]] w fun e w' => ∃ v', e = .returned v' ∧ OwnB w' base v' (bs ++ (1 :: digits (zig n).toNat)) ∧ Grows w v w' v' := by
  obtain ⟨i0, hi, hz0, hz1, hz2⟩ := info_parts info5
  have hz : 0 ≤ zig n ∧ zig n ≤ 18446744073709551615 := by
    have h1 := hn.1
    have h2 := hn.2
    unfold zig
    split <;> omega
  obtain ⟨u, hu⟩ : ∃ u : Nat, zig n = u := ⟨(zig n).toNat, by omega⟩
  have hu2 : u ≤ 18446744073709551615 := by omega
  have HZ := Lib.hid hu
  have HN := Lib.hid hn
  replace hb : bs.length + 1 ≤ 1000000 := by simp at hb; omega
  have HB := Lib.hid hb
  have HU := Lib.hid hu2
  have hnb := NotBlk.fresh hown
  have HO := Lib.hid hown
  clear hz hu hn hb hu2 hown
  go_enter Tryd.func65, Tryd.ntmps65
  go_wp2_with fail
  go_region_held3 (fun w' => w'.cell? ⟨w.heap.size, 1, none⟩ = some (.int .i64 n)) (first | go_keep | (refine Grows.cell (by assumption) ?_ (by assumption); assumption))
    (first
      | (go_at_call 67; refine (unsigned_any n _ HN.out.1 HN.out.2).mono ?_; rintro e w' ⟨rfl, rfl⟩; rw [HZ.out])
      | (go_at_call 66; refine (numeral_any u _ (bs ++ [1]) _ base HU.out (by assumption) (Nat.le_trans (by simp; omega) hg'.by_.size) (by have := HB.out; simp; omega)).mono ?_; rintro e w2 ⟨v2, rfl, ho2, hg2⟩)
      | (refine step_append_S rfl _ _ 29 29 rfl base 5 i0 (.int .u8 0) 1 1 Tryd.underlying29 hi hz0 hz1 hz2 rfl v bs.length (bv bs) rfl (ownsRow_ext HO.out (((Ext.refl _).alloc _).alloc _).drew) _ 1 [.int .u8 1] rfl (Src.ofSlice _ Tryd.underlying29 ⟨_, 0, none⟩ 1 1 _ rfl (one_cell (by simp)) (by simp [Value.oneCell'])) (by have := HB.out; unfold maxLen; omega) (by have := HB.out; omega) (by simp; omega) ?_; intro v' w' ho' hg'; replace ho' : OwnB w' base v' (bs ++ [1]) := OwnB.of ho' (by simp [bv]); have hnb' : NotBlk v' w.heap.size := hg'.notBlk (by simp; omega) hnb))
  go_wp2_with fail
  go_ret
  refine ⟨v2, rfl, ?_, (hg'.trans hg2).ext_left (((Ext.refl _).alloc _).alloc _).drew⟩
  have HZ2 := HZ.out
  rw [show (zig n).toNat = u by omega]
  simpa using ho2

set_option maxRecDepth 100000 in
set_option maxHeartbeats 1600000 in
theorem writer2_any (s : ByteArray) (c1 c3 : Value) (v : Value) (bs : List UInt8) (w : World) (base : Nat) (hown : OwnB w base v bs) (hbase : base ≤ w.heap.size) (hb : bs.length + (2 :: (digits s.size ++ bytesOf s)).length ≤ 1000000) :
    Calls Tryd.prog 68 #[v, .agg #[.int .i64 2, c1, .string s, c3]] w fun e w' => ∃ v', e = .returned v' ∧ OwnB w' base v' (bs ++ (2 :: (digits s.size ++ bytesOf s))) ∧ Grows w v w' v' := by
  obtain ⟨i0, hi, hz0, hz1, hz2⟩ := info_parts info5
  replace hb : bs.length + (digits s.size).length + s.size + 1 ≤ 1000000 := by simp [bytesOf_length] at hb; omega
  have HB := Lib.hid hb
  have hs0 : (0 : Int) ≤ (s.size : Int) := by omega
  have hs1 : (s.size : Int) ≤ 9223372036854775807 := by omega
  have hw : IntKind.u64.wrap (s.size : Int) = (s.size : Int) := u64_small _ (by omega) (by omega)
  have hnb := NotBlk.fresh hown
  have HO := Lib.hid hown
  have HD := Lib.hid (digits_len64 s.size (by omega))
  clear hb hown
  go_enter Tryd.func68, Tryd.ntmps68
  go_wp2_with fail
  go_region_held3 (fun w' => w'.cell? ⟨w.heap.size, 2, none⟩ = some (.string s)) (first | go_keep | (refine Grows.cell (by assumption) ?_ (by assumption); assumption))
    (first
      | (go_at_call 66; refine (numeral_any s.size _ (bs ++ [2]) _ base (by omega) (by assumption) (Nat.le_trans (by simp; omega) hg'.by_.size) (by have := HB.out; simp; omega)).mono ?_; rintro e w2 ⟨v2, rfl, ho2, hg2⟩; have hnb2 : NotBlk v2 w.heap.size := hg2.notBlk (Nat.lt_of_lt_of_le (by simp; omega) hg'.by_.size) hnb')
      | (refine step_append_S rfl _ _ 29 29 rfl base 5 i0 (.int .u8 0) 1 1 Tryd.underlying29 hi hz0 hz1 hz2 rfl v bs.length (bv bs) rfl (ownsRow_ext HO.out (((Ext.refl _).alloc _).alloc _).drew) _ 1 [.int .u8 2] rfl (Src.ofSlice _ Tryd.underlying29 ⟨_, 0, none⟩ 1 1 _ rfl (one_cell (by simp)) (by simp [Value.oneCell'])) (by have := HB.out; unfold maxLen; omega) (by have := HB.out; omega) (by simp; omega) ?_; intro v' w' ho' hg'; replace ho' : OwnB w' base v' (bs ++ [2]) := OwnB.of ho' (by simp [bv]); have hnb' : NotBlk v' w.heap.size := hg'.notBlk (by simp; omega) hnb)
      | (refine step_append_S rfl _ _ 29 9 rfl base 5 i0 (.int .u8 0) 1 1 Tryd.underlying29 hi hz0 hz1 hz2 rfl v2 _ _ rfl ho2 _ s.size (byteCells s) rfl (Src.ofString _ Tryd.underlying9 s) (by have := HB.out; have := HD.out; simp [maxLen]; omega) (by have := HB.out; have := HD.out; simp; omega) (Nat.le_trans (Nat.le_trans (by simp; omega) hg'.by_.size) hg2.by_.size) ?_; intro v3 w3 ho3 hg3))
  go_wp2_with fail
  go_ret
  refine ⟨v3, rfl, ?_, ((hg'.trans hg2).trans hg3).ext_left (((Ext.refl _).alloc _).alloc _).drew⟩
  refine OwnB.of ho3 ?_
  simp [bv, byteCells, bytesOf]

end Go.Proofs.YtahaplioegeloaaDoor
