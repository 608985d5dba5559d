/- cuts: the iterator over the pairs of campuses whose link is cut. -/
import Derived.Test.YtdlahgmbilkdcaaNI
import Derived.RangeFuncNested
import Derived.RangeFuncBox
import Derived.RangeFuncBound
import Derived.RangeFuncCalls
import Derived.RangeFuncLeaves
import Derived.Shelf.Abstract
import Derived.Shelf.RegionOpen
import Derived.WalkKit
import Derived.OwnWalkIn
import Derived.TacticsInMore
import Derived.LoopNIn
import Derived.LoopIn
import Derived.Maps.AppendAt
namespace Go.Sz
open Go.RowKit
def natPairs : List (Nat × Nat) := [(0, 1), (0, 2), (0, 3), (0, 4), (0, 5), (0, 6), (1, 2), (1, 3), (1, 4), (1, 5), (1, 6), (2, 3), (2, 4), (2, 5), (2, 6), (3, 4), (3, 5), (3, 6), (4, 5), (4, 6), (5, 6)]
def pTo (i j : Nat) : List (Nat × Nat) := natPairs.filter fun p => decide (p.1 < i) || (p.1 == i && decide (p.2 < j))
theorem pTo_succ : ∀ i, i < 7 → ∀ j, j < 7 → i < j → pTo i (j + 1) = pTo i j ++ [(i, j)] := by decide
theorem pTo_next : ∀ i, i < 7 → pTo i 7 = pTo (i + 1) (i + 2) := by decide
theorem pTo_start : pTo 0 1 = [] := by decide
theorem pTo_end : pTo 7 8 = natPairs := by decide
theorem pTo_len : ∀ i, i < 7 → ∀ j, j < 7 → i < j → (pTo i j).length < 21 := by decide
def cutTo (P : Int × Int → Bool) (i j : Nat) : List (Int × Int) := ((pTo i j).map fun p => ((p.1 : Int), (p.2 : Int))).filter P
def allPairs : List (Int × Int) := natPairs.map fun p => ((p.1 : Int), (p.2 : Int))
theorem cutTo_succ (P : Int × Int → Bool) {i j : Nat} (hi : i < 7) (hj : j < 7) (hij : i < j) : cutTo P i (j + 1) = cutTo P i j ++ (if P ((i : Int), (j : Int)) = true then [((i : Int), (j : Int))] else []) := by
  unfold cutTo
  rw [pTo_succ i hi j hj hij, List.map_append, List.filter_append]
  congr 1
  by_cases h : P ((i : Int), (j : Int)) = true <;> simp [h]
theorem cutTo_yes {P : Int × Int → Bool} {i j : Nat} (hi : i < 7) (hj : j < 7) (hij : i < j) (h : P ((i : Int), (j : Int)) = true) : cutTo P i (j + 1) = cutTo P i j ++ [((i : Int), (j : Int))] := by
  rw [cutTo_succ P hi hj hij, if_pos h]
theorem cutTo_no {P : Int × Int → Bool} {i j : Nat} (hi : i < 7) (hj : j < 7) (hij : i < j) (h : P ((i : Int), (j : Int)) = false) : cutTo P i (j + 1) = cutTo P i j := by
  rw [cutTo_succ P hi hj hij, if_neg (by rw [h]; simp), List.append_nil]
theorem cutTo_next (P : Int × Int → Bool) {i : Nat} (hi : i < 7) : cutTo P i 7 = cutTo P (i + 1) (i + 2) := by unfold cutTo; rw [pTo_next i hi]
theorem cutTo_start (P : Int × Int → Bool) : cutTo P 0 1 = [] := by unfold cutTo; rw [pTo_start]; rfl
theorem cutTo_end (P : Int × Int → Bool) : cutTo P 7 8 = allPairs.filter P := by unfold cutTo; rw [pTo_end]; rfl
theorem cutTo_len (P : Int × Int → Bool) {i j : Nat} (hi : i < 7) (hj : j < 7) (hij : i < j) : (cutTo P i j).length < 21 := by
  have h1 := pTo_len i hi j hj hij
  have h2 := List.length_filter_le P ((pTo i j).map fun p => ((p.1 : Int), (p.2 : Int)))
  rw [List.length_map] at h2
  unfold cutTo
  omega
/-- is the link cut after a change? -/
def isOn (a : List (Int × Int)) (cx cy : Int) (on : Bool) (p : Int × Int) : Bool := if (p.1 == cx && p.2 == cy) = true then on else hasL a p.1 p.2
def cutL (a : List (Int × Int)) (cx cy : Int) (on : Bool) : List (Int × Int) := allPairs.filter (isOn a cx cy on)

/-- blocks below n1 but B8 lie as they lay -/
def KpX (n1 B8 : Nat) (A B : World) : Prop := A.heap.size ≤ B.heap.size ∧ ∀ b, b < n1 → b ≠ B8 → B.heap[b]? = A.heap[b]?
theorem KpX.trans {n1 B8 : Nat} {A B C : World} (h : KpX n1 B8 A B) (k : KpX n1 B8 B C) : KpX n1 B8 A C := ⟨Nat.le_trans h.1 k.1, fun b h1 h2 => (k.2 b h1 h2).trans (h.2 b h1 h2)⟩
/-- what the iterator reads -/
structure CutH (W : World) (gc go gl : Nat) (cx cy : Int) (on : Bool) (bo : Option Addr) (cap : Nat) (a : List (Int × Int)) : Prop where
  c : Box2 W gc (.int .i64 cx) (.int .i64 cy)
  o : W.cell? ⟨go, 0, none⟩ = some (.bool on)
  l : W.cell? ⟨gl, 0, none⟩ = some (.slice bo a.length cap)
  a : RepA W bo cap a
theorem CutH.ext {W W' : World} {gc go gl : Nat} {cx cy : Int} {on : Bool} {bo : Option Addr} {cap : Nat} {a : List (Int × Int)} (h : CutH W gc go gl cx cy on bo cap a) (hE : Ext W W') : CutH W' gc go gl cx cy on bo cap a :=
  ⟨h.c.ext hE, hE.cell h.o, hE.cell h.l, h.a.ext hE⟩
theorem CutH.kp {W W' : World} {gc go gl n1 B8 : Nat} {cx cy : Int} {on : Bool} {bo : Option Addr} {cap : Nat} {a : List (Int × Int)} (h : CutH W gc go gl cx cy on bo cap a) (hK : KpX n1 B8 W W')
    (h1 : gc < n1 ∧ gc ≠ B8) (h2 : go < n1 ∧ go ≠ B8) (h3 : gl < n1 ∧ gl ≠ B8) (h4 : ∀ x, bo = some x → a ≠ [] → x.block < n1 ∧ x.block ≠ B8) : CutH W' gc go gl cx cy on bo cap a :=
  ⟨h.c.keep (hK.2 _ h1.1 h1.2), (World.cell?_of_block (hK.2 _ h2.1 h2.2)).trans h.o, (World.cell?_of_block (hK.2 _ h3.1 h3.2)).trans h.l,
    ⟨h.a.sl.keep fun x hx hr => hK.2 _ (h4 x hx (by rintro rfl; simp [pr] at hr)).1 (h4 x hx (by rintro rfl; simp [pr] at hr)).2, h.a.rg⟩⟩
theorem _root_.Go.World.cell?_alloc_new0 (w : World) (x y : Int) (t : TypeId) : (w.alloc (.cells #[.int .i64 x, .int .i64 y] t)).cell? ⟨w.heap.size, 0, none⟩ = some (.int .i64 x) := by simp
theorem _root_.Go.World.cell?_alloc_new1 (w : World) (x y : Int) (t : TypeId) : (w.alloc (.cells #[.int .i64 x, .int .i64 y] t)).cell? ⟨w.heap.size, 1, none⟩ = some (.int .i64 y) := by simp
theorem undef_no {b : Bool} (h : some undef = some (Value.bool b)) : False := by cases h
end Go.Sz
namespace Go.Proofs.Ytdlahgmbilkdcaa
open Go.RowKit Go.Sz Go.Shelf
attribute [local go_sem] Oper.semAt_some

set_option maxRecDepth 100000 in
theorem eqLg (d : Nat) (x y x' y' : Int) (w : World) : (Op.equalIn (d + 2) 58 (.agg #[.int .i64 x, .int .i64 y]) (.agg #[.int .i64 x', .int .i64 y'])).run Try.prog w = .ok ((x == x') && (y == y')) w := by
  have h1 := fun w => run_equalIn_int (P := Try.prog) w d 3 .i64 .i64 x x' Try.underlying3
  have h2 := fun w => run_equalIn_int (P := Try.prog) w d 3 .i64 .i64 y y' Try.underlying3
  have hs : ∀ w, (sizeOf 3).run Try.prog w = .ok 1 w := fun w => by simp [sizeOf, go_sem]; kernel_rfl
  rw [Op.equalIn]
  generalize Op.equalIn (d + 1) = E at *
  have hagg : ∀ w, (isAgg 3).run Try.prog w = .ok false w := fun w => by simp [isAgg, run_underlying Try.underlying3]
  simp [run_underlying Try.underlying58, hs, go_sem, part]
  rw [show List.range' 0 2 = [0, 1] from rfl]
  cases hx : (x == x') <;> cases hy : (y == y')
  all_goals
    rw [hx] at h1
    rw [hy] at h2
    simp [List.forIn_cons, go_sem, hagg, h1, h2]
theorem eqL (x y x' y' : Int) (w : World) : (Op.equalIn 10000 58 (.agg #[.int .i64 x, .int .i64 y]) (.agg #[.int .i64 x', .int .i64 y'])).run Try.prog w = .ok ((x == x') && (y == y')) w := eqLg 9998 x y x' y' w

theorem cuts_any (bo : Option Addr) (k cap : Nat) (x y : Int) (on : Bool) (w : World) : Calls Try.prog 39 #[.slice bo k cap, .agg #[.int .i64 x, .int .i64 y], .bool on] w fun e w' =>
    e = .returned (.func (.func 46) #[] #[.pointer (some ⟨w.heap.size + 1, 0, none⟩), .pointer (some ⟨w.heap.size + 1 + 1, 0, none⟩), .pointer (some ⟨w.heap.size, 0, none⟩)]) ∧ w' = ((w.alloc (.cells #[.slice bo k cap] 23)).alloc (.cells #[.int .i64 x, .int .i64 y] 58)).alloc (.cells #[.bool on] 4) := by
  go_enter Try.func39, Try.ntmps39
  go_wp2_with fail
  go_ret
  exact ⟨rfl, rfl⟩

set_option maxRecDepth 100000 in
set_option maxHeartbeats 3200000 in
theorem cuts1_in (n : Nat) (hn : 1 ≤ n) (l gc go gl n1 B8 : Nat) (cx cy : Int) (on : Bool) (bo : Option Addr) (cap : Nat) (a : List (Int × Int)) (J Jx : List (Int × Int) → World → Prop)
    (hJ : ∀ pre A B, J pre A → Ext A B → J pre B)
    (hY : ∀ pre x W, J pre W → pre.length < 21 → YieldAt Fence.wide (n - 1) Try.prog l #[.agg #[.int .i64 x.1, .int .i64 x.2]] W fun e W' =>
      (e = .returned (.bool true) ∧ J (pre ++ [x]) W' ∧ KpX n1 B8 W W') ∨ (e = .returned (.bool false) ∧ Jx (pre ++ [x]) W'))
    (h1 : gc < n1 ∧ gc ≠ B8) (h2 : go < n1 ∧ go ≠ B8) (h3 : gl < n1 ∧ gl ≠ B8) (h4 : ∀ x, bo = some x → a ≠ [] → x.block < n1 ∧ x.block ≠ B8)
    (W : World) (hH : CutH W gc go gl cx cy on bo cap a) (h0 : J [] W) :
    CallsIn Fence.wide n Try.prog 46 #[.func (.yield l) #[] #[], .pointer (some ⟨gc, 0, none⟩), .pointer (some ⟨go, 0, none⟩), .pointer (some ⟨gl, 0, none⟩)] W fun e W' => (∃ v, e = .returned v) ∧
      ((∃ xs, xs = cutL a cx cy on ∧ J xs W') ∨ (∃ pre, True ∧ Jx pre W')) := by
  have hwf : Fence.wide.fn 36 := trivial
  have HJ := Lib.hid hJ
  have HYY := Lib.hid hY
  have HKP := Lib.hid fun (A B : World) (hA : CutH A gc go gl cx cy on bo cap a) (hK : KpX n1 B8 A B) => hA.kp hK h1 h2 h3 h4
  have HON : Hid (∀ p, isOn a cx cy on p = if (p.1 == cx && p.2 == cy) = true then on else hasL a p.1 p.2) := Lib.hid fun p => rfl
  clear hJ hY h1 h2 h3 h4
  refine callsIn_of_wp Try.func46 rfl trivial ?_ rfl
  simp only [Try.ntmps46, List.size_toArray, List.length_cons, List.length_nil, Nat.reduceAdd, Nat.reduceSub, Array.replicate_succ, Array.replicate_zero, List.push_toArray, List.append_toArray, List.nil_append, List.cons_append]
  gi_wp2
  gi_loopw [8] (fun i wr => ∃ m : Nat, i = .int .i64 m ∧ m ≤ 7 ∧ J (cutTo (isOn a cx cy on) m (m + 1)) wr ∧ CutH wr gc go gl cx cy on bo cap a) (fun i _ => 7 - (intOf i).toNat)
  case atStart => exact ⟨0, rfl, by omega, by rw [cutTo_start]; exact h0, hH⟩
  case round =>
    obtain ⟨m, rfl, hm, hJm, hHm⟩ := hrel
    by_cases hlt : m < 7
    · have hlti : (m : Int) < 7 := by omega
      gi_wp2
      gi_loopw [6] (fun j wr => ∃ k : Nat, j = .int .i64 k ∧ m + 1 ≤ k ∧ k ≤ 7 ∧ J (cutTo (isOn a cx cy on) m k) wr ∧ CutH wr gc go gl cx cy on bo cap a) (fun j _ => 7 - (intOf j).toNat)
      case atStart => exact ⟨m + 1, by go_num, by omega, by omega, hJm, hHm⟩
      case round =>
        obtain ⟨k, rfl, hk1, hk2, hJk, hHk⟩ := hrel
        by_cases hlk : k < 7
        · have hA := (Ext.refl wr).alloc (.cells #[.int .i64 m, .int .i64 k] 58)
          have hHa := hHk.ext hA
          have hlki : (k : Int) < 7 := by omega
          obtain ⟨⟨c0, c1, _⟩, co, cl, haR⟩ := hHa
          have HAR := Lib.hid haR
          clear haR
          have hlen := cutTo_len (isOn a cx cy on) hlt hlk (by omega)
          have heq := eqL m k cx cy
          have hJa := HJ.out _ _ _ hJk hA
          cases he : ((m : Int) == cx && (k : Int) == cy) with
          | true =>
            rw [he] at heq
            cases on with
            | true =>
              have HY1 : Hid (isOn a cx cy true ((m : Int), (k : Int)) = true) := Lib.hid (by rw [HON.out]; simp only; rw [if_pos he])
              clear he
              obtain ⟨fn, tmps, assign, body, hy, hR⟩ := HYY.out _ ((m : Int), (k : Int)) _ hJa hlen
              gi_wp2
              refine hR.mono ?_
              rintro e W6 (⟨rfl, hJ6, hk6⟩ | ⟨rfl, hJx6⟩)
              · gi_wp2
                go_roundw
                case rel => exact ⟨k + 1, by go_num, by omega, by omega, by rw [cutTo_yes hlt hlk (by omega) HY1.out]; exact hJ6, HKP.out _ _ (hHk.ext hA) hk6⟩
                case measure => simp [intOf] <;> omega
              · gi_wp2
                refine bodyPost_ret (results_none rfl _ _ _) rfl ?_
                exact ⟨⟨_, rfl⟩, .inr ⟨_, trivial, hJx6⟩⟩
            | false =>
              have HN1 : Hid (isOn a cx cy false ((m : Int), (k : Int)) = false) := Lib.hid (by rw [HON.out]; simp only; rw [if_pos he])
              clear he
              gi_wp2
              · exact (undef_no (by assumption)).elim
              all_goals
                go_roundw
                case rel => exact ⟨k + 1, by go_num, by omega, by omega, by rw [cutTo_no hlt hlk (by omega) HN1.out]; exact HJ.out _ _ _ hJk hA, hHk.ext hA⟩
                case measure => simp [intOf] <;> omega
          | false =>
            rw [he] at heq
            cases hh : hasL a m k with
            | true =>
              have HY1 : Hid (isOn a cx cy on ((m : Int), (k : Int)) = true) := Lib.hid (by rw [HON.out]; simp only; rw [if_neg (by rw [he]; simp)]; exact hh)
              have HC := Lib.hid (contains_any a m k bo cap _ HAR.out)
              rw [hh] at HC
              clear he hh
              gi_wp2_with (gi_at_call 36; refine (callsIn_wide.2 HC.out).mono ?_; rintro e w5 ⟨rfl, hE5⟩; have x0 := hE5.cell (World.cell?_alloc_new0 wr m k 58); have x1 := hE5.cell (World.cell?_alloc_new1 wr m k 58); have hA5 := hA.trans hE5; obtain ⟨fn, tmps, assign, body, hy, hR⟩ := HYY.out _ ((m : Int), (k : Int)) _ (HJ.out _ _ _ hJk hA5) hlen)
              refine hR.mono ?_
              rintro e W6 (⟨rfl, hJ6, hk6⟩ | ⟨rfl, hJx6⟩)
              · gi_wp2
                go_roundw
                case rel => exact ⟨k + 1, by go_num, by omega, by omega, by rw [cutTo_yes hlt hlk (by omega) HY1.out]; exact hJ6, HKP.out _ _ (hHk.ext hA5) hk6⟩
                case measure => simp [intOf] <;> omega
              · gi_wp2
                refine bodyPost_ret (results_none rfl _ _ _) rfl ?_
                exact ⟨⟨_, rfl⟩, .inr ⟨_, trivial, hJx6⟩⟩
            | false =>
              have HN1 : Hid (isOn a cx cy on ((m : Int), (k : Int)) = false) := Lib.hid (by rw [HON.out]; simp only; rw [if_neg (by rw [he]; simp)]; exact hh)
              have HC := Lib.hid (contains_any a m k bo cap _ HAR.out)
              rw [hh] at HC
              clear he hh
              gi_wp2_with (gi_at_call 36; refine (callsIn_wide.2 HC.out).mono ?_; rintro e w5 ⟨rfl, hE5⟩; have hA5 := hA.trans hE5)
              go_roundw
              case rel => exact ⟨k + 1, by go_num, by omega, by omega, by rw [cutTo_no hlt hlk (by omega) HN1.out]; exact HJ.out _ _ _ hJk hA5, hHk.ext hA5⟩
              case measure => simp [intOf] <;> omega
        · have hk7 : k = 7 := by omega
          subst hk7
          gi_wp2
          go_roundw
          case rel => exact ⟨m + 1, by go_num, by omega, by rw [← cutTo_next _ hlt]; exact hJk, hHk⟩
          case measure => simp [intOf] <;> omega
    · have hm7 : m = 7 := by omega
      subst hm7
      gi_wp2
      go_end0
      exact ⟨⟨_, rfl⟩, .inl ⟨_, rfl, by rw [cutTo_end] at hJm; exact hJm⟩⟩
end Go.Proofs.Ytdlahgmbilkdcaa
