/- Offers: standing, the iterator over the offers and whether they stand. -/
import Derived.Test.YtbnaoefmjmlfbaaOB
import Derived.RangeFuncNested
import Derived.RangeFuncBox
import Derived.RangeFuncBound
import Derived.RangeFuncCalls
import Derived.RangeFuncLeaves
import Derived.Shelf.Abstract
import Derived.Shelf.RegionOpen
import Derived.WalkKit
import Derived.OwnWalkIn
import Derived.TacticsInMore
import Derived.LoopNIn
import Derived.LoopIn
import Derived.Maps.AppendAt
namespace Go.Sz
open Go.RowKit
/-- blocks below n1 but two lie as they lay -/
def KpY (n1 B4 B5 : Nat) (A B : World) : Prop := A.heap.size ≤ B.heap.size ∧ ∀ b, b < n1 → b ≠ B4 → b ≠ B5 → B.heap[b]? = A.heap[b]?
theorem KpY.trans {n1 B4 B5 : Nat} {A B C : World} (h : KpY n1 B4 B5 A B) (k : KpY n1 B4 B5 B C) : KpY n1 B4 B5 A C := ⟨Nat.le_trans h.1 k.1, fun b h1 h2 h3 => (k.2 b h1 h2 h3).trans (h.2 b h1 h2 h3)⟩
theorem Ext.kpY {n1 B4 B5 : Nat} {A B : World} (h : Ext A B) (hn : n1 ≤ A.heap.size) : KpY n1 B4 B5 A B := ⟨h.size, fun b hb _ _ => h.block b (by omega)⟩
theorem kpY_put {n1 B4 B5 : Nat} (W : World) (l : Nat) (o' : Obj) (hl : n1 ≤ l) : KpY n1 B4 B5 W (W.putObj l o') := ⟨by simp, fun b h1 _ _ => World.putObj_heap_other (by omega)⟩
/-- a slice is read in the same blocks -/
theorem RepO.keep {w w' : World} {ao : Option Addr} {cap : Nat} {l : List Off} (h : RepO w ao cap l) (hk : ∀ x, ao = some x → l ≠ [] → w'.heap[x.block]? = w.heap[x.block]?) : RepO w' ao cap l := by
  refine ⟨SL.le h, SL.max h, SL.nil h, SL.wid h, fun i j r v hr hv => ?_⟩
  obtain ⟨b, o, e, hc⟩ := SL.cells h i j r v hr hv
  refine ⟨b, o, e, ?_⟩
  have hne : l ≠ [] := by rintro rfl; simp [orows] at hr
  rw [← hc]
  exact World.cell?_of_block (a := ⟨b, o + i * 4 + j, none⟩) (hk ⟨b, o, none⟩ e hne)
/-- what the iterator reads -/
structure StdH (W : World) (gl gn : Nat) (now : Int) (ao : Option Addr) (cap : Nat) (l : List Off) : Prop where
  n : W.cell? ⟨gn, 0, none⟩ = some (.int .i64 now)
  sl : W.cell? ⟨gl, 0, none⟩ = some (.slice ao l.length cap)
  a : RepO W ao cap l
theorem StdH.ext {W W' : World} {gl gn : Nat} {now : Int} {ao : Option Addr} {cap : Nat} {l : List Off} (h : StdH W gl gn now ao cap l) (hE : Ext W W') : StdH W' gl gn now ao cap l := ⟨hE.cell h.n, hE.cell h.sl, h.a.ext hE⟩
theorem StdH.kp {W W' : World} {gl gn n1 B4 B5 : Nat} {now : Int} {ao : Option Addr} {cap : Nat} {l : List Off} (h : StdH W gl gn now ao cap l) (hK : KpY n1 B4 B5 W W')
    (h1 : gl < n1 ∧ gl ≠ B4 ∧ gl ≠ B5) (h2 : gn < n1 ∧ gn ≠ B4 ∧ gn ≠ B5) (h4 : ∀ x, ao = some x → l ≠ [] → x.block < n1 ∧ x.block ≠ B4 ∧ x.block ≠ B5) : StdH W' gl gn now ao cap l :=
  ⟨(World.cell?_of_block (hK.2 _ h2.1 h2.2.1 h2.2.2)).trans h.n, (World.cell?_of_block (hK.2 _ h1.1 h1.2.1 h1.2.2)).trans h.sl, h.a.keep fun x hx hne => hK.2 _ (h4 x hx hne).1 (h4 x hx hne).2.1 (h4 x hx hne).2.2⟩
end Go.Sz
namespace Go.Proofs.Ytbnaoefmjmlfbaa
open Go.RowKit Go.Sz Go.Shelf
attribute [local go_sem] Oper.semAt_some
theorem standing_any (ao : Option Addr) (k cap : Nat) (now : Int) (w : World) : Calls Try.prog 31 #[.slice ao k cap, .int .i64 now] w fun e w' =>
    e = .returned (.func (.func 40) #[] #[.pointer (some ⟨w.heap.size, 0, none⟩), .pointer (some ⟨w.heap.size + 1, 0, none⟩)]) ∧ w' = (w.alloc (.cells #[.slice ao k cap] 22)).alloc (.cells #[.int .i64 now] 3) := by
  go_enter Try.func31, Try.ntmps31
  go_wp2_with fail
  go_ret
  exact ⟨rfl, rfl⟩
set_option maxRecDepth 100000 in
set_option maxHeartbeats 3200000 in
theorem standing1_in (n : Nat) (hn : 1 ≤ n) (yl gl gn n1 B4 B5 : Nat) (now : Int) (ao : Option Addr) (cap : Nat) (l : List Off) (J Jx : List (Off × Bool) → World → Prop)
    (hJ : ∀ pre A B, J pre A → Ext A B → J pre B)
    (hY : ∀ pre x W, J pre W → pre.length < l.length → YieldAt Fence.wide (n - 1) Try.prog yl #[.agg #[.int .i64 x.1.s, .int .i64 x.1.a, .int .i64 x.1.b, .int .i64 x.1.u], .bool x.2] W fun e W' =>
      (e = .returned (.bool true) ∧ J (pre ++ [x]) W' ∧ KpY n1 B4 B5 W W') ∨ (e = .returned (.bool false) ∧ Jx (pre ++ [x]) W'))
    (h1 : gl < n1 ∧ gl ≠ B4 ∧ gl ≠ B5) (h2 : gn < n1 ∧ gn ≠ B4 ∧ gn ≠ B5) (h4 : ∀ x, ao = some x → l ≠ [] → x.block < n1 ∧ x.block ≠ B4 ∧ x.block ≠ B5)
    (W : World) (hH : StdH W gl gn now ao cap l) (h0 : J [] W) :
    CallsIn Fence.wide n Try.prog 40 #[.func (.yield yl) #[] #[], .pointer (some ⟨gl, 0, none⟩), .pointer (some ⟨gn, 0, none⟩)] W fun e W' => (∃ v, e = .returned v) ∧
      ((∃ xs, xs = l.map (fun o => (o, decide (now < o.u))) ∧ J xs W') ∨ (∃ pre, True ∧ Jx pre W')) := by
  have HJ := Lib.hid hJ
  have HYY := Lib.hid hY
  have HKP := Lib.hid fun (A B : World) (hA : StdH A gl gn now ao cap l) (hK : KpY n1 B4 B5 A B) => hA.kp hK h1 h2 h4
  have hs1 := hH.a.max
  have HH := Lib.hid hH
  have H0 := Lib.hid h0
  clear hJ hY h1 h2 h4 h0
  obtain ⟨hn0, hl0, _⟩ := hH
  refine callsIn_of_wp Try.func40 rfl trivial ?_ rfl
  simp only [Try.ntmps40, List.size_toArray, List.length_cons, List.length_nil, Nat.reduceAdd, Nat.reduceSub, Array.replicate_succ, Array.replicate_zero, List.push_toArray, List.append_toArray, List.nil_append, List.cons_append]
  gi_wp2
  gi_loopw [8] (fun i wr => ∃ m : Nat, i = .int .i64 m ∧ m ≤ l.length ∧ J ((l.take m).map (fun o => (o, decide (now < o.u)))) wr ∧ StdH wr gl gn now ao cap l) (fun i _ => l.length - (intOf i).toNat)
  case atStart => exact ⟨0, rfl, by omega, H0.out, HH.out⟩
  case round =>
    clear hn0 hl0
    obtain ⟨m, rfl, hm, hJm, hHm⟩ := hrel
    have HJM := Lib.hid hJm
    have HHM := Lib.hid hHm
    clear hJm hHm
    by_cases hlt : m < l.length
    · have hlti : (m : Int) < (l.length : Int) := by omega
      obtain ⟨b, o, rfl, c0, c1, c2, c3⟩ := o_cells HHM.out.a (Ext.refl _) hlt
      have HTK : Hid ((l.take (m + 1)).map (fun o => (o, decide (now < o.u))) = (l.take m).map (fun o => (o, decide (now < o.u))) ++ [(l[m], decide (now < l[m].u))]) := Lib.hid (by rw [List.take_succ_eq_append_getElem hlt, List.map_append]; rfl)
      have hlen : ((l.take m).map (fun o => (o, decide (now < o.u)))).length < l.length := by rw [List.length_map, List.length_take]; omega
      have HLEN := Lib.hid hlen
      have hn0 := HHM.out.n
      clear hlen
      generalize l[m] = x at *
      have hA : Ext wr (wr.alloc (.cells #[.int .i64 x.s, .int .i64 x.a, .int .i64 x.b, .int .i64 x.u] 26)) := (Ext.refl wr).alloc _
      have HA := Lib.hid hA
      have hn1 := hA.cell hn0
      clear hA
      obtain ⟨fn, tmps, assign, body, hy, hR⟩ := HYY.out _ (x, decide (now < x.u)) _ (HJ.out _ _ _ HJM.out HA.out) HLEN.out
      gi_wp2
      refine hR.mono ?_
      rintro e W6 (⟨rfl, hJ6, hk6⟩ | ⟨rfl, hJx6⟩)
      · gi_wp2
        go_roundw
        case rel => exact ⟨m + 1, by go_num, by omega, by rw [HTK.out]; exact hJ6, HKP.out _ _ (HHM.out.ext HA.out) hk6⟩
        case measure => simp [intOf] <;> omega
      · gi_wp2
        refine bodyPost_ret (results_none rfl _ _ _) rfl ?_
        exact ⟨⟨_, rfl⟩, .inr ⟨_, trivial, hJx6⟩⟩
    · have hlti : ¬ (m : Int) < (l.length : Int) := by omega
      have HEND : Hid (J (l.map (fun o => (o, decide (now < o.u)))) wr) := Lib.hid (by have := HJM.out; rwa [List.take_of_length_le (by omega)] at this)
      gi_wp2
      go_end0
      exact ⟨⟨_, rfl⟩, .inl HEND.out⟩
end Go.Proofs.Ytbnaoefmjmlfbaa
