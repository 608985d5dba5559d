/- Petitions: facts.of, the iterator over a key's facts. -/
import Derived.Test.YtbniicobkhiniaaF8
import Derived.RangeFuncNested
import Derived.RangeFuncBox
import Derived.RangeFuncBound
import Derived.RangeFuncCalls
import Derived.RangeFuncLeaves
import Derived.Shelf.Abstract
import Derived.Shelf.RegionOpen
import Derived.WalkKit
import Derived.OwnWalkIn
import Derived.TacticsInMore
import Derived.LoopNIn
import Derived.LoopIn
import Derived.Maps.AppendAt
namespace Go.Sz
open Go.RowKit
/-- blocks below n1 but two lie as they lay -/
def KpY (n1 B4 B5 : Nat) (A B : World) : Prop := A.heap.size ≤ B.heap.size ∧ ∀ b, b < n1 → b ≠ B4 → b ≠ B5 → B.heap[b]? = A.heap[b]?
theorem KpY.trans {n1 B4 B5 : Nat} {A B C : World} (h : KpY n1 B4 B5 A B) (k : KpY n1 B4 B5 B C) : KpY n1 B4 B5 A C := ⟨Nat.le_trans h.1 k.1, fun b h1 h2 h3 => (k.2 b h1 h2 h3).trans (h.2 b h1 h2 h3)⟩
theorem Ext.kpY {n1 B4 B5 : Nat} {A B : World} (h : Ext A B) (hn : n1 ≤ A.heap.size) : KpY n1 B4 B5 A B := ⟨h.size, fun b hb _ _ => h.block b (by omega)⟩
theorem kpY_put {n1 B4 B5 : Nat} (W : World) (l : Nat) (o' : Obj) (hl : n1 ≤ l) : KpY n1 B4 B5 W (W.putObj l o') := ⟨by simp, fun b h1 _ _ => World.putObj_heap_other (by omega)⟩
/-- a slice is read in the same blocks -/
theorem RepF.keep {w w' : World} {ao : Option Addr} {cap : Nat} {l : List Ft} (h : RepF w ao cap l) (hk : ∀ x, ao = some x → l ≠ [] → w'.heap[x.block]? = w.heap[x.block]?) : RepF w' ao cap l := by
  refine ⟨SL.le h, SL.max h, SL.nil h, SL.wid h, fun i j r v hr hv => ?_⟩
  obtain ⟨b, o, e, hc⟩ := SL.cells h i j r v hr hv
  refine ⟨b, o, e, ?_⟩
  have hne : l ≠ [] := by rintro rfl; simp [frows] at hr
  rw [← hc]
  exact World.cell?_of_block (a := ⟨b, o + i * 8 + j, none⟩) (hk ⟨b, o, none⟩ e hne)
/-- the facts of a key that are known -/
def selF (k : Ky) (kn : Int) (x : Ft) : Bool := decide (x.key = k) && decide (x.kn ≤ kn)
theorem selF_next {l : List Ft} {m : Nat} {x : Ft} (k : Ky) (kn : Int) (hx : l[m]? = some x) : (l.take (m + 1)).filter (selF k kn) = (l.take m).filter (selF k kn) ++ (if selF k kn x = true then [x] else []) := by
  rw [List.take_add_one, hx, List.filter_append]
  congr 1
  by_cases h : selF k kn x = true
  · rw [if_pos h]; simp [h]
  · rw [if_neg h]; simp [h]
/-- what the iterator reads -/
structure OfH (W : World) (gl gk gn : Nat) (k : Ky) (kn : Int) (ao : Option Addr) (cap : Nat) (l : List Ft) : Prop where
  n : W.cell? ⟨gn, 0, none⟩ = some (.int .i64 kn)
  k0 : W.cell? ⟨gk, 0, none⟩ = some (.int .i64 k.k)
  k1 : W.cell? ⟨gk, 1, none⟩ = some (.int .i64 k.s)
  k2 : W.cell? ⟨gk, 2, none⟩ = some (.int .i64 k.o)
  sl : W.cell? ⟨gl, 0, none⟩ = some (.slice ao l.length cap)
  a : RepF W ao cap l
theorem OfH.ext {W W' : World} {gl gk gn : Nat} {k : Ky} {kn : Int} {ao : Option Addr} {cap : Nat} {l : List Ft} (h : OfH W gl gk gn k kn ao cap l) (hE : Ext W W') : OfH W' gl gk gn k kn ao cap l := ⟨hE.cell h.n, hE.cell h.k0, hE.cell h.k1, hE.cell h.k2, hE.cell h.sl, h.a.ext hE⟩
theorem OfH.kp {W W' : World} {gl gk gn n1 B4 B5 : Nat} {k : Ky} {kn : Int} {ao : Option Addr} {cap : Nat} {l : List Ft} (h : OfH W gl gk gn k kn ao cap l) (hK : KpY n1 B4 B5 W W')
    (h1 : gl < n1 ∧ gl ≠ B4 ∧ gl ≠ B5) (h2 : gn < n1 ∧ gn ≠ B4 ∧ gn ≠ B5) (h3 : gk < n1 ∧ gk ≠ B4 ∧ gk ≠ B5) (h4 : ∀ x, ao = some x → l ≠ [] → x.block < n1 ∧ x.block ≠ B4 ∧ x.block ≠ B5) : OfH W' gl gk gn k kn ao cap l :=
  have hn := hK.2 _ h2.1 h2.2.1 h2.2.2
  have hl := hK.2 _ h1.1 h1.2.1 h1.2.2
  have hk := hK.2 _ h3.1 h3.2.1 h3.2.2
  ⟨(World.cell?_of_block hn).trans h.n, (World.cell?_of_block hk).trans h.k0, (World.cell?_of_block hk).trans h.k1, (World.cell?_of_block hk).trans h.k2, (World.cell?_of_block hl).trans h.sl, h.a.keep fun x hx hne => hK.2 _ (h4 x hx hne).1 (h4 x hx hne).2.1 (h4 x hx hne).2.2⟩
end Go.Sz
namespace Go.Proofs.Ytbniicobkhiniaa
open Go.RowKit Go.Sz Go.Shelf
attribute [local go_sem] Oper.semAt_some
theorem of_any (ao : Option Addr) (n cap : Nat) (k : Ky) (kn : Int) (w : World) : Calls Try.prog 51 #[.slice ao n cap, .agg #[.int .i64 k.k, .int .i64 k.s, .int .i64 k.o], .int .i64 kn] w fun e w' =>
    e = .returned (.func (.func 52) #[] #[.pointer (some ⟨w.heap.size, 0, none⟩), .pointer (some ⟨w.heap.size + 1, 0, none⟩), .pointer (some ⟨w.heap.size + 2, 0, none⟩)]) ∧ w' = ((w.alloc (.cells #[.slice ao n cap] 33)).alloc (.cells #[.int .i64 k.k, .int .i64 k.s, .int .i64 k.o] 26)).alloc (.cells #[.int .i64 kn] 3) := by
  go_enter Try.func51, Try.ntmps51
  go_wp2_with fail
  go_ret
  exact ⟨rfl, rfl⟩
set_option maxRecDepth 100000 in
set_option maxHeartbeats 6400000 in
theorem of1_in (n : Nat) (hn : 1 ≤ n) (yl gl gk gn n1 B4 B5 : Nat) (k : Ky) (kn : Int) (ao : Option Addr) (cap : Nat) (l : List Ft) (J Jx : List Ft → World → Prop)
    (hJ : ∀ pre A B, J pre A → Ext A B → J pre B)
    (hY : ∀ pre x W, J pre W → pre.length < l.length → YieldAt Fence.wide (n - 1) Try.prog yl #[.agg #[.int .i64 x.k, .int .i64 x.s, .int .i64 x.o, .int .i64 x.v, .int .i64 x.fr, .int .i64 x.to, .int .i64 x.kn, .int .i64 x.no]] W fun e W' =>
      (e = .returned (.bool true) ∧ J (pre ++ [x]) W' ∧ KpY n1 B4 B5 W W') ∨ (e = .returned (.bool false) ∧ Jx (pre ++ [x]) W'))
    (h1 : gl < n1 ∧ gl ≠ B4 ∧ gl ≠ B5) (h2 : gn < n1 ∧ gn ≠ B4 ∧ gn ≠ B5) (h3 : gk < n1 ∧ gk ≠ B4 ∧ gk ≠ B5) (h4 : ∀ x, ao = some x → l ≠ [] → x.block < n1 ∧ x.block ≠ B4 ∧ x.block ≠ B5)
    (W : World) (hH : OfH W gl gk gn k kn ao cap l) (h0 : J [] W) :
    CallsIn Fence.wide n Try.prog 52 #[.func (.yield yl) #[] #[], .pointer (some ⟨gl, 0, none⟩), .pointer (some ⟨gk, 0, none⟩), .pointer (some ⟨gn, 0, none⟩)] W fun e W' => (∃ v, e = .returned v) ∧
      ((∃ xs, xs = l.filter (selF k kn) ∧ J xs W') ∨ (∃ pre, True ∧ Jx pre W')) := by
  have HJ := Lib.hid hJ
  have HYY := Lib.hid hY
  have HKP := Lib.hid fun (A B : World) (hA : OfH A gl gk gn k kn ao cap l) (hK : KpY n1 B4 B5 A B) => hA.kp hK h1 h2 h3 h4
  have hs1 := hH.a.max
  have HH := Lib.hid hH
  have H0 := Lib.hid h0
  clear hJ hY h1 h2 h3 h4 h0
  obtain ⟨hn0, hk0, hk1, hk2, hl0, _⟩ := hH
  refine callsIn_of_wp Try.func52 rfl trivial ?_ rfl
  simp only [Try.ntmps52, List.size_toArray, List.length_cons, List.length_nil, Nat.reduceAdd, Nat.reduceSub, Array.replicate_succ, Array.replicate_zero, List.push_toArray, List.append_toArray, List.nil_append, List.cons_append]
  gi_wp2
  gi_loopw [9] (fun i wr => ∃ m : Nat, i = .int .i64 m ∧ m ≤ l.length ∧ J ((l.take m).filter (selF k kn)) wr ∧ OfH wr gl gk gn k kn ao cap l) (fun i _ => l.length - (intOf i).toNat)
  case atStart => exact ⟨0, rfl, by omega, by simpa using H0.out, HH.out⟩
  case round =>
    clear hn0 hl0 hk0 hk1 hk2
    obtain ⟨m, rfl, hm, hJm, hHm⟩ := hrel
    have HJM := Lib.hid hJm
    have HHM := Lib.hid hHm
    clear hJm hHm
    by_cases hlt : m < l.length
    · have hlti : (m : Int) < (l.length : Int) := by omega
      obtain ⟨x, hx⟩ : ∃ x, l[m]? = some x := ⟨_, List.getElem?_eq_getElem hlt⟩
      obtain ⟨b, o, rfl, c0, c1, c2, c3, c4, c5, c6, c7⟩ := f_at HHM.out.a (Ext.refl _) hx
      have HTK := Lib.hid (selF_next k kn hx)
      clear hx
      have hA : Ext wr (wr.alloc (.cells #[.int .i64 x.k, .int .i64 x.s, .int .i64 x.o, .int .i64 x.v, .int .i64 x.fr, .int .i64 x.to, .int .i64 x.kn, .int .i64 x.no] 28)) := (Ext.refl wr).alloc _
      have HA := Lib.hid hA
      have hn0 := hA.cell HHM.out.n
      have hk0 := hA.cell HHM.out.k0
      have hk1 := hA.cell HHM.out.k1
      have hk2 := hA.cell HHM.out.k2
      clear hA
      have he := eqKy x.key k
      unfold Ft.key at he
      dsimp only at he
      have HSEL : Hid (selF k kn x = (decide ((⟨x.k, x.s, x.o⟩ : Ky) = k) && decide (x.kn ≤ kn))) := Lib.hid rfl
      by_cases hc : (⟨x.k, x.s, x.o⟩ : Ky) = k
      · rw [decide_eq_true hc] at he HSEL
        clear hc
        by_cases hd : x.kn ≤ kn
        · rw [decide_eq_true hd] at HSEL
          rw [show selF k kn x = true by rw [HSEL.out]; rfl, if_pos rfl] at HTK
          obtain ⟨fn, tmps, assign, body, hy, hR⟩ := HYY.out _ x _ (HJ.out _ _ _ HJM.out HA.out) (by have h1 := List.length_filter_le (selF k kn) (l.take m); rw [List.length_take] at h1; omega)
          gi_wp2
          refine hR.mono ?_
          rintro e W6 (⟨rfl, hJ6, hk6⟩ | ⟨rfl, hJx6⟩)
          · gi_wp2
            go_roundw
            case rel => exact ⟨m + 1, by go_num, by omega, by rw [HTK.out]; exact hJ6, HKP.out _ _ (HHM.out.ext HA.out) hk6⟩
            case measure => simp [intOf] <;> omega
          · gi_wp2
            refine bodyPost_ret (results_none rfl _ _ _) rfl ?_
            exact ⟨⟨_, rfl⟩, .inr ⟨_, trivial, hJx6⟩⟩
        · rw [decide_eq_false hd] at HSEL
          rw [show selF k kn x = false by rw [HSEL.out]; rfl, if_neg (by simp), List.append_nil] at HTK
          gi_wp2
          rename_i hKK x1 x2 x3 x4
          refine ⟨fun f h => (by cases h), hKK _ _ ?_⟩
          clear hKK x4
          gi_wp2
          go_roundw
          case rel => exact ⟨m + 1, by go_num, by omega, by rw [HTK.out]; exact HJ.out _ _ _ HJM.out HA.out, HHM.out.ext HA.out⟩
          case measure => simp [intOf] <;> omega
      · rw [decide_eq_false hc] at he HSEL
        clear hc
        rw [show selF k kn x = false by rw [HSEL.out]; rfl, if_neg (by simp), List.append_nil] at HTK
        gi_wp2
        rename_i hKK x1 x2 x3 x4
        refine ⟨fun f h => (by cases h), hKK _ _ ?_⟩
        clear hKK x4
        gi_wp2
        go_roundw
        case rel => exact ⟨m + 1, by go_num, by omega, by rw [HTK.out]; exact HJ.out _ _ _ HJM.out HA.out, HHM.out.ext HA.out⟩
        case measure => simp [intOf] <;> omega
    · have hlti : ¬ (m : Int) < (l.length : Int) := by omega
      have HEND : Hid (J (l.filter (selF k kn)) wr) := Lib.hid (by have := HJM.out; rwa [List.take_of_length_le (by omega)] at this)
      gi_wp2
      go_end0
      exact ⟨⟨_, rfl⟩, .inl HEND.out⟩
end Go.Proofs.Ytbniicobkhiniaa
