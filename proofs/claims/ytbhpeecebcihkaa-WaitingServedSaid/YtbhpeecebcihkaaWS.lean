/- Waiting: sane, the examples of the chapter; the law's own functions. -/
import Derived.Test.YtbhpeecebcihkaaWH
namespace Go.Sz
open Go.RowKit
abbrev oA : Wt := ⟨7, 3, -1, 5, 1⟩
abbrev oB : Wt := ⟨8, 3, -1, 4, 2⟩
theorem sn1 : joinW [] oA = ([oA], 0) := by decide
theorem sn2 : joinW [oA] oB = ([oB, oA], 0) := by decide
theorem sn3 : joinW [oB, oA] ⟨7, 3, -1, 9, 9⟩ = ([], 260) := by decide
theorem sn4 : leaveW [oB, oA] 8 3 (-1) = ([oA], 0) := by decide
theorem sn5 : leaveW [] 1 3 (-1) = ([], 260) := by decide
theorem sn6 : firstW [oB, oA] 3 (-1) = (oB, true) := by decide
theorem sn7 : firstW [] 3 (-1) = (w0, false) := by decide
theorem sn8 : placeW [oB, oA] 7 3 (-1) = (2, true) := by decide
theorem sn9 : joinW [] ⟨0, 3, 3, 0, 0⟩ = ([], 260) := by decide
theorem sn10 : decide ([oB, oA] = [oB, oA]) = true := by decide
theorem sn11 : decide ([oA] = [oA]) = true := by decide
theorem sn12 : checkW [] = 0 := by decide
theorem sn13 : checkW [oA, oB] = 260 := by decide
theorem sn14 : ofW [oB, oA] 8 = [(3, -1)] := by decide
theorem sn15 : decide ([((3 : Int), (-1 : Int))] = [(3, -1)]) = true := by decide
theorem one_rep (W : World) (x : Wt) (t : TypeId) (B : Nat) (hB : B = W.heap.size) : RepW (W.alloc (.cells x.enc.toArray t)) (some ⟨B, 0, none⟩) 1 [x] := by subst hB; exact sl_new W x.enc 5 t rfl
theorem two_rep (W : World) (x y : Wt) (t : TypeId) (B : Nat) (hB : B = W.heap.size) : RepW (W.alloc (.cells (x.enc ++ y.enc).toArray t)) (some ⟨B, 0, none⟩) 2 [x, y] := by
  subst hB
  have := sl_news W (wrows [x, y]) 5 2 t (wrows_wid _) rfl (by omega)
  exact this
theorem oneB_rep (W : World) (a b : Int) (t : TypeId) (B : Nat) (hB : B = W.heap.size) : RepB (W.alloc (.cells #[.int .i64 a, .int .i64 b] t)) (some ⟨B, 0, none⟩) 1 [(a, b)] := by subst hB; exact sl_new W [.int .i64 a, .int .i64 b] 2 t rfl
def lessW (o p : Wt) : Bool := if o.k ≠ p.k then decide (o.k < p.k) else if o.t ≠ p.t then decide (o.t < p.t) else decide (o.s < p.s)
theorem same_self {α : Type} [DecidableEq α] (l : List α) : decide (l = l) = true := decide_eq_true rfl
end Go.Sz
namespace Go.Proofs.Ytbhpeecebcihkaa
open Go.RowKit Go.Sz
theorem jn_as {l : List Wt} {x : Wt} {r : List Wt × Int} (hr : joinW l x = r) {ao : Option Addr} {cap : Nat} {w : World} (h : RepW w ao cap l) (hb : l.length ≤ 100000) : Calls Try.prog 12 #[.slice ao l.length cap, .agg x.enc.toArray] w (RetLE r w) := hr ▸ join_any l x ao cap w h hb
theorem lv_as {l : List Wt} {s a b : Int} {r : List Wt × Int} (hr : leaveW l s a b = r) {ao : Option Addr} {cap : Nat} {w : World} (h : RepW w ao cap l) (hb : l.length ≤ 100000) : Calls Try.prog 14 #[.slice ao l.length cap, .int .i64 s, .agg #[.int .i64 a, .int .i64 b]] w (RetLE r w) := hr ▸ leave_any l s a b ao cap w h hb
theorem ck_as {l : List Wt}  {r : Int} (hr : checkW l = r) {ao : Option Addr} {cap : Nat} {w : World} (h : RepW w ao cap l) (hb : l.length ≤ 100000) : Calls Try.prog 17 #[.slice ao l.length cap] w fun e w' => e = .returned (.int .i64 r) ∧ Ext w w' := hr ▸ checkW_any l ao cap w h hb
theorem fs_as {l : List Wt} {a b : Int} {r : Wt × Bool} (hr : firstW l a b = r) {ao : Option Addr} {cap : Nat} {w : World} (h : RepW w ao cap l) : Calls Try.prog 19 #[.slice ao l.length cap, .agg #[.int .i64 a, .int .i64 b]] w (RetF r w) := hr ▸ first_any l a b ao cap w h
theorem pl_as {l : List Wt} {s a b : Int} {r : Int × Bool} (hr : placeW l s a b = r) {ao : Option Addr} {cap : Nat} {w : World} (h : RepW w ao cap l) (hb : l.length ≤ 100000) : Calls Try.prog 21 #[.slice ao l.length cap, .int .i64 s, .agg #[.int .i64 a, .int .i64 b]] w (RetP r w) := hr ▸ place_any l s a b ao cap w h hb
theorem of_as {l : List Wt} {s : Int} {r : List Bd} (hr : ofW l s = r) {ao : Option Addr} {cap : Nat} {w : World} (h : RepW w ao cap l) (hb : l.length ≤ 100000) : Calls Try.prog 24 #[.slice ao l.length cap, .int .i64 s] w (RetB r w) := hr ▸ of_any l s ao cap w h hb
theorem rjn_as {l : List Wt} {x : Wt} {r : List Wt × Int} (hr : joinW l x = r) {ao : Option Addr} {cap : Nat} {w : World} (h : RepW w ao cap l) (hb : l.length ≤ 100000) : Calls Try.prog 13 #[.slice ao l.length cap, .agg x.enc.toArray] w (RetLE r w) := hr ▸ refJoin_any l x ao cap w h hb
theorem rlv_as {l : List Wt} {s a b : Int} {r : List Wt × Int} (hr : leaveW l s a b = r) {ao : Option Addr} {cap : Nat} {w : World} (h : RepW w ao cap l) (hb : l.length ≤ 100000) : Calls Try.prog 15 #[.slice ao l.length cap, .int .i64 s, .agg #[.int .i64 a, .int .i64 b]] w (RetLE r w) := hr ▸ refLeave_any l s a b ao cap w h hb
theorem rck_as {l : List Wt}  {r : Int} (hr : checkW l = r) {ao : Option Addr} {cap : Nat} {w : World} (h : RepW w ao cap l) : Calls Try.prog 18 #[.slice ao l.length cap] w fun e w' => e = .returned (.int .i64 r) ∧ Ext w w' := hr ▸ refCheckW_any l ao cap w h
theorem rfs_as {l : List Wt} {a b : Int} {r : Wt × Bool} (hr : firstW l a b = r) {ao : Option Addr} {cap : Nat} {w : World} (h : RepW w ao cap l) : Calls Try.prog 20 #[.slice ao l.length cap, .agg #[.int .i64 a, .int .i64 b]] w (RetF r w) := hr ▸ refFirst_any l a b ao cap w h
theorem rpl_as {l : List Wt} {s a b : Int} {r : Int × Bool} (hr : placeW l s a b = r) {ao : Option Addr} {cap : Nat} {w : World} (h : RepW w ao cap l) (hb : l.length ≤ 100000) : Calls Try.prog 22 #[.slice ao l.length cap, .int .i64 s, .agg #[.int .i64 a, .int .i64 b]] w (RetP r w) := hr ▸ refPlace_any l s a b ao cap w h hb
theorem rof_as {l : List Wt} {s : Int} {r : List Bd} (hr : ofW l s = r) {ao : Option Addr} {cap : Nat} {w : World} (h : RepW w ao cap l) (hb : l.length ≤ 100000) : Calls Try.prog 25 #[.slice ao l.length cap, .int .i64 s] w (RetB r w) := hr ▸ refOf_any l s ao cap w h hb
theorem sm_as {l l' : List Wt} {r : Bool} (hr : decide (l = l') = r) {ao ao' : Option Addr} {cap cap' : Nat} {w : World} (h : RepW w ao cap l) (h' : RepW w ao' cap' l') : Calls Try.prog 16 #[.slice ao l.length cap, .slice ao' l'.length cap'] w fun e w' => e = .returned (.bool r) ∧ Ext w w' := hr ▸ same_any l l' ao ao' cap cap' w h h'
theorem sb_as {l l' : List Bd} {r : Bool} (hr : decide (l = l') = r) {ao ao' : Option Addr} {cap cap' : Nat} {w : World} (h : RepB w ao cap l) (h' : RepB w ao' cap' l') : Calls Try.prog 23 #[.slice ao l.length cap, .slice ao' l'.length cap'] w fun e w' => e = .returned (.bool r) ∧ Ext w w' := hr ▸ sameB_any l l' ao ao' cap cap' w h h'
theorem fw_as {l : List Wt} {r : Bool} (hr : decide (l.length ≤ 40) = r) {ao : Option Addr} {cap : Nat} {w : World} (h : RepW w ao cap l) : Calls Try.prog 11 #[.slice ao l.length cap] w fun e w' => e = .returned (.bool r) ∧ Ext w w' := hr ▸ few_any l ao cap w h
theorem wait_any (a b c d : Int) (w : World) : Calls Try.prog 27 #[.int .i64 a, .int .i64 b, .int .i64 c, .int .i64 d] w fun e w' => e = .returned (.agg #[.int .i64 a, .int .i64 b, .int .i64 (-1), .int .i64 c, .int .i64 d]) ∧ Ext w w' := by
  go_enter Try.func27, Try.ntmps27
  go_wp2_with fail
  go_returns
  refine ⟨by first | rfl | simp, ?_⟩
  repeat (first | exact Below.refl _ _ | refine Below.alloc ?_ (by simp) _ | refine Below.setCell ?_ (by simp) _)
set_option maxRecDepth 100000 in
set_option maxHeartbeats 12800000 in
theorem less_any (o p : Wt) (w : World) : Calls Try.prog 26 #[.agg o.enc.toArray, .agg p.enc.toArray] w fun e w' => e = .returned (.bool (lessW o p)) ∧ Ext w w' := by
  have hX : Ext w ((w.alloc (.cells o.enc.toArray 26)).alloc (.cells p.enc.toArray 26)) := ((Ext.refl w).alloc _).alloc _
  have hT : TwoW o p w.heap.size (w.heap.size + 1) ((w.alloc (.cells o.enc.toArray 26)).alloc (.cells p.enc.toArray 26)) := by unfold TwoW Wt.enc; simp
  have HX := Lib.hid hX
  have HL : Hid (lessW o p = if o.k ≠ p.k then decide (o.k < p.k) else if o.t ≠ p.t then decide (o.t < p.t) else decide (o.s < p.s)) := Lib.hid rfl
  clear hX
  obtain ⟨t0, t1, t2, t3, t4, t5, t6, t7, t8, t9⟩ := hT
  by_cases h1 : o.k = p.k
  · have g1 : (o.k != p.k) = false := by simpa using h1
    have H1 := Lib.hid h1
    clear h1
    by_cases h2 : o.t = p.t
    · have g2 : (o.t != p.t) = false := by simpa using h2
      have H2 := Lib.hid h2
      clear h2
      go_enter Try.func26, Try.ntmps26
      go_wp2_with fail
      go_ret
      exact ⟨ret_bool (by rw [HL.out, if_neg (fun h => h H1.out), if_neg (fun h => h H2.out)]), HX.out⟩
    · have g2 : (o.t != p.t) = true := by simpa using h2
      have H2 := Lib.hid h2
      clear h2
      go_enter Try.func26, Try.ntmps26
      go_wp2_with fail
      go_ret
      exact ⟨ret_bool (by rw [HL.out, if_neg (fun h => h H1.out), if_pos H2.out]), HX.out⟩
  · have g1 : (o.k != p.k) = true := by simpa using h1
    have H1 := Lib.hid h1
    clear h1
    go_enter Try.func26, Try.ntmps26
    go_wp2_with fail
    go_ret
    exact ⟨ret_bool (by rw [HL.out, if_pos H1.out]), HX.out⟩
end Go.Proofs.Ytbhpeecebcihkaa
