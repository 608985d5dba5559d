/- Names: is a course ready to be listed (a closure of listed). -/
import Derived.Test.YtimigpfoflilcaaNC
namespace Go.Sz
open Go.RowKit
def brows (l : List Bool) : List (List Value) := l.map fun x => [.bool x]
theorem brows_length (l : List Bool) : (brows l).length = l.length := List.length_map _
theorem b_at {w W : World} {ao : Option Addr} {cap : Nat} {l : List Bool} (h : SL w 1 ao cap (brows l)) (hE : KpC w W) {i : Nat} {x : Bool} (hx : l[i]? = some x) : ∃ b o, ao = some ⟨b, o, none⟩ ∧ W.cell? ⟨b, o + i, none⟩ = some (.bool x) := by
  have hr : (brows l)[i]? = some [.bool x] := by simp [brows, hx]
  obtain ⟨b, o, e, hc⟩ := h.cells i 0 _ _ hr rfl
  exact ⟨b, o, e, by simpa using hE.cell hc⟩
theorem brows_max {w : World} {ao : Option Addr} {cap : Nat} {l : List Bool} (h : SL w 1 ao cap (brows l)) : (l.length : Int) ≤ 9223372036854775807 := by
  have h1 := h.max; have h2 := h.le; rw [brows_length] at h2; omega
theorem ext_cell_own {w : World} {B : Nat} {p : Addr} (v : Value) (hB : w.heap.size ≤ B) : OwnFrom B (fun (_ : Unit) W => Ext w W ∧ W.cell? p = some v) := fun _ X Y row hs hg hr =>
  ⟨ownFrom_below (B := B) (Nat.le_refl _) hB () X Y row hs.1 hg hr, cell_kept hs.2 hg fun r e => (hr r e).2⟩
theorem readyN_at {l : List Cr} {is : List Bool} {i : Nat} {c : Cr} {b : Bool} (hc : l[i]? = some c) (hb : is[i]? = some b) : readyN l is i = (!b && (needsN l c).all fun n => is.getD n false) := by
  unfold readyN
  rw [hc, List.getD_eq_getElem?_getD, hb]
  rfl
end Go.Sz
namespace Go.Proofs.Ytimigpfoflilcaa
open Go.RowKit Go.Sz Go.Shelf
attribute [local go_sem] Oper.semAt_some
set_option maxRecDepth 100000 in
set_option maxHeartbeats 6400000 in
theorem ready_any {l : List Cr} {is : List Bool} (hil : is.length = l.length) {i : Nat} (hi : i < l.length) (gc gi : Nat) (ao bo : Option Addr) (cap bc : Nat) (v1 v2 v3 v4 v5 v6 : Value) (w : World) (hc : CatBox w gc ao l.length cap v1 v2 v3 v4 v5 v6)
    (hb : w.cell? ⟨gi, 0, none⟩ = some (.slice bo is.length bc)) (hR : RepC w ao cap l) (hI : SL w 1 bo bc (brows is)) :
    Calls Try.prog 83 #[.int .i64 i, .pointer (some ⟨gc, 0, none⟩), .pointer (some ⟨gi, 0, none⟩)] w fun e w' => e = .returned (.bool (readyN l is i)) ∧ Ext w w' := by
  obtain ⟨c, hci⟩ : ∃ c, l[i]? = some c := ⟨_, List.getElem?_eq_getElem hi⟩
  obtain ⟨b, hbi⟩ : ∃ b, is[i]? = some b := ⟨_, List.getElem?_eq_getElem (by omega)⟩
  have HRD := Lib.hid (readyN_at hci hbi)
  have hX : Ext w (w.alloc (.cells #[.bool false] 4)) := (Ext.refl w).alloc _
  have hEl : Ext w (((w.alloc (.cells #[.bool false] 4)).alloc (.cells #[.slice ao l.length cap, v1, v2, v3, v4, v5, v6] 29)).alloc (.cells #[.int .i64 i] 3)) := ((((Ext.refl w).alloc _).alloc _).alloc _)
  have hsl : (((w.alloc (.cells #[.bool false] 4)).alloc (.cells #[.slice ao l.length cap, v1, v2, v3, v4, v5, v6] 29)).alloc (.cells #[.int .i64 i] 3)).heap.size = w.heap.size + 3 := by simp
  have hcat : CatBox (((w.alloc (.cells #[.bool false] 4)).alloc (.cells #[.slice ao l.length cap, v1, v2, v3, v4, v5, v6] 29)).alloc (.cells #[.int .i64 i] 3)) (w.heap.size + 1) ao l.length cap v1 v2 v3 v4 v5 v6 := by
    refine CatBox.of (t := 29) (fr := (0, 0)) ?_
    simp only [heap_al, World.size_alloc]
    all_goals (repeat rw [if_neg (by omega)])
    all_goals rfl
  have hat : (((w.alloc (.cells #[.bool false] 4)).alloc (.cells #[.slice ao l.length cap, v1, v2, v3, v4, v5, v6] 29)).alloc (.cells #[.int .i64 i] 3)).cell? ⟨w.heap.size + 1 + 1, 0, none⟩ = some (.int .i64 i) := by
    simp only [World.cell?, heap_al, World.size_alloc]
    all_goals (repeat rw [if_neg (by omega)])
    all_goals simp
  have hbox : (((w.alloc (.cells #[.bool false] 4)).alloc (.cells #[.slice ao l.length cap, v1, v2, v3, v4, v5, v6] 29)).alloc (.cells #[.int .i64 i] 3)).heap[w.heap.size]? = some (.cells #[.bool false] 4 (0, 0)) := by
    simp only [heap_al, World.size_alloc]
    all_goals (repeat rw [if_neg (by omega)])
    all_goals rfl
  have HSEQ := Lib.hid (needs1_seq hci (w.heap.size + 1) (w.heap.size + 1 + 1) ao cap v1 v2 v3 v4 v5 v6 (((w.alloc (.cells #[.bool false] 4)).alloc (.cells #[.slice ao l.length cap, v1, v2, v3, v4, v5, v6] 29)).alloc (.cells #[.int .i64 i] 3)) hcat hat (hR.ext hEl))
  have HLT := Lib.hid fun (n : Nat) (h : n ∈ needsN l c) => (show n < is.length by have := needsN_lt h; omega)
  have HI := Lib.hid (hI.ext hEl)
  have HB := Lib.hid (hEl.cell hb)
  have HBOX := Lib.hid hbox
  have HIL := Lib.hid (And.intro hil hi)
  have HEL := Lib.hid hEl
  have hs1 := brows_max hI
  obtain ⟨k0, k1, k2, k3, k4, k5, k6⟩ := hc.kpC hX.kpC
  clear hcat hat hbox hI hb hc hR hX hEl hil hi hci
  refine (callsIn_wide (n := 6)).1 ?_
  refine callsIn_of_wp_marks Try.func83 rfl trivial ?_ rfl
  simp only [Try.ntmps83, List.size_toArray, List.length_cons, List.length_nil, Nat.reduceAdd, Nat.reduceSub, Array.replicate_succ, Array.replicate_zero, List.push_toArray, List.append_toArray, List.nil_append, List.cons_append]
  have hwf : Fence.wide.fn 72 := trivial
  gi_wp2_with (gi_at_call 72; refine (callsIn_wide.2 (needs_any _ _ _ _ _ _ _ _ _ _ _)).mono ?_; rintro e w5 ⟨rfl, hw5⟩; subst hw5)
  clear k0 k1 k2 k3 k4 k5 k6 hwf
  generalize (((w.alloc (.cells #[.bool false] 4)).alloc (.cells #[.slice ao l.length cap, v1, v2, v3, v4, v5, v6] 29)).alloc (.cells #[.int .i64 i] 3)) = Wl at *
  generalize (w.alloc (.cells #[.bool false] 4)) = Wa at *
  refine wpIn_rangeC rfl (enters_of Try.func84 (by kernel_rfl) rfl) HSEQ.out (fun _ => rfl)
    (fun pre V => (∀ n ∈ pre, is.getD n false = true) ∧ KpC Wl V ∧ Ext w V)
    (fun k pre V => k = .ret ∧ ((needsN l c).all fun n => is.getD n false) = false ∧ KpC Wl V ∧ Ext w V)
    (fun pre X Y row hs hg hr => ⟨hs.1, ownFrom_kpC (B := Wl.heap.size) () X Y row hs.2.1 hg hr, ownFrom_below (B := Wl.heap.size) (Nat.le_refl _) (by omega) () X Y row hs.2.2 hg hr⟩)
    (fun k pre X Y row hs hg hr => ⟨hs.1, hs.2.1, ownFrom_kpC (B := Wl.heap.size) () X Y row hs.2.2.1 hg hr, ownFrom_below (B := Wl.heap.size) (Nat.le_refl _) (by omega) () X Y row hs.2.2.2 hg hr⟩)
    ⟨fun _ h => (by cases h), KpC.refl _, HEL.out⟩
    (fun x a' V => a' = { tmps := #[.int .i64 i, .pointer (some ⟨gc, 0, none⟩), .pointer (some ⟨gi, 0, none⟩), undef, .pointer (some ⟨w.heap.size, 0, none⟩), .int .i64 x, .agg #[.slice ao l.length cap, v1, v2, v3, v4, v5, v6], .int .i64 i, .func (.func 84) #[] #[.pointer (some ⟨w.heap.size + 1, 0, none⟩), .pointer (some ⟨w.heap.size + 1 + 1, 0, none⟩)], .int .i64 x, undef, undef, undef, undef, undef, undef, undef, undef, undef, undef], defers := [] })
    (fun x a' _ X Y row hs hg hr => hs)
    ?assign ?body ?done ?stop
  case assign =>
    rintro yl pre x rest V K hxs ⟨h1, h2, h3⟩ hK
    unfold encN
    gi_wp2
    exact hK _ _ (KeepsFrom.refl _ _) (KpC.refl _) ⟨h1, h2, h3⟩ rfl
  case body =>
    rintro yl pre x rest a' V hxs hl ⟨rr, hr⟩ ⟨h1, h2, h3⟩ rfl
    have hx : x < is.length := HLT.out x (by rw [hxs]; simp)
    obtain ⟨y, hy⟩ : ∃ y, is[x]? = some y := ⟨_, List.getElem?_eq_getElem hx⟩
    have hgd : is.getD x false = y := by rw [List.getD_eq_getElem?_getD, hy]; rfl
    have HP := Lib.hid h1
    have HQ := Lib.hid (And.intro h2 h3)
    have hxi : (x : Int) < (is.length : Int) := by omega
    obtain ⟨bb, oo, rfl, cc⟩ := b_at HI.out h2 hy
    have q0 := h2.cell HB.out
    have ht : V.heap[w.heap.size]? = some (.cells #[.bool false] 4 (0, 0)) := h2.2 _ _ HBOX.out rfl
    have t0 : V.cell? ⟨w.heap.size, 0, none⟩ = some (.bool false) := by simp [World.cell?, ht]
    have tz : V.frozen? ⟨w.heap.size, 0, none⟩ = false := by simp [World.frozen?, ht]
    have HXS := Lib.hid hxs
    clear hxs h1 h2 h3 hr hy ht
    cases y with
    | true =>
      gi_wp2
      exact ⟨KeepsFrom.refl _ _, KpC.refl _, fun n hn => by
        rcases List.mem_append.1 hn with hn | hn
        · exact HP.out n hn
        · obtain rfl := List.mem_singleton.1 hn
          exact hgd, HQ.out⟩
    | false =>
      have hal : ((needsN l c).all fun n => is.getD n false) = false := by
        rw [List.all_eq_false]
        exact ⟨x, by rw [HXS.out]; simp, by rw [hgd]; simp⟩
      gi_wp2
      rw [setCell_id t0]
      exact ⟨KeepsFrom.refl _ _, rfl, hal, HQ.out⟩
  case done =>
    rintro D V hD ⟨h1, h2, h3⟩ hK
    have hall : ((needsN l c).all fun n => is.getD n false) = true := List.all_eq_true.2 fun n hn => h1 n hn
    rw [hall, Bool.and_true] at HRD
    have HQ := Lib.hid (And.intro h2 (And.intro h3 hK))
    obtain ⟨bb, oo, rfl, cc⟩ := b_at HI.out h2 hbi
    have q0 := h2.cell HB.out
    have ht : V.heap[w.heap.size]? = some (.cells #[.bool false] 4 (0, 0)) := h2.2 _ _ HBOX.out rfl
    have t0 : V.cell? ⟨w.heap.size, 0, none⟩ = some (.bool false) := by simp [World.cell?, ht]
    have tz : V.frozen? ⟨w.heap.size, 0, none⟩ = false := by simp [World.frozen?, ht]
    have hii : (i : Int) < (is.length : Int) := by have := HIL.out; omega
    clear h1 h2 h3 hK hbi hall
    gi_wp2
    exact leaves_marks (v := .bool !b) (I := fun W => Ext w W ∧ W.cell? ⟨w.heap.size, 0, none⟩ = some (.bool !b)) (ext_cell_own _ (by omega)) (fun W h => by simp [results, Try.results83, go_sem, h.2]) (fun W h => ⟨by rw [HRD.out], h.1⟩) [D] _
      ((Marks.nil w.heap.size _).cons (n := D) (by simp) (Nat.le_refl _) (by omega) ((KeepsOthers.setCell V _ _).same D _ HQ.out.2.2 rfl)) ⟨Below.setCell (p := ⟨w.heap.size, 0, none⟩) HQ.out.2.1 (Nat.le_refl _) _, World.cell?_setCell_same' _ _ _ (by rw [t0]; rfl)⟩
  case stop =>
    rintro D k pre V hD ⟨rfl, h1, h2, h3⟩ hK
    rw [h1, Bool.and_false] at HRD
    have ht : V.heap[w.heap.size]? = some (.cells #[.bool false] 4 (0, 0)) := h2.2 _ _ HBOX.out rfl
    have t0 : V.cell? ⟨w.heap.size, 0, none⟩ = some (.bool false) := by simp [World.cell?, ht]
    gi_wp2
    exact leaves_marks (v := .bool false) (I := fun W => Ext w W ∧ W.cell? ⟨w.heap.size, 0, none⟩ = some (.bool false)) (ext_cell_own _ (by omega)) (fun W h => by simp [results, Try.results83, go_sem, h.2]) (fun W h => ⟨by rw [HRD.out], h.1⟩) [D] _
      ((Marks.nil w.heap.size _).cons (n := D) (by simp) (Nat.le_refl _) (by omega) hK) ⟨h3, t0⟩
end Go.Proofs.Ytimigpfoflilcaa
