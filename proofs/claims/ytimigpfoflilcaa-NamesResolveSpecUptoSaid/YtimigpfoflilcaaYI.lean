/- Names: Cycle. -/
import Derived.Test.YtimigpfoflilcaaYH
import Derived.Maps.OwnIn
namespace Go.Sz
open Go.RowKit
theorem kpC_grown {A B : World} {row : Option Nat} (hg : A.grownBy B row) (hr : ∀ r, row = some r → ∃ o : Obj, A.heap[r]? = some o ∧ o.isCells = false) : KpC A B := ⟨hg.size, fun b o h1 h2 => by
  refine (hg.block b (Array.getElem?_eq_some_iff.1 h1).1 (fun e => ?_)).trans h1
  obtain ⟨o', h3, h4⟩ := hr b e.symm
  rw [h1] at h3
  cases h3
  rw [h2] at h4
  cases h4⟩
theorem own_kpC {A B : World} {D e size n : Nat} {v : Value} {xs : List Value} (h : A.ownsRow D e size v n xs) (hk : KpC A B) : B.ownsRow D e size v n xs := by
  refine ⟨h.1, ?_⟩
  rcases h.2 with h | ⟨g, cap, cur, h1, h2, h3, h4⟩
  · exact .inl h
  · exact .inr ⟨g, cap, cur, h1, h2, hk.2 _ _ h3 rfl, h4⟩
/-- the blocks of cells but one lie as they lay -/
def KpE (B : Nat) (A W : World) : Prop := A.heap.size ≤ W.heap.size ∧ ∀ (b : Nat) (o : Obj), b ≠ B → A.heap[b]? = some o → o.isCells = true → W.heap[b]? = some o
theorem KpC.kpE {B : Nat} {A W : World} (h : KpC A W) : KpE B A W := ⟨h.1, fun b o _ h1 h2 => h.2 b o h1 h2⟩
theorem kpE_own {β : Type} {B N : Nat} {w₀ : World} : OwnFrom N (fun (_ : β) W => KpE B w₀ W) := fun _ _ _ _ hs hg hr => ⟨Nat.le_trans hs.1 hg.size, fun b o hb h1 h2 => (kpC_grown hg fun r e => (hr r e).2).2 b o (hs.2 b o hb h1 h2) h2⟩
theorem blk_own {β : Type} {b N : Nat} {o : Obj} (ho : o.isCells = true) : OwnFrom N (fun (_ : β) W => W.heap[b]? = some o) := fun _ _ _ _ hs hg hr => (kpC_grown hg fun r e => (hr r e).2).2 b o hs ho
theorem own_kpE {A B : World} {E D e size n : Nat} {v : Value} {xs : List Value} (h : A.ownsRow D e size v n xs) (hk : KpE E A B) (hE : E < D) : B.ownsRow D e size v n xs := by
  refine ⟨h.1, ?_⟩
  rcases h.2 with h | ⟨g, cap, cur, h1, h2, h3, h4⟩
  · exact .inl h
  · exact .inr ⟨g, cap, cur, h1, h2, hk.2 _ _ (by omega) h3 rfl, h4⟩
theorem ext_grown {A W w1 : World} {v : Value} (h : Ext A W) (hg : W.grownBy w1 v.ownBlock) (hv : ∀ k, v.ownBlock = some k → A.heap.size ≤ k) : Ext A w1 :=
  Below.trans h ⟨hg.os, hg.tape, hg.output, hg.size, fun b hb => hg.block b (Nat.lt_of_lt_of_le hb h.size) (fun e => by have := hv b e.symm; omega)⟩
theorem nextN_lt {l : List Cr} {is : List Bool} {i j : Nat} (h : nextN l is i = some j) : j < l.length := by
  unfold nextN at h
  cases e : l[i]? with
  | none => rw [e] at h; cases h
  | some c =>
    rw [e] at h
    exact needsN_lt (List.mem_of_find?_eq_some h)
theorem nextN_at {l : List Cr} {is : List Bool} {i : Nat} {c : Cr} (h : l[i]? = some c) : nextN l is i = (needsN l c).find? fun n => !is.getD n false := by unfold nextN; rw [h]
theorem find_first {α : Type} {p : α → Bool} {pre rest : List α} {x : α} (hp : ∀ y ∈ pre, p y = false) (hx : p x = true) : (pre ++ x :: rest).find? p = some x := by
  rw [List.find?_append, List.find?_eq_none.2 (fun y hy => by rw [hp y hy]; simp)]
  simp [hx]
theorem blk1_set {W : World} {B : Nat} {t : TypeId} {u : Value} (h : W.heap[B]? = some (.cells #[u] t (0, 0))) (x : Value) : (W.setCell ⟨B, 0, none⟩ x).heap[B]? = some (.cells #[x] t (0, 0)) := by
  simp only [World.setCell, Array.getElem?_modify, h]
  simp
theorem kpE_set (W : World) (B : Nat) (x : Value) : KpE B W (W.setCell ⟨B, 0, none⟩ x) := ⟨by simp, fun b o hb h1 _ => (heap_setCell_far _ _ _ _ hb).trans h1⟩
/-- what stands through the walk -/
structure CycW (w2 : World) (B4 B5 g : Nat) (cat : Array Value) (isv : Value) (tc ti tb : TypeId) (at' : Nat) (W : World) : Prop where
  e : Ext w2 W
  c : W.heap[g]? = some (.cells cat tc (0, 0))
  i : W.heap[B4]? = some (.cells #[isv] tb (0, 0))
  a : W.heap[B5]? = some (.cells #[.int .i64 at'] ti (0, 0))
theorem CycW.kpC {w2 : World} {B4 B5 g : Nat} {cat : Array Value} {isv : Value} {tc ti tb : TypeId} {at' : Nat} {A W : World} (h : CycW w2 B4 B5 g cat isv tc ti tb at' A) (hE : Ext w2 W) (hk : KpC A W) : CycW w2 B4 B5 g cat isv tc ti tb at' W := ⟨hE, hk.2 _ _ h.c rfl, hk.2 _ _ h.i rfl, hk.2 _ _ h.a rfl⟩
theorem CycW.far {w2 : World} {B4 B5 g D : Nat} {cat : Array Value} {isv : Value} {tc ti tb : TypeId} {at' : Nat} {A W : World} {row : Option Nat} (h : CycW w2 B4 B5 g cat isv tc ti tb at' A) (hg : A.grownBy W row) (hr : ∀ k, row = some k → D ≤ k) (h1 : g < D) (h2 : B4 < D) (h3 : B5 < D) (hw : w2.heap.size ≤ D) : CycW w2 B4 B5 g cat isv tc ti tb at' W :=
  ⟨Below.trans h.e ⟨hg.os, hg.tape, hg.output, hg.size, fun b hb => hg.block b (Nat.lt_of_lt_of_le hb h.e.size) (fun e => by have := hr b e.symm; omega)⟩,
   (hg.block _ (Array.getElem?_eq_some_iff.1 h.c).1 (fun e => by have := hr _ e.symm; omega)).trans h.c,
   (hg.block _ (Array.getElem?_eq_some_iff.1 h.i).1 (fun e => by have := hr _ e.symm; omega)).trans h.i,
   (hg.block _ (Array.getElem?_eq_some_iff.1 h.a).1 (fun e => by have := hr _ e.symm; omega)).trans h.a⟩
theorem grown_keepsFrom {A W : World} {row : Option Nat} (hg : A.grownBy W row) (hc : ∀ k, row = some k → ∃ o : Obj, A.heap[k]? = some o ∧ o.isCells = true) (n : Nat) : KeepsFrom n A W := ⟨hg.size, fun k o _ h1 h2 => by
  refine (hg.block k (Array.getElem?_eq_some_iff.1 h1).1 (fun e => ?_)).trans h1
  obtain ⟨o', h3, h4⟩ := hc k e.symm
  rw [h1] at h3
  cases h3
  rw [h2] at h4
  cases h4⟩
theorem own_isCells {w : World} {D e size n : Nat} {v : Value} {xs : List Value} (h : w.ownsRow D e size v n xs) : ∀ k, v.ownBlock = some k → ∃ o : Obj, w.heap[k]? = some o ∧ o.isCells = true := by
  intro k hk
  rcases h.2 with ⟨rfl, _⟩ | ⟨g, cap, cur, rfl, _, h2, _⟩
  · cases hk
  · obtain rfl : g = k := by simpa [Value.ownBlock] using hk
    exact ⟨_, h2, rfl⟩
end Go.Sz
namespace Go.Proofs.Ytimigpfoflilcaa
open Go.RowKit Go.Sz Go.Shelf
attribute [local go_sem] Oper.semAt_some
set_option maxRecDepth 100000 in
set_option maxHeartbeats 6400000 in
theorem cycle_any (l : List Cr) (hl8 : l.length ≤ 100000) (ao : Option Addr) (cap : Nat) (v1 v2 v3 v4 v5 v6 : Value) (w : World) (hR : RepC w ao cap l) :
    Calls Try.prog 20 #[.agg #[.slice ao l.length cap, v1, v2, v3, v4, v5, v6]] w (RetIs (cycL l) w) := by
  obtain ⟨ii, hi0, hi1, hi2, hi3⟩ := info_parts infoI
  have hX : Ext w (w.alloc (.cells #[.slice ao l.length cap, v1, v2, v3, v4, v5, v6] 29)) := (Ext.refl w).alloc _
  have hg0 : (w.alloc (.cells #[.slice ao l.length cap, v1, v2, v3, v4, v5, v6] 29)).heap[w.heap.size]? = some (.cells #[.slice ao l.length cap, v1, v2, v3, v4, v5, v6] 29 (0, 0)) := World.alloc_heap_new w _
  have HC := Lib.hid (listed_any l hl8 ao cap v1 v2 v3 v4 v5 v6 _ (hR.ext hX))
  have HR := Lib.hid hR
  have HX := Lib.hid hX
  have HII := Lib.hid (And.intro hi0 (And.intro hi1 (And.intro hi2 hi3)))
  have HL8 := Lib.hid hl8
  have HG := Lib.hid hg0
  have HSW : Hid ((w.alloc (.cells #[.slice ao l.length cap, v1, v2, v3, v4, v5, v6] 29)).heap.size = w.heap.size + 1) := Lib.hid (by simp)
  have hs1 := hR.max
  obtain ⟨o, ho⟩ : ∃ o, (listedN l).1 = o := ⟨_, rfl⟩
  obtain ⟨is, his⟩ : ∃ is, (listedN l).2 = is := ⟨_, rfl⟩
  have HIL : Hid (is.length = l.length) := Lib.hid (by rw [← his]; exact (listedN_len l).1)
  have HCY : Hid (cycL l = cycAt l is (is.findIdx? fun b => b == false)) := Lib.hid (by unfold cycL; rw [his])
  unfold RetLs at HC
  rw [ho, his] at HC
  clear hX hg0 hR hi0 hi1 hi2 hi3 hl8 ho his
  refine (callsIn_wide (n := 6)).1 ?_
  refine callsIn_of_wp_marks Try.func20 rfl trivial ?_ rfl
  simp only [Try.ntmps20, List.size_toArray, List.length_cons, List.length_nil, Nat.reduceAdd, Nat.reduceSub, Array.replicate_succ, Array.replicate_zero, List.push_toArray, List.append_toArray, List.nil_append, List.cons_append]
  have hwf1 : Fence.wide.fn 68 := trivial
  have hwf2 : Fence.wide.fn 70 := trivial
  have hwf3 : Fence.wide.fn 71 := trivial
  have hwf4 : Fence.wide.fn 72 := trivial
  have hwf5 : Fence.wide.fn 73 := trivial
  cases hfi : is.findIdx? (fun b => b == false) with
  | none =>
    rw [hfi] at HCY
    have HFB : Hid (findB is false = -1) := Lib.hid (by unfold findB; rw [hfi])
    clear hfi
    gi_wp2_with (first
      | (gi_at_call 68; refine (callsIn_wide.2 HC.out).mono ?_; clear hwf1; rintro e w2 ⟨oa, oc, ba, bc, rfl, h1, h2, hE⟩; have HE := Lib.hid hE; have HI := Lib.hid h2; clear h1 h2 hE)
      | (gi_at_call 70; refine (callsIn_wide.2 (indexB_any is false ba bc _ (HI.out.ext ((Ext.refl w2).alloc _)))).mono ?_; clear hwf2; rintro e w3 ⟨rfl, hE3⟩; rw [HFB.out]; have HE3 := Lib.hid hE3; clear hE3))
    refine ⟨_, results_tmp rfl _ _ _, none, 0, ?_, ?_, (HX.out.trans (HE.out.trans (((Ext.refl w2).alloc _).trans HE3.out))).alloc _⟩
    · rw [HCY.out]; rfl
    · rw [HCY.out]; exact SL.empty _ _
  | some at0 =>
    rw [hfi] at HCY
    have HFB : Hid (findB is false = (at0 : Int)) := Lib.hid (by unfold findB; rw [hfi])
    have HA0 : Hid (at0 < l.length) := Lib.hid (by rw [← HIL.out]; exact (List.findIdx?_eq_some_iff_getElem.1 hfi).1)
    clear hfi
    gi_wp2_with (first
      | (gi_at_call 68; refine (callsIn_wide.2 HC.out).mono ?_; clear hwf1; rintro e w2 ⟨oa, oc, ba, bc, rfl, h1, h2, hE⟩; have HE := Lib.hid hE; have HI := Lib.hid h2; clear h1 h2 hE)
      | (gi_at_call 70; refine (callsIn_wide.2 (indexB_any is false ba bc _ (HI.out.ext ((Ext.refl w2).alloc _)))).mono ?_; clear hwf2; rintro e w3 ⟨rfl, hE3⟩; rw [HFB.out]; have HE3 := Lib.hid hE3; clear hE3))
    have hst : CycW w2 w2.heap.size w3.heap.size w.heap.size #[.slice ao l.length cap, v1, v2, v3, v4, v5, v6] (.slice ba is.length bc) 29 3 112 at0 (w3.alloc (.cells #[.int .i64 at0] 3)) := by
      have e3 : Ext w2 (w3.alloc (.cells #[.int .i64 at0] 3)) := (((Ext.refl w2).alloc _).trans HE3.out).alloc _
      refine ⟨e3, e3.kpC.2 _ _ (HE.out.kpC.2 _ _ HG.out rfl) rfl, (HE3.out.alloc _).kpC.2 _ _ (World.alloc_heap_new w2 _) rfl, World.alloc_heap_new w3 _⟩
    have hsz : (w3.alloc (.cells #[.int .i64 at0] 3)).heap.size = w3.heap.size + 1 := by simp
    have HLE : Hid (w.heap.size + 1 ≤ w2.heap.size ∧ w2.heap.size + 1 ≤ w3.heap.size) := Lib.hid ⟨by have h1 := HE.out.size; have h2 := HSW.out; omega, by have h1 := HE3.out.size; simp only [World.size_alloc] at h1; omega⟩
    have HST := Lib.hid hst
    have HSZ := Lib.hid hsz
    have HX2 := Lib.hid (HX.out.trans HE.out)
    clear hst hsz HX HE HG HSW HC HE3
    generalize (w3.alloc (.cells #[.int .i64 at0] 3)) = W5 at *
    rw [show decide ((at0 : Int) < 0) = false from decide_eq_false (by omega)]
    refine wpIn_loop (fun a' wr => ∃ (way : List Nat) (at' f : Nat) (L : List Nat) (u6 u7 u19 u20 u21 u22 u23 u24 u25 u26 u27 u28 u29 u30 u31 u32 u33 u34 u35 u36 : Value), a' = { tmps := #[.agg #[.slice ao l.length cap, v1, v2, v3, v4, v5, v6], .pointer (some ⟨w.heap.size, 0, none⟩), .slice none 0 0, .slice oa o.length oc, .pointer (some ⟨w2.heap.size, 0, none⟩), .pointer (some ⟨w3.heap.size, 0, none⟩), u6, u7, undef, undef, .tuple #[.slice oa o.length oc, .slice ba is.length bc], .agg #[.slice ao l.length cap, v1, v2, v3, v4, v5, v6], .tuple #[.slice oa o.length oc, .slice ba is.length bc], .slice oa o.length oc, .slice ba is.length bc, .slice ba is.length bc, .int .i64 at0, .int .i64 at0, .bool false, u19, u20, u21, u22, u23, u24, u25, u26, u27, u28, u29, u30, u31, u32, u33, u34, u35, u36, undef, undef, undef, undef, undef, undef, undef, undef, undef, undef, undef, undef, undef, undef, undef, undef, undef, undef, undef, undef, undef], defers := L.map mk1 } ∧ wr.ownsRow (w3.heap.size + 1) 3 1 u6 (ints way).length (irows (ints way)).flatten ∧ CycW w2 w2.heap.size w3.heap.size w.heap.size #[.slice ao l.length cap, v1, v2, v3, v4, v5, v6] (.slice ba is.length bc) 29 3 112 at' wr ∧ w3.heap.size + 1 ≤ wr.heap.size ∧ Marks (w3.heap.size + 1) L wr ∧
        (at' < l.length ∧ way.Nodup ∧ (∀ x ∈ way, x < l.length) ∧ l.length < f + way.length ∧ wayN l is f way at' = wayN l is (l.length + 1) [] at0))
      (fun a' _ => l.length + 1 - lenV (a'.tmps[6]!)) ⟨[], at0, l.length + 1, [], _, _, _, _, _, _, _, _, _, _, _, _, _, _, _, _, _, _, _, _, rfl, World.ownsRow_nil _ _ _ _, HST.out, by have := HSZ.out; omega, Marks.nil _ _, HA0.out, List.nodup_nil, fun _ h => (by cases h), by simp, rfl⟩ ?_
    rintro a' wr ⟨way, at', f, L, u6, u7, u19, u20, u21, u22, u23, u24, u25, u26, u27, u28, u29, u30, u31, u32, u33, u34, u35, u36, rfl, hO, hW, hS, hM, hP⟩
    have HO := Lib.hid hO
    have HW := Lib.hid hW
    have HM := Lib.hid hM
    have HP := Lib.hid hP
    have HS := Lib.hid hS
    have c5 : wr.cell? ⟨w3.heap.size, 0, none⟩ = some (.int .i64 at') := by simp [World.cell?, hW.a]
    obtain ⟨wa, wc, hu6, hws, -⟩ := SL.of_own hO (irows_wid _) (by simp [irows])
    subst hu6
    have HWS := Lib.hid hws
    have HWL : Hid ((ints way).length = way.length ∧ way.length ≤ l.length) := Lib.hid ⟨ints_length _, nodup_len hP.2.1 hP.2.2.1⟩
    have HCT := Lib.hid (containsI_any (ints way) at' wa wc wr hws)
    have hz1 := hws.max
    clear hO hW hM hP hS hws HST
    by_cases hm : at' ∈ way
    · rw [show decide ((at' : Int) ∈ ints way) = true from decide_eq_true (ints_mem.2 hm)] at HCT
      have HMM := Lib.hid hm
      clear hm
      obtain ⟨k, hk, hfk⟩ := findI_at (ints_mem.2 HMM.out)
      have HFK := Lib.hid hfk
      have hki : (k : Int) ≤ ((ints way).length : Int) := by omega
      have hk0 : (0 : Int) ≤ (k : Int) := by omega
      have HKL := Lib.hid hk
      have hwc := HWS.out.le
      rw [show (irows (ints way)).length = (ints way).length from List.length_map _] at hwc
      have hck : ¬ wc = k := by omega
      obtain ⟨ob, oo, rfl, -⟩ := irows_cell (i := k) HWS.out (Ext.refl _) hk
      have HWAY := Lib.hid HP.out.2.2.2.2
      have HLT := Lib.hid HP.out.2.2.1
      have HME := Lib.hid (And.intro HM.out HS.out)
      clear hk hfk
      gi_wp2_with (first
        | (gi_at_call 71; refine (callsIn_wide.2 HCT.out).mono ?_; clear hwf3; rintro e w6 ⟨rfl, hE6⟩; have c6 := hE6.cell c5; have HE6 := Lib.hid hE6; clear hE6 c5)
        | (gi_at_call 73; refine (callsIn_wide.2 (indexI_any (ints way) at' (some ⟨ob, oo, none⟩) wc w6 (HWS.out.ext HE6.out))).mono ?_; clear hwf5; rintro e w7 ⟨rfl, hE7⟩; rw [HFK.out]; have HE7 := Lib.hid hE7; clear hE7 c6))
      have HX7 := Lib.hid (HE6.out.trans HE7.out)
      have hcat : CatBox w7 w.heap.size ao l.length cap v1 v2 v3 v4 v5 v6 := CatBox.of (HX7.out.kpC.2 _ _ HW.out.c rfl)
      have hcc := hcat.c0
      have HRY := Lib.hid (HR.out.ext (HX2.out.trans (HW.out.e.trans HX7.out)))
      have HWY := Lib.hid (HWS.out.ext HX7.out)
      clear hcat
      gi_loopw [2, 43] (fun v iv wr => ∃ m : Nat, iv = .int .i64 m ∧ m ≤ (ints way).length - k ∧ wr.ownsRow w7.heap.size 3 1 v (((way.drop k).take m).map (nuAt l)).length (irows (((way.drop k).take m).map (nuAt l))).flatten ∧ Ext w7 wr) (fun _ iv _ => (ints way).length - k - (intOf iv).toNat)
      case atStart => exact ⟨0, rfl, by omega, World.ownsRow_nil _ _ _ _, Ext.refl _⟩
      case round =>
        obtain ⟨m, rfl, hm, hO, hE⟩ := hrel
        have HO3 := Lib.hid hO
        have HE3 := Lib.hid hE
        have c3 := hE.cell hcc
        clear hO hE hcc
        by_cases hlt : m < (ints way).length - k
        · have hmi : (m : Int) < (((ints way).length - k : Nat) : Int) := by omega
          have hmw : k + m < way.length := by have := HWL.out.1; omega
          obtain ⟨i, hi⟩ : ∃ i, way[k + m]? = some i := ⟨_, List.getElem?_eq_getElem hmw⟩
          have hil : i < l.length := HLT.out i (List.mem_of_getElem? hi)
          have hili : (i : Int) < (l.length : Int) := by omega
          obtain ⟨c, hcl⟩ : ∃ c, l[i]? = some c := ⟨_, List.getElem?_eq_getElem hil⟩
          obtain ⟨B, q, a, n, b, mm, rfl, -, -, -, -, -, hcells⟩ := (HRY.out.ext HE3.out).at hcl
          have d1 : wr.cell? ⟨B, q + i * 16 + 1, none⟩ = some (.int .i64 c.nu) := hcells 1 _ rfl
          obtain ⟨ob', oo', eq', e0⟩ := irows_cell (i := k + m) HWY.out HE3.out (by rw [ints_length]; exact hmw)
          cases eq'
          have hei : (ints way)[k + m]'(by rw [ints_length]; exact hmw) = (i : Int) := by
            have : (ints way)[k + m]? = some (i : Int) := by unfold ints; rw [List.getElem?_map, hi]; rfl
            exact (List.getElem?_eq_some_iff.1 this).2
          rw [hei, ← Nat.add_assoc] at e0
          have HSN := Lib.hid (map_take_snoc (f := nuAt l) (o := way.drop k) (m := m) (x := i) (by rw [List.getElem?_drop]; exact hi))
          have HNU := Lib.hid (nuAt_of hcl)
          have HLN : Hid ((((way.drop k).take m).map (nuAt l)).length ≤ 100000) := Lib.hid (by rw [List.length_map, List.length_take, List.length_drop]; have := HWL.out; have := HL8.out; omega)
          clear hcells hcl hi hei
          gi_wp2_with (gi_at_builtin; refine wpListIn_append_own_at _ rfl _ _ 45 rfl w7.heap.size 3 ii _ 1 8 Try.underlying45 HII.out.1 HII.out.2.1 HII.out.2.2.1 HII.out.2.2.2 rfl (by decide) _ _ _ rfl (ownsRow_ext HO3.out ((Ext.refl wr).alloc _)) ⟨wr.heap.size, 0, none⟩ 1 1 [.int .i64 c.nu] rfl rfl (one_cell (by simp)) (by simp [Value.oneCell']) (by have := HLN.out; unfold maxLen; omega) (by have := HLN.out; omega) (by have := HE3.out.size; simp; omega) ?_; intro vo w5 ho5 hg5 _ _; have HO5 := Lib.hid ho5; have HE5 := Lib.hid (ext_grown (HE3.out.alloc _) hg5 (ownsRow_blocks HO3.out)); clear ho5 hg5)
          go_roundw
          case rel =>
            refine ⟨m + 1, by go_num, by omega, ?_, HE5.out⟩
            rw [HSN.out, HNU.out, irows_app, List.flatten_append, List.length_append]
            exact HO5.out
          case measure => simp [intOf] <;> omega
        · have hmi : ¬ (m : Int) < (((ints way).length - k : Nat) : Int) := by omega
          obtain rfl : m = (ints way).length - k := by omega
          rw [List.take_of_length_le (by rw [List.length_drop]; have := HWL.out.1; omega)] at HO3
          have hcy : cycL l = (way.drop k).map (nuAt l) := by
            rw [HCY.out]
            change (((wayN l is (l.length + 1) [] at0).1.drop ((findI (ints (wayN l is (l.length + 1) [] at0).1) ((wayN l is (l.length + 1) [] at0).2 : Int)).toNat)).map (nuAt l)) = _
            rw [← HWAY.out, wayN_stop HMM.out, HFK.out]
            rfl
          have HCQ := Lib.hid hcy
          clear hcy
          obtain ⟨ra, rc, rfl, hrs, -⟩ := SL.of_own HO3.out (irows_wid _) (by simp [irows])
          have hext : Ext w wr := HX2.out.trans (HW.out.e.trans (HX7.out.trans HE3.out))
          have hmk := HME.out.1.keep ((HX7.out.trans HE3.out).keepsFrom _)
          have hbase : w.heap.size ≤ w3.heap.size + 1 := by have := HLE.out; omega
          gi_wp2
          exact leaves_marks (I := fun W => Ext w W ∧ SL W 1 ra rc (irows ((way.drop k).map (nuAt l)))) (fun _ X Y row hs hg hr => ⟨ownFrom_below (B := w3.heap.size + 1) (Nat.le_refl _) hbase () X Y row hs.1 hg hr, hs.2.kpC (kpC_grown hg fun r e => (hr r e).2)⟩)
            (fun _ _ => results_tmp rfl _ _ _) (fun W h => ⟨ra, rc, by rw [HCQ.out, List.length_map, List.length_drop]; rfl, by rw [HCQ.out]; exact h.2, h.1⟩) L wr hmk ⟨hext, hrs⟩
    · rw [show decide ((at' : Int) ∈ ints way) = false from decide_eq_false (fun h => hm (ints_mem.1 h))] at HCT
      have HMM := Lib.hid hm
      clear hm
      obtain ⟨f', rfl⟩ : ∃ f', f = f' + 1 := ⟨f - 1, by have := HP.out.2.2.2.1; have := HWL.out.2; omega⟩
      have HND : Hid ((way ++ [at']).Nodup ∧ (∀ x ∈ way ++ [at'], x < l.length)) := Lib.hid ⟨by rw [List.nodup_append]; exact ⟨HP.out.2.1, by simp, fun a ha b hb e => by obtain rfl := List.mem_singleton.1 hb; subst e; exact HMM.out ha⟩, fun x hx => by
        rcases List.mem_append.1 hx with hx | hx
        · exact HP.out.2.2.1 x hx
        · obtain rfl := List.mem_singleton.1 hx; exact HP.out.1⟩
      have HNL := Lib.hid (nodup_len HND.out.1 HND.out.2)
      obtain ⟨c, hcl⟩ : ∃ c, l[at']? = some c := ⟨_, List.getElem?_eq_getElem HP.out.1⟩
      have HCL := Lib.hid hcl
      clear hcl
      gi_wp2_with (first
        | (gi_at_call 71; refine (callsIn_wide.2 HCT.out).mono ?_; clear hwf3; rintro e w6 ⟨rfl, hE6⟩; have c6 := hE6.cell c5; have HW6 := Lib.hid (HW.out.kpC (HW.out.e.trans hE6) hE6.kpC); have HO6 := Lib.hid (ownsRow_ext HO.out hE6); have HM6 := Lib.hid (HM.out.keep (hE6.keepsFrom _)); have HS6 := Lib.hid (Nat.le_trans HS.out hE6.size); clear hE6 c5)
        | (gi_at_builtin; refine wpListIn_append_own_at _ rfl _ _ 45 rfl (w3.heap.size + 1) 3 ii _ 1 8 Try.underlying45 HII.out.1 HII.out.2.1 HII.out.2.2.1 HII.out.2.2.2 rfl (by decide) _ _ _ rfl (ownsRow_ext HO6.out ((Ext.refl w6).alloc _)) ⟨w6.heap.size, 0, none⟩ 1 1 [.int .i64 at'] rfl rfl (one_cell (by simp)) (by simp [Value.oneCell']) (by have := HWL.out; have := HL8.out; unfold maxLen; omega) (by have := HWL.out; have := HL8.out; omega) (by have := HS6.out; simp; omega) ?_; intro vo wz hown' hgrow _ hat; have HOZ := Lib.hid hown'; have hwz := (HW6.out.kpC (HW6.out.e.alloc _) ((Ext.refl w6).alloc (.cells #[.int .i64 at'] 3)).kpC).far hgrow (ownsRow_blocks HO6.out) (by have := HLE.out; omega) (by have := HLE.out; omega) (by omega) (by have := HLE.out; omega); have HWZ := Lib.hid hwz; have HMZ := Lib.hid ((HM6.out.keep (((Ext.refl w6).alloc _).keepsFrom _)).keep (grown_keepsFrom hgrow (own_isCells (ownsRow_ext HO6.out ((Ext.refl w6).alloc _))) _)); have HSS := Lib.hid hgrow.size; have hcz : CatBox wz w.heap.size ao l.length cap v1 v2 v3 v4 v5 v6 := CatBox.of hwz.c; obtain ⟨k0, k1, k2, k3, k4, k5, k6⟩ := hcz; have caz : wz.cell? ⟨w3.heap.size, 0, none⟩ = some (.int .i64 at') := (by simp [World.cell?, hwz.a]); clear hown' hgrow hwz c6 hat)
        | (gi_at_call 72; refine (callsIn_wide.2 (needs_any _ _ _ _ _ _ _ _ _ _ _)).mono ?_; rintro e w5 ⟨rfl, hw5⟩; subst hw5))
      have hEl : Ext wz ((wz.alloc (.cells #[.slice ao l.length cap, v1, v2, v3, v4, v5, v6] 29)).alloc (.cells #[.int .i64 at'] 3)) := ((Ext.refl wz).alloc _).alloc _
      have hsl : ((wz.alloc (.cells #[.slice ao l.length cap, v1, v2, v3, v4, v5, v6] 29)).alloc (.cells #[.int .i64 at'] 3)).heap.size = wz.heap.size + 2 := by simp
      have hcat : CatBox ((wz.alloc (.cells #[.slice ao l.length cap, v1, v2, v3, v4, v5, v6] 29)).alloc (.cells #[.int .i64 at'] 3)) wz.heap.size ao l.length cap v1 v2 v3 v4 v5 v6 := by
        refine CatBox.of (t := 29) (fr := (0, 0)) ?_
        simp only [heap_al, World.size_alloc]
        all_goals (repeat rw [if_neg (by omega)])
        all_goals rfl
      have hat : ((wz.alloc (.cells #[.slice ao l.length cap, v1, v2, v3, v4, v5, v6] 29)).alloc (.cells #[.int .i64 at'] 3)).cell? ⟨wz.heap.size + 1, 0, none⟩ = some (.int .i64 at') := by
        simp only [World.cell?, heap_al, World.size_alloc]
        all_goals (repeat rw [if_neg (by omega)])
        all_goals simp
      have HEL := Lib.hid hEl
      have HSL := Lib.hid hsl
      have HSEQ := Lib.hid (needs1_seq HCL.out wz.heap.size (wz.heap.size + 1) ao cap v1 v2 v3 v4 v5 v6 ((wz.alloc (.cells #[.slice ao l.length cap, v1, v2, v3, v4, v5, v6] 29)).alloc (.cells #[.int .i64 at'] 3)) hcat hat (HR.out.ext (HX2.out.trans (HWZ.out.e.trans hEl))))
      clear hEl hsl hcat hat k0 k1 k2 k3 k4 k5 k6 caz
      generalize ((wz.alloc (.cells #[.slice ao l.length cap, v1, v2, v3, v4, v5, v6] 29)).alloc (.cells #[.int .i64 at'] 3)) = Wl at *
      have hml := HMZ.out.keep (HEL.out.keepsFrom _)
      have HML := Lib.hid hml
      have hmt := hml.lt
      have HNX := Lib.hid (nextN_at (is := is) HCL.out)
      have hs3 := HS6.out
      have hs4 := HSS.out
      have hs5 := HSL.out
      have hs6 := HLE.out
      have hs7 : w2.heap.size ≤ Wl.heap.size := by simp only [World.size_alloc] at hs4; omega
      have HS8 : Hid (w3.heap.size + 1 ≤ Wl.heap.size ∧ w2.heap.size + 1 ≤ w3.heap.size ∧ w.heap.size + 1 ≤ w2.heap.size) := Lib.hid (by simp only [World.size_alloc] at hs4; omega)
      have hie : Ext w2 Wl := HWZ.out.e.trans HEL.out
      have HIE := Lib.hid hie
      clear hs3 hs4 hs5 hs6 hml hie
      refine wpIn_rangeC rfl (enters_of Try.func84 (by kernel_rfl) rfl) HSEQ.out (fun _ => rfl)
        (fun pre V => (∀ n ∈ pre, is.getD n false = true) ∧ KpC Wl V ∧ Marks (w3.heap.size + 1) L V ∧ Ext w2 V)
        (fun k pre V => k = .exit 2 ∧ ∃ n, nextN l is at' = some n ∧ V.heap[w3.heap.size]? = some (.cells #[.int .i64 n] 3 (0, 0)) ∧ KpE w3.heap.size Wl V ∧ Marks (w3.heap.size + 1) L V ∧ Ext w2 V)
        (fun pre X Y row hs hg hr => ⟨hs.1, ownFrom_kpC (B := Wl.heap.size) () X Y row hs.2.1 hg hr, marks_own hmt () X Y row hs.2.2.1 hg hr, ownFrom_below (B := Wl.heap.size) (Nat.le_refl _) hs7 () X Y row hs.2.2.2 hg hr⟩)
        (fun k pre X Y row hs hg hr => ⟨hs.1, by
          obtain ⟨n, h1, h2, h3, h4, h5⟩ := hs.2
          exact ⟨n, h1, blk_own (N := Wl.heap.size) rfl () X Y row h2 hg hr, kpE_own (N := Wl.heap.size) () X Y row h3 hg hr, marks_own hmt () X Y row h4 hg hr, ownFrom_below (B := Wl.heap.size) (Nat.le_refl _) hs7 () X Y row h5 hg hr⟩⟩)
        ⟨fun _ h => (by cases h), KpC.refl _, HML.out, HIE.out⟩
        (fun x a' V => a' = { tmps := #[.agg #[.slice ao l.length cap, v1, v2, v3, v4, v5, v6], .pointer (some ⟨w.heap.size, 0, none⟩), .slice none 0 0, .slice oa o.length oc, .pointer (some ⟨w2.heap.size, 0, none⟩), .pointer (some ⟨w3.heap.size, 0, none⟩), vo, .int .i64 x, undef, undef, .tuple #[.slice oa o.length oc, .slice ba is.length bc], .agg #[.slice ao l.length cap, v1, v2, v3, v4, v5, v6], .tuple #[.slice oa o.length oc, .slice ba is.length bc], .slice oa o.length oc, .slice ba is.length bc, .slice ba is.length bc, .int .i64 at0, .int .i64 at0, .bool false, .slice wa (ints way).length wc, .int .i64 at', .bool false, .bool true, .slice wa (ints way).length wc, .int .i64 at', .slice (some ⟨w6.heap.size, 0, none⟩) 1 1, vo, .agg #[.slice ao l.length cap, v1, v2, v3, v4, v5, v6], .int .i64 at', .func (.func 84) #[] #[.pointer (some ⟨wz.heap.size, 0, none⟩), .pointer (some ⟨wz.heap.size + 1, 0, none⟩)], .int .i64 x, u31, u32, u33, u34, u35, u36, undef, undef, undef, undef, undef, undef, undef, undef, undef, undef, undef, undef, undef, undef, undef, undef, undef, undef, undef, undef, undef], defers := [] })
        (fun x a' _ X Y row hs hg hr => hs)
        ?assign ?body ?done ?stop
      case assign =>
        rintro yl pre x rest V K hxs hI hK
        unfold encN
        gi_wp2
        exact hK _ _ (KeepsFrom.refl _ _) (KpC.refl _) hI rfl
      case body =>
        rintro yl pre x rest a' V hxs hl ⟨rr, hr⟩ ⟨h1, h2, h3, h4⟩ rfl
        have hx : x < is.length := by
          rw [HIL.out]
          exact needsN_lt (show x ∈ needsN l c by rw [hxs]; simp)
        obtain ⟨y, hy⟩ : ∃ y, is[x]? = some y := ⟨_, List.getElem?_eq_getElem hx⟩
        have hgd : is.getD x false = y := by rw [List.getD_eq_getElem?_getD, hy]; rfl
        have HP1 := Lib.hid h1
        have HQ1 := Lib.hid (And.intro h2 (And.intro h3 h4))
        have hxi : (x : Int) < (is.length : Int) := by omega
        have hwv := HWZ.out.kpC h4 (HEL.out.kpC.trans h2)
        obtain ⟨bb, oo, rfl, cc⟩ := b_at HI.out h4.kpC hy
        have q4 : V.cell? ⟨w2.heap.size, 0, none⟩ = some (.slice (some ⟨bb, oo, none⟩) is.length bc) := by simp [World.cell?, hwv.i]
        have q5 : V.cell? ⟨w3.heap.size, 0, none⟩ = some (.int .i64 at') := by simp [World.cell?, hwv.a]
        have z5 : V.frozen? ⟨w3.heap.size, 0, none⟩ = false := by simp [World.frozen?, hwv.a]
        have HWV := Lib.hid hwv
        have HXS := Lib.hid hxs
        clear hxs h1 h2 h3 h4 hr hy hwv
        cases y with
        | true =>
          gi_wp2
          exact ⟨KeepsFrom.refl _ _, KpC.refl _, fun n hn => by
            rcases List.mem_append.1 hn with hn | hn
            · exact HP1.out n hn
            · obtain rfl := List.mem_singleton.1 hn
              exact hgd, HQ1.out⟩
        | false =>
          have hfi : nextN l is at' = some x := by
            rw [HNX.out, HXS.out]
            exact find_first (fun y hy => by rw [HP1.out y hy]; rfl) (by rw [hgd]; rfl)
          gi_wp2
          exact ⟨(KeepsOthers.setCell V _ _).from _, rfl, x, hfi, blk1_set HWV.out.a _, ⟨by simpa using HQ1.out.1.1, fun b o hb h1 h2 => (kpE_set V w3.heap.size (.int .i64 x)).2 b o hb (HQ1.out.1.2 b o h1 h2) h2⟩, HQ1.out.2.1.keep ((KeepsOthers.setCell V _ _).from _), HQ1.out.2.2.setCell (p := ⟨w3.heap.size, 0, none⟩) (by have := HS8.out; show w2.heap.size ≤ w3.heap.size; omega) _⟩
      case done =>
        rintro D V hD ⟨h1, h2, h3, h4⟩ hK
        have HMD := Lib.hid (h3.cons hmt hD (by have := HS8.out; omega) hK)
        have HQ1 := Lib.hid (And.intro h2 h4)
        have hnn : nextN l is at' = none := by
          rw [HNX.out, List.find?_eq_none]
          intro n hn
          rw [h1 n hn]
          simp
        clear h1 h2 h3 h4 hK
        gi_wp2
        have hown : V.ownsRow (w3.heap.size + 1) 3 1 vo (ints (way ++ [at'])).length (irows (ints (way ++ [at']))).flatten := by
          have h8 := own_kpC (ownsRow_ext HOZ.out HEL.out) HQ1.out.1
          rw [ints_snoc, irows_app, List.flatten_append, List.length_append]
          simpa [irows] using h8
        refine ⟨⟨way ++ [at'], at', f', D :: L, _, _, _, _, _, _, _, _, _, _, _, _, _, _, _, _, _, _, _, _, rfl, hown, HWZ.out.kpC HQ1.out.2 (HEL.out.kpC.trans HQ1.out.1), by have h8 := HS8.out; have h9 := HQ1.out.1.1; omega, HMD.out, HP.out.1, HND.out.1, HND.out.2, ?_, ?_⟩, ?_⟩
        · have h8 := HP.out.2.2.2.1
          rw [List.length_append, List.length_singleton]
          omega
        · rw [← HP.out.2.2.2.2, wayN_step HMM.out, hnn]
          rfl
        · have h8 := lenV_own HOZ.out
          have h9 := HNL.out
          have h10 := HWL.out.1
          rw [List.length_append, List.length_singleton] at h9
          show l.length + 1 - lenV vo < l.length + 1 - (ints way).length
          rw [h8]
          omega
      case stop =>
        rintro D k pre V hD ⟨rfl, n, h1, h2, h3, h4, h5⟩ hK
        have HMD := Lib.hid (h4.cons hmt hD (by have := HS8.out; omega) hK)
        gi_wp2
        have hown : V.ownsRow (w3.heap.size + 1) 3 1 vo (ints (way ++ [at'])).length (irows (ints (way ++ [at']))).flatten := by
          have h8 := own_kpE (ownsRow_ext HOZ.out HEL.out) h3 (by omega)
          rw [ints_snoc, irows_app, List.flatten_append, List.length_append]
          simpa [irows] using h8
        refine ⟨⟨way ++ [at'], n, f', D :: L, _, _, _, _, _, _, _, _, _, _, _, _, _, _, _, _, _, _, _, _, rfl, hown, ⟨h5, h3.2 _ _ (by have := HS8.out; omega) (HEL.out.kpC.2 _ _ HWZ.out.c rfl) rfl, h3.2 _ _ (by have := HS8.out; omega) (HEL.out.kpC.2 _ _ HWZ.out.i rfl) rfl, h2⟩, by have h8 := HS8.out; have h9 := h3.1; omega, HMD.out, nextN_lt h1, HND.out.1, HND.out.2, ?_, ?_⟩, ?_⟩
        · have h8 := HP.out.2.2.2.1
          rw [List.length_append, List.length_singleton]
          omega
        · rw [← HP.out.2.2.2.2, wayN_step HMM.out, h1]
          rfl
        · have h8 := lenV_own HOZ.out
          have h9 := HNL.out
          have h10 := HWL.out.1
          rw [List.length_append, List.length_singleton] at h9
          show l.length + 1 - lenV vo < l.length + 1 - (ints way).length
          rw [h8]
          omega
end Go.Proofs.Ytimigpfoflilcaa
