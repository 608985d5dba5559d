/- Petitions: a hold or a group is set, or ended, alone (one case). -/
import Derived.Test.YtbniicobkhiniaaFU
namespace Go.Proofs.Ytbniicobkhiniaa
open Go.RowKit Go.Sz
set_option maxRecDepth 100000 in
set_option maxHeartbeats 6400000 in
theorem grp_tf_few (l : List Ft) (s nb fr to kn t : Int) (ao : Option Addr) (cap : Nat) (w : World) (_ : RepF w ao cap l) (hfew : ¬ l.length ≤ 30) : Calls Try.prog 8 #[.slice ao l.length cap, .bool true, .int .i64 s, .int .i64 nb, .bool false, .agg #[.int .i64 fr, .int .i64 to], .int .i64 kn, .int .i64 t] w (Tru w) := by
  have HS := Lib.hid (fun (W : World) => saneF_any W)
  have HX0 : Hid (Ext w (w.alloc (.cells #[.int .i64 fr, .int .i64 to] 23))) := Lib.hid ((Ext.refl w).alloc _)
  have s0 : (w.alloc (.cells #[.int .i64 fr, .int .i64 to] 23)).cell? ⟨w.heap.size, 0, none⟩ = some (.int .i64 fr) := by simp
  have s1 : (w.alloc (.cells #[.int .i64 fr, .int .i64 to] 23)).cell? ⟨w.heap.size, 1, none⟩ = some (.int .i64 to) := by simp
  have HN := Lib.hid hfew
  clear hfew
  go_enter Try.func8, Try.ntmps8
  go_wp2_with (first
    | (go_at_call 10; refine (HS.out _).mono ?_; rintro e w1 ⟨rfl, hE⟩; replace s0 := hE.cell s0; replace s1 := hE.cell s1; have HCUR := Lib.hid (HX0.out.trans hE); clear hE)
    | (go_at_call 13; refine (fewF_any l ao cap _).mono ?_; rintro e w2 ⟨rfl, hE⟩; rw [decide_eq_false HN.out]; replace s0 := hE.cell s0; replace s1 := hE.cell s1; replace HCUR := Lib.hid (HCUR.out.trans hE); clear hE))
  go_ret
  exact ⟨rfl, HCUR.out⟩
set_option maxRecDepth 100000 in
set_option maxHeartbeats 6400000 in
theorem grp_tf_bad (l : List Ft) (s nb fr to kn t : Int) (ao : Option Addr) (cap : Nat) (w : World) (_ : RepF w ao cap l) (hfew : l.length ≤ 30) (e1 : Int) (hr : factP (⟨11, s, nb, (-1), fr, to, kn, 0⟩ : Ft) = (f0, e1)) (he1 : e1 ≠ 0) : Calls Try.prog 8 #[.slice ao l.length cap, .bool true, .int .i64 s, .int .i64 nb, .bool false, .agg #[.int .i64 fr, .int .i64 to], .int .i64 kn, .int .i64 t] w (Tru w) := by
  have HS := Lib.hid (fun (W : World) => saneF_any W)
  have HX0 : Hid (Ext w (w.alloc (.cells #[.int .i64 fr, .int .i64 to] 23))) := Lib.hid ((Ext.refl w).alloc _)
  have s0 : (w.alloc (.cells #[.int .i64 fr, .int .i64 to] 23)).cell? ⟨w.heap.size, 0, none⟩ = some (.int .i64 fr) := by simp
  have s1 : (w.alloc (.cells #[.int .i64 fr, .int .i64 to] 23)).cell? ⟨w.heap.size, 1, none⟩ = some (.int .i64 to) := by simp
  have HN := Lib.hid hfew
  have HF := Lib.hid (fun (W : World) => fa_as hr W)
  have hz : (e1 != 0) = true := by simp [he1]
  unfold f0 at HF
  dsimp only at HF
  clear hfew hr he1
  go_enter Try.func8, Try.ntmps8
  go_wp2_with (first
    | (go_at_call 10; refine (HS.out _).mono ?_; rintro e w1 ⟨rfl, hE⟩; replace s0 := hE.cell s0; replace s1 := hE.cell s1; have HCUR := Lib.hid (HX0.out.trans hE); clear hE)
    | (go_at_call 13; refine (fewF_any l ao cap _).mono ?_; rintro e w2 ⟨rfl, hE⟩; rw [decide_eq_true HN.out]; replace s0 := hE.cell s0; replace s1 := hE.cell s1; replace HCUR := Lib.hid (HCUR.out.trans hE); clear hE)
    | (go_at_call 11; refine (HF.out _).mono ?_; rintro e w3 ⟨rfl, hE⟩; have hE2 := hE.alloc (.cells #[.int .i64 0, .int .i64 0, .int .i64 0, .int .i64 0, .int .i64 0, .int .i64 0, .int .i64 0, .int .i64 0] 28); replace s0 := hE2.cell s0; replace s1 := hE2.cell s1; have f0 : (w3.alloc (.cells #[.int .i64 0, .int .i64 0, .int .i64 0, .int .i64 0, .int .i64 0, .int .i64 0, .int .i64 0, .int .i64 0] 28)).cell? ⟨w3.heap.size, 0, none⟩ = some (.int .i64 0) := (by simp); have f1 : (w3.alloc (.cells #[.int .i64 0, .int .i64 0, .int .i64 0, .int .i64 0, .int .i64 0, .int .i64 0, .int .i64 0, .int .i64 0] 28)).cell? ⟨w3.heap.size, 1, none⟩ = some (.int .i64 0) := (by simp); have f2 : (w3.alloc (.cells #[.int .i64 0, .int .i64 0, .int .i64 0, .int .i64 0, .int .i64 0, .int .i64 0, .int .i64 0, .int .i64 0] 28)).cell? ⟨w3.heap.size, 2, none⟩ = some (.int .i64 0) := (by simp); have f3 : (w3.alloc (.cells #[.int .i64 0, .int .i64 0, .int .i64 0, .int .i64 0, .int .i64 0, .int .i64 0, .int .i64 0, .int .i64 0] 28)).cell? ⟨w3.heap.size, 3, none⟩ = some (.int .i64 0) := (by simp); have f4 : (w3.alloc (.cells #[.int .i64 0, .int .i64 0, .int .i64 0, .int .i64 0, .int .i64 0, .int .i64 0, .int .i64 0, .int .i64 0] 28)).cell? ⟨w3.heap.size, 4, none⟩ = some (.int .i64 0) := (by simp); have f5 : (w3.alloc (.cells #[.int .i64 0, .int .i64 0, .int .i64 0, .int .i64 0, .int .i64 0, .int .i64 0, .int .i64 0, .int .i64 0] 28)).cell? ⟨w3.heap.size, 5, none⟩ = some (.int .i64 0) := (by simp); have f6 : (w3.alloc (.cells #[.int .i64 0, .int .i64 0, .int .i64 0, .int .i64 0, .int .i64 0, .int .i64 0, .int .i64 0, .int .i64 0] 28)).cell? ⟨w3.heap.size, 6, none⟩ = some (.int .i64 0) := (by simp); have f7 : (w3.alloc (.cells #[.int .i64 0, .int .i64 0, .int .i64 0, .int .i64 0, .int .i64 0, .int .i64 0, .int .i64 0, .int .i64 0] 28)).cell? ⟨w3.heap.size, 7, none⟩ = some (.int .i64 0) := (by simp); replace HCUR := Lib.hid (HCUR.out.trans hE2); clear hE hE2))
  go_ret
  exact ⟨rfl, HCUR.out⟩
set_option maxRecDepth 100000 in
set_option maxHeartbeats 6400000 in
theorem grp_tf_add (l : List Ft) (s nb fr to kn t : Int) (ao : Option Addr) (cap : Nat) (w : World) (h : RepF w ao cap l) (hfew : l.length ≤ 30) (hr : factP (⟨11, s, nb, (-1), fr, to, kn, 0⟩ : Ft) = ((⟨11, s, nb, (-1), fr, to, kn, 0⟩ : Ft), 0)) (L2 : List Ft) (e1 : Int) (ha : addF l (⟨11, s, nb, (-1), fr, to, kn, 0⟩ : Ft) = (L2, e1)) (he1 : e1 ≠ 0) : Calls Try.prog 8 #[.slice ao l.length cap, .bool true, .int .i64 s, .int .i64 nb, .bool false, .agg #[.int .i64 fr, .int .i64 to], .int .i64 kn, .int .i64 t] w (Tru w) := by
  have HS := Lib.hid (fun (W : World) => saneF_any W)
  have HX0 : Hid (Ext w (w.alloc (.cells #[.int .i64 fr, .int .i64 to] 23))) := Lib.hid ((Ext.refl w).alloc _)
  have s0 : (w.alloc (.cells #[.int .i64 fr, .int .i64 to] 23)).cell? ⟨w.heap.size, 0, none⟩ = some (.int .i64 fr) := by simp
  have s1 : (w.alloc (.cells #[.int .i64 fr, .int .i64 to] 23)).cell? ⟨w.heap.size, 1, none⟩ = some (.int .i64 to) := by simp
  have HN := Lib.hid hfew
  have HF := Lib.hid (fun (W : World) => fa_as hr W)
  dsimp only at HF
  have hz : (e1 != 0) = true := by simp [he1]
  have HAD : Hid (∀ W, Ext w W → Calls Try.prog 23 #[.slice ao l.length cap, .agg #[.int .i64 11, .int .i64 s, .int .i64 nb, .int .i64 (-1), .int .i64 fr, .int .i64 to, .int .i64 kn, .int .i64 0]] W (RetAdd (L2, e1) W)) := Lib.hid fun W hW => by have := add_any l (⟨11, s, nb, (-1), fr, to, kn, 0⟩ : Ft) ao cap W (h.ext hW) (by omega); rwa [ha] at this
  clear hfew h hr ha he1
  go_enter Try.func8, Try.ntmps8
  go_wp2_with (first
    | (go_at_call 10; refine (HS.out _).mono ?_; rintro e w1 ⟨rfl, hE⟩; replace s0 := hE.cell s0; replace s1 := hE.cell s1; have HCUR := Lib.hid (HX0.out.trans hE); clear hE)
    | (go_at_call 13; refine (fewF_any l ao cap _).mono ?_; rintro e w2 ⟨rfl, hE⟩; rw [decide_eq_true HN.out]; replace s0 := hE.cell s0; replace s1 := hE.cell s1; replace HCUR := Lib.hid (HCUR.out.trans hE); clear hE)
    | (go_at_call 11; refine (HF.out _).mono ?_; rintro e w3 ⟨rfl, hE⟩; have hE2 := hE.alloc (.cells #[.int .i64 11, .int .i64 s, .int .i64 nb, .int .i64 (-1), .int .i64 fr, .int .i64 to, .int .i64 kn, .int .i64 0] 28); replace s0 := hE2.cell s0; replace s1 := hE2.cell s1; have f0 : (w3.alloc (.cells #[.int .i64 11, .int .i64 s, .int .i64 nb, .int .i64 (-1), .int .i64 fr, .int .i64 to, .int .i64 kn, .int .i64 0] 28)).cell? ⟨w3.heap.size, 0, none⟩ = some (.int .i64 11) := (by simp); have f1 : (w3.alloc (.cells #[.int .i64 11, .int .i64 s, .int .i64 nb, .int .i64 (-1), .int .i64 fr, .int .i64 to, .int .i64 kn, .int .i64 0] 28)).cell? ⟨w3.heap.size, 1, none⟩ = some (.int .i64 s) := (by simp); have f2 : (w3.alloc (.cells #[.int .i64 11, .int .i64 s, .int .i64 nb, .int .i64 (-1), .int .i64 fr, .int .i64 to, .int .i64 kn, .int .i64 0] 28)).cell? ⟨w3.heap.size, 2, none⟩ = some (.int .i64 nb) := (by simp); have f3 : (w3.alloc (.cells #[.int .i64 11, .int .i64 s, .int .i64 nb, .int .i64 (-1), .int .i64 fr, .int .i64 to, .int .i64 kn, .int .i64 0] 28)).cell? ⟨w3.heap.size, 3, none⟩ = some (.int .i64 (-1)) := (by simp); have f4 : (w3.alloc (.cells #[.int .i64 11, .int .i64 s, .int .i64 nb, .int .i64 (-1), .int .i64 fr, .int .i64 to, .int .i64 kn, .int .i64 0] 28)).cell? ⟨w3.heap.size, 4, none⟩ = some (.int .i64 fr) := (by simp); have f5 : (w3.alloc (.cells #[.int .i64 11, .int .i64 s, .int .i64 nb, .int .i64 (-1), .int .i64 fr, .int .i64 to, .int .i64 kn, .int .i64 0] 28)).cell? ⟨w3.heap.size, 5, none⟩ = some (.int .i64 to) := (by simp); have f6 : (w3.alloc (.cells #[.int .i64 11, .int .i64 s, .int .i64 nb, .int .i64 (-1), .int .i64 fr, .int .i64 to, .int .i64 kn, .int .i64 0] 28)).cell? ⟨w3.heap.size, 6, none⟩ = some (.int .i64 kn) := (by simp); have f7 : (w3.alloc (.cells #[.int .i64 11, .int .i64 s, .int .i64 nb, .int .i64 (-1), .int .i64 fr, .int .i64 to, .int .i64 kn, .int .i64 0] 28)).cell? ⟨w3.heap.size, 7, none⟩ = some (.int .i64 0) := (by simp); replace HCUR := Lib.hid (HCUR.out.trans hE2); clear hE hE2)
    | (go_at_call 23; refine (HAD.out _ HCUR.out).mono ?_; rintro e y ⟨ao5, c5, rfl, hR, hE⟩; replace s0 := hE.cell s0; replace s1 := hE.cell s1; replace HCUR := Lib.hid (HCUR.out.trans hE); clear hR hE))
  go_ret
  exact ⟨rfl, HCUR.out⟩
set_option maxRecDepth 100000 in
set_option maxHeartbeats 6400000 in
theorem grp_tf_bef (l : List Ft) (s nb fr to kn t : Int) (ao : Option Addr) (cap : Nat) (w : World) (h : RepF w ao cap l) (ht : inI64 t) (hfew : l.length ≤ 30) (hr : factP (⟨11, s, nb, (-1), fr, to, kn, 0⟩ : Ft) = ((⟨11, s, nb, (-1), fr, to, kn, 0⟩ : Ft), 0)) (L2 : List Ft) (ha : addF l (⟨11, s, nb, (-1), fr, to, kn, 0⟩ : Ft) = (L2, 0)) (A C : List Int)
    (h1 : ofF L2 6 s t kn = C) (h2 : ofF l 6 s t kn = C) (h3 : ofF L2 11 s t kn = A) (h4 : ofF l 11 s t kn = A) (c1 : t < fr) : Calls Try.prog 8 #[.slice ao l.length cap, .bool true, .int .i64 s, .int .i64 nb, .bool false, .agg #[.int .i64 fr, .int .i64 to], .int .i64 kn, .int .i64 t] w (Tru w) := by
  have HS := Lib.hid (fun (W : World) => saneF_any W)
  have HX0 : Hid (Ext w (w.alloc (.cells #[.int .i64 fr, .int .i64 to] 23))) := Lib.hid ((Ext.refl w).alloc _)
  have s0 : (w.alloc (.cells #[.int .i64 fr, .int .i64 to] 23)).cell? ⟨w.heap.size, 0, none⟩ = some (.int .i64 fr) := by simp
  have s1 : (w.alloc (.cells #[.int .i64 fr, .int .i64 to] 23)).cell? ⟨w.heap.size, 1, none⟩ = some (.int .i64 to) := by simp
  have HN := Lib.hid hfew
  have HF := Lib.hid (fun (W : World) => fa_as hr W)
  dsimp only at HF
  have HAD : Hid (∀ W, Ext w W → Calls Try.prog 23 #[.slice ao l.length cap, .agg #[.int .i64 11, .int .i64 s, .int .i64 nb, .int .i64 (-1), .int .i64 fr, .int .i64 to, .int .i64 kn, .int .i64 0]] W (RetAdd (L2, 0) W)) := Lib.hid fun W hW => by have := add_any l (⟨11, s, nb, (-1), fr, to, kn, 0⟩ : Ft) ao cap W (h.ext hW) (by omega); rwa [ha] at this
  have HC1 : Hid (∀ W a c, RepF W a c L2 → Calls Try.prog 17 #[.agg #[.slice none 0 0, .slice none 0 0, .slice none 0 0, .slice a L2.length c], .int .i64 s, .int .i64 t, .int .i64 kn] W (RetOf C (rdsF 6 s t) W)) := Lib.hid fun W a c hR => by have := held_any L2 s t kn ht a c W hR; rwa [h1] at this
  have HC2 : Hid (∀ W, Ext w W → Calls Try.prog 17 #[.agg #[.slice none 0 0, .slice none 0 0, .slice none 0 0, .slice ao l.length cap], .int .i64 s, .int .i64 t, .int .i64 kn] W (RetOf C (rdsF 6 s t) W)) := Lib.hid fun W hW => by have := held_any l s t kn ht ao cap W (h.ext hW); rwa [h2] at this
  have HC3 : Hid (∀ W a c, RepF W a c L2 → Calls Try.prog 19 #[.agg #[.slice none 0 0, .slice none 0 0, .slice none 0 0, .slice a L2.length c], .int .i64 s, .int .i64 t, .int .i64 kn] W (RetOf A (rdsF 11 s t) W)) := Lib.hid fun W a c hR => by have := groups_any L2 s t kn ht a c W hR; rwa [h3] at this
  have HC4 : Hid (∀ W, Ext w W → Calls Try.prog 19 #[.agg #[.slice none 0 0, .slice none 0 0, .slice none 0 0, .slice ao l.length cap], .int .i64 s, .int .i64 t, .int .i64 kn] W (RetOf A (rdsF 11 s t) W)) := Lib.hid fun W hW => by have := groups_any l s t kn ht ao cap W (h.ext hW); rwa [h4] at this
  clear hfew h ht hr ha h1 h2 h3 h4
  have D1 : decide (t < fr) = true := decide_eq_true (by omega)
  go_enter Try.func8, Try.ntmps8
  go_wp2_with (first
    | (go_at_call 21; have hq := N5; clear hq; refine (sameI_any _ _ n3 n4 nc3 nc4 _ HK3.out HK4.out).mono ?_; rintro e yN6 ⟨rfl, hE⟩; replace HK1 := Lib.hid (SL.ext HK1.out hE); replace HK2 := Lib.hid (SL.ext HK2.out hE); replace HK3 := Lib.hid (SL.ext HK3.out hE); replace HK4 := Lib.hid (SL.ext HK4.out hE); rw [decide_eq_true rfl]; replace s0 := hE.cell s0; replace s1 := hE.cell s1; replace HCUR := Lib.hid (HCUR.out.trans hE); clear hE; have N6 := True.intro)
    | (go_at_call 21; have hq := M4; clear hq; refine (sameI_any _ _ n1 n2 nc1 nc2 _ HK1.out HK2.out).mono ?_; rintro e yN5 ⟨rfl, hE⟩; replace HK1 := Lib.hid (SL.ext HK1.out hE); replace HK2 := Lib.hid (SL.ext HK2.out hE); replace HK3 := Lib.hid (SL.ext HK3.out hE); replace HK4 := Lib.hid (SL.ext HK4.out hE); rw [decide_eq_true rfl]; replace s0 := hE.cell s0; replace s1 := hE.cell s1; replace HCUR := Lib.hid (HCUR.out.trans hE); clear hE; have N5 := True.intro)
    | (go_at_call 19; have hq := M3; clear hq; refine (HC4.out _ HCUR.out).mono ?_; rintro e z4 ⟨n4, nc4, ro, rc, rfl, hK, _, hE⟩; replace HK1 := Lib.hid (SL.ext HK1.out hE); replace HK2 := Lib.hid (SL.ext HK2.out hE); replace HK3 := Lib.hid (SL.ext HK3.out hE); have HK4 := Lib.hid hK; replace s0 := hE.cell s0; replace s1 := hE.cell s1; replace b0 := hE.cell b0; replace b1 := hE.cell b1; replace b2 := hE.cell b2; replace b3 := hE.cell b3; replace b4 := hE.cell b4; replace b5 := hE.cell b5; replace b6 := hE.cell b6; replace b7 := hE.cell b7; replace HR5 := Lib.hid (HR5.out.ext hE); replace HCUR := Lib.hid (HCUR.out.trans hE); clear hK hE; have M4 := True.intro)
    | (go_at_call 19; have hq := M2; clear hq; refine (HC3.out _ _ _ HR5.out).mono ?_; rintro e z3 ⟨n3, nc3, ro, rc, rfl, hK, _, hE⟩; replace HK1 := Lib.hid (SL.ext HK1.out hE); replace HK2 := Lib.hid (SL.ext HK2.out hE); have HK3 := Lib.hid hK; replace s0 := hE.cell s0; replace s1 := hE.cell s1; replace b0 := hE.cell b0; replace b1 := hE.cell b1; replace b2 := hE.cell b2; replace b3 := hE.cell b3; replace b4 := hE.cell b4; replace b5 := hE.cell b5; replace b6 := hE.cell b6; replace b7 := hE.cell b7; replace HR5 := Lib.hid (HR5.out.ext hE); replace HCUR := Lib.hid (HCUR.out.trans hE); clear hK hE; have M3 := True.intro)
    | (go_at_call 17; have hq := M1; clear hq; refine (HC2.out _ HCUR.out).mono ?_; rintro e z2 ⟨n2, nc2, ro, rc, rfl, hK, _, hE⟩; replace HK1 := Lib.hid (SL.ext HK1.out hE); have HK2 := Lib.hid hK; replace s0 := hE.cell s0; replace s1 := hE.cell s1; replace b0 := hE.cell b0; replace b1 := hE.cell b1; replace b2 := hE.cell b2; replace b3 := hE.cell b3; replace b4 := hE.cell b4; replace b5 := hE.cell b5; replace b6 := hE.cell b6; replace b7 := hE.cell b7; replace HR5 := Lib.hid (HR5.out.ext hE); replace HCUR := Lib.hid (HCUR.out.trans hE); clear hK hE; have M2 := True.intro)
    | (go_at_call 17; have hA := ((Ext.refl y).alloc (.cells #[.slice none 0 0, .slice none 0 0, .slice none 0 0, .slice ao5 L2.length c5] 41)).alloc (.cells #[.slice none 0 0, .slice none 0 0, .slice none 0 0, .slice ao l.length cap] 41); have hcb := (cb_new y [.slice none 0 0, .slice none 0 0, .slice none 0 0, .slice ao5 L2.length c5] 41).ext (by simp) ((Ext.refl _).alloc (.cells #[.slice none 0 0, .slice none 0 0, .slice none 0 0, .slice ao l.length cap] 41)); have hcc := cb_new (y.alloc (.cells #[.slice none 0 0, .slice none 0 0, .slice none 0 0, .slice ao5 L2.length c5] 41)) [.slice none 0 0, .slice none 0 0, .slice none 0 0, .slice ao l.length cap] 41; rw [World.size_alloc] at hcc; have b0 := hcb.at_ 0 _ rfl; have b1 := hcb.at_ 1 _ rfl; have b2 := hcb.at_ 2 _ rfl; have b3 := hcb.at_ 3 _ rfl; have b4 := hcc.at_ 0 _ rfl; have b5 := hcc.at_ 1 _ rfl; have b6 := hcc.at_ 2 _ rfl; have b7 := hcc.at_ 3 _ rfl; replace s0 := hA.cell s0; replace s1 := hA.cell s1; replace HCUR := Lib.hid (HCUR.out.trans hA); replace HR5 := Lib.hid (HR5.out.ext hA); clear hA hcb hcc; refine (HC1.out _ _ _ HR5.out).mono ?_; rintro e z1 ⟨n1, nc1, ro, rc, rfl, hK, _, hE⟩; have HK1 := Lib.hid hK; replace s0 := hE.cell s0; replace s1 := hE.cell s1; replace b0 := hE.cell b0; replace b1 := hE.cell b1; replace b2 := hE.cell b2; replace b3 := hE.cell b3; replace b4 := hE.cell b4; replace b5 := hE.cell b5; replace b6 := hE.cell b6; replace b7 := hE.cell b7; replace HR5 := Lib.hid (HR5.out.ext hE); replace HCUR := Lib.hid (HCUR.out.trans hE); clear hK hE; have M1 := True.intro)
    | (go_at_call 23; refine (HAD.out _ HCUR.out).mono ?_; rintro e y ⟨ao5, c5, rfl, hR, hE⟩; replace s0 := hE.cell s0; replace s1 := hE.cell s1; have HR5 := Lib.hid hR; replace HCUR := Lib.hid (HCUR.out.trans hE); clear hR hE)
    | (go_at_call 11; refine (HF.out _).mono ?_; rintro e w3 ⟨rfl, hE⟩; have hE2 := hE.alloc (.cells #[.int .i64 11, .int .i64 s, .int .i64 nb, .int .i64 (-1), .int .i64 fr, .int .i64 to, .int .i64 kn, .int .i64 0] 28); replace s0 := hE2.cell s0; replace s1 := hE2.cell s1; have f0 : (w3.alloc (.cells #[.int .i64 11, .int .i64 s, .int .i64 nb, .int .i64 (-1), .int .i64 fr, .int .i64 to, .int .i64 kn, .int .i64 0] 28)).cell? ⟨w3.heap.size, 0, none⟩ = some (.int .i64 11) := (by simp); have f1 : (w3.alloc (.cells #[.int .i64 11, .int .i64 s, .int .i64 nb, .int .i64 (-1), .int .i64 fr, .int .i64 to, .int .i64 kn, .int .i64 0] 28)).cell? ⟨w3.heap.size, 1, none⟩ = some (.int .i64 s) := (by simp); have f2 : (w3.alloc (.cells #[.int .i64 11, .int .i64 s, .int .i64 nb, .int .i64 (-1), .int .i64 fr, .int .i64 to, .int .i64 kn, .int .i64 0] 28)).cell? ⟨w3.heap.size, 2, none⟩ = some (.int .i64 nb) := (by simp); have f3 : (w3.alloc (.cells #[.int .i64 11, .int .i64 s, .int .i64 nb, .int .i64 (-1), .int .i64 fr, .int .i64 to, .int .i64 kn, .int .i64 0] 28)).cell? ⟨w3.heap.size, 3, none⟩ = some (.int .i64 (-1)) := (by simp); have f4 : (w3.alloc (.cells #[.int .i64 11, .int .i64 s, .int .i64 nb, .int .i64 (-1), .int .i64 fr, .int .i64 to, .int .i64 kn, .int .i64 0] 28)).cell? ⟨w3.heap.size, 4, none⟩ = some (.int .i64 fr) := (by simp); have f5 : (w3.alloc (.cells #[.int .i64 11, .int .i64 s, .int .i64 nb, .int .i64 (-1), .int .i64 fr, .int .i64 to, .int .i64 kn, .int .i64 0] 28)).cell? ⟨w3.heap.size, 5, none⟩ = some (.int .i64 to) := (by simp); have f6 : (w3.alloc (.cells #[.int .i64 11, .int .i64 s, .int .i64 nb, .int .i64 (-1), .int .i64 fr, .int .i64 to, .int .i64 kn, .int .i64 0] 28)).cell? ⟨w3.heap.size, 6, none⟩ = some (.int .i64 kn) := (by simp); have f7 : (w3.alloc (.cells #[.int .i64 11, .int .i64 s, .int .i64 nb, .int .i64 (-1), .int .i64 fr, .int .i64 to, .int .i64 kn, .int .i64 0] 28)).cell? ⟨w3.heap.size, 7, none⟩ = some (.int .i64 0) := (by simp); replace HCUR := Lib.hid (HCUR.out.trans hE2); clear hE hE2)
    | (go_at_call 13; refine (fewF_any l ao cap _).mono ?_; rintro e w2 ⟨rfl, hE⟩; rw [decide_eq_true HN.out]; replace s0 := hE.cell s0; replace s1 := hE.cell s1; replace HCUR := Lib.hid (HCUR.out.trans hE); clear hE)
    | (go_at_call 10; refine (HS.out _).mono ?_; rintro e w1 ⟨rfl, hE⟩; replace s0 := hE.cell s0; replace s1 := hE.cell s1; have HCUR := Lib.hid (HX0.out.trans hE); clear hE))
  go_ret
  exact ⟨by simp, HCUR.out⟩
set_option maxRecDepth 100000 in
set_option maxHeartbeats 6400000 in
theorem grp_tf_aft (l : List Ft) (s nb fr to kn t : Int) (ao : Option Addr) (cap : Nat) (w : World) (h : RepF w ao cap l) (ht : inI64 t) (hfew : l.length ≤ 30) (hr : factP (⟨11, s, nb, (-1), fr, to, kn, 0⟩ : Ft) = ((⟨11, s, nb, (-1), fr, to, kn, 0⟩ : Ft), 0)) (L2 : List Ft) (ha : addF l (⟨11, s, nb, (-1), fr, to, kn, 0⟩ : Ft) = (L2, 0)) (A C : List Int)
    (h1 : ofF L2 6 s t kn = C) (h2 : ofF l 6 s t kn = C) (h3 : ofF L2 11 s t kn = A) (h4 : ofF l 11 s t kn = A) (c1 : fr ≤ t) (c2 : to ≤ t) : Calls Try.prog 8 #[.slice ao l.length cap, .bool true, .int .i64 s, .int .i64 nb, .bool false, .agg #[.int .i64 fr, .int .i64 to], .int .i64 kn, .int .i64 t] w (Tru w) := by
  have HS := Lib.hid (fun (W : World) => saneF_any W)
  have HX0 : Hid (Ext w (w.alloc (.cells #[.int .i64 fr, .int .i64 to] 23))) := Lib.hid ((Ext.refl w).alloc _)
  have s0 : (w.alloc (.cells #[.int .i64 fr, .int .i64 to] 23)).cell? ⟨w.heap.size, 0, none⟩ = some (.int .i64 fr) := by simp
  have s1 : (w.alloc (.cells #[.int .i64 fr, .int .i64 to] 23)).cell? ⟨w.heap.size, 1, none⟩ = some (.int .i64 to) := by simp
  have HN := Lib.hid hfew
  have HF := Lib.hid (fun (W : World) => fa_as hr W)
  dsimp only at HF
  have HAD : Hid (∀ W, Ext w W → Calls Try.prog 23 #[.slice ao l.length cap, .agg #[.int .i64 11, .int .i64 s, .int .i64 nb, .int .i64 (-1), .int .i64 fr, .int .i64 to, .int .i64 kn, .int .i64 0]] W (RetAdd (L2, 0) W)) := Lib.hid fun W hW => by have := add_any l (⟨11, s, nb, (-1), fr, to, kn, 0⟩ : Ft) ao cap W (h.ext hW) (by omega); rwa [ha] at this
  have HC1 : Hid (∀ W a c, RepF W a c L2 → Calls Try.prog 17 #[.agg #[.slice none 0 0, .slice none 0 0, .slice none 0 0, .slice a L2.length c], .int .i64 s, .int .i64 t, .int .i64 kn] W (RetOf C (rdsF 6 s t) W)) := Lib.hid fun W a c hR => by have := held_any L2 s t kn ht a c W hR; rwa [h1] at this
  have HC2 : Hid (∀ W, Ext w W → Calls Try.prog 17 #[.agg #[.slice none 0 0, .slice none 0 0, .slice none 0 0, .slice ao l.length cap], .int .i64 s, .int .i64 t, .int .i64 kn] W (RetOf C (rdsF 6 s t) W)) := Lib.hid fun W hW => by have := held_any l s t kn ht ao cap W (h.ext hW); rwa [h2] at this
  have HC3 : Hid (∀ W a c, RepF W a c L2 → Calls Try.prog 19 #[.agg #[.slice none 0 0, .slice none 0 0, .slice none 0 0, .slice a L2.length c], .int .i64 s, .int .i64 t, .int .i64 kn] W (RetOf A (rdsF 11 s t) W)) := Lib.hid fun W a c hR => by have := groups_any L2 s t kn ht a c W hR; rwa [h3] at this
  have HC4 : Hid (∀ W, Ext w W → Calls Try.prog 19 #[.agg #[.slice none 0 0, .slice none 0 0, .slice none 0 0, .slice ao l.length cap], .int .i64 s, .int .i64 t, .int .i64 kn] W (RetOf A (rdsF 11 s t) W)) := Lib.hid fun W hW => by have := groups_any l s t kn ht ao cap W (h.ext hW); rwa [h4] at this
  clear hfew h ht hr ha h1 h2 h3 h4
  have D1 : decide (t < fr) = false := decide_eq_false (by omega)
  have D2 : decide (t ≥ to) = true := decide_eq_true (by omega)
  have D3 : decide (to ≤ t) = true := decide_eq_true (by omega)
  go_enter Try.func8, Try.ntmps8
  go_wp2_with (first
    | (go_at_call 21; have hq := N5; clear hq; refine (sameI_any _ _ n3 n4 nc3 nc4 _ HK3.out HK4.out).mono ?_; rintro e yN6 ⟨rfl, hE⟩; replace HK1 := Lib.hid (SL.ext HK1.out hE); replace HK2 := Lib.hid (SL.ext HK2.out hE); replace HK3 := Lib.hid (SL.ext HK3.out hE); replace HK4 := Lib.hid (SL.ext HK4.out hE); rw [decide_eq_true rfl]; replace s0 := hE.cell s0; replace s1 := hE.cell s1; replace HCUR := Lib.hid (HCUR.out.trans hE); clear hE; have N6 := True.intro)
    | (go_at_call 21; have hq := M4; clear hq; refine (sameI_any _ _ n1 n2 nc1 nc2 _ HK1.out HK2.out).mono ?_; rintro e yN5 ⟨rfl, hE⟩; replace HK1 := Lib.hid (SL.ext HK1.out hE); replace HK2 := Lib.hid (SL.ext HK2.out hE); replace HK3 := Lib.hid (SL.ext HK3.out hE); replace HK4 := Lib.hid (SL.ext HK4.out hE); rw [decide_eq_true rfl]; replace s0 := hE.cell s0; replace s1 := hE.cell s1; replace HCUR := Lib.hid (HCUR.out.trans hE); clear hE; have N5 := True.intro)
    | (go_at_call 19; have hq := M3; clear hq; refine (HC4.out _ HCUR.out).mono ?_; rintro e z4 ⟨n4, nc4, ro, rc, rfl, hK, _, hE⟩; replace HK1 := Lib.hid (SL.ext HK1.out hE); replace HK2 := Lib.hid (SL.ext HK2.out hE); replace HK3 := Lib.hid (SL.ext HK3.out hE); have HK4 := Lib.hid hK; replace s0 := hE.cell s0; replace s1 := hE.cell s1; replace b0 := hE.cell b0; replace b1 := hE.cell b1; replace b2 := hE.cell b2; replace b3 := hE.cell b3; replace b4 := hE.cell b4; replace b5 := hE.cell b5; replace b6 := hE.cell b6; replace b7 := hE.cell b7; replace HR5 := Lib.hid (HR5.out.ext hE); replace HCUR := Lib.hid (HCUR.out.trans hE); clear hK hE; have M4 := True.intro)
    | (go_at_call 19; have hq := M2; clear hq; refine (HC3.out _ _ _ HR5.out).mono ?_; rintro e z3 ⟨n3, nc3, ro, rc, rfl, hK, _, hE⟩; replace HK1 := Lib.hid (SL.ext HK1.out hE); replace HK2 := Lib.hid (SL.ext HK2.out hE); have HK3 := Lib.hid hK; replace s0 := hE.cell s0; replace s1 := hE.cell s1; replace b0 := hE.cell b0; replace b1 := hE.cell b1; replace b2 := hE.cell b2; replace b3 := hE.cell b3; replace b4 := hE.cell b4; replace b5 := hE.cell b5; replace b6 := hE.cell b6; replace b7 := hE.cell b7; replace HR5 := Lib.hid (HR5.out.ext hE); replace HCUR := Lib.hid (HCUR.out.trans hE); clear hK hE; have M3 := True.intro)
    | (go_at_call 17; have hq := M1; clear hq; refine (HC2.out _ HCUR.out).mono ?_; rintro e z2 ⟨n2, nc2, ro, rc, rfl, hK, _, hE⟩; replace HK1 := Lib.hid (SL.ext HK1.out hE); have HK2 := Lib.hid hK; replace s0 := hE.cell s0; replace s1 := hE.cell s1; replace b0 := hE.cell b0; replace b1 := hE.cell b1; replace b2 := hE.cell b2; replace b3 := hE.cell b3; replace b4 := hE.cell b4; replace b5 := hE.cell b5; replace b6 := hE.cell b6; replace b7 := hE.cell b7; replace HR5 := Lib.hid (HR5.out.ext hE); replace HCUR := Lib.hid (HCUR.out.trans hE); clear hK hE; have M2 := True.intro)
    | (go_at_call 17; have hA := ((Ext.refl y).alloc (.cells #[.slice none 0 0, .slice none 0 0, .slice none 0 0, .slice ao5 L2.length c5] 41)).alloc (.cells #[.slice none 0 0, .slice none 0 0, .slice none 0 0, .slice ao l.length cap] 41); have hcb := (cb_new y [.slice none 0 0, .slice none 0 0, .slice none 0 0, .slice ao5 L2.length c5] 41).ext (by simp) ((Ext.refl _).alloc (.cells #[.slice none 0 0, .slice none 0 0, .slice none 0 0, .slice ao l.length cap] 41)); have hcc := cb_new (y.alloc (.cells #[.slice none 0 0, .slice none 0 0, .slice none 0 0, .slice ao5 L2.length c5] 41)) [.slice none 0 0, .slice none 0 0, .slice none 0 0, .slice ao l.length cap] 41; rw [World.size_alloc] at hcc; have b0 := hcb.at_ 0 _ rfl; have b1 := hcb.at_ 1 _ rfl; have b2 := hcb.at_ 2 _ rfl; have b3 := hcb.at_ 3 _ rfl; have b4 := hcc.at_ 0 _ rfl; have b5 := hcc.at_ 1 _ rfl; have b6 := hcc.at_ 2 _ rfl; have b7 := hcc.at_ 3 _ rfl; replace s0 := hA.cell s0; replace s1 := hA.cell s1; replace HCUR := Lib.hid (HCUR.out.trans hA); replace HR5 := Lib.hid (HR5.out.ext hA); clear hA hcb hcc; refine (HC1.out _ _ _ HR5.out).mono ?_; rintro e z1 ⟨n1, nc1, ro, rc, rfl, hK, _, hE⟩; have HK1 := Lib.hid hK; replace s0 := hE.cell s0; replace s1 := hE.cell s1; replace b0 := hE.cell b0; replace b1 := hE.cell b1; replace b2 := hE.cell b2; replace b3 := hE.cell b3; replace b4 := hE.cell b4; replace b5 := hE.cell b5; replace b6 := hE.cell b6; replace b7 := hE.cell b7; replace HR5 := Lib.hid (HR5.out.ext hE); replace HCUR := Lib.hid (HCUR.out.trans hE); clear hK hE; have M1 := True.intro)
    | (go_at_call 23; refine (HAD.out _ HCUR.out).mono ?_; rintro e y ⟨ao5, c5, rfl, hR, hE⟩; replace s0 := hE.cell s0; replace s1 := hE.cell s1; have HR5 := Lib.hid hR; replace HCUR := Lib.hid (HCUR.out.trans hE); clear hR hE)
    | (go_at_call 11; refine (HF.out _).mono ?_; rintro e w3 ⟨rfl, hE⟩; have hE2 := hE.alloc (.cells #[.int .i64 11, .int .i64 s, .int .i64 nb, .int .i64 (-1), .int .i64 fr, .int .i64 to, .int .i64 kn, .int .i64 0] 28); replace s0 := hE2.cell s0; replace s1 := hE2.cell s1; have f0 : (w3.alloc (.cells #[.int .i64 11, .int .i64 s, .int .i64 nb, .int .i64 (-1), .int .i64 fr, .int .i64 to, .int .i64 kn, .int .i64 0] 28)).cell? ⟨w3.heap.size, 0, none⟩ = some (.int .i64 11) := (by simp); have f1 : (w3.alloc (.cells #[.int .i64 11, .int .i64 s, .int .i64 nb, .int .i64 (-1), .int .i64 fr, .int .i64 to, .int .i64 kn, .int .i64 0] 28)).cell? ⟨w3.heap.size, 1, none⟩ = some (.int .i64 s) := (by simp); have f2 : (w3.alloc (.cells #[.int .i64 11, .int .i64 s, .int .i64 nb, .int .i64 (-1), .int .i64 fr, .int .i64 to, .int .i64 kn, .int .i64 0] 28)).cell? ⟨w3.heap.size, 2, none⟩ = some (.int .i64 nb) := (by simp); have f3 : (w3.alloc (.cells #[.int .i64 11, .int .i64 s, .int .i64 nb, .int .i64 (-1), .int .i64 fr, .int .i64 to, .int .i64 kn, .int .i64 0] 28)).cell? ⟨w3.heap.size, 3, none⟩ = some (.int .i64 (-1)) := (by simp); have f4 : (w3.alloc (.cells #[.int .i64 11, .int .i64 s, .int .i64 nb, .int .i64 (-1), .int .i64 fr, .int .i64 to, .int .i64 kn, .int .i64 0] 28)).cell? ⟨w3.heap.size, 4, none⟩ = some (.int .i64 fr) := (by simp); have f5 : (w3.alloc (.cells #[.int .i64 11, .int .i64 s, .int .i64 nb, .int .i64 (-1), .int .i64 fr, .int .i64 to, .int .i64 kn, .int .i64 0] 28)).cell? ⟨w3.heap.size, 5, none⟩ = some (.int .i64 to) := (by simp); have f6 : (w3.alloc (.cells #[.int .i64 11, .int .i64 s, .int .i64 nb, .int .i64 (-1), .int .i64 fr, .int .i64 to, .int .i64 kn, .int .i64 0] 28)).cell? ⟨w3.heap.size, 6, none⟩ = some (.int .i64 kn) := (by simp); have f7 : (w3.alloc (.cells #[.int .i64 11, .int .i64 s, .int .i64 nb, .int .i64 (-1), .int .i64 fr, .int .i64 to, .int .i64 kn, .int .i64 0] 28)).cell? ⟨w3.heap.size, 7, none⟩ = some (.int .i64 0) := (by simp); replace HCUR := Lib.hid (HCUR.out.trans hE2); clear hE hE2)
    | (go_at_call 13; refine (fewF_any l ao cap _).mono ?_; rintro e w2 ⟨rfl, hE⟩; rw [decide_eq_true HN.out]; replace s0 := hE.cell s0; replace s1 := hE.cell s1; replace HCUR := Lib.hid (HCUR.out.trans hE); clear hE)
    | (go_at_call 10; refine (HS.out _).mono ?_; rintro e w1 ⟨rfl, hE⟩; replace s0 := hE.cell s0; replace s1 := hE.cell s1; have HCUR := Lib.hid (HX0.out.trans hE); clear hE))
  go_ret
  exact ⟨by simp, HCUR.out⟩
set_option maxRecDepth 100000 in
set_option maxHeartbeats 6400000 in
theorem grp_tf_in (l : List Ft) (s nb fr to kn t : Int) (ao : Option Addr) (cap : Nat) (w : World) (h : RepF w ao cap l) (ht : inI64 t) (hfew : l.length ≤ 30) (hr : factP (⟨11, s, nb, (-1), fr, to, kn, 0⟩ : Ft) = ((⟨11, s, nb, (-1), fr, to, kn, 0⟩ : Ft), 0)) (L2 : List Ft) (ha : addF l (⟨11, s, nb, (-1), fr, to, kn, 0⟩ : Ft) = (L2, 0)) (A B C : List Int)
    (h1 : ofF L2 6 s t kn = C) (h2 : ofF l 6 s t kn = C) (h3 : ofF L2 11 s t kn = A) (h4 : ofF l 11 s t kn = B) (c1 : fr ≤ t) (c2 : t < to) (hab : ∀ m : Nat, m < 8 → ((m : Int) = nb → A.contains (m : Int) = false) ∧ ((m : Int) ≠ nb → A.contains (m : Int) = B.contains (m : Int))) : Calls Try.prog 8 #[.slice ao l.length cap, .bool true, .int .i64 s, .int .i64 nb, .bool false, .agg #[.int .i64 fr, .int .i64 to], .int .i64 kn, .int .i64 t] w (Tru w) := by
  have HS := Lib.hid (fun (W : World) => saneF_any W)
  have HX0 : Hid (Ext w (w.alloc (.cells #[.int .i64 fr, .int .i64 to] 23))) := Lib.hid ((Ext.refl w).alloc _)
  have s0 : (w.alloc (.cells #[.int .i64 fr, .int .i64 to] 23)).cell? ⟨w.heap.size, 0, none⟩ = some (.int .i64 fr) := by simp
  have s1 : (w.alloc (.cells #[.int .i64 fr, .int .i64 to] 23)).cell? ⟨w.heap.size, 1, none⟩ = some (.int .i64 to) := by simp
  have HN := Lib.hid hfew
  have HF := Lib.hid (fun (W : World) => fa_as hr W)
  dsimp only at HF
  have HAD : Hid (∀ W, Ext w W → Calls Try.prog 23 #[.slice ao l.length cap, .agg #[.int .i64 11, .int .i64 s, .int .i64 nb, .int .i64 (-1), .int .i64 fr, .int .i64 to, .int .i64 kn, .int .i64 0]] W (RetAdd (L2, 0) W)) := Lib.hid fun W hW => by have := add_any l (⟨11, s, nb, (-1), fr, to, kn, 0⟩ : Ft) ao cap W (h.ext hW) (by omega); rwa [ha] at this
  have HC1 : Hid (∀ W a c, RepF W a c L2 → Calls Try.prog 17 #[.agg #[.slice none 0 0, .slice none 0 0, .slice none 0 0, .slice a L2.length c], .int .i64 s, .int .i64 t, .int .i64 kn] W (RetOf C (rdsF 6 s t) W)) := Lib.hid fun W a c hR => by have := held_any L2 s t kn ht a c W hR; rwa [h1] at this
  have HC2 : Hid (∀ W, Ext w W → Calls Try.prog 17 #[.agg #[.slice none 0 0, .slice none 0 0, .slice none 0 0, .slice ao l.length cap], .int .i64 s, .int .i64 t, .int .i64 kn] W (RetOf C (rdsF 6 s t) W)) := Lib.hid fun W hW => by have := held_any l s t kn ht ao cap W (h.ext hW); rwa [h2] at this
  have HC3 : Hid (∀ W a c, RepF W a c L2 → Calls Try.prog 19 #[.agg #[.slice none 0 0, .slice none 0 0, .slice none 0 0, .slice a L2.length c], .int .i64 s, .int .i64 t, .int .i64 kn] W (RetOf A (rdsF 11 s t) W)) := Lib.hid fun W a c hR => by have := groups_any L2 s t kn ht a c W hR; rwa [h3] at this
  have HC4 : Hid (∀ W, Ext w W → Calls Try.prog 19 #[.agg #[.slice none 0 0, .slice none 0 0, .slice none 0 0, .slice ao l.length cap], .int .i64 s, .int .i64 t, .int .i64 kn] W (RetOf B (rdsF 11 s t) W)) := Lib.hid fun W hW => by have := groups_any l s t kn ht ao cap W (h.ext hW); rwa [h4] at this
  clear hfew h ht hr ha h1 h2 h3 h4
  have D1 : decide (t < fr) = false := decide_eq_false (by omega)
  have D2 : decide (t ≥ to) = false := decide_eq_false (by omega)
  have D3 : decide (to ≤ t) = false := decide_eq_false (by omega)
  have HAB := Lib.hid hab
  clear hab
  go_enter Try.func8, Try.ntmps8
  go_wp2_with (first
    | (go_at_call 21; have hq := M4; clear hq; refine (sameI_any _ _ n1 n2 nc1 nc2 _ HK1.out HK2.out).mono ?_; rintro e yN5 ⟨rfl, hE⟩; replace HK1 := Lib.hid (SL.ext HK1.out hE); replace HK2 := Lib.hid (SL.ext HK2.out hE); replace HK3 := Lib.hid (SL.ext HK3.out hE); replace HK4 := Lib.hid (SL.ext HK4.out hE); rw [decide_eq_true rfl]; replace s0 := hE.cell s0; replace s1 := hE.cell s1; replace HCUR := Lib.hid (HCUR.out.trans hE); clear hE; have N5 := True.intro)
    | (go_at_call 19; have hq := M3; clear hq; refine (HC4.out _ HCUR.out).mono ?_; rintro e z4 ⟨n4, nc4, ro, rc, rfl, hK, _, hE⟩; replace HK1 := Lib.hid (SL.ext HK1.out hE); replace HK2 := Lib.hid (SL.ext HK2.out hE); replace HK3 := Lib.hid (SL.ext HK3.out hE); have HK4 := Lib.hid hK; replace s0 := hE.cell s0; replace s1 := hE.cell s1; replace b0 := hE.cell b0; replace b1 := hE.cell b1; replace b2 := hE.cell b2; replace b3 := hE.cell b3; replace b4 := hE.cell b4; replace b5 := hE.cell b5; replace b6 := hE.cell b6; replace b7 := hE.cell b7; replace HR5 := Lib.hid (HR5.out.ext hE); replace HCUR := Lib.hid (HCUR.out.trans hE); clear hK hE; have M4 := True.intro)
    | (go_at_call 19; have hq := M2; clear hq; refine (HC3.out _ _ _ HR5.out).mono ?_; rintro e z3 ⟨n3, nc3, ro, rc, rfl, hK, _, hE⟩; replace HK1 := Lib.hid (SL.ext HK1.out hE); replace HK2 := Lib.hid (SL.ext HK2.out hE); have HK3 := Lib.hid hK; replace s0 := hE.cell s0; replace s1 := hE.cell s1; replace b0 := hE.cell b0; replace b1 := hE.cell b1; replace b2 := hE.cell b2; replace b3 := hE.cell b3; replace b4 := hE.cell b4; replace b5 := hE.cell b5; replace b6 := hE.cell b6; replace b7 := hE.cell b7; replace HR5 := Lib.hid (HR5.out.ext hE); replace HCUR := Lib.hid (HCUR.out.trans hE); clear hK hE; have M3 := True.intro)
    | (go_at_call 17; have hq := M1; clear hq; refine (HC2.out _ HCUR.out).mono ?_; rintro e z2 ⟨n2, nc2, ro, rc, rfl, hK, _, hE⟩; replace HK1 := Lib.hid (SL.ext HK1.out hE); have HK2 := Lib.hid hK; replace s0 := hE.cell s0; replace s1 := hE.cell s1; replace b0 := hE.cell b0; replace b1 := hE.cell b1; replace b2 := hE.cell b2; replace b3 := hE.cell b3; replace b4 := hE.cell b4; replace b5 := hE.cell b5; replace b6 := hE.cell b6; replace b7 := hE.cell b7; replace HR5 := Lib.hid (HR5.out.ext hE); replace HCUR := Lib.hid (HCUR.out.trans hE); clear hK hE; have M2 := True.intro)
    | (go_at_call 17; have hA := ((Ext.refl y).alloc (.cells #[.slice none 0 0, .slice none 0 0, .slice none 0 0, .slice ao5 L2.length c5] 41)).alloc (.cells #[.slice none 0 0, .slice none 0 0, .slice none 0 0, .slice ao l.length cap] 41); have hcb := (cb_new y [.slice none 0 0, .slice none 0 0, .slice none 0 0, .slice ao5 L2.length c5] 41).ext (by simp) ((Ext.refl _).alloc (.cells #[.slice none 0 0, .slice none 0 0, .slice none 0 0, .slice ao l.length cap] 41)); have hcc := cb_new (y.alloc (.cells #[.slice none 0 0, .slice none 0 0, .slice none 0 0, .slice ao5 L2.length c5] 41)) [.slice none 0 0, .slice none 0 0, .slice none 0 0, .slice ao l.length cap] 41; rw [World.size_alloc] at hcc; have b0 := hcb.at_ 0 _ rfl; have b1 := hcb.at_ 1 _ rfl; have b2 := hcb.at_ 2 _ rfl; have b3 := hcb.at_ 3 _ rfl; have b4 := hcc.at_ 0 _ rfl; have b5 := hcc.at_ 1 _ rfl; have b6 := hcc.at_ 2 _ rfl; have b7 := hcc.at_ 3 _ rfl; replace s0 := hA.cell s0; replace s1 := hA.cell s1; replace HCUR := Lib.hid (HCUR.out.trans hA); replace HR5 := Lib.hid (HR5.out.ext hA); clear hA hcb hcc; refine (HC1.out _ _ _ HR5.out).mono ?_; rintro e z1 ⟨n1, nc1, ro, rc, rfl, hK, _, hE⟩; have HK1 := Lib.hid hK; replace s0 := hE.cell s0; replace s1 := hE.cell s1; replace b0 := hE.cell b0; replace b1 := hE.cell b1; replace b2 := hE.cell b2; replace b3 := hE.cell b3; replace b4 := hE.cell b4; replace b5 := hE.cell b5; replace b6 := hE.cell b6; replace b7 := hE.cell b7; replace HR5 := Lib.hid (HR5.out.ext hE); replace HCUR := Lib.hid (HCUR.out.trans hE); clear hK hE; have M1 := True.intro)
    | (go_at_call 23; refine (HAD.out _ HCUR.out).mono ?_; rintro e y ⟨ao5, c5, rfl, hR, hE⟩; replace s0 := hE.cell s0; replace s1 := hE.cell s1; have HR5 := Lib.hid hR; replace HCUR := Lib.hid (HCUR.out.trans hE); clear hR hE)
    | (go_at_call 11; refine (HF.out _).mono ?_; rintro e w3 ⟨rfl, hE⟩; have hE2 := hE.alloc (.cells #[.int .i64 11, .int .i64 s, .int .i64 nb, .int .i64 (-1), .int .i64 fr, .int .i64 to, .int .i64 kn, .int .i64 0] 28); replace s0 := hE2.cell s0; replace s1 := hE2.cell s1; have f0 : (w3.alloc (.cells #[.int .i64 11, .int .i64 s, .int .i64 nb, .int .i64 (-1), .int .i64 fr, .int .i64 to, .int .i64 kn, .int .i64 0] 28)).cell? ⟨w3.heap.size, 0, none⟩ = some (.int .i64 11) := (by simp); have f1 : (w3.alloc (.cells #[.int .i64 11, .int .i64 s, .int .i64 nb, .int .i64 (-1), .int .i64 fr, .int .i64 to, .int .i64 kn, .int .i64 0] 28)).cell? ⟨w3.heap.size, 1, none⟩ = some (.int .i64 s) := (by simp); have f2 : (w3.alloc (.cells #[.int .i64 11, .int .i64 s, .int .i64 nb, .int .i64 (-1), .int .i64 fr, .int .i64 to, .int .i64 kn, .int .i64 0] 28)).cell? ⟨w3.heap.size, 2, none⟩ = some (.int .i64 nb) := (by simp); have f3 : (w3.alloc (.cells #[.int .i64 11, .int .i64 s, .int .i64 nb, .int .i64 (-1), .int .i64 fr, .int .i64 to, .int .i64 kn, .int .i64 0] 28)).cell? ⟨w3.heap.size, 3, none⟩ = some (.int .i64 (-1)) := (by simp); have f4 : (w3.alloc (.cells #[.int .i64 11, .int .i64 s, .int .i64 nb, .int .i64 (-1), .int .i64 fr, .int .i64 to, .int .i64 kn, .int .i64 0] 28)).cell? ⟨w3.heap.size, 4, none⟩ = some (.int .i64 fr) := (by simp); have f5 : (w3.alloc (.cells #[.int .i64 11, .int .i64 s, .int .i64 nb, .int .i64 (-1), .int .i64 fr, .int .i64 to, .int .i64 kn, .int .i64 0] 28)).cell? ⟨w3.heap.size, 5, none⟩ = some (.int .i64 to) := (by simp); have f6 : (w3.alloc (.cells #[.int .i64 11, .int .i64 s, .int .i64 nb, .int .i64 (-1), .int .i64 fr, .int .i64 to, .int .i64 kn, .int .i64 0] 28)).cell? ⟨w3.heap.size, 6, none⟩ = some (.int .i64 kn) := (by simp); have f7 : (w3.alloc (.cells #[.int .i64 11, .int .i64 s, .int .i64 nb, .int .i64 (-1), .int .i64 fr, .int .i64 to, .int .i64 kn, .int .i64 0] 28)).cell? ⟨w3.heap.size, 7, none⟩ = some (.int .i64 0) := (by simp); replace HCUR := Lib.hid (HCUR.out.trans hE2); clear hE hE2)
    | (go_at_call 13; refine (fewF_any l ao cap _).mono ?_; rintro e w2 ⟨rfl, hE⟩; rw [decide_eq_true HN.out]; replace s0 := hE.cell s0; replace s1 := hE.cell s1; replace HCUR := Lib.hid (HCUR.out.trans hE); clear hE)
    | (go_at_call 10; refine (HS.out _).mono ?_; rintro e w1 ⟨rfl, hE⟩; replace s0 := hE.cell s0; replace s1 := hE.cell s1; have HCUR := Lib.hid (HX0.out.trans hE); clear hE))
  have HKA := Lib.hid HK3.out
  have HKB := Lib.hid HK4.out
  go_loopw [33] (fun iv wr => ∃ m : Nat, iv = .int .i64 m ∧ m ≤ 8 ∧ Ext yN5 wr) (fun iv _ => 8 - (intOf iv).toNat)
  case atStart => exact ⟨0, rfl, by omega, Ext.refl _⟩
  case round =>
    obtain ⟨m, rfl, hm, hE⟩ := hrel
    have HE := Lib.hid hE
    clear hE s0 s1 b0 b1 b2 b3 b4 b5 b6 b7
    by_cases hlt : m < 8
    · have hl1 : (m : Int) < 8 := by omega
      have HA := Lib.hid (fun (W : World) (hW : Ext yN5 W) => has_any A (m : Int) n3 nc3 W (SL.ext HKA.out hW))
      have HB := Lib.hid (fun (W : World) (hW : Ext yN5 W) => has_any B (m : Int) n4 nc4 W (SL.ext HKB.out hW))
      obtain ⟨qb, hqb⟩ : ∃ q, B.contains (m : Int) = q := ⟨_, rfl⟩
      have HH := Lib.hid (HAB.out m hlt)
      rw [hqb] at HB HH
      by_cases hn : (m : Int) = nb
      · rw [HH.out.1 hn] at HA
        have e1 : ((m : Int) == nb) = true := by simp [hn]
        have e2 : ((m : Int) != nb) = false := by simp [hn]
        clear hn hqb HH
        go_wp2_with (first
          | (go_at_call 24; have hq := N7; clear hq; refine (HB.out _ (HE.out.trans HE7.out)).mono ?_; rintro e v8 ⟨rfl, hE⟩; have HE8 := Lib.hid (HE7.out.trans hE); clear hE)
          | (go_at_call 24; refine (HA.out _ HE.out).mono ?_; rintro e v7 ⟨rfl, hE⟩; have HE7 := Lib.hid hE; clear hE; have N7 := True.intro))
        go_roundw
        case rel => exact ⟨m + 1, by go_num, by omega, HE.out.trans HE8.out⟩
        case measure => simp [intOf] <;> omega
      · rw [HH.out.2 hn] at HA
        have e1 : ((m : Int) == nb) = false := by simp [hn]
        have e2 : ((m : Int) != nb) = true := by simp [hn]
        clear hn hqb HH
        go_wp2_with (first
          | (go_at_call 24; have hq := N7; clear hq; refine (HB.out _ (HE.out.trans HE7.out)).mono ?_; rintro e v8 ⟨rfl, hE⟩; have HE8 := Lib.hid (HE7.out.trans hE); clear hE)
          | (go_at_call 24; refine (HA.out _ HE.out).mono ?_; rintro e v7 ⟨rfl, hE⟩; have HE7 := Lib.hid hE; clear hE; have N7 := True.intro))
        go_roundw
        case rel => exact ⟨m + 1, by go_num, by omega, HE.out.trans HE8.out⟩
        case measure => simp [intOf] <;> omega
    · have hl1 : ¬ (m : Int) < 8 := by omega
      go_wp2_with fail
      go_ret
      exact ⟨rfl, HCUR.out.trans HE.out⟩
theorem grp_tf (l : List Ft) (s nb fr to kn t : Int) (ao : Option Addr) (cap : Nat) (w : World) (h : RepF w ao cap l) (ht : inI64 t) : Calls Try.prog 8 #[.slice ao l.length cap, .bool true, .int .i64 s, .int .i64 nb, .bool false, .agg #[.int .i64 fr, .int .i64 to], .int .i64 kn, .int .i64 t] w (Tru w) := by
  by_cases hfew : l.length ≤ 30
  case neg => exact grp_tf_few l s nb fr to kn t ao cap w h hfew
  obtain ⟨⟨r1, e1⟩, hr⟩ : ∃ r, factP (⟨11, s, nb, (-1), fr, to, kn, 0⟩ : Ft) = r := ⟨_, rfl⟩
  by_cases he1 : e1 = 0
  case neg =>
    obtain ⟨rfl, _⟩ := factP_bad hr he1
    exact grp_tf_bad l s nb fr to kn t ao cap w h hfew e1 hr he1
  subst he1
  obtain ⟨rfl, hfit, hok⟩ := factP_ok hr
  obtain ⟨⟨L2, e2⟩, ha⟩ : ∃ r, addF l (⟨11, s, nb, (-1), fr, to, kn, 0⟩ : Ft) = r := ⟨_, rfl⟩
  by_cases he2 : e2 = 0
  case neg => exact grp_tf_add l s nb fr to kn t ao cap w h hfew hr L2 e2 ha he2
  subst he2
  obtain ⟨hL, hb⟩ := addF_ok ha
  have hC : ofF L2 6 s t kn = ofF l 6 s t kn := by rw [hL]; exact ofF_other fun n => inT_key (by intro hc; unfold Ft.key at hc; injection hc with hc; cases hc)
  by_cases c1 : fr ≤ t
  · by_cases c2 : t < to
    · have hab : ∀ m : Nat, m < 8 → ((m : Int) = nb → (ofF L2 11 s t kn).contains (m : Int) = false) ∧ ((m : Int) ≠ nb → (ofF L2 11 s t kn).contains (m : Int) = (ofF l 11 s t kn).contains (m : Int)) := by
        intro m hm
        have hh := look_hold hok hb c1 c2 (m : Int)
        dsimp only at hh
        rw [← hL] at hh
        rw [ofF_has, ofF_has, hh, decide_eq_true (show (0 : Int) ≤ (m : Int) by omega), decide_eq_true (show (m : Int) < 8 by omega)]
        refine ⟨fun e => ?_, fun e => ?_⟩
        · rw [if_pos e]; decide
        · rw [if_neg e]
      exact grp_tf_in l s nb fr to kn t ao cap w h ht hfew hr L2 ha (ofF L2 11 s t kn) (ofF l 11 s t kn) (ofF l 6 s t kn) hC rfl rfl rfl c1 c2 hab
    · have hA : ofF L2 11 s t kn = ofF l 11 s t kn := by rw [hL]; exact ofF_other fun n => inT_term (by dsimp only; omega)
      exact grp_tf_aft l s nb fr to kn t ao cap w h ht hfew hr L2 ha (ofF l 11 s t kn) (ofF l 6 s t kn) hC rfl hA rfl c1 (by omega)
  · have hA : ofF L2 11 s t kn = ofF l 11 s t kn := by rw [hL]; exact ofF_other fun n => inT_term (by dsimp only; omega)
    exact grp_tf_bef l s nb fr to kn t ao cap w h ht hfew hr L2 ha (ofF l 11 s t kn) (ofF l 6 s t kn) hC rfl hA rfl (by omega)
end Go.Proofs.Ytbniicobkhiniaa
