/- Petitions: Alike; Clip and Add. -/
import Derived.Test.YtbniicobkhiniaaFC
namespace Go.Sz
open Go.RowKit
def keyR (r : Rd) : Ky := ⟨r.k, r.s, r.o⟩
/-- are the points of all reads the same -/
def alikeR (l : List Ft) (a b : Int) (r : Rd) : Bool := decide (ptsF l (keyR r) r.fr r.to a = ptsF l (keyR r) r.fr r.to b)
def alikeF (l : List Ft) (rs : List Rd) (a b : Int) : Bool := rs.all (alikeR l a b)
theorem alikeF_bad {l : List Ft} {rs : List Rd} {a b : Int} {m : Nat} {r : Rd} (hr : rs[m]? = some r) (h : alikeR l a b r = false) : alikeF l rs a b = false := all_not hr h
theorem alikeF_next {l : List Ft} {rs : List Rd} {a b : Int} {m : Nat} {r : Rd} (hr : rs[m]? = some r) (ht : (rs.take m).all (alikeR l a b) = true) (h : alikeR l a b r = true) : (rs.take (m + 1)).all (alikeR l a b) = true := all_next hr ht h
end Go.Sz
namespace Go.Proofs.Ytbniicobkhiniaa
open Go.RowKit Go.Sz
set_option maxRecDepth 100000 in
set_option maxHeartbeats 6400000 in
theorem alike_any (l : List Ft) (rs : List Rd) (a b : Int) (ao : Option Addr) (cap : Nat) (bo : Option Addr) (capr : Nat) (w : World) (h : RepF w ao cap l) (hr : RepR w bo capr rs) : Calls Try.prog 25 #[.slice ao l.length cap, .slice bo rs.length capr, .int .i64 a, .int .i64 b] w fun e w' => e = .returned (.bool (alikeF l rs a b)) ∧ Ext w w' := by
  have hs1 := hr.max
  have HL := Lib.hid h
  have HR := Lib.hid hr
  clear h hr
  go_enter Try.func25, Try.ntmps25
  go_wp2_with fail
  go_loopw [13] (fun iv wr => ∃ m : Nat, iv = .int .i64 m ∧ m ≤ rs.length ∧ (rs.take m).all (alikeR l a b) = true ∧ Ext w wr) (fun iv _ => rs.length - (intOf iv).toNat)
  case atStart => exact ⟨0, rfl, by omega, by simp, Ext.refl _⟩
  case round =>
    obtain ⟨m, rfl, hm, ht, hB⟩ := hrel
    have HT := Lib.hid ht
    have HB := Lib.hid hB
    clear ht hB
    by_cases hlt : m < rs.length
    · have hli : (m : Int) < (rs.length : Int) := by omega
      obtain ⟨r, hr⟩ : ∃ r, rs[m]? = some r := ⟨_, List.getElem?_eq_getElem hlt⟩
      obtain ⟨b0, o0, rfl, c0, c1, c2, c3, c4⟩ := r_at HR.out HB.out hr
      have HNX := Lib.hid (fun h => alikeF_next hr HT.out h)
      have HNO := Lib.hid (fun h => alikeF_bad (l := l) (a := a) (b := b) hr h)
      clear hr
      have hA : Ext wr (wr.alloc (.cells #[.int .i64 r.k, .int .i64 r.s, .int .i64 r.o, .int .i64 r.fr, .int .i64 r.to] 70)) := (Ext.refl wr).alloc _
      have HA := Lib.hid (HB.out.trans hA)
      clear hA
      have e0 : (wr.alloc (.cells #[.int .i64 r.k, .int .i64 r.s, .int .i64 r.o, .int .i64 r.fr, .int .i64 r.to] 70)).cell? ⟨wr.heap.size, 0, none⟩ = some (.int .i64 r.k) := by simp
      have e1 : (wr.alloc (.cells #[.int .i64 r.k, .int .i64 r.s, .int .i64 r.o, .int .i64 r.fr, .int .i64 r.to] 70)).cell? ⟨wr.heap.size, 1, none⟩ = some (.int .i64 r.s) := by simp
      have e2 : (wr.alloc (.cells #[.int .i64 r.k, .int .i64 r.s, .int .i64 r.o, .int .i64 r.fr, .int .i64 r.to] 70)).cell? ⟨wr.heap.size, 2, none⟩ = some (.int .i64 r.o) := by simp
      have e3 : (wr.alloc (.cells #[.int .i64 r.k, .int .i64 r.s, .int .i64 r.o, .int .i64 r.fr, .int .i64 r.to] 70)).cell? ⟨wr.heap.size, 3, none⟩ = some (.int .i64 r.fr) := by simp
      have e4 : (wr.alloc (.cells #[.int .i64 r.k, .int .i64 r.s, .int .i64 r.o, .int .i64 r.fr, .int .i64 r.to] 70)).cell? ⟨wr.heap.size, 4, none⟩ = some (.int .i64 r.to) := by simp
      have HC1 : Hid (∀ W, Ext w W → Calls Try.prog 39 #[.slice ao l.length cap, .agg #[.int .i64 r.k, .int .i64 r.s, .int .i64 r.o], .int .i64 r.fr, .int .i64 r.to, .int .i64 a] W (RetPt (ptsF l (keyR r) r.fr r.to a) W)) := Lib.hid fun W hW => points_any l (keyR r) r.fr r.to a ao cap W (HL.out.ext hW)
      have HC2 : Hid (∀ W, Ext w W → Calls Try.prog 39 #[.slice ao l.length cap, .agg #[.int .i64 r.k, .int .i64 r.s, .int .i64 r.o], .int .i64 r.fr, .int .i64 r.to, .int .i64 b] W (RetPt (ptsF l (keyR r) r.fr r.to b) W)) := Lib.hid fun W hW => points_any l (keyR r) r.fr r.to b ao cap W (HL.out.ext hW)
      obtain ⟨p1, hp1⟩ : ∃ p, ptsF l (keyR r) r.fr r.to a = p := ⟨_, rfl⟩
      obtain ⟨p2, hp2⟩ : ∃ p, ptsF l (keyR r) r.fr r.to b = p := ⟨_, rfl⟩
      have HQ : Hid (alikeR l a b r = decide (p1 = p2)) := Lib.hid (by unfold alikeR; rw [hp1, hp2])
      rw [hp1] at HC1
      rw [hp2] at HC2
      clear hp1 hp2
      obtain ⟨q, hq⟩ : ∃ q, decide (p1 = p2) = q := ⟨_, rfl⟩
      rw [hq] at HQ
      have HEQ : Hid (∀ W a1 c1 a2 c2, RepPt W a1 c1 p1 → RepPt W a2 c2 p2 → Calls Try.prog 38 #[.slice a1 p1.length c1, .slice a2 p2.length c2] W fun e w' => e = .returned (.bool q) ∧ Ext W w') := Lib.hid fun W a1 c1 a2 c2 h1 h2 => hq ▸ equalP_any p1 p2 a1 a2 c1 c2 W h1 h2
      clear hq
      go_wp2_with fail
      generalize (wr.alloc (.cells #[.int .i64 r.k, .int .i64 r.s, .int .i64 r.o, .int .i64 r.fr, .int .i64 r.to] 70)) = W1 at *
      have ge0 := grow_cell e0
      have ge1 := grow_cell e1
      have ge2 := grow_cell e2
      have ge3 := grow_cell e3
      have ge4 := grow_cell e4
      refine wp_region_rel_all (fun i => if i = 8 then some (spSL' 2 p1.length (prows p1)) else if i = 17 then some (spSL' 2 p2.length (prows p2)) else if i = 18 then some (spV (.bool q)) else none) (by kernel_rfl) (by kernel_rfl) ?_
      repeat (first
        | (refine wpRel_quick ?_ ?_ ?_ ?_
           · rfl
           · rfl
           · first | exact noEnter rfl | (intro f args W W'; go_simp)
           intro K hK
           go_big_quiet_op
           go_big_quiet_on)
        | (refine wpRel_skip ?_ ?_
           · rfl
           simp only [Act.put, List.setIfInBounds_toArray, List.set_cons_zero, List.set_cons_succ]))
      refine wpRel_rich _ rfl rfl (fun W hW => ?_) (fun v W3 hW3 hv => ?_)
      · have hc := HC1.out W (HA.out.trans ((Ext.refl _).drew.trans hW.1))
        go_simp
        refine Calls.mono hc ?_
        rintro e w' ⟨a5, c5, rfl, h5, h6⟩
        exact ⟨_, rfl, ⟨_, _, rfl, h5⟩, h6⟩
      obtain ⟨a5, c5, rfl, _⟩ := hv
      clear hW3
      simp only [Act.put, List.setIfInBounds_toArray, List.set_cons_zero, List.set_cons_succ]
      repeat (first
        | (refine wpRel_quick ?_ ?_ ?_ ?_
           · rfl
           · rfl
           · first | exact noEnter rfl | (intro f args W W'; go_simp)
           intro K hK
           go_big_quiet_op
           go_big_quiet_on)
        | (refine wpRel_skip ?_ ?_
           · rfl
           simp only [Act.put, List.setIfInBounds_toArray, List.set_cons_zero, List.set_cons_succ]))
      refine wpRel_rich _ rfl rfl (fun W hW => ?_) (fun v W3 hW3 hv => ?_)
      · have hc := HC2.out W (HA.out.trans ((Ext.refl _).drew.trans hW.1))
        go_simp
        refine Calls.mono hc ?_
        rintro e w' ⟨a6, c6, rfl, h5, h6⟩
        exact ⟨_, rfl, ⟨_, _, rfl, h5⟩, h6⟩
      obtain ⟨a6, c6, rfl, _⟩ := hv
      clear hW3
      simp only [Act.put, List.setIfInBounds_toArray, List.set_cons_zero, List.set_cons_succ]
      refine wpRel_rich _ rfl rfl (fun W hW => ?_) (fun v W3 hW3 hv => ?_)
      · obtain ⟨a7, c7, he7, hs7⟩ := hW.2 8 (by unfold Anc; kernel_rfl) _ _ rfl rfl
        obtain ⟨a8, c8, he8, hs8⟩ := hW.2 17 (by unfold Anc; kernel_rfl) _ _ rfl rfl
        cases he7
        cases he8
        have hc := HEQ.out W _ _ _ _ hs7 hs8
        go_simp
        refine Calls.mono hc ?_
        rintro e w' ⟨rfl, h⟩
        exact ⟨_, rfl, rfl, h⟩
      obtain rfl := hv
      clear hW3
      simp only [Act.put, List.setIfInBounds_toArray, List.set_cons_zero, List.set_cons_succ]
      repeat (first
        | (refine wpRel_quick ?_ ?_ ?_ ?_
           · rfl
           · rfl
           · first | exact noEnter rfl | (intro f args W W'; go_simp)
           intro K hK
           go_big_quiet_op
           go_big_quiet_on)
        | (refine wpRel_skip ?_ ?_
           · rfl
           simp only [Act.put, List.setIfInBounds_toArray, List.set_cons_zero, List.set_cons_succ]))
      refine wpRel_nil ?_
      intro W3 hW3
      have HE3 := Lib.hid (HA.out.trans ((Ext.refl _).drew.trans hW3.1))
      clear hW3 HC1 HC2 HEQ e0 e1 e2 e3 e4 ge0 ge1 ge2 ge3 ge4
      cases q with
      | true =>
        have HN2 := Lib.hid (HNX.out HQ.out)
        clear HNX HNO
        go_wp2_with fail
        go_roundw
        case rel => exact ⟨m + 1, by go_num, by omega, HN2.out, HE3.out⟩
        case measure => simp [intOf] <;> omega
      | false =>
        have HN2 := Lib.hid (HNO.out HQ.out)
        clear HNX HNO
        go_wp2_with fail
        go_ret
        exact ⟨ret_bool HN2.out.symm, HE3.out⟩
    · have hli : ¬ (m : Int) < (rs.length : Int) := by omega
      have HEND : Hid (alikeF l rs a b = true) := Lib.hid (by
        have h1 := HT.out
        rw [List.take_of_length_le (by omega)] at h1
        exact h1)
      go_wp2_with fail
      go_ret
      exact ⟨ret_bool HEND.out.symm, HB.out⟩
set_option maxRecDepth 100000 in
set_option maxHeartbeats 6400000 in
theorem clipF_any (n cap : Nat) (ao : Option Addr) (w : World) (hn : n ≤ cap) (hc : (cap : Int) ≤ 9223372036854775807) (h0 : ao = none → n = 0) : Calls Try.prog 37 #[.slice ao n cap] w fun e w' => e = .returned (.slice ao n n) ∧ w = w' := by
  have h1 : (0 : Int) ≤ (n : Int) := by omega
  have h2 : (n : Int) ≤ (cap : Int) := by omega
  have hu1 : IntKind.u64.wrap (n : Int) = n := u64_small _ (by omega) (by omega)
  cases ao with
  | none =>
    obtain rfl := h0 rfl
    go_enter Try.func37, Try.ntmps37
    go_wp2_with fail
    go_ret
    exact ⟨rfl, rfl⟩
  | some a =>
    obtain ⟨b, o, x⟩ := a
    go_enter Try.func37, Try.ntmps37
    go_wp2_with fail
    go_ret
    exact ⟨rfl, rfl⟩
theorem infoFt : (Try.prog.info? 28).map (fun i => (i.zero, i.size, i.bytes)) = some (some (.agg #[.int .i64 0, .int .i64 0, .int .i64 0, .int .i64 0, .int .i64 0, .int .i64 0, .int .i64 0, .int .i64 0]), 8, 64) := by kernel_rfl
/-- a list of facts and an error -/
def RetAdd (r : List Ft × Int) (w : World) (e : Ending) (w' : World) : Prop := ∃ ao cap, e = .returned (.tuple #[.slice ao r.1.length cap, .int .i64 r.2]) ∧ RepF w' ao cap r.1 ∧ Ext w w'
set_option maxRecDepth 100000 in
set_option maxHeartbeats 6400000 in
theorem add_any (l : List Ft) (x : Ft) (ao : Option Addr) (cap : Nat) (w : World) (h : RepF w ao cap l) (hb : l.length ≤ 100000) : Calls Try.prog 23 #[.slice ao l.length cap, .agg #[.int .i64 x.k, .int .i64 x.s, .int .i64 x.o, .int .i64 x.v, .int .i64 x.fr, .int .i64 x.to, .int .i64 x.kn, .int .i64 x.no]] w (RetAdd (addF l x) w) := by
  obtain ⟨i0, hi, hz0, hz1, hz2⟩ := info_parts infoFt
  have HI := Lib.hid (And.intro hi (And.intro hz0 (And.intro hz1 hz2)))
  have hs1 := h.max
  have hs2 := h.le
  have hsm := SL.max h
  have HL := Lib.hid h
  have HBL := Lib.hid hb
  have hA : Ext w (w.alloc (.cells #[.int .i64 x.k, .int .i64 x.s, .int .i64 x.o, .int .i64 x.v, .int .i64 x.fr, .int .i64 x.to, .int .i64 x.kn, .int .i64 x.no] 28)) := (Ext.refl w).alloc _
  have HA := Lib.hid hA
  have HTI : Hid (SL w 8 ao l.length (frows l)) := Lib.hid (by have := SL.takes h (k := l.length) (by rw [frows_length]; exact Nat.le_refl _) (fun e => by have := SL.nil h e; omega); rwa [show (frows l).take l.length = frows l by rw [← frows_length l, List.take_length]] at this)
  have HNN : Hid (ao = none → l.length = 0) := Lib.hid (by intro e; have := SL.nil h e; omega)
  clear h hA hi hz0 hz1 hz2
  have e0 : (w.alloc (.cells #[.int .i64 x.k, .int .i64 x.s, .int .i64 x.o, .int .i64 x.v, .int .i64 x.fr, .int .i64 x.to, .int .i64 x.kn, .int .i64 x.no] 28)).cell? ⟨w.heap.size, 0, none⟩ = some (.int .i64 x.k) := by simp
  have e1 : (w.alloc (.cells #[.int .i64 x.k, .int .i64 x.s, .int .i64 x.o, .int .i64 x.v, .int .i64 x.fr, .int .i64 x.to, .int .i64 x.kn, .int .i64 x.no] 28)).cell? ⟨w.heap.size, 1, none⟩ = some (.int .i64 x.s) := by simp
  have e2 : (w.alloc (.cells #[.int .i64 x.k, .int .i64 x.s, .int .i64 x.o, .int .i64 x.v, .int .i64 x.fr, .int .i64 x.to, .int .i64 x.kn, .int .i64 x.no] 28)).cell? ⟨w.heap.size, 2, none⟩ = some (.int .i64 x.o) := by simp
  have e3 : (w.alloc (.cells #[.int .i64 x.k, .int .i64 x.s, .int .i64 x.o, .int .i64 x.v, .int .i64 x.fr, .int .i64 x.to, .int .i64 x.kn, .int .i64 x.no] 28)).cell? ⟨w.heap.size, 3, none⟩ = some (.int .i64 x.v) := by simp
  have e4 : (w.alloc (.cells #[.int .i64 x.k, .int .i64 x.s, .int .i64 x.o, .int .i64 x.v, .int .i64 x.fr, .int .i64 x.to, .int .i64 x.kn, .int .i64 x.no] 28)).cell? ⟨w.heap.size, 4, none⟩ = some (.int .i64 x.fr) := by simp
  have e5 : (w.alloc (.cells #[.int .i64 x.k, .int .i64 x.s, .int .i64 x.o, .int .i64 x.v, .int .i64 x.fr, .int .i64 x.to, .int .i64 x.kn, .int .i64 x.no] 28)).cell? ⟨w.heap.size, 5, none⟩ = some (.int .i64 x.to) := by simp
  have e6 : (w.alloc (.cells #[.int .i64 x.k, .int .i64 x.s, .int .i64 x.o, .int .i64 x.v, .int .i64 x.fr, .int .i64 x.to, .int .i64 x.kn, .int .i64 x.no] 28)).cell? ⟨w.heap.size, 6, none⟩ = some (.int .i64 x.kn) := by simp
  have e7 : (w.alloc (.cells #[.int .i64 x.k, .int .i64 x.s, .int .i64 x.o, .int .i64 x.v, .int .i64 x.fr, .int .i64 x.to, .int .i64 x.kn, .int .i64 x.no] 28)).cell? ⟨w.heap.size, 7, none⟩ = some (.int .i64 x.no) := by simp
  have HC1 := Lib.hid (checkF_any l ao cap _ (HL.out.ext HA.out))
  obtain ⟨c, hc⟩ : ∃ c, checkF l = c := ⟨_, rfl⟩
  have HC := Lib.hid hc
  rw [hc] at HC1
  clear hc
  have HF1 : Hid (∀ W, Calls Try.prog 35 #[.agg #[.int .i64 x.k, .int .i64 x.s, .int .i64 x.o, .int .i64 x.v, .int .i64 x.fr, .int .i64 x.to, .int .i64 x.kn, .int .i64 x.no]] W fun e w' => e = .returned (.bool (okF x)) ∧ Ext W w') := Lib.hid fun W => fits_any x W
  by_cases hc : c = 0
  · subst hc
    cases hok : okF x with
    | false =>
      have HOK := Lib.hid hok
      rw [hok] at HF1
      clear hok
      go_enter Try.func23, Try.ntmps23
      go_wp2_with (first
        | (go_at_call 22; refine HC1.out.mono ?_; rintro e w1 ⟨rfl, hE1⟩; have HE1 := Lib.hid hE1; replace e0 := hE1.cell e0; replace e1 := hE1.cell e1; replace e2 := hE1.cell e2; replace e3 := hE1.cell e3; replace e4 := hE1.cell e4; replace e5 := hE1.cell e5; replace e6 := hE1.cell e6; replace e7 := hE1.cell e7; clear hE1)
        | (go_at_call 35; refine (HF1.out _).mono ?_; rintro e w2 ⟨rfl, hE2⟩; have HE2 := Lib.hid hE2; clear hE2))
      go_ret2
      have : addF l x = ([], 70) := by unfold addF; rw [HC.out, if_pos rfl, if_neg (by rw [HOK.out]; simp)]
      rw [this]
      exact ⟨none, 0, rfl, RepF.nil _, (HA.out.trans HE1.out).trans HE2.out⟩
    | true =>
      have HOK := Lib.hid hok
      rw [hok] at HF1
      clear hok
      go_enter Try.func23, Try.ntmps23
      by_cases hlen : l.length = 0
      · have hgt : ¬ (l.length : Int) > 0 := by omega
        have HLEN := Lib.hid hlen
        have hgd : decide ((l.length : Int) > 0) = false := decide_eq_false hgt
        have hgd2 : decide (0 < l.length) = false := decide_eq_false (by omega)
        have hgd3 : decide ((0 : Int) < (l.length : Int)) = false := decide_eq_false hgt
        clear hlen
        go_wp2_with (first
          | (go_at_call 22; refine HC1.out.mono ?_; rintro e w1 ⟨rfl, hE1⟩; have HE1 := Lib.hid hE1; replace e0 := hE1.cell e0; replace e1 := hE1.cell e1; replace e2 := hE1.cell e2; replace e3 := hE1.cell e3; replace e4 := hE1.cell e4; replace e5 := hE1.cell e5; replace e6 := hE1.cell e6; replace e7 := hE1.cell e7; clear hE1)
          | (go_at_call 35; refine (HF1.out _).mono ?_; rintro e w2 ⟨rfl, hE2⟩; have HE2 := Lib.hid ((HA.out.trans HE1.out).trans hE2); replace e0 := hE2.cell e0; replace e1 := hE2.cell e1; replace e2 := hE2.cell e2; replace e3 := hE2.cell e3; replace e4 := hE2.cell e4; replace e5 := hE2.cell e5; replace e6 := hE2.cell e6; replace e7 := hE2.cell e7; clear hE2))
        have ge0 := grow_cell e0
        have ge1 := grow_cell e1
        have ge2 := grow_cell e2
        have ge3 := grow_cell e3
        have ge4 := grow_cell e4
        have ge5 := grow_cell e5
        have ge6 := grow_cell e6
        have ge7 := grow_cell e7
        refine wp_region_rel_all (fun _ => none) (by kernel_rfl) (by kernel_rfl) ?_
        repeat (first
          | (refine wpRel_quick ?_ ?_ ?_ ?_
             · rfl
             · rfl
             · first | exact noEnter rfl | (intro f args W W'; go_simp)
             intro K hK
             go_big_quiet_op
             go_big_quiet_on)
          | (refine wpRel_skip ?_ ?_
             · rfl
             simp only [Act.put, List.setIfInBounds_toArray, List.set_cons_zero, List.set_cons_succ]))
        refine wpRel_nil ?_
        intro Wx hWx
        have hd3 := (Ext.refl w2).drew.trans hWx.1
        have HE3 := Lib.hid (HE2.out.trans hd3)
        replace e0 := hd3.cell e0
        replace e1 := hd3.cell e1
        replace e2 := hd3.cell e2
        replace e3 := hd3.cell e3
        replace e4 := hd3.cell e4
        replace e5 := hd3.cell e5
        replace e6 := hd3.cell e6
        replace e7 := hd3.cell e7
        clear hWx hd3 ge0 ge1 ge2 ge3 ge4 ge5 ge6 ge7
        have HRES : Hid (addF l x = (l ++ [x], 0)) := Lib.hid (by unfold addF; rw [HC.out, if_pos rfl, if_pos HOK.out, if_pos (.inl HLEN.out)])
        go_wp2_with fail
        have ge0 := grow_cell e0
        have ge1 := grow_cell e1
        have ge2 := grow_cell e2
        have ge3 := grow_cell e3
        have ge4 := grow_cell e4
        have ge5 := grow_cell e5
        have ge6 := grow_cell e6
        have ge7 := grow_cell e7
        refine wp_region_rel_all (fun i => if i = 1 then some (spV (.slice ao l.length l.length)) else if i = 3 then some (spSL 8 1 1 [x.enc]) else if i = 4 then some (spAp 8 (l.length + 1) (frows l ++ [x.enc]) 0 1 ao) else none) (by kernel_rfl) (by kernel_rfl) ?_
        repeat (first
          | (refine wpRel_quick ?_ ?_ ?_ ?_
             · rfl
             · rfl
             · first | exact noEnter rfl | (intro f args W W'; go_simp)
             intro K hK
             go_big_quiet_op
             go_big_quiet_on)
          | (refine wpRel_skip ?_ ?_
             · rfl
             simp only [Act.put, List.setIfInBounds_toArray, List.set_cons_zero, List.set_cons_succ]))
        refine wpRel_rich _ rfl rfl (fun W hW => ?_) (fun v W3 hW3 hv => ?_)
        · have hc := clipF_any l.length cap ao W hs2 (by omega) HNN.out
          go_simp
          refine Calls.mono hc ?_
          rintro e w' ⟨rfl, h⟩
          exact ⟨_, rfl, rfl, by first | exact h | (subst h; exact Ext.refl _)⟩
        obtain rfl := hv
        clear hW3
        simp only [Act.put, List.setIfInBounds_toArray, List.set_cons_zero, List.set_cons_succ]
        repeat (first
          | (refine wpRel_quick ?_ ?_ ?_ ?_
             · rfl
             · rfl
             · first | exact noEnter rfl | (intro f args W W'; go_simp)
             intro K hK
             go_big_quiet_op
             go_big_quiet_on)
          | (refine wpRel_skip ?_ ?_
             · rfl
             simp only [Act.put, List.setIfInBounds_toArray, List.set_cons_zero, List.set_cons_succ]))
        refine wpRel_rich _ rfl rfl (fun W hW => ?_) (fun v W4 hW4 hv => ?_)
        · go_simp
          exact ⟨⟨_, rfl, sl_new W x.enc 8 _ rfl⟩, (Ext.refl _).alloc _⟩
        obtain ⟨ap, rfl, _⟩ := hv
        clear hW4
        simp only [Act.put, List.setIfInBounds_toArray, List.set_cons_zero, List.set_cons_succ]
        refine wpRel_rich _ rfl rfl (fun W hW => ?_) (fun v W4 hW4 hv => ?_)
        · obtain ⟨ap', hap, hsp2⟩ := hW.2 3 (by unfold Anc; kernel_rfl) _ _ rfl rfl
          cases hap
          obtain ⟨hi, hz0, hz1, hz2⟩ := HI.out
          exact g_append_full _ _ 33 33 rfl 28 i0 _ 8 64 Try.underlying33 hi hz0 hz1 hz2 rfl (by omega) ao l.length (frows l) rfl (HTI.out.ext (HE3.out.trans ((Ext.refl Wx).drew.trans hW.1))) (frows_length l) (.slice ap 1 1) 1 (fun h => by omega) [x.enc] rfl (hsp2.src (by omega) Try.underlying33 (by intro r hr u hu; simp at hr; subst hr; simp [Ft.enc] at hu; rcases hu with rfl | rfl | rfl | rfl | rfl | rfl | rfl | rfl <;> rfl)) (by intro r hr; simp at hr; subst hr; rfl) rfl (by unfold maxLen; omega) (by have := HBL.out; omega) _ (Nat.zero_le _)
        obtain ⟨ao5, cap5, rfl, _⟩ := hv
        clear hW4
        simp only [Act.put, List.setIfInBounds_toArray, List.set_cons_zero, List.set_cons_succ]
        repeat (first
          | (refine wpRel_quick ?_ ?_ ?_ ?_
             · rfl
             · rfl
             · first | exact noEnter rfl | (intro f args W W'; go_simp)
             intro K hK
             go_big_quiet_op
             go_big_quiet_on)
          | (refine wpRel_skip ?_ ?_
             · rfl
             simp only [Act.put, List.setIfInBounds_toArray, List.set_cons_zero, List.set_cons_succ]))
        refine wpRel_nil ?_
        intro W5 hW5
        obtain ⟨ao6, cap6, hao, hs6, _⟩ := hW5.2 4 trivial _ _ rfl rfl
        cases hao
        have HS6 := Lib.hid hs6
        have HE5 := Lib.hid (HE3.out.trans ((Ext.refl Wx).drew.trans hW5.1))
        clear hW5 hs6
        go_wp2_with fail
        go_ret2
        rw [HRES.out]
        refine ⟨ao5, cap5, by rw [List.length_append]; rfl, ?_, HE5.out⟩
        unfold RepF
        rw [frows_append]
        exact HS6.out
      · have hgt : (l.length : Int) > 0 := by omega
        have hgd : decide ((l.length : Int) > 0) = true := decide_eq_true hgt
        have hgd3 : decide ((0 : Int) < (l.length : Int)) = true := decide_eq_true hgt
        have hgd4 : 0 < l.length := by omega
        have HLEN := Lib.hid hlen
        have hn1 : (l.length : Int) - 1 = ((l.length - 1 : Nat) : Int) := by omega
        obtain ⟨j, hj⟩ : ∃ j, l.length - 1 = j := ⟨_, rfl⟩
        have HJ := Lib.hid hj
        rw [hj] at hn1
        have hj1 : (j : Int) < (l.length : Int) := by omega
        obtain ⟨y, hy⟩ : ∃ y, l[j]? = some y := ⟨_, List.getElem?_eq_getElem (by omega)⟩
        have HLY : Hid (lastF l = y) := Lib.hid (by unfold lastF; rw [hj, List.getD, hy]; rfl)
        have HY := Lib.hid hy
        clear hj hlen
        obtain ⟨b0, o0, rfl, d0, d1, d2, d3, d4, d5, d6, d7⟩ := f_at HL.out (Ext.refl w) hy
        clear hy
        obtain ⟨q, hq⟩ : ∃ q, cmpF y x = q := ⟨_, rfl⟩
        have HQ := Lib.hid hq
        have HCP : Hid (∀ W, Calls Try.prog 36 #[.agg #[.int .i64 y.k, .int .i64 y.s, .int .i64 y.o, .int .i64 y.v, .int .i64 y.fr, .int .i64 y.to, .int .i64 y.kn, .int .i64 y.no], .agg #[.int .i64 x.k, .int .i64 x.s, .int .i64 x.o, .int .i64 x.v, .int .i64 x.fr, .int .i64 x.to, .int .i64 x.kn, .int .i64 x.no]] W fun e w' => e = .returned (.int .i64 q) ∧ Ext W w') := Lib.hid fun W => hq ▸ compare_any y x W
        clear hq d0 d1 d2 d3 d4 d5 d6 d7
        go_wp2_with (first
          | (go_at_call 22; refine HC1.out.mono ?_; rintro e w1 ⟨rfl, hE1⟩; have HE1 := Lib.hid hE1; replace e0 := hE1.cell e0; replace e1 := hE1.cell e1; replace e2 := hE1.cell e2; replace e3 := hE1.cell e3; replace e4 := hE1.cell e4; replace e5 := hE1.cell e5; replace e6 := hE1.cell e6; replace e7 := hE1.cell e7; clear hE1)
          | (go_at_call 35; refine (HF1.out _).mono ?_; rintro e w2 ⟨rfl, hE2⟩; have HE2 := Lib.hid ((HA.out.trans HE1.out).trans hE2); replace e0 := hE2.cell e0; replace e1 := hE2.cell e1; replace e2 := hE2.cell e2; replace e3 := hE2.cell e3; replace e4 := hE2.cell e4; replace e5 := hE2.cell e5; replace e6 := hE2.cell e6; replace e7 := hE2.cell e7; clear hE2))
        obtain ⟨b9, o9, e9, d0, d1, d2, d3, d4, d5, d6, d7⟩ := f_at HL.out HE2.out HY.out
        cases e9
        have ge0 := grow_cell e0
        have ge1 := grow_cell e1
        have ge2 := grow_cell e2
        have ge3 := grow_cell e3
        have ge4 := grow_cell e4
        have ge5 := grow_cell e5
        have ge6 := grow_cell e6
        have ge7 := grow_cell e7
        have gd0 := grow_cell d0
        have gd1 := grow_cell d1
        have gd2 := grow_cell d2
        have gd3 := grow_cell d3
        have gd4 := grow_cell d4
        have gd5 := grow_cell d5
        have gd6 := grow_cell d6
        have gd7 := grow_cell d7
        refine wp_region_rel_all (fun i => if i = 11 then some (spV (.int .i64 q)) else none) (by kernel_rfl) (by kernel_rfl) ?_
        repeat (first
          | (refine wpRel_quick ?_ ?_ ?_ ?_
             · rfl
             · rfl
             · first | exact noEnter rfl | (intro f args W W'; go_simp)
             intro K hK
             go_big_quiet_op
             go_big_quiet_on)
          | (refine wpRel_skip ?_ ?_
             · rfl
             simp only [Act.put, List.setIfInBounds_toArray, List.set_cons_zero, List.set_cons_succ]))
        refine wpRel_rich _ rfl rfl (fun W hW => ?_) (fun v W3 hW3 hv => ?_)
        · have hc := HCP.out W
          go_simp
          refine Calls.mono hc ?_
          rintro e w' ⟨rfl, h⟩
          exact ⟨_, rfl, rfl, by first | exact h | (subst h; exact Ext.refl _)⟩
        obtain rfl := hv
        clear hW3
        simp only [Act.put, List.setIfInBounds_toArray, List.set_cons_zero, List.set_cons_succ]
        repeat (first
          | (refine wpRel_quick ?_ ?_ ?_ ?_
             · rfl
             · rfl
             · first | exact noEnter rfl | (intro f args W W'; go_simp)
             intro K hK
             go_big_quiet_op
             go_big_quiet_on)
          | (refine wpRel_skip ?_ ?_
             · rfl
             simp only [Act.put, List.setIfInBounds_toArray, List.set_cons_zero, List.set_cons_succ]))
        refine wpRel_nil ?_
        intro Wx hWx
        have hd3 := (Ext.refl w2).drew.trans hWx.1
        have HE3 := Lib.hid (HE2.out.trans hd3)
        replace e0 := hd3.cell e0
        replace e1 := hd3.cell e1
        replace e2 := hd3.cell e2
        replace e3 := hd3.cell e3
        replace e4 := hd3.cell e4
        replace e5 := hd3.cell e5
        replace e6 := hd3.cell e6
        replace e7 := hd3.cell e7
        clear hWx hd3 ge0 ge1 ge2 ge3 ge4 ge5 ge6 ge7 d0 gd0 d1 gd1 d2 gd2 d3 gd3 d4 gd4 d5 gd5 d6 gd6 d7 gd7 HCP
        by_cases hq0 : q ≥ 0
        · go_wp2_with fail
          go_ret2
          have : addF l x = ([], 71) := by unfold addF; rw [HC.out, if_pos rfl, if_pos HOK.out, if_neg (by rw [HLY.out, HQ.out]; have := HLEN.out; omega)]
          rw [this]
          exact ⟨none, 0, rfl, RepF.nil _, HE3.out⟩
        · have HRES : Hid (addF l x = (l ++ [x], 0)) := Lib.hid (by unfold addF; rw [HC.out, if_pos rfl, if_pos HOK.out, if_pos (.inr (by rw [HLY.out, HQ.out]; omega))])
          go_wp2_with fail
          have ge0 := grow_cell e0
          have ge1 := grow_cell e1
          have ge2 := grow_cell e2
          have ge3 := grow_cell e3
          have ge4 := grow_cell e4
          have ge5 := grow_cell e5
          have ge6 := grow_cell e6
          have ge7 := grow_cell e7
          refine wp_region_rel_all (fun i => if i = 1 then some (spV (.slice (some ⟨b0, o0, none⟩) l.length l.length)) else if i = 3 then some (spSL 8 1 1 [x.enc]) else if i = 4 then some (spAp 8 (l.length + 1) (frows l ++ [x.enc]) 0 1 (some ⟨b0, o0, none⟩)) else none) (by kernel_rfl) (by kernel_rfl) ?_
          repeat (first
            | (refine wpRel_quick ?_ ?_ ?_ ?_
               · rfl
               · rfl
               · first | exact noEnter rfl | (intro f args W W'; go_simp)
               intro K hK
               go_big_quiet_op
               go_big_quiet_on)
            | (refine wpRel_skip ?_ ?_
               · rfl
               simp only [Act.put, List.setIfInBounds_toArray, List.set_cons_zero, List.set_cons_succ]))
          refine wpRel_rich _ rfl rfl (fun W hW => ?_) (fun v W3 hW3 hv => ?_)
          · have hc := clipF_any l.length cap (some ⟨b0, o0, none⟩) W hs2 (by omega) HNN.out
            go_simp
            refine Calls.mono hc ?_
            rintro e w' ⟨rfl, h⟩
            exact ⟨_, rfl, rfl, by first | exact h | (subst h; exact Ext.refl _)⟩
          obtain rfl := hv
          clear hW3
          simp only [Act.put, List.setIfInBounds_toArray, List.set_cons_zero, List.set_cons_succ]
          repeat (first
            | (refine wpRel_quick ?_ ?_ ?_ ?_
               · rfl
               · rfl
               · first | exact noEnter rfl | (intro f args W W'; go_simp)
               intro K hK
               go_big_quiet_op
               go_big_quiet_on)
            | (refine wpRel_skip ?_ ?_
               · rfl
               simp only [Act.put, List.setIfInBounds_toArray, List.set_cons_zero, List.set_cons_succ]))
          refine wpRel_rich _ rfl rfl (fun W hW => ?_) (fun v W4 hW4 hv => ?_)
          · go_simp
            exact ⟨⟨_, rfl, sl_new W x.enc 8 _ rfl⟩, (Ext.refl _).alloc _⟩
          obtain ⟨ap, rfl, _⟩ := hv
          clear hW4
          simp only [Act.put, List.setIfInBounds_toArray, List.set_cons_zero, List.set_cons_succ]
          refine wpRel_rich _ rfl rfl (fun W hW => ?_) (fun v W4 hW4 hv => ?_)
          · obtain ⟨ap', hap, hsp2⟩ := hW.2 3 (by unfold Anc; kernel_rfl) _ _ rfl rfl
            cases hap
            obtain ⟨hi, hz0, hz1, hz2⟩ := HI.out
            exact g_append_full _ _ 33 33 rfl 28 i0 _ 8 64 Try.underlying33 hi hz0 hz1 hz2 rfl (by omega) (some ⟨b0, o0, none⟩) l.length (frows l) rfl (HTI.out.ext (HE3.out.trans ((Ext.refl Wx).drew.trans hW.1))) (frows_length l) (.slice ap 1 1) 1 (fun h => by omega) [x.enc] rfl (hsp2.src (by omega) Try.underlying33 (by intro r hr u hu; simp at hr; subst hr; simp [Ft.enc] at hu; rcases hu with rfl | rfl | rfl | rfl | rfl | rfl | rfl | rfl <;> rfl)) (by intro r hr; simp at hr; subst hr; rfl) rfl (by unfold maxLen; omega) (by have := HBL.out; omega) _ (Nat.zero_le _)
          obtain ⟨ao5, cap5, rfl, _⟩ := hv
          clear hW4
          simp only [Act.put, List.setIfInBounds_toArray, List.set_cons_zero, List.set_cons_succ]
          repeat (first
            | (refine wpRel_quick ?_ ?_ ?_ ?_
               · rfl
               · rfl
               · first | exact noEnter rfl | (intro f args W W'; go_simp)
               intro K hK
               go_big_quiet_op
               go_big_quiet_on)
            | (refine wpRel_skip ?_ ?_
               · rfl
               simp only [Act.put, List.setIfInBounds_toArray, List.set_cons_zero, List.set_cons_succ]))
          refine wpRel_nil ?_
          intro W5 hW5
          obtain ⟨ao6, cap6, hao, hs6, _⟩ := hW5.2 4 trivial _ _ rfl rfl
          cases hao
          have HS6 := Lib.hid hs6
          have HE5 := Lib.hid (HE3.out.trans ((Ext.refl Wx).drew.trans hW5.1))
          clear hW5 hs6
          go_wp2_with fail
          go_ret2
          rw [HRES.out]
          refine ⟨ao5, cap5, by rw [List.length_append]; rfl, ?_, HE5.out⟩
          unfold RepF
          rw [frows_append]
          exact HS6.out
  · have hcn : (c != 0) = true := by simp [hc]
    have HCN := Lib.hid hc
    clear hc
    go_enter Try.func23, Try.ntmps23
    go_wp2_with (go_at_call 22; refine HC1.out.mono ?_; rintro e w1 ⟨rfl, hE1⟩; have HE1 := Lib.hid hE1; clear hE1)
    go_ret2
    have : addF l x = ([], c) := by unfold addF; rw [HC.out, if_neg HCN.out]
    rw [this]
    exact ⟨none, 0, rfl, RepF.nil _, HA.out.trans HE1.out⟩
end Go.Proofs.Ytbniicobkhiniaa
