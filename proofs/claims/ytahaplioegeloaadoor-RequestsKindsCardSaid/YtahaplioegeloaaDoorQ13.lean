/- Requests: Decode of values that have a request's shape. -/
import Derived.Test.YtahaplioegeloaaDoorQE
namespace Go.Proofs.YtahaplioegeloaaDoor
open Go.RowKit Go.Sz
theorem infoB : (Tryd.prog.info? 24).map (fun i => (i.zero, i.size, i.bytes)) = some (some (.agg #[.int .i64 0, .int .i64 0]), 2, 16) := by kernel_rfl
set_option maxRecDepth 100000 in
set_option maxHeartbeats 6400000 in
theorem decodeQ_main (bs : List UInt8) (ao : Option Addr) (cap : Nat) (w : World) (hs : SL w 1 ao cap (br bs)) (hl : bs.length ≤ 1000000) (he : (decOut bs).2 = 0) (hv : (decOut bs).1.k = 3 ∧ (decOut bs).1.l.length = 9 ∧ ((decOut bs).1.l.getD 5 v0).k = 3) (hk : Kinds w) (rr : Rq × Int) (hrr : fromV (decOut bs).1 = rr) (hxl : ((decOut bs).1.l.getD 5 v0).l.length ≤ 1000000) : Calls Tryd.prog 19 #[.slice ao bs.length cap] w (decPost w rr) := by
  have hE0 : Ext w ((w.alloc (.cells #[.int .i64 0, .int .i64 0, .int .i64 0, .int .i64 0, .int .i64 0, .slice none 0 0, .int .i64 0, .int .i64 0, .int .i64 0] 26)).alloc (.cells #[.int .i64 0] 30)) := ((Ext.refl w).alloc _).alloc _
  have HDEC := Lib.hid (decode_any bs ao cap ((w.alloc (.cells #[.int .i64 0, .int .i64 0, .int .i64 0, .int .i64 0, .int .i64 0, .slice none 0 0, .int .i64 0, .int .i64 0, .int .i64 0] 26)).alloc (.cells #[.int .i64 0] 30)) (hs.ext hE0) hl)
  have HQ : Hid (CB ((w.alloc (.cells #[.int .i64 0, .int .i64 0, .int .i64 0, .int .i64 0, .int .i64 0, .slice none 0 0, .int .i64 0, .int .i64 0, .int .i64 0] 26)).alloc (.cells #[.int .i64 0] 30)) w.heap.size zeroQ) := Lib.hid ((cb_new w zeroQ 26).ext (by simp) ((Ext.refl _).alloc _))
  have HC0 : Hid (((w.alloc (.cells #[.int .i64 0, .int .i64 0, .int .i64 0, .int .i64 0, .int .i64 0, .slice none 0 0, .int .i64 0, .int .i64 0, .int .i64 0] 26)).alloc (.cells #[.int .i64 0] 30)).cell? ⟨w.heap.size + 1, 0, none⟩ = some (.int .i64 0) ∧ ((w.alloc (.cells #[.int .i64 0, .int .i64 0, .int .i64 0, .int .i64 0, .int .i64 0, .slice none 0 0, .int .i64 0, .int .i64 0, .int .i64 0] 26)).alloc (.cells #[.int .i64 0] 30)).frozen? ⟨w.heap.size + 1, 0, none⟩ = false) := Lib.hid ⟨cell_new _ _ _ _ (by simp), frozen_new _ _ _ _ (by simp)⟩
  have HE0 := Lib.hid hE0
  have HSZ : Hid (((w.alloc (.cells #[.int .i64 0, .int .i64 0, .int .i64 0, .int .i64 0, .int .i64 0, .slice none 0 0, .int .i64 0, .int .i64 0, .int .i64 0] 26)).alloc (.cells #[.int .i64 0] 30)).heap.size = w.heap.size + 2) := Lib.hid (by simp)
  clear hE0 hs hl
  generalize decOut bs = o at *
  obtain ⟨v, er⟩ := o
  dsimp only at *
  subst he
  have hmf : ∀ (fn : Fn) (first cap : Array Value) (w : World), (Instr.makeFunc fn first cap).run Tryd.prog w = .ok (.func fn first cap) w := fun _ _ _ _ => rfl
  go_enter_defers Tryd.func19, Tryd.ntmps19
  go_wp2_with fail
  generalize ((w.alloc (.cells #[.int .i64 0, .int .i64 0, .int .i64 0, .int .i64 0, .int .i64 0, .slice none 0 0, .int .i64 0, .int .i64 0, .int .i64 0] 26)).alloc (.cells #[.int .i64 0] 30)) = w1 at *
  refine HDEC.out.mono ?_
  rintro e w2 ⟨cs, F, rfl, hR, hF, hE2⟩
  obtain ⟨vk, vn, vs, vl⟩ := v
  obtain ⟨ao2, cap2, rows2, hcs, hik, hin, hss, hsl, hFa, hrl, hel⟩ := hR.open
  obtain ⟨cl⟩ := cs
  simp only at hcs
  subst hcs
  have hq1 : w.heap.size + 1 < w2.heap.size := by have h1 := hE2.size; have h2 := HSZ.out; omega
  have hc2 : w2.cell? ⟨w.heap.size + 1, 0, none⟩ = some (.int .i64 0) := hE2.cell HC0.out.1
  have hz2 : w2.frozen? ⟨w.heap.size + 1, 0, none⟩ = false := by
    rw [World.frozen?_of_block (w := w1) (hE2.block (w.heap.size + 1) (by have := HSZ.out; omega))]; exact HC0.out.2
  have hb2 : CB w2 w.heap.size zeroQ := HQ.out.ext (by have := HSZ.out; omega) hE2
  have hbox := Box.new (w2.setCell ⟨w.heap.size + 1, 0, none⟩ (.int .i64 0)) (.int .i64 vk) (.int .i64 vn) (.string vs) (.slice ao2 vl.length cap2) 59
  rw [show (w2.setCell ⟨w.heap.size + 1, 0, none⟩ (.int .i64 0)).heap.size = w2.heap.size by simp [World.setCell]] at hbox
  have hA : Ext (w2.setCell ⟨w.heap.size + 1, 0, none⟩ (.int .i64 0)) ((w2.setCell ⟨w.heap.size + 1, 0, none⟩ (.int .i64 0)).alloc (.cells #[.int .i64 vk, .int .i64 vn, .string vs, .slice ao2 vl.length cap2] 59)) := (Ext.refl _).alloc _
  have hbS : CB ((w2.setCell ⟨w.heap.size + 1, 0, none⟩ (.int .i64 0)).alloc (.cells #[.int .i64 vk, .int .i64 vn, .string vs, .slice ao2 vl.length cap2] 59)) w.heap.size zeroQ := (hb2.keep (heap_far (by show w.heap.size ≠ w.heap.size + 1; omega))).ext (by simp [World.setCell]; omega) hA
  have hcS0 : (w2.setCell ⟨w.heap.size + 1, 0, none⟩ (.int .i64 0)).cell? ⟨w.heap.size + 1, 0, none⟩ = some (.int .i64 0) := World.cell?_setCell_same' _ _ _ (by rw [hc2]; rfl)
  have hcS := hA.cell hcS0
  have hzS : ((w2.setCell ⟨w.heap.size + 1, 0, none⟩ (.int .i64 0)).alloc (.cells #[.int .i64 vk, .int .i64 vn, .string vs, .slice ao2 vl.length cap2] 59)).frozen? ⟨w.heap.size + 1, 0, none⟩ = false := by
    rw [World.frozen?_of_block (w := w2.setCell ⟨w.heap.size + 1, 0, none⟩ (.int .i64 0)) (hA.block (w.heap.size + 1) (by simp [World.setCell]; omega))]; simp [hz2]
  have hxS : Ext w ((w2.setCell ⟨w.heap.size + 1, 0, none⟩ (.int .i64 0)).alloc (.cells #[.int .i64 vk, .int .i64 vn, .string vs, .slice ao2 vl.length cap2] 59)) := ((HE0.out.trans hE2).setCell (by show w.heap.size ≤ w.heap.size + 1; omega) _).trans hA
  have hfar : ∀ b, F b → b ≠ w.heap.size + 1 := fun b hb => by have h1 := hF b hb; have h2 := HSZ.out; omega
  have hRS : RepV ((w2.setCell ⟨w.heap.size + 1, 0, none⟩ (.int .i64 0)).alloc (.cells #[.int .i64 vk, .int .i64 vn, .string vs, .slice ao2 vl.length cap2] 59)) (fun b => F b ∧ b < w2.heap.size) [.int .i64 vk, .int .i64 vn, .string vs, .slice ao2 vl.length cap2] (.mk vk vn vs vl) := ((RepV.bound hR).keep fun b hb => heap_far (hfar b hb.1)).ext hA
  clear hsl hFa hel hR
  obtain ⟨ao3, cap3, rows, hcs, _, _, _, hsl, hFa, hrl, hel⟩ := hRS.open
  obtain ⟨rfl, rfl⟩ : ao2 = ao3 ∧ cap2 = cap3 := by simp at hcs; exact ⟨hcs.1, hcs.2⟩
  clear hcs hRS
  have hlt3 : w2.heap.size < ((w2.setCell ⟨w.heap.size + 1, 0, none⟩ (.int .i64 0)).alloc (.cells #[.int .i64 vk, .int .i64 vn, .string vs, .slice ao2 vl.length cap2] 59)).heap.size := by simp [World.setCell]
  clear hA hcS0
  have HF : Hid (∀ b, (F b ∧ b < w2.heap.size) → w.heap.size + 2 ≤ b ∧ b < w2.heap.size) := Lib.hid fun b hb => ⟨by have h1 := hF b hb.1; have h2 := HSZ.out; omega, hb.2⟩
  have hb0 := hbox.c0
  have hb3 := hbox.c3
  have HBS := Lib.hid hbS
  have HXS := Lib.hid hxS
  have hl9 : zeroQ.length = 9 := rfl
  clear hbS hxS
  obtain ⟨h1, h2, h3⟩ := id hv
  change vk = 3 at h1
  change vl.length = 9 at h2
  change (vl.getD 5 v0).k = 3 at h3
  subst h1
  have h5 : 5 < rows.length := by rw [hrl]; omega
  obtain ⟨bb, oo, hao, _⟩ := SL.at hsl (by omega) 5 h5
  subst hao
  have h5v : 5 < vl.length := by omega
  have hx := hel 5 rows[5] vl[5] (List.getElem?_eq_getElem h5) (List.getElem?_eq_getElem h5v)
  have hx3 : vl[5].k = 3 := by rw [List.getD, List.getElem?_eq_getElem h5v] at h3; exact h3
  rcases hxe : vl[5] with ⟨xk, xn, xs, xl⟩
  rw [hxe] at hx hx3
  change xk = 3 at hx3
  subst hx3
  obtain ⟨ao5, cap5, rows5, hr5, _, _, _, hsl5o, hFa5, hrl5, hel5⟩ := hx.open
  have HL5 : Hid ((vl.getD 5 v0).l = xl) := Lib.hid (by rw [List.getD, List.getElem?_eq_getElem h5v, Option.getD_some, hxe]; rfl)
  have HXL : Hid (xl.length ≤ 1000000) := Lib.hid (by have h := hxl; change ((vl.getD 5 v0).l).length ≤ 1000000 at h; rw [HL5.out] at h; exact h)
  have HSL5 := Lib.hid hsl5o
  have HFA5 := Lib.hid hFa5
  have HRL5 := Lib.hid hrl5
  have HEL5 := Lib.hid hel5
  clear hsl5o hFa5 hrl5 hel5 hxl
  have c5 : ((w2.setCell ⟨w.heap.size + 1, 0, none⟩ (.int .i64 0)).alloc (.cells #[.int .i64 3, .int .i64 vn, .string vs, .slice (some ⟨bb, oo, none⟩) vl.length cap2] 59)).cell? ⟨bb, oo + 20, none⟩ = some (.int .i64 3) := by simpa using hsl.cellAt (i := 5) (j := 0) (by rw [List.getElem?_eq_getElem h5, hr5]) rfl
  have hq9 : (((vl.length : Nat) : Int) == 9) = true := by rw [beq_iff_eq]; omega
  have hq5 : (5 : Int) < (vl.length : Int) := by omega
  have hc2' : vl.length ≤ cap2 := by have := hsl.le; rw [hrl] at this; exact this
  have hq5c : (5 : Int) ≤ (cap2 : Int) := by omega
  have H2 := Lib.hid h2
  clear h2 h3
  go_wp2_with (go_at_call 39; refine (must_t _ (by first | rfl | assumption | (simp; omega))).mono ?_; rintro e w9 ⟨rfl, rfl⟩)
  have hsz3 : ((w2.setCell ⟨w.heap.size + 1, 0, none⟩ (.int .i64 0)).alloc (.cells #[.int .i64 3, .int .i64 vn, .string vs, .slice (some ⟨bb, oo, none⟩) vl.length cap2] 59)).heap.size = w2.heap.size + 1 := by simp [World.setCell]
  generalize ((w2.setCell ⟨w.heap.size + 1, 0, none⟩ (.int .i64 0)).alloc (.cells #[.int .i64 3, .int .i64 vn, .string vs, .slice (some ⟨bb, oo, none⟩) vl.length cap2] 59)) = w3 at *
  have HLT := Lib.hid hlt3
  have hA4 : Ext w3 (w3.alloc (.cells #[.pointer (some ⟨w.heap.size, 0, none⟩), .pointer (some ⟨w.heap.size, 1, none⟩), .pointer (some ⟨w.heap.size, 2, none⟩), .pointer (some ⟨w.heap.size, 3, none⟩), .pointer (some ⟨w.heap.size, 4, none⟩)] 72)) := (Ext.refl w3).alloc _
  have hp4 : SL (w3.alloc (.cells #[.pointer (some ⟨w.heap.size, 0, none⟩), .pointer (some ⟨w.heap.size, 1, none⟩), .pointer (some ⟨w.heap.size, 2, none⟩), .pointer (some ⟨w.heap.size, 3, none⟩), .pointer (some ⟨w.heap.size, 4, none⟩)] 72)) 1 (some ⟨w2.heap.size + 1, 0, none⟩) 5 ([0, 1, 2, 3, 4].map fun i => [Value.pointer (some ⟨w.heap.size, i, none⟩)]) := by
    rw [← hsz3]
    exact sl_news w3 ([0, 1, 2, 3, 4].map fun i => [Value.pointer (some ⟨w.heap.size, i, none⟩)]) 1 5 _ (by simp) rfl (by omega)
  have hB3lt : w.heap.size < w3.heap.size := by omega
  have hB4 := HBS.out.ext hB3lt hA4
  have HSH : Hid (∀ (i : Nat) (r : List Value) (x : V), rows[i]? = some r → vl[i]? = some x → ∃ (s : ByteArray) (a : Option Addr) (m d : Nat), r = [.int .i64 x.k, .int .i64 x.n, .string s, .slice a m d]) := Lib.hid fun i r x e1 e2 => by
    have h := hel i r x e1 e2
    obtain ⟨k', n', s', l'⟩ := x
    obtain ⟨a', d', _, h', _⟩ := h.open
    exact ⟨s', a', _, d', h'⟩
  have hbbq : bb ≠ w.heap.size := by
    have h0 := hFa _ rfl (fun e => by rw [e] at h5; simp at h5)
    have h1 := HF.out _ h0
    dsimp only at h1
    omega
  have hlt5 : (vl.take 5).length = 5 := by rw [List.length_take, H2.out]; rfl
  have hI := ints_any (vl.take 5) (rows.take 5) [0, 1, 2, 3, 4] zeroQ w.heap.size (some ⟨bb, oo, none⟩) cap2 (some ⟨w2.heap.size + 1, 0, none⟩) 5 (w3.alloc (.cells #[.pointer (some ⟨w.heap.size, 0, none⟩), .pointer (some ⟨w.heap.size, 1, none⟩), .pointer (some ⟨w.heap.size, 2, none⟩), .pointer (some ⟨w.heap.size, 3, none⟩), .pointer (some ⟨w.heap.size, 4, none⟩)] 72)) ((hsl.ext hA4).less 5) (by rw [List.length_take, List.length_take, hrl])
    (fun i r x e1 e2 => HSH.out i r x (by rw [List.getElem?_take] at e1; split at e1; exact e1; cases e1) (by rw [List.getElem?_take] at e2; split at e2; exact e2; cases e2)) (fun a ha _ => by cases ha; exact hbbq) hp4 (fun a ha => by cases ha; show w2.heap.size + 1 ≠ w.heap.size; omega) hB4 (Nat.lt_of_lt_of_le hB3lt hA4.size) (by decide)
  rw [hlt5, show [0, 1, 2, 3, 4].length = 5 from rfl] at hI
  refine hI.mono ?_
  rintro e w5 ⟨hT5, hI5⟩
  clear hI
  have hq1 : w.heap.size + 1 < w3.heap.size := by omega
  have hC5 : w5.cell? ⟨w.heap.size + 1, 0, none⟩ = some (.int .i64 0) := hT5.cell (hA4.cell hcS) (by simp)
  have hZ5 : w5.frozen? ⟨w.heap.size + 1, 0, none⟩ = false := (hT5.frozen (p := ⟨w.heap.size + 1, 0, none⟩) (by have := hA4.size; show w.heap.size + 1 < _; omega) (by simp)).trans (by rw [World.frozen?_of_block (w := w3) (hA4.block _ hq1)]; exact hzS)
  have hX5 : Ext w w5 := Turn.ext (HXS.out.trans hA4) hT5 (Nat.le_refl _)
  have hbox5 := (hbox.ext hA4).turn hT5 (by omega)
  cases hn : intsV (vl.take 5) 5 with
  | none =>
    rw [hn] at hI5
    obtain ⟨rfl, vs', hl', hB5⟩ := hI5
    obtain rfl : rr = (rq0, 290) := by rw [← hrr]; exact fromV_none (reqV_raw hv (rawV_first hn))
    refine leaves_cons (f := 38) (args := #[.pointer (some ⟨w.heap.size, 0, none⟩), .pointer (some ⟨w.heap.size + 1, 0, none⟩)]) (by simp) (by simp [go_sem]) ?_
    refine (decodeQ1_panicking w.heap.size (w.heap.size + 1) _ _ [] _ hB5 (hl'.trans rfl) hC5 hZ5 (by omega)).mono ?_
    rintro e u' w9 ⟨rfl, rfl, hB9, hC9, hE9⟩
    have hE := hE9 w hX5 (by omega) (by omega)
    have e0 := hB9.at_ 0 _ rfl
    have e1 := hB9.at_ 1 _ rfl
    have e2 := hB9.at_ 2 _ rfl
    have e3 := hB9.at_ 3 _ rfl
    have e4 := hB9.at_ 4 _ rfl
    have e5 := hB9.at_ 5 _ rfl
    have e6 := hB9.at_ 6 _ rfl
    have e7 := hB9.at_ 7 _ rfl
    have e8 := hB9.at_ 8 _ rfl
    simp [Leaves, settle, results, Tryd.results19, go_sem, e0, e1, e2, e3, e4, e5, e6, e7, e8, hC9]
    exact ⟨none, 0, rfl, SL.empty _ _, hE⟩
  | some f5 =>
    rw [hn] at hI5
    obtain ⟨rfl, hB5⟩ := hI5
    have hf5 := intsV_two hn
    obtain ⟨fa, fb, fc, fd, fe, rfl⟩ : ∃ a b c d e, f5 = [a, b, c, d, e] := by
      match f5, hf5 with
      | [a, b, c, d, e], _ => exact ⟨a, b, c, d, e, rfl⟩
    change CB w5 w.heap.size [.int .i64 fa, .int .i64 fb, .int .i64 fc, .int .i64 fd, .int .i64 fe, .slice none 0 0, .int .i64 0, .int .i64 0, .int .i64 0] at hB5
    have c53 := hbox5.c3
    have hq6 : (6 : Int) ≤ (vl.length : Int) := by have := H2.out; omega
    have hq6c : (vl.length : Int) ≤ (cap2 : Int) := by omega
    have hq6d : (6 : Int) ≤ (cap2 : Int) := by omega
    have hq6e : ¬ cap2 = 6 := by have := H2.out; omega
    go_wp2_with fail
    have hbb3 : bb < w3.heap.size := hsl.blk (by omega) _ rfl (fun e => by rw [e] at h5; simp at h5)
    have hsl5 : SL w5 4 (some ⟨bb, oo, none⟩) cap2 rows := (hsl.ext hA4).keep fun a ha _ => by
      cases ha
      exact hT5.block bb (Nat.lt_of_lt_of_le hbb3 hA4.size) (by simp; omega)
    have hA6 : Ext w5 (w5.alloc (.cells #[.pointer (some ⟨w.heap.size, 6, none⟩), .pointer (some ⟨w.heap.size, 7, none⟩), .pointer (some ⟨w.heap.size, 8, none⟩)] 72)) := (Ext.refl w5).alloc _
    have hsz5 : w3.heap.size < w5.heap.size := by have h1 := hT5.size; simp at h1; omega
    have hp6 : SL (w5.alloc (.cells #[.pointer (some ⟨w.heap.size, 6, none⟩), .pointer (some ⟨w.heap.size, 7, none⟩), .pointer (some ⟨w.heap.size, 8, none⟩)] 72)) 1 (some ⟨w5.heap.size, 0, none⟩) 3 ([6, 7, 8].map fun i => [Value.pointer (some ⟨w.heap.size, i, none⟩)]) := sl_news w5 ([6, 7, 8].map fun i => [Value.pointer (some ⟨w.heap.size, i, none⟩)]) 1 3 _ (by simp) rfl (by omega)
    have hB6 := hB5.ext (by omega) hA6
    have hr6 : (rows.drop 6).take 3 = rows.drop 6 := List.take_of_length_le (by rw [List.length_drop, hrl, H2.out]; omega)
    have hs6 := SL.sub hsl5 (p := 6) (u := 3) (by rw [hrl, H2.out]; omega)
    rw [hr6] at hs6
    have hl6 : (vl.drop 6).length = vl.length - 6 := List.length_drop
    have hI := ints_any (vl.drop 6) (rows.drop 6) [6, 7, 8] _ w.heap.size (some ⟨bb, oo + 6 * 4, none⟩) (cap2 - 6) (some ⟨w5.heap.size, 0, none⟩) 3 (w5.alloc (.cells #[.pointer (some ⟨w.heap.size, 6, none⟩), .pointer (some ⟨w.heap.size, 7, none⟩), .pointer (some ⟨w.heap.size, 8, none⟩)] 72)) (hs6.ext hA6) (by rw [List.length_drop, List.length_drop, hrl])
      (fun i r x e1 e2 => HSH.out (6 + i) r x (by rw [List.getElem?_drop] at e1; exact e1) (by rw [List.getElem?_drop] at e2; exact e2)) (fun a ha _ => by cases ha; exact hbbq) hp6 (fun a ha => by cases ha; show w5.heap.size ≠ w.heap.size; omega) hB6 (by have := hA6.size; omega) (by simp)
    rw [hl6, show [6, 7, 8].length = 3 from rfl] at hI
    refine hI.mono ?_
    rintro e w7 ⟨hT7, hI7⟩
    clear hI
    have hC7 : w7.cell? ⟨w.heap.size + 1, 0, none⟩ = some (.int .i64 0) := hT7.cell (hA6.cell hC5) (by simp)
    have hZ7 : w7.frozen? ⟨w.heap.size + 1, 0, none⟩ = false := (hT7.frozen (p := ⟨w.heap.size + 1, 0, none⟩) (by have := hA6.size; show w.heap.size + 1 < _; omega) (by simp)).trans (by rw [World.frozen?_of_block (w := w5) (hA6.block (w.heap.size + 1) (by omega))]; exact hZ5)
    have hX7 : Ext w w7 := Turn.ext (hX5.trans hA6) hT7 (Nat.le_refl _)
    have hbox7 := (hbox5.ext hA6).turn hT7 (by omega)
    cases hn7 : intsV (vl.drop 6) 3 with
    | none =>
      rw [hn7] at hI7
      obtain ⟨rfl, vs', hl', hB7⟩ := hI7
      obtain rfl : rr = (rq0, 290) := by rw [← hrr]; exact fromV_none (reqV_raw hv (rawV_last hn7))
      refine leaves_cons (f := 38) (args := #[.pointer (some ⟨w.heap.size, 0, none⟩), .pointer (some ⟨w.heap.size + 1, 0, none⟩)]) (by simp) (by simp [go_sem]) ?_
      refine (decodeQ1_panicking w.heap.size (w.heap.size + 1) _ _ [] _ hB7 (hl'.trans rfl) hC7 hZ7 (by omega)).mono ?_
      rintro e u' w9 ⟨rfl, rfl, hB9, hC9, hE9⟩
      have hE := hE9 w hX7 (by omega) (by omega)
      have e0 := hB9.at_ 0 _ rfl
      have e1 := hB9.at_ 1 _ rfl
      have e2 := hB9.at_ 2 _ rfl
      have e3 := hB9.at_ 3 _ rfl
      have e4 := hB9.at_ 4 _ rfl
      have e5 := hB9.at_ 5 _ rfl
      have e6 := hB9.at_ 6 _ rfl
      have e7 := hB9.at_ 7 _ rfl
      have e8 := hB9.at_ 8 _ rfl
      simp [Leaves, settle, results, Tryd.results19, go_sem, e0, e1, e2, e3, e4, e5, e6, e7, e8, hC9]
      exact ⟨none, 0, rfl, SL.empty _ _, hE⟩
    | some f3 =>
      rw [hn7] at hI7
      obtain ⟨rfl, hB7⟩ := hI7
      have hf3 := intsV_two hn7
      obtain ⟨ga, gb, gc, rfl⟩ : ∃ a b c, f3 = [a, b, c] := by
        match f3, hf3 with
        | [a, b, c], _ => exact ⟨a, b, c, rfl⟩
      change CB w7 w.heap.size [.int .i64 fa, .int .i64 fb, .int .i64 fc, .int .i64 fd, .int .i64 fe, .slice none 0 0, .int .i64 ga, .int .i64 gb, .int .i64 gc] at hB7
      have c73 := hbox7.c3
      have hsl7 : SL w7 4 (some ⟨bb, oo, none⟩) cap2 rows := (hsl5.ext hA6).keep fun a ha _ => by
        cases ha
        exact hT7.block bb (by have := hA6.size; omega) (by simp; omega)
      have d53 : w7.cell? ⟨bb, oo + 23, none⟩ = some (.slice ao5 xl.length cap5) := by simpa using hsl7.cellAt (i := 5) (j := 3) (by rw [List.getElem?_eq_getElem h5, hr5]) rfl
      go_wp2_with fail
      go_loopw [62] (fun iv wr => ∃ (j : Nat) (chs : List Bd) (v : Value), iv = .int .i64 j ∧ j ≤ xl.length ∧ bdsOf (xl.take j) = some chs ∧ chs.length = j ∧ Turn w.heap.size w7 wr ∧ CB wr w.heap.size [.int .i64 fa, .int .i64 fb, .int .i64 fc, .int .i64 fd, .int .i64 fe, v, .int .i64 ga, .int .i64 gb, .int .i64 gc] ∧ wr.ownsRow w7.heap.size 24 2 v j (brows chs).flatten) (fun iv _ => xl.length - (intOf iv).toNat)
      case atStart => exact ⟨0, [], .slice none 0 0, rfl, by omega, rfl, rfl, Turn.refl _ _, hB7, World.ownsRow_nil _ _ _ _⟩
      case round =>
        obtain ⟨j, chs, v, rfl, hj, hch, hcl, hT, hB, hO⟩ := hrel
        have HCT : Hid (∀ W, Turn w.heap.size w7 W → W.cell? ⟨w.heap.size + 1, 0, none⟩ = some (.int .i64 0) ∧ W.frozen? ⟨w.heap.size + 1, 0, none⟩ = false ∧ Ext w W) := Lib.hid fun W hT => ⟨hT.cell hC7 (by simp), (hT.frozen (p := ⟨w.heap.size + 1, 0, none⟩) (World.block_lt_of_cell? _ _ hC7) (by simp)).trans hZ7, Turn.ext hX7 hT (Nat.le_refl _)⟩
        have hsz7 : w5.heap.size < w7.heap.size := by have h1 := hT7.size; rw [World.size_alloc] at h1; omega
        have HKP : Hid (∀ W, Turn w.heap.size w7 W → ∀ b, w.heap.size + 2 ≤ b → b < w2.heap.size → W.heap[b]? = w3.heap[b]?) := Lib.hid fun W hT b h1 h2 => by
          have h3 := hA4.size
          have h4 := hA6.size
          rw [hT.block b (by omega) (by simp; omega), hT7.block b (by omega) (by simp; omega), hA6.block b (by omega), hT5.block b (by omega) (by simp; omega), hA4.block b (by omega)]
        have HSZ7 : Hid (w.heap.size + 2 ≤ w2.heap.size ∧ w2.heap.size < w7.heap.size) := Lib.hid ⟨by have h1 := hE2.size; have h2 := HSZ.out; omega, by omega⟩
        have HN5 := Lib.hid hn
        have HN7 := Lib.hid hn7
        have HV := Lib.hid hv
        have HRR := Lib.hid hrr
        have HKD := Lib.hid hk
        have HX7 := Lib.hid hX7
        have HCH := Lib.hid hch
        have HCL := Lib.hid hcl
        have HTr := Lib.hid hT
        have HBr := Lib.hid hB
        have HOr := Lib.hid hO
        clear hch hcl hT hB hO hn hn7 hv hrr hk hX7 hsl7 hsl5 hsl hFa hel hrl hik hin hss hB7 hB5 hB4 hT7 hT5 hA6 hA4 hp6 hp4 hs6 hC7 hZ7 hC5 hZ5 hX5 hbox7 hbox5 hbox d53 c73 c53 hr5 hx hxe hf5 hf3
        by_cases hlt : j < xl.length
        · have hji : (j : Int) < (xl.length : Int) := by omega
          have hjr : j < rows5.length := by rw [HRL5.out]; exact hlt
          obtain ⟨b5, o5, hao5, _⟩ := SL.at HSL5.out (by omega) j hjr
          subst hao5
          have hF5 := HF.out _ (HFA5.out _ rfl (fun e => by rw [e] at hjr; simp at hjr))
          dsimp only at hF5
          have hs5r : SL wr 4 (some ⟨b5, o5, none⟩) cap5 rows5 := HSL5.out.keep fun a ha _ => by
            cases ha
            exact HKP.out wr HTr.out b5 hF5.1 hF5.2
          have hy := HEL5.out j rows5[j] xl[j] (List.getElem?_eq_getElem hjr) (List.getElem?_eq_getElem hlt)
          rcases hye : xl[j] with ⟨yk, yn, ys, yl⟩
          rw [hye] at hy
          obtain ⟨ao6, cap6, rows6, hr6, _, _, _, hsl6, hFa6, hrl6, hel6⟩ := hy.open
          have hrj : rows5[j]? = some [.int .i64 yk, .int .i64 yn, .string ys, .slice ao6 yl.length cap6] := by rw [List.getElem?_eq_getElem hjr, hr6]
          have c0 : wr.cell? ⟨b5, o5 + j * 4, none⟩ = some (.int .i64 yk) := by simpa using hs5r.cellAt hrj (j := 0) rfl
          have c1 := hs5r.cellAt hrj (j := 1) rfl
          have c2 := hs5r.cellAt hrj (j := 2) rfl
          have c3 := hs5r.cellAt hrj (j := 3) rfl
          have HB3 : Hid (yk ≠ 3 → bdsOf xl = none) := Lib.hid fun h => bdsOf_bad (List.getElem_mem hlt) (by rw [hye]; exact if_neg h)
          have HBN : Hid (yk = 3 → intsV yl 2 = none → bdsOf xl = none) := Lib.hid fun h1 h2 => bdsOf_bad (List.getElem_mem hlt) (by
            rw [hye]
            show (if yk = 3 then (match intsV yl 2 with | some ns => some (ns.getD 0 0, ns.getD 1 0) | none => none) else none) = none
            rw [if_pos h1, h2])
          have HBS : Hid (yk = 3 → ∀ a b, intsV yl 2 = some [a, b] → bdsOf (xl.take (j + 1)) = some (chs ++ [(a, b)])) := Lib.hid fun h1 a b h2 => by
            have h3 : bdOf (V.mk yk yn ys yl) = some (a, b) := by
              show (if yk = 3 then (match intsV yl 2 with | some ns => some (ns.getD 0 0, ns.getD 1 0) | none => none) else none) = _
              rw [if_pos h1, h2]
              rfl
            rw [List.take_succ_eq_append_getElem hlt, bdsOf_append, HCH.out, hye, h3]
          have HSH6 : Hid (∀ (i : Nat) (r : List Value) (x : V), rows6[i]? = some r → yl[i]? = some x → ∃ (s : ByteArray) (a : Option Addr) (m d : Nat), r = [.int .i64 x.k, .int .i64 x.n, .string s, .slice a m d]) := Lib.hid fun i r x e1 e2 => by
            have h := hel6 i r x e1 e2
            obtain ⟨k', n', s', l'⟩ := x
            obtain ⟨a', d', _, h', _⟩ := h.open
            exact ⟨s', a', _, d', h'⟩
          have HS6 : Hid (∀ W, Turn w.heap.size w7 W → SL W 4 ao6 cap6 rows6) := Lib.hid fun W hT => hsl6.keep fun a ha hne => by
            have h0 := HF.out _ (hFa6 a ha hne)
            exact HKP.out W hT a.block h0.1 h0.2
          have HNE6 : Hid (∀ a, ao6 = some a → rows6 ≠ [] → a.block < w2.heap.size) := Lib.hid fun a ha hne => (HF.out _ (hFa6 a ha hne)).2
          have HRL6 := Lib.hid hrl6
          clear hsl6 hFa6 hrl6 hel6 hy hr6 hrj hye hs5r
          have hq7 : w.heap.size < wr.heap.size := by have h1 := HTr.out.size; have h2 := HSZ7.out; omega
          have hw27 : w2.heap.size < wr.heap.size := by have h1 := HTr.out.size; have h2 := HSZ7.out; omega
          have hBX := Box.new wr (.int .i64 yk) (.int .i64 yn) (.string ys) (.slice ao6 yl.length cap6) 59
          by_cases hk3 : yk = 3
          · subst hk3
            have d0 := hBX.c0
            have d3' : (wr.alloc (.cells #[.int .i64 3, .int .i64 yn, .string ys, .slice ao6 yl.length cap6] 59)).cell? ⟨wr.heap.size, 3, none⟩ = some (.slice ao6 yl.length cap6) := hBX.c3
            have d3 := ((Ext.refl (wr.alloc (.cells #[.int .i64 3, .int .i64 yn, .string ys, .slice ao6 yl.length cap6] 59))).alloc (.cells #[.int .i64 0, .int .i64 0] 24)).cell d3'
            clear hBX
            go_wp2_with (go_at_call 39; refine (must_t _ (by first | rfl | assumption | (simp; omega))).mono ?_; rintro e w9 ⟨rfl, rfl⟩)
            have hP : Ext wr (((wr.alloc (.cells #[.int .i64 3, .int .i64 yn, .string ys, .slice ao6 yl.length cap6] 59)).alloc (.cells #[.int .i64 0, .int .i64 0] 24)).alloc (.cells #[.pointer (some ⟨wr.heap.size + 1, 0, none⟩), .pointer (some ⟨wr.heap.size + 1, 1, none⟩)] 72)) := (((Ext.refl wr).alloc _).alloc _).alloc _
            have hTP := HTr.out.trans (Turn.of_ext hP)
            have hp : SL (((wr.alloc (.cells #[.int .i64 3, .int .i64 yn, .string ys, .slice ao6 yl.length cap6] 59)).alloc (.cells #[.int .i64 0, .int .i64 0] 24)).alloc (.cells #[.pointer (some ⟨wr.heap.size + 1, 0, none⟩), .pointer (some ⟨wr.heap.size + 1, 1, none⟩)] 72)) 1 (some ⟨wr.heap.size + 1 + 1, 0, none⟩) 2 ([0, 1].map fun i => [Value.pointer (some ⟨wr.heap.size + 1, i, none⟩)]) := by
              have h := sl_news ((wr.alloc (.cells #[.int .i64 3, .int .i64 yn, .string ys, .slice ao6 yl.length cap6] 59)).alloc (.cells #[.int .i64 0, .int .i64 0] 24)) ([0, 1].map fun i => [Value.pointer (some ⟨wr.heap.size + 1, i, none⟩)]) 1 2 72 (by simp) rfl (by omega)
              rw [show ((wr.alloc (.cells #[.int .i64 3, .int .i64 yn, .string ys, .slice ao6 yl.length cap6] 59)).alloc (.cells #[.int .i64 0, .int .i64 0] 24)).heap.size = wr.heap.size + 1 + 1 by simp] at h
              exact h
            have hvB : CB (((wr.alloc (.cells #[.int .i64 3, .int .i64 yn, .string ys, .slice ao6 yl.length cap6] 59)).alloc (.cells #[.int .i64 0, .int .i64 0] 24)).alloc (.cells #[.pointer (some ⟨wr.heap.size + 1, 0, none⟩), .pointer (some ⟨wr.heap.size + 1, 1, none⟩)] 72)) (wr.heap.size + 1) [.int .i64 0, .int .i64 0] := by
              have h := cb_new (wr.alloc (.cells #[.int .i64 3, .int .i64 yn, .string ys, .slice ao6 yl.length cap6] 59)) [.int .i64 0, .int .i64 0] 24
              rw [show (wr.alloc (.cells #[.int .i64 3, .int .i64 yn, .string ys, .slice ao6 yl.length cap6] 59)).heap.size = wr.heap.size + 1 by simp] at h
              exact h.ext (by simp) ((Ext.refl _).alloc _)
            have hI := ints_any yl rows6 [0, 1] [.int .i64 0, .int .i64 0] (wr.heap.size + 1) ao6 cap6 (some ⟨wr.heap.size + 1 + 1, 0, none⟩) 2 (((wr.alloc (.cells #[.int .i64 3, .int .i64 yn, .string ys, .slice ao6 yl.length cap6] 59)).alloc (.cells #[.int .i64 0, .int .i64 0] 24)).alloc (.cells #[.pointer (some ⟨wr.heap.size + 1, 0, none⟩), .pointer (some ⟨wr.heap.size + 1, 1, none⟩)] 72)) (HS6.out _ hTP) HRL6.out HSH6.out (fun a ha hne => by have := HNE6.out a ha hne; omega) hp (fun a ha => by cases ha; show wr.heap.size + 1 + 1 ≠ wr.heap.size + 1; omega) hvB (by simp) (by simp)
            rw [show [0, 1].length = 2 from rfl] at hI
            refine hI.mono ?_
            rintro e w10 ⟨hT10, hI10⟩
            clear hI
            have hE10 : Ext wr w10 := Turn.ext hP hT10 (by omega)
            have hT7' : Turn w.heap.size w7 w10 := HTr.out.trans (Turn.of_ext hE10)
            have hBq := HBr.out.ext hq7 hE10
            clear hp hvB hP hTP d0 d3 d3' c0 c1 c2 c3
            cases hn10 : intsV yl 2 with
            | none =>
              rw [hn10] at hI10
              obtain ⟨rfl, vs', hl', hB10⟩ := hI10
              obtain rfl : rr = (rq0, 290) := by rw [← HRR.out]; exact fromV_none (reqV_raw HV.out (rawV_mid (by change bdsOf ((vl.getD 5 v0).l) = none; rw [HL5.out]; exact HBN.out (by first | rfl | trivial) hn10)))
              obtain ⟨hc10, hz10, hx10⟩ := HCT.out w10 hT7'
              refine leaves_cons (f := 38) (args := #[.pointer (some ⟨w.heap.size, 0, none⟩), .pointer (some ⟨w.heap.size + 1, 0, none⟩)]) (by simp) (by simp [go_sem]) ?_
              refine (decodeQ1_panicking w.heap.size (w.heap.size + 1) _ _ [] _ hBq rfl hc10 hz10 (by omega)).mono ?_
              rintro e u' w9 ⟨rfl, rfl, hB9, hC9, hE9⟩
              have hE := hE9 w hx10 (by omega) (by omega)
              have e0 := hB9.at_ 0 _ rfl
              have e1 := hB9.at_ 1 _ rfl
              have e2 := hB9.at_ 2 _ rfl
              have e3 := hB9.at_ 3 _ rfl
              have e4 := hB9.at_ 4 _ rfl
              have e5 := hB9.at_ 5 _ rfl
              have e6 := hB9.at_ 6 _ rfl
              have e7 := hB9.at_ 7 _ rfl
              have e8 := hB9.at_ 8 _ rfl
              simp [Leaves, settle, results, Tryd.results19, go_sem, e0, e1, e2, e3, e4, e5, e6, e7, e8, hC9]
              exact ⟨none, 0, rfl, SL.empty _ _, hE⟩
            | some f2 =>
              rw [hn10] at hI10
              obtain ⟨rfl, hB10⟩ := hI10
              have hf2 := intsV_two hn10
              obtain ⟨na, nb, rfl⟩ : ∃ a b, f2 = [a, b] := by
                match f2, hf2 with
                | [a, b], _ => exact ⟨a, b, rfl⟩
              clear hf2
              change CB w10 (wr.heap.size + 1) [.int .i64 na, .int .i64 nb] at hB10
              have g0 := hB10.at_ 0 _ rfl
              have g1 := hB10.at_ 1 _ rfl
              have q5 := hBq.at_ 5 _ rfl
              have HI2 := Lib.hid (HBS.out (by first | rfl | trivial) na nb hn10)
              have HBLK := Lib.hid (ownsRow_blocks HOr.out)
              have hA11 : Ext w10 (w10.alloc (.cells #[.int .i64 na, .int .i64 nb] 24)) := (Ext.refl w10).alloc _
              have HOA := Lib.hid (ownsRow_ext HOr.out (hE10.trans hA11))
              have HTA := Lib.hid (hT7'.trans (Turn.of_ext hA11))
              have hq10 : w.heap.size < w10.heap.size := Nat.lt_of_lt_of_le hq7 hE10.size
              have HQ6 : Hid (∀ v6 w6, Grows (w10.alloc (.cells #[.int .i64 na, .int .i64 nb] 24)) v w6 v6 → CB w6 w.heap.size [.int .i64 fa, .int .i64 fb, .int .i64 fc, .int .i64 fd, .int .i64 fe, v, .int .i64 ga, .int .i64 gb, .int .i64 gc]) := Lib.hid fun v6 w6 hg =>
                (hBq.ext hq10 hA11).keep (hg.by_.block _ (Nat.lt_of_lt_of_le hq10 hA11.size) (fun h => by have h1 := HBLK.out _ h.symm; have h2 := HSZ7.out; omega))
              have HC10 := Lib.hid (And.intro (show (w10.alloc (.cells #[.int .i64 na, .int .i64 nb] 24)).cell? ⟨w10.heap.size, 0, none⟩ = some (.int .i64 na) by simp) (show (w10.alloc (.cells #[.int .i64 na, .int .i64 nb] 24)).cell? ⟨w10.heap.size, 1, none⟩ = some (.int .i64 nb) by simp))
              have HS10 : Hid (w7.heap.size ≤ (w10.alloc (.cells #[.int .i64 na, .int .i64 nb] 24)).heap.size) := Lib.hid HTA.out.size
              have HJ := Lib.hid hlt
              obtain ⟨i0, hi, hz0, hz1, hz2⟩ := info_parts infoB
              clear hn10 hA11 hBq hB10 hE10 hT7' hT10
              have hxb : (xl.length : Int) ≤ 1000000 := by have := HXL.out; omega
              go_wp2_with (at_builtin; refine wpList_append_S rfl _ _ 22 22 rfl w7.heap.size 24 i0 _ 2 16 Tryd.underlying22 hi hz0 hz1 hz2 rfl v j (brows chs).flatten rfl HOA.out (.slice (some ⟨w10.heap.size, 0, none⟩) 1 1) 1 [.int .i64 na, .int .i64 nb] rfl (Src.ofSlice _ Tryd.underlying22 ⟨w10.heap.size, 0, none⟩ 1 1 _ rfl (two_cells HC10.out.1 HC10.out.2) (by simp [Value.oneCell'])) (by have := HXL.out; have := HJ.out; unfold maxLen; omega) (by have := HXL.out; have := HJ.out; omega) HS10.out ?_; intro v6 w6 ho6 hg6; obtain ⟨ac6, cc6, rfl⟩ := ownsRow_slice ho6; have hcb6 := HQ6.out _ w6 hg6; have q6 := hcb6.at_ 5 _ rfl; have z6 := hcb6.fz 5)
              go_roundw
              case rel => exact ⟨j + 1, chs ++ [(na, nb)], .slice ac6 (j + 1) cc6, by go_num, by have := HJ.out; omega, HI2.out, by rw [List.length_append, HCL.out]; rfl, (HTA.out.grows hg6 HBLK.out).trans (Turn.setCell w6 ⟨w.heap.size, 5, none⟩ _), hcb6.set (i := 5) (by simp) _, by
                rw [show (brows (chs ++ [(na, nb)])).flatten = (brows chs).flatten ++ [.int .i64 na, .int .i64 nb] by simp [brows]]
                exact ho6.kept (Turn.setCell w6 ⟨w.heap.size, 5, none⟩ _) (Or.inr fun e => by have h1 := ownsRow_blocks ho6 _ e; have h2 := HSZ7.out; simp at h1; omega)⟩
              case measure => simp [intOf] <;> (have := HJ.out; omega)
          · have d0 := hBX.c0
            have q1 : (yk == 3) = false := by rw [beq_eq_false_iff_ne]; exact hk3
            have hA : Ext wr (wr.alloc (.cells #[.int .i64 yk, .int .i64 yn, .string ys, .slice ao6 yl.length cap6] 59)) := (Ext.refl wr).alloc _
            clear hBX
            go_wp2_with (go_at_call 39; refine (must_f _ (by first | rfl | assumption | (simp; omega))).mono ?_; rintro e w9 ⟨rfl, rfl⟩)
            obtain rfl : rr = (rq0, 290) := by rw [← HRR.out]; exact fromV_none (reqV_raw HV.out (rawV_mid (by change bdsOf ((vl.getD 5 v0).l) = none; rw [HL5.out]; exact HB3.out hk3)))
            obtain ⟨hc10, hz10, hx10⟩ := HCT.out _ (HTr.out.trans (Turn.of_ext hA))
            have hBq := HBr.out.ext hq7 hA
            refine leaves_cons (f := 38) (args := #[.pointer (some ⟨w.heap.size, 0, none⟩), .pointer (some ⟨w.heap.size + 1, 0, none⟩)]) (by simp) (by simp [go_sem]) ?_
            refine (decodeQ1_panicking w.heap.size (w.heap.size + 1) _ _ [] _ hBq rfl hc10 hz10 (by omega)).mono ?_
            rintro e u' w9 ⟨rfl, rfl, hB9, hC9, hE9⟩
            have hE := hE9 w hx10 (by omega) (by omega)
            have e0 := hB9.at_ 0 _ rfl
            have e1 := hB9.at_ 1 _ rfl
            have e2 := hB9.at_ 2 _ rfl
            have e3 := hB9.at_ 3 _ rfl
            have e4 := hB9.at_ 4 _ rfl
            have e5 := hB9.at_ 5 _ rfl
            have e6 := hB9.at_ 6 _ rfl
            have e7 := hB9.at_ 7 _ rfl
            have e8 := hB9.at_ 8 _ rfl
            simp [Leaves, settle, results, Tryd.results19, go_sem, e0, e1, e2, e3, e4, e5, e6, e7, e8, hC9]
            exact ⟨none, 0, rfl, SL.empty _ _, hE⟩
        · have hji : ¬ (j : Int) < (xl.length : Int) := by omega
          obtain rfl : j = xl.length := by omega
          have hch := HCH.out
          rw [List.take_length] at hch
          have hO := HOr.out
          rw [← HCL.out] at hO
          obtain ⟨ca, cc, rfl, hsc, _⟩ := SL.of_own hO (fun r hr => by simp only [brows, List.mem_map] at hr; obtain ⟨x, _, rfl⟩ := hr; rfl) (brows_length chs)
          have hraw : rawV vl = some ⟨fa, fb, fc, fd, fe, chs, ga, gb, gc⟩ := rawV_all HN5.out HN7.out (by rw [HL5.out]; exact hch)
          have hB9 : CB wr w.heap.size [.int .i64 fa, .int .i64 fb, .int .i64 fc, .int .i64 fd, .int .i64 fe, .slice ca chs.length cc, .int .i64 ga, .int .i64 gb, .int .i64 gc] := HBr.out
          obtain ⟨hCr, hZr, hXr⟩ := HCT.out wr HTr.out
          have hcl : chs.length ≤ 1000000 := by have h1 := HXL.out; have h2 := HCL.out; omega
          have hqr : w.heap.size < wr.heap.size := by have h1 := HTr.out.size; have h2 := HSZ7.out; omega
          have hcr : w.heap.size + 1 < wr.heap.size := World.block_lt_of_cell? _ _ hCr
          have H9 : Hid (∀ W, Ext wr W → CB W w.heap.size [.int .i64 fa, .int .i64 fb, .int .i64 fc, .int .i64 fd, .int .i64 fe, .slice ca chs.length cc, .int .i64 ga, .int .i64 gb, .int .i64 gc] ∧ W.cell? ⟨w.heap.size + 1, 0, none⟩ = some (.int .i64 0) ∧ W.frozen? ⟨w.heap.size + 1, 0, none⟩ = false) := Lib.hid fun W hE => ⟨hB9.ext hqr hE, hE.cell hCr, by rw [World.frozen?_of_block (w := wr) (hE.block _ hcr)]; exact hZr⟩
          have HSC := Lib.hid hsc
          have HXR := Lib.hid hXr
          have HCQ := Lib.hid (checkQ_any ⟨fa, fb, fc, fd, fe, chs, ga, gb, gc⟩ ca cc wr hsc hcl (HKD.out.ext hXr))
          have HRW := Lib.hid hraw
          have b0 := hB9.at_ 0 _ rfl
          have b1 := hB9.at_ 1 _ rfl
          have b2 := hB9.at_ 2 _ rfl
          have b3 := hB9.at_ 3 _ rfl
          have b4 := hB9.at_ 4 _ rfl
          have b5 := hB9.at_ 5 _ rfl
          have b6 := hB9.at_ 6 _ rfl
          have b7 := hB9.at_ 7 _ rfl
          have b8 := hB9.at_ 8 _ rfl
          clear hB9 hCr hZr hXr hsc hraw hch hO
          cases hval : validQ ⟨fa, fb, fc, fd, fe, chs, ga, gb, gc⟩ with
          | true =>
            have HCK : Hid (Calls Tryd.prog 15 #[.agg #[.int .i64 fa, .int .i64 fb, .int .i64 fc, .int .i64 fd, .int .i64 fe, .slice ca chs.length cc, .int .i64 ga, .int .i64 gb, .int .i64 gc]] wr fun e w' => e = .returned (.int .i64 0) ∧ Ext wr w') := Lib.hid (by
              have h := HCQ.out
              rw [show checkQ ⟨fa, fb, fc, fd, fe, chs, ga, gb, gc⟩ = 0 by unfold checkQ; rw [hval]; rfl] at h
              exact h)
            obtain rfl : rr = (⟨fa, fb, fc, fd, fe, chs, ga, gb, gc⟩, 0) := by rw [← HRR.out]; exact fromV_some (reqV_good HV.out HRW.out hval)
            clear hval
            go_wp2_with (first
              | (go_at_call 15; refine HCK.out.mono ?_; rintro e w8 ⟨rfl, hE8⟩; obtain ⟨hB8, hC8, hZ8⟩ := H9.out w8 hE8; have e0 := hB8.at_ 0 _ rfl; have z0 := hB8.fz 0; have e1 := hB8.at_ 1 _ rfl; have z1 := hB8.fz 1; have e2 := hB8.at_ 2 _ rfl; have z2 := hB8.fz 2; have e3 := hB8.at_ 3 _ rfl; have z3 := hB8.fz 3; have e4 := hB8.at_ 4 _ rfl; have z4 := hB8.fz 4; have e5 := hB8.at_ 5 _ rfl; have z5 := hB8.fz 5; have e6 := hB8.at_ 6 _ rfl; have z6 := hB8.fz 6; have e7 := hB8.at_ 7 _ rfl; have z7 := hB8.fz 7; have e8 := hB8.at_ 8 _ rfl; have z8 := hB8.fz 8)
              | (go_at_call 39; refine (must_t _ (by first | rfl | assumption | (simp; omega))).mono ?_; rintro e w9 ⟨rfl, rfl⟩))
            rw [setCell_id9 hB8, setCell_id hC8]
            refine leaves_cons (f := 38) (args := #[.pointer (some ⟨w.heap.size, 0, none⟩), .pointer (some ⟨w.heap.size + 1, 0, none⟩)]) (by simp) (by simp [go_sem]) ?_
            refine (decodeQ1_idle _ _ _).mono ?_
            rintro e u' w9 ⟨rfl, rfl, rfl⟩
            simp [Leaves, settle, results, Tryd.results19, go_sem, e0, e1, e2, e3, e4, e5, e6, e7, e8, hC8]
            exact ⟨ca, cc, rfl, SL.ext HSC.out hE8, HXR.out.trans hE8⟩
          | false =>
            have HCK : Hid (Calls Tryd.prog 15 #[.agg #[.int .i64 fa, .int .i64 fb, .int .i64 fc, .int .i64 fd, .int .i64 fe, .slice ca chs.length cc, .int .i64 ga, .int .i64 gb, .int .i64 gc]] wr fun e w' => e = .returned (.int .i64 290) ∧ Ext wr w') := Lib.hid (by
              have h := HCQ.out
              rw [show checkQ ⟨fa, fb, fc, fd, fe, chs, ga, gb, gc⟩ = 290 by unfold checkQ; rw [hval]; rfl] at h
              exact h)
            obtain rfl : rr = (rq0, 290) := by rw [← HRR.out]; exact fromV_none (reqV_bad HV.out HRW.out hval)
            clear hval
            go_wp2_with (first
              | (go_at_call 15; refine HCK.out.mono ?_; rintro e w8 ⟨rfl, hE8⟩)
              | (go_at_call 39; refine (must_f _ (by first | rfl | assumption | (simp; omega))).mono ?_; rintro e w9 ⟨rfl, rfl⟩))
            obtain ⟨hB8, hC8, hZ8⟩ := H9.out w8 hE8
            have hx8 := HXR.out.trans hE8
            refine leaves_cons (f := 38) (args := #[.pointer (some ⟨w.heap.size, 0, none⟩), .pointer (some ⟨w.heap.size + 1, 0, none⟩)]) (by simp) (by simp [go_sem]) ?_
            refine (decodeQ1_panicking w.heap.size (w.heap.size + 1) _ _ [] _ hB8 rfl hC8 hZ8 (by omega)).mono ?_
            rintro e u' w9 ⟨rfl, rfl, hB9, hC9, hE9⟩
            have hE := hE9 w hx8 (by omega) (by omega)
            have e0 := hB9.at_ 0 _ rfl
            have e1 := hB9.at_ 1 _ rfl
            have e2 := hB9.at_ 2 _ rfl
            have e3 := hB9.at_ 3 _ rfl
            have e4 := hB9.at_ 4 _ rfl
            have e5 := hB9.at_ 5 _ rfl
            have e6 := hB9.at_ 6 _ rfl
            have e7 := hB9.at_ 7 _ rfl
            have e8 := hB9.at_ 8 _ rfl
            simp [Leaves, settle, results, Tryd.results19, go_sem, e0, e1, e2, e3, e4, e5, e6, e7, e8, hC9]
            exact ⟨none, 0, rfl, SL.empty _ _, hE⟩
end Go.Proofs.YtahaplioegeloaaDoor
