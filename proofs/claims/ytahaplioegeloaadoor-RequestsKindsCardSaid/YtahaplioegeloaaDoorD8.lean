import Derived.Test.YtahaplioegeloaaDoorD7
namespace Go.Sz
open Go.RowKit
def decOut (bs : List UInt8) : V × Int := match valP 16 bs with
  | some (x, []) => (x, 0)
  | _ => (.mk 0 0 ⟨#[]⟩ [], 10)
theorem Turn.ext {g : Nat} {a b c : World} (h : Ext a b) (k : Turn g b c) (hg : a.heap.size ≤ g) : Ext a c :=
  ⟨k.os.trans h.os, k.tape.trans h.tape, k.output.trans h.output, Nat.le_trans h.size k.size, fun j hj => by
    rw [k.block j (Nat.lt_of_lt_of_le hj h.size) (fun e => by cases e; omega)]
    exact h.block j hj⟩
theorem SL.blk {w : World} {n : Nat} {ao : Option Addr} {cap : Nat} {rows : List (List Value)} (h : SL w n ao cap rows) (hn : 0 < n) : ∀ a, ao = some a → rows ≠ [] → a.block < w.heap.size := by
  intro a ha hr
  match rows, hr with
  | r :: rs, _ =>
    have h4 := h.wid r (by simp)
    match r, h4 with
    | [], h4 => simp at h4; omega
    | u :: us, _ =>
      obtain ⟨b, o, e, hc⟩ := h.cells 0 0 (u :: us) u (by simp) (by simp)
      rw [ha] at e
      cases e
      have hc : w.cell? ⟨b, o + 0 * n + 0, none⟩ = some u := hc
      exact World.block_lt_of_cell? w ⟨b, o + 0 * n + 0, none⟩ hc
theorem cell_new (W : World) (c : Value) (t : TypeId) (k : Nat) (h : k = W.heap.size) : (W.alloc (.cells #[c] t)).cell? ⟨k, 0, none⟩ = some c := by subst h; simp
theorem frozen_new (W : World) (c : Value) (t : TypeId) (k : Nat) (h : k = W.heap.size) : (W.alloc (.cells #[c] t)).frozen? ⟨k, 0, none⟩ = false := by subst h; simp
end Go.Sz
namespace Go.Proofs.YtahaplioegeloaaDoor
open Go.RowKit Go.Sz

set_option maxRecDepth 100000 in
set_option maxHeartbeats 1600000 in
theorem decode_any (bs : List UInt8) (ao : Option Addr) (cap : Nat) (w : World) (hs : SL w 1 ao cap (br bs)) (hl : bs.length ≤ 1000000) :
    Calls Tryd.prog 29 #[.slice ao bs.length cap] w fun e w' => ∃ cs F, e = .returned (.tuple #[.agg cs, .int .i64 (decOut bs).2]) ∧ RepV w' F cs.toList (decOut bs).1 ∧ (∀ b, F b → w.heap.size ≤ b) ∧ Ext w w' := by
  have hmf : ∀ (fn : Fn) (first cap : Array Value) (w : World), (Instr.makeFunc fn first cap).run Tryd.prog w = .ok (.func fn first cap) w := fun _ _ _ _ => rfl
  have hv := fun W => value_any (p := ⟨w.heap.size + 1 + 1, 0, none⟩) 16 (by omega) bs W hl
  have HV := Lib.hid hv
  clear hv
  go_enter_defers Tryd.func29, Tryd.ntmps29
  go_wp2_with fail
  have hE0 : Ext w (((w.alloc (.cells #[.int .i64 0, .int .i64 0, .string ⟨#[]⟩, .slice none 0 0] 59)).alloc (.cells #[.int .i64 0] 30)).alloc (.cells #[.slice ao bs.length cap] 80)) := (((Ext.refl w).alloc _).alloc _).alloc _
  have hB0 : Box (((w.alloc (.cells #[.int .i64 0, .int .i64 0, .string ⟨#[]⟩, .slice none 0 0] 59)).alloc (.cells #[.int .i64 0] 30)).alloc (.cells #[.slice ao bs.length cap] 80)) w.heap.size (.int .i64 0) (.int .i64 0) (.string ⟨#[]⟩) (.slice none 0 0) := (Box.new w _ _ _ _ _).ext (((Ext.refl _).alloc _).alloc _)
  have hR0 : Rd (((w.alloc (.cells #[.int .i64 0, .int .i64 0, .string ⟨#[]⟩, .slice none 0 0] 59)).alloc (.cells #[.int .i64 0] 30)).alloc (.cells #[.slice ao bs.length cap] 80)) ⟨w.heap.size + 1 + 1, 0, none⟩ bs :=
    ⟨⟨ao, cap, cell_new _ _ _ _ (by simp), hs.ext hE0, fun a ha hn => by have := hs.blk (by omega) a ha (by cases bs with | nil => exact absurd rfl hn | cons => simp [br]); show a.block < w.heap.size + 1 + 1; omega⟩, frozen_new _ _ _ _ (by simp)⟩
  have hC0 : (((w.alloc (.cells #[.int .i64 0, .int .i64 0, .string ⟨#[]⟩, .slice none 0 0] 59)).alloc (.cells #[.int .i64 0] 30)).alloc (.cells #[.slice ao bs.length cap] 80)).cell? ⟨w.heap.size + 1, 0, none⟩ = some (.int .i64 0) := ((Ext.refl _).alloc _).cell (cell_new _ _ _ _ (by simp))
  have hZ0 : (((w.alloc (.cells #[.int .i64 0, .int .i64 0, .string ⟨#[]⟩, .slice none 0 0] 59)).alloc (.cells #[.int .i64 0] 30)).alloc (.cells #[.slice ao bs.length cap] 80)).frozen? ⟨w.heap.size + 1, 0, none⟩ = false := by
    rw [World.frozen?_alloc_past _ _ _ (by simp)]
    exact frozen_new _ _ _ _ (by simp)
  have hS0 : w.heap.size + 1 + 1 < (((w.alloc (.cells #[.int .i64 0, .int .i64 0, .string ⟨#[]⟩, .slice none 0 0] 59)).alloc (.cells #[.int .i64 0] 30)).alloc (.cells #[.slice ao bs.length cap] 80)).heap.size := by simp
  generalize (((w.alloc (.cells #[.int .i64 0, .int .i64 0, .string ⟨#[]⟩, .slice none 0 0] 59)).alloc (.cells #[.int .i64 0] 30)).alloc (.cells #[.slice ao bs.length cap] 80)) = w1 at *
  have hV := HV.out w1 hR0
  obtain ⟨o, ho⟩ : ∃ o, valP 16 bs = o := ⟨_, rfl⟩
  have HO := Lib.hid ho
  rw [ho] at hV
  clear ho
  match o with
  | none =>
    refine hV.mono ?_
    rintro e w2 ⟨he, hT⟩
    change e = .panicked pan at he
    subst he
    have hB2 := hB0.turn hT (by simp; omega)
    have hC2 := hT.cell hC0 (by simp)
    have hZ2 : w2.frozen? ⟨w.heap.size + 1, 0, none⟩ = false := (hT.frozen (p := ⟨w.heap.size + 1, 0, none⟩) (by simp; omega) (by simp)).trans hZ0
    have hE2 := Turn.ext hE0 hT (by show w.heap.size ≤ w.heap.size + 1 + 1; omega)
    refine leaves_cons (f := 46) (args := #[.pointer (some ⟨w.heap.size, 0, none⟩), .pointer (some ⟨w.heap.size + 1, 0, none⟩)]) (by simp) (by simp [go_sem]) ?_
    refine (decode1_panicking w.heap.size (w.heap.size + 1) _ _ _ _ _ [] w2 hB2 hC2 hZ2 (by omega)).mono ?_
    rintro e u' w3 ⟨rfl, rfl, hB3, hC3, hE3⟩
    have hE := hE3 w hE2 (by omega) (by omega)
    obtain ⟨e0, e1, e2, e3, _⟩ := hB3
    have hd : decOut bs = (.mk 0 0 ⟨#[]⟩ [], 10) := by rw [decOut, HO.out]
    rw [hd]
    simp [Leaves, settle, results, Tryd.results29, go_sem, e0, e1, e2, e3, hC3]
    exact ⟨fun _ => False, RepV.mk (ao := none) (cap := 0) (l := []) [] ⟨by omega, by omega⟩ ⟨by omega, by omega⟩ (by decide) (SL.empty _ _) (by simp) rfl (by simp), by simp, hE⟩
  | some (.mk xk xn xs xl, []) =>
    refine hV.mono ?_
    rintro e w2 ⟨⟨cs, F, rfl, hRx, hFx, hR2⟩, hT⟩
    obtain ⟨ao2, cap2, rows2, hcs, _⟩ := hRx.open
    obtain ⟨cl⟩ := cs
    simp only at hcs
    subst hcs
    have hB2 := hB0.turn hT (by simp; omega)
    have hC2 := hT.cell hC0 (by simp)
    have hZ2 : w2.frozen? ⟨w.heap.size + 1, 0, none⟩ = false := (hT.frozen (p := ⟨w.heap.size + 1, 0, none⟩) (by simp; omega) (by simp)).trans hZ0
    have hE2 := Turn.ext hE0 hT (by show w.heap.size ≤ w.heap.size + 1 + 1; omega)
    obtain ⟨b0, b1, b2, b3, bz⟩ := hB2
    have z0 := bz 0
    have z1 := bz 1
    have z2 := bz 2
    have z3 := bz 3
    obtain ⟨⟨ao3, cap3, hc3, hs3, hb3⟩, hz3⟩ := hR2
    go_wp2_with fail
    have hBx := ((((Box.mk b0 b1 b2 b3 bz).set0 (.int .i64 xk)).set1 (.int .i64 xn)).set2 (.string xs)).set3 (.slice ao2 xl.length cap2)
    have hCx : ((((w2.setCell ⟨w.heap.size, 0, none⟩ (.int .i64 xk)).setCell ⟨w.heap.size, 1, none⟩ (.int .i64 xn)).setCell ⟨w.heap.size, 2, none⟩ (.string xs)).setCell ⟨w.heap.size, 3, none⟩ (.slice ao2 xl.length cap2)).cell? ⟨w.heap.size + 1, 0, none⟩ = some (.int .i64 0) := by
      simp [World.cell?_setCell_other, hC2]
    have hZx : ((((w2.setCell ⟨w.heap.size, 0, none⟩ (.int .i64 xk)).setCell ⟨w.heap.size, 1, none⟩ (.int .i64 xn)).setCell ⟨w.heap.size, 2, none⟩ (.string xs)).setCell ⟨w.heap.size, 3, none⟩ (.slice ao2 xl.length cap2)).frozen? ⟨w.heap.size + 1, 0, none⟩ = false := by
      simp [hZ2]
    have hEx : Ext w ((((w2.setCell ⟨w.heap.size, 0, none⟩ (.int .i64 xk)).setCell ⟨w.heap.size, 1, none⟩ (.int .i64 xn)).setCell ⟨w.heap.size, 2, none⟩ (.string xs)).setCell ⟨w.heap.size, 3, none⟩ (.slice ao2 xl.length cap2)) :=
      (((hE2.setCell (p := ⟨w.heap.size, 0, none⟩) (Nat.le_refl _) _).setCell (p := ⟨w.heap.size, 1, none⟩) (Nat.le_refl _) _).setCell (p := ⟨w.heap.size, 2, none⟩) (Nat.le_refl _) _).setCell (p := ⟨w.heap.size, 3, none⟩) (Nat.le_refl _) _
    have hRxx : RepV ((((w2.setCell ⟨w.heap.size, 0, none⟩ (.int .i64 xk)).setCell ⟨w.heap.size, 1, none⟩ (.int .i64 xn)).setCell ⟨w.heap.size, 2, none⟩ (.string xs)).setCell ⟨w.heap.size, 3, none⟩ (.slice ao2 xl.length cap2)) F [.int .i64 xk, .int .i64 xn, .string xs, .slice ao2 xl.length cap2] (.mk xk xn xs xl) :=
      hRx.keep fun b hb => by
        have := hFx b hb
        rw [heap_setCell_far _ _ _ _ (by show b ≠ w.heap.size; omega), heap_setCell_far _ _ _ _ (by show b ≠ w.heap.size; omega), heap_setCell_far _ _ _ _ (by show b ≠ w.heap.size; omega), heap_setCell_far _ _ _ _ (by show b ≠ w.heap.size; omega)]
    clear b0 b1 b2 b3 bz z0 z1 z2 z3
    generalize ((((w2.setCell ⟨w.heap.size, 0, none⟩ (.int .i64 xk)).setCell ⟨w.heap.size, 1, none⟩ (.int .i64 xn)).setCell ⟨w.heap.size, 2, none⟩ (.string xs)).setCell ⟨w.heap.size, 3, none⟩ (.slice ao2 xl.length cap2)) = w3 at *
    obtain ⟨b0, b1, b2, b3, bz⟩ := hBx
    have z0 := bz 0
    have z1 := bz 1
    have z2 := bz 2
    have z3 := bz 3
    have HRX := Lib.hid hRxx
    clear hRxx
    refine (want_true _ _).mono ?_
    rintro e w4 ⟨rfl, rfl⟩
    go_wp2_with fail
    have hB5 := (((((Box.mk b0 b1 b2 b3 bz).set0 (.int .i64 xk)).set1 (.int .i64 xn)).set2 (.string xs)).set3 (.slice ao2 xl.length cap2)).keep (heap_setCell_far _ ⟨w.heap.size + 1, 0, none⟩ (.int .i64 0) _ (by show w.heap.size ≠ w.heap.size + 1; omega))
    have hC5 : (((((w3.setCell ⟨w.heap.size, 0, none⟩ (.int .i64 xk)).setCell ⟨w.heap.size, 1, none⟩ (.int .i64 xn)).setCell ⟨w.heap.size, 2, none⟩ (.string xs)).setCell ⟨w.heap.size, 3, none⟩ (.slice ao2 xl.length cap2)).setCell ⟨w.heap.size + 1, 0, none⟩ (.int .i64 0)).cell? ⟨w.heap.size + 1, 0, none⟩ = some (.int .i64 0) :=
      World.cell?_setCell_same' _ _ _ (by simp [World.cell?_setCell_other, hCx])
    have hE5 : Ext w (((((w3.setCell ⟨w.heap.size, 0, none⟩ (.int .i64 xk)).setCell ⟨w.heap.size, 1, none⟩ (.int .i64 xn)).setCell ⟨w.heap.size, 2, none⟩ (.string xs)).setCell ⟨w.heap.size, 3, none⟩ (.slice ao2 xl.length cap2)).setCell ⟨w.heap.size + 1, 0, none⟩ (.int .i64 0)) :=
      ((((hEx.setCell (p := ⟨w.heap.size, 0, none⟩) (Nat.le_refl _) _).setCell (p := ⟨w.heap.size, 1, none⟩) (Nat.le_refl _) _).setCell (p := ⟨w.heap.size, 2, none⟩) (Nat.le_refl _) _).setCell (p := ⟨w.heap.size, 3, none⟩) (Nat.le_refl _) _).setCell (p := ⟨w.heap.size + 1, 0, none⟩) (by show w.heap.size ≤ w.heap.size + 1; omega) _
    have hR5 : RepV (((((w3.setCell ⟨w.heap.size, 0, none⟩ (.int .i64 xk)).setCell ⟨w.heap.size, 1, none⟩ (.int .i64 xn)).setCell ⟨w.heap.size, 2, none⟩ (.string xs)).setCell ⟨w.heap.size, 3, none⟩ (.slice ao2 xl.length cap2)).setCell ⟨w.heap.size + 1, 0, none⟩ (.int .i64 0)) F [.int .i64 xk, .int .i64 xn, .string xs, .slice ao2 xl.length cap2] (.mk xk xn xs xl) :=
      HRX.out.keep fun b hb => by
        have := hFx b hb
        rw [heap_setCell_far _ _ _ _ (by show b ≠ w.heap.size + 1; omega), heap_setCell_far _ _ _ _ (by show b ≠ w.heap.size; omega), heap_setCell_far _ _ _ _ (by show b ≠ w.heap.size; omega), heap_setCell_far _ _ _ _ (by show b ≠ w.heap.size; omega), heap_setCell_far _ _ _ _ (by show b ≠ w.heap.size; omega)]
    clear b0 b1 b2 b3 bz z0 z1 z2 z3 hCx hZx hEx
    generalize (((((w3.setCell ⟨w.heap.size, 0, none⟩ (.int .i64 xk)).setCell ⟨w.heap.size, 1, none⟩ (.int .i64 xn)).setCell ⟨w.heap.size, 2, none⟩ (.string xs)).setCell ⟨w.heap.size, 3, none⟩ (.slice ao2 xl.length cap2)).setCell ⟨w.heap.size + 1, 0, none⟩ (.int .i64 0)) = w5 at *
    refine leaves_cons (f := 46) (args := #[.pointer (some ⟨w.heap.size, 0, none⟩), .pointer (some ⟨w.heap.size + 1, 0, none⟩)]) (by simp) (by simp [go_sem]) ?_
    refine (decode1_idle _ _ _).mono ?_
    rintro e u' w6 ⟨rfl, rfl, rfl⟩
    obtain ⟨e0, e1, e2, e3, _⟩ := hB5
    have hd : decOut bs = (.mk xk xn xs xl, 0) := by rw [decOut, HO.out]
    rw [hd]
    simp [Leaves, settle, results, Tryd.results29, go_sem, e0, e1, e2, e3, hC5]
    exact ⟨F, hR5, fun b hb => by have := hFx b hb; omega, hE5⟩
  | some (.mk xk xn xs xl, a :: r) =>
    refine hV.mono ?_
    rintro e w2 ⟨⟨cs, F, rfl, hRx, hFx, hR2⟩, hT⟩
    obtain ⟨ao2, cap2, rows2, hcs, _⟩ := hRx.open
    obtain ⟨cl⟩ := cs
    simp only at hcs
    subst hcs
    have hB2 := hB0.turn hT (by simp; omega)
    have hC2 := hT.cell hC0 (by simp)
    have hZ2 : w2.frozen? ⟨w.heap.size + 1, 0, none⟩ = false := (hT.frozen (p := ⟨w.heap.size + 1, 0, none⟩) (by simp; omega) (by simp)).trans hZ0
    have hE2 := Turn.ext hE0 hT (by show w.heap.size ≤ w.heap.size + 1 + 1; omega)
    obtain ⟨b0, b1, b2, b3, bz⟩ := hB2
    have z0 := bz 0
    have z1 := bz 1
    have z2 := bz 2
    have z3 := bz 3
    obtain ⟨⟨ao3, cap3, hc3, hs3, hb3⟩, hz3⟩ := hR2
    have q1 : ((((a :: r).length : Nat) : Int) == 0) = false := by simp; omega
    go_wp2_with fail
    have hBx := ((((Box.mk b0 b1 b2 b3 bz).set0 (.int .i64 xk)).set1 (.int .i64 xn)).set2 (.string xs)).set3 (.slice ao2 xl.length cap2)
    have hCx : ((((w2.setCell ⟨w.heap.size, 0, none⟩ (.int .i64 xk)).setCell ⟨w.heap.size, 1, none⟩ (.int .i64 xn)).setCell ⟨w.heap.size, 2, none⟩ (.string xs)).setCell ⟨w.heap.size, 3, none⟩ (.slice ao2 xl.length cap2)).cell? ⟨w.heap.size + 1, 0, none⟩ = some (.int .i64 0) := by
      simp [World.cell?_setCell_other, hC2]
    have hZx : ((((w2.setCell ⟨w.heap.size, 0, none⟩ (.int .i64 xk)).setCell ⟨w.heap.size, 1, none⟩ (.int .i64 xn)).setCell ⟨w.heap.size, 2, none⟩ (.string xs)).setCell ⟨w.heap.size, 3, none⟩ (.slice ao2 xl.length cap2)).frozen? ⟨w.heap.size + 1, 0, none⟩ = false := by
      simp [hZ2]
    have hEx : Ext w ((((w2.setCell ⟨w.heap.size, 0, none⟩ (.int .i64 xk)).setCell ⟨w.heap.size, 1, none⟩ (.int .i64 xn)).setCell ⟨w.heap.size, 2, none⟩ (.string xs)).setCell ⟨w.heap.size, 3, none⟩ (.slice ao2 xl.length cap2)) :=
      (((hE2.setCell (p := ⟨w.heap.size, 0, none⟩) (Nat.le_refl _) _).setCell (p := ⟨w.heap.size, 1, none⟩) (Nat.le_refl _) _).setCell (p := ⟨w.heap.size, 2, none⟩) (Nat.le_refl _) _).setCell (p := ⟨w.heap.size, 3, none⟩) (Nat.le_refl _) _
    have hRxx : RepV ((((w2.setCell ⟨w.heap.size, 0, none⟩ (.int .i64 xk)).setCell ⟨w.heap.size, 1, none⟩ (.int .i64 xn)).setCell ⟨w.heap.size, 2, none⟩ (.string xs)).setCell ⟨w.heap.size, 3, none⟩ (.slice ao2 xl.length cap2)) F [.int .i64 xk, .int .i64 xn, .string xs, .slice ao2 xl.length cap2] (.mk xk xn xs xl) :=
      hRx.keep fun b hb => by
        have := hFx b hb
        rw [heap_setCell_far _ _ _ _ (by show b ≠ w.heap.size; omega), heap_setCell_far _ _ _ _ (by show b ≠ w.heap.size; omega), heap_setCell_far _ _ _ _ (by show b ≠ w.heap.size; omega), heap_setCell_far _ _ _ _ (by show b ≠ w.heap.size; omega)]
    clear b0 b1 b2 b3 bz z0 z1 z2 z3
    generalize ((((w2.setCell ⟨w.heap.size, 0, none⟩ (.int .i64 xk)).setCell ⟨w.heap.size, 1, none⟩ (.int .i64 xn)).setCell ⟨w.heap.size, 2, none⟩ (.string xs)).setCell ⟨w.heap.size, 3, none⟩ (.slice ao2 xl.length cap2)) = w3 at *
    refine (want_false _ _).mono ?_
    rintro e w4 ⟨rfl, rfl⟩
    refine leaves_cons (f := 46) (args := #[.pointer (some ⟨w.heap.size, 0, none⟩), .pointer (some ⟨w.heap.size + 1, 0, none⟩)]) (by simp) (by simp [go_sem]) ?_
    refine (decode1_panicking w.heap.size (w.heap.size + 1) _ _ _ _ _ [] w3 hBx hCx hZx (by omega)).mono ?_
    rintro e u' w4 ⟨rfl, rfl, hB3, hC3, hE3⟩
    have hE := hE3 w hEx (by omega) (by omega)
    obtain ⟨e0, e1, e2, e3, _⟩ := hB3
    have hd : decOut bs = (.mk 0 0 ⟨#[]⟩ [], 10) := by rw [decOut, HO.out]
    rw [hd]
    simp [Leaves, settle, results, Tryd.results29, go_sem, e0, e1, e2, e3, hC3]
    exact ⟨fun _ => False, RepV.mk (ao := none) (cap := 0) (l := []) [] ⟨by omega, by omega⟩ ⟨by omega, by omega⟩ (by decide) (SL.empty _ _) (by simp) rfl (by simp), by simp, hE⟩
end Go.Proofs.YtahaplioegeloaaDoor
