import Derived.Test.YtahaplioegeloaaDoorD3
namespace Go.Sz
open Go.RowKit
/-- bytes read as rows, turned to a string -/
theorem SL.toStr {P : Program} {w : World} {ao : Option Addr} {cap : Nat} {bs : List UInt8} (h : SL w 1 ao cap (br bs)) (src dst e : TypeId) (hs : P.underlying src = some (.slice e)) (he : P.underlying e = some (.int .u8)) (hd : P.underlying dst = some .string) :
    (convert src dst (.slice ao bs.length cap)).run P w = .ok (.string ⟨bs.toArray⟩) w := by
  cases ao with
  | none =>
    have h0 := h.nil rfl
    have hle := h.le
    rw [br_length] at hle
    have : bs = [] := List.eq_nil_of_length_eq_zero (by omega)
    subst this
    exact run_convert_bytes_nil w src e hs he 0 cap dst hd
  | some a =>
    cases bs with
    | nil => exact run_convert_bytes_back w src dst e a cap [] hs he hd (fun j hj => by simp at hj)
    | cons x xs =>
      obtain ⟨b, o, e1, _⟩ := h.at (by omega) 0 (by simp [br])
      cases e1
      refine run_convert_bytes_back w src dst e _ cap (x :: xs) hs he hd (fun j hj => ?_)
      have := h.cellAt (i := j) (j := 0) (r := [.int .u8 ((x :: xs)[j].toNat)]) (v := .int .u8 ((x :: xs)[j].toNat)) (by simp only [br]; rw [List.getElem?_map, List.getElem?_eq_getElem hj]; rfl) rfl
      rw [Addr.add_mid]
      simpa using this

theorem zag_in {n : Nat} (h : n < 18446744073709551616) : inI64 (zag n) := by
  unfold zag inI64
  constructor <;> split <;> omega
end Go.Sz
namespace Go.Proofs.YtahaplioegeloaaDoor
open Go.RowKit Go.Sz

/-- what a call of value leaves: a value of new memory and the reader behind it, or the codec's panic -/
def valPost (w : World) (p : Addr) (o : Option (V × List UInt8)) (e : Ending) (w' : World) : Prop :=
  match o with
  | some (x, r) => ∃ cs F, e = .returned (.agg cs) ∧ RepV w' F cs.toList x ∧ (∀ b, F b → w.heap.size ≤ b) ∧ Rd w' p r
  | none => e = .panicked pan

set_option maxRecDepth 100000 in
set_option maxHeartbeats 1600000 in
theorem value_1 {p : Addr} {b : UInt8} {r : List UInt8} {w : World} (h : Rd w p (b :: r)) (hb : b.toNat = 1) (k : Int) (inner : Nat → List UInt8 → Option (List V × List UInt8)) :
    Calls Tryd.prog 47 #[.pointer (some p), .int .i64 k] w fun e w' => valPost w p (headP inner (b :: r)) e w' ∧ Turn p.block w w' := by
  have HP : Hid (headP inner (b :: r) = match numP 0 0 r with
      | some (n, r) => some (.mk 1 (zag n) ⟨#[]⟩ [], r)
      | none => none) := by simp [headP, hb]; rfl
  have hplt := h.lt
  go_enter Tryd.func47, Tryd.ntmps47
  go_wp2_with fail
  have hE0 : Ext w (w.alloc (.cells #[.int .i64 0, .int .i64 0, .string ⟨#[]⟩, .slice none 0 0] 59)) := (Ext.refl w).alloc _
  refine (take1_rd (h.ext hE0)).mono ?_
  rintro e w1 ⟨blk, off, rfl, hc, hR1, hT1⟩
  rw [hb] at hc
  have hne : w.heap.size ≠ p.block := by omega
  have hB1 := (Box.new w (.int .i64 0) (.int .i64 0) (.string ⟨#[]⟩) (.slice none 0 0) 59).turn hT1 hne
  obtain ⟨b0, b1, b2, b3, bz⟩ := hB1
  have z0 := bz 0
  go_wp2_with fail
  have hT2 : Turn p.block w (w1.setCell ⟨w.heap.size, 0, none⟩ (.int .i64 1)) := ((Turn.of_ext hE0).trans hT1).store _ _ (Nat.le_refl _)
  have hR2 : Rd (w1.setCell ⟨w.heap.size, 0, none⟩ (.int .i64 1)) p r := hR1.setCell _ _ hplt
  have hB2 := (Box.mk b0 b1 b2 b3 bz).set0 (.int .i64 1)
  clear b0 b1 b2 b3 bz z0 hR1 hT1 hc
  generalize (w1.setCell ⟨w.heap.size, 0, none⟩ (.int .i64 1)) = w2 at *
  have hN := number_any hR2
  cases hn : numP 0 0 r with
  | none =>
    rw [hn] at HP hN
    refine hN.mono ?_
    rintro e w3 ⟨he, hT3⟩
    change e = .panicked pan at he
    subst he
    exact ⟨rfl, by rw [HP.out]; rfl, hT2.trans hT3⟩
  | some nr =>
    obtain ⟨n, r'⟩ := nr
    have hlt := (numP_lt r 0 0 n r' hn (by simp) (by omega)).1
    rw [hn] at HP hN
    refine hN.mono ?_
    rintro e w3 ⟨⟨rfl, hR3⟩, hT3⟩
    obtain ⟨b0, b1, b2, b3, bz⟩ := hB2.turn hT3 hne
    have z0 := bz 0
    have z1 := bz 1
    go_wp2_with (go_at_call 61; refine (signed_any n _ (by omega) (by omega)).mono ?_; rintro e w4 ⟨rfl, rfl⟩)
    have hB4 := ((((((Box.mk b0 b1 b2 b3 bz).set1 (.int .i64 (zag n))).set0 (.int .i64 1)).set1 (.int .i64 (zag n))).set2 (.string ⟨#[]⟩)).set3 (.slice none 0 0))
    have hT4 := ((((((hT2.trans hT3).store ⟨w.heap.size, 1, none⟩ (.int .i64 (zag n)) (Nat.le_refl _)).store ⟨w.heap.size, 0, none⟩ (.int .i64 1) (Nat.le_refl _)).store ⟨w.heap.size, 1, none⟩ (.int .i64 (zag n)) (Nat.le_refl _)).store ⟨w.heap.size, 2, none⟩ (.string ⟨#[]⟩) (Nat.le_refl _)).store ⟨w.heap.size, 3, none⟩ (.slice none 0 0) (Nat.le_refl _))
    have hR4 := (((((hR3.setCell ⟨w.heap.size, 1, none⟩ (.int .i64 (zag n)) hplt).setCell ⟨w.heap.size, 0, none⟩ (.int .i64 1) hplt).setCell ⟨w.heap.size, 1, none⟩ (.int .i64 (zag n)) hplt).setCell ⟨w.heap.size, 2, none⟩ (.string ⟨#[]⟩) hplt).setCell ⟨w.heap.size, 3, none⟩ (.slice none 0 0) hplt)
    generalize (((((w3.setCell ⟨w.heap.size, 1, none⟩ (.int .i64 (zag n))).setCell ⟨w.heap.size, 0, none⟩ (.int .i64 1)).setCell ⟨w.heap.size, 1, none⟩ (.int .i64 (zag n))).setCell ⟨w.heap.size, 2, none⟩ (.string ⟨#[]⟩)).setCell ⟨w.heap.size, 3, none⟩ (.slice none 0 0)) = w4 at *
    obtain ⟨e0, e1, e2, e3, ez⟩ := hB4
    refine ⟨rfl, .agg #[.int .i64 1, .int .i64 (zag n), .string ⟨#[]⟩, .slice none 0 0], ?_, ?_⟩
    · simp [results, Tryd.results47, go_sem, e0, e1, e2, e3]
    · refine ⟨?_, hT4⟩
      rw [HP.out]
      refine ⟨_, fun _ => False, rfl, RepV.mk (k := 1) (n := zag n) (s := ⟨#[]⟩) (ao := none) (cap := 0) (l := []) [] ⟨by omega, by omega⟩ (zag_in hlt) (by decide) (SL.done none) (by simp) rfl (by simp), by simp, hR4⟩

set_option maxRecDepth 100000 in
set_option maxHeartbeats 1600000 in
theorem value_2 {p : Addr} {b : UInt8} {r : List UInt8} {w : World} (h : Rd w p (b :: r)) (hb : b.toNat = 2) (k : Int) (inner : Nat → List UInt8 → Option (List V × List UInt8)) :
    Calls Tryd.prog 47 #[.pointer (some p), .int .i64 k] w fun e w' => valPost w p (headP inner (b :: r)) e w' ∧ Turn p.block w w' := by
  have HP : Hid (headP inner (b :: r) = match lenP r with
      | some (n, r) => some (.mk 2 0 ⟨(r.take n).toArray⟩ [], r.drop n)
      | none => none) := by simp [headP, hb]; rfl
  have hplt := h.lt
  go_enter Tryd.func47, Tryd.ntmps47
  go_wp2_with fail
  have hE0 : Ext w (w.alloc (.cells #[.int .i64 0, .int .i64 0, .string ⟨#[]⟩, .slice none 0 0] 59)) := (Ext.refl w).alloc _
  refine (take1_rd (h.ext hE0)).mono ?_
  rintro e w1 ⟨blk, off, rfl, hc, hR1, hT1⟩
  rw [hb] at hc
  have hne : w.heap.size ≠ p.block := by omega
  have hB1 := (Box.new w (.int .i64 0) (.int .i64 0) (.string ⟨#[]⟩) (.slice none 0 0) 59).turn hT1 hne
  obtain ⟨b0, b1, b2, b3, bz⟩ := hB1
  have z0 := bz 0
  go_wp2_with fail
  have hT2 : Turn p.block w (w1.setCell ⟨w.heap.size, 0, none⟩ (.int .i64 2)) := ((Turn.of_ext hE0).trans hT1).store _ _ (Nat.le_refl _)
  have hR2 : Rd (w1.setCell ⟨w.heap.size, 0, none⟩ (.int .i64 2)) p r := hR1.setCell _ _ hplt
  have hB2 := (Box.mk b0 b1 b2 b3 bz).set0 (.int .i64 2)
  clear b0 b1 b2 b3 bz z0 hR1 hT1 hc
  generalize (w1.setCell ⟨w.heap.size, 0, none⟩ (.int .i64 2)) = w2 at *
  have hN := length_any hR2
  cases hn : lenP r with
  | none =>
    rw [hn] at HP hN
    refine hN.mono ?_
    rintro e w3 ⟨he, hT3⟩
    change e = .panicked pan at he
    subst he
    exact ⟨rfl, by rw [HP.out]; rfl, hT2.trans hT3⟩
  | some nr =>
    obtain ⟨n, r'⟩ := nr
    rw [hn] at HP hN
    refine hN.mono ?_
    rintro e w3 ⟨⟨rfl, hR3, hle⟩, hT3⟩
    go_wp2_with fail
    refine (take_rd hR3 n hle).mono ?_
    rintro e w4 ⟨ao, rfl, hs, _, hR4, hT4⟩
    have hB4 := (hB2.turn hT3 hne).turn hT4 hne
    obtain ⟨b0, b1, b2, b3, bz⟩ := hB4
    have z2 := bz 2
    have z0 := bz 0
    have z1 := bz 1
    have z3 := bz 3
    have hlen : (r'.take n).length = n := by simp; omega
    have hcv := hs.toStr (P := Tryd.prog) 29 9 5 Tryd.underlying29 Tryd.underlying5 Tryd.underlying9
    rw [hlen] at hcv
    clear hs
    obtain ⟨S, hS⟩ : ∃ S : ByteArray, S = ⟨(r'.take n).toArray⟩ := ⟨_, rfl⟩
    rw [← hS] at hcv
    have HS := Lib.hid hS
    clear hS
    go_wp2_with fail
    have hB5 := ((((((Box.mk b0 b1 b2 b3 bz).set2 (.string S)).set0 (.int .i64 2)).set1 (.int .i64 0)).set2 (.string S)).set3 (.slice none 0 0))
    have hT5 := ((((((hT2.trans hT3 |>.trans hT4).store ⟨w.heap.size, 2, none⟩ (.string S) (Nat.le_refl _)).store ⟨w.heap.size, 0, none⟩ (.int .i64 2) (Nat.le_refl _)).store ⟨w.heap.size, 1, none⟩ (.int .i64 0) (Nat.le_refl _)).store ⟨w.heap.size, 2, none⟩ (.string S) (Nat.le_refl _)).store ⟨w.heap.size, 3, none⟩ (.slice none 0 0) (Nat.le_refl _))
    have hR5 := (((((hR4.setCell ⟨w.heap.size, 2, none⟩ (.string S) hplt).setCell ⟨w.heap.size, 0, none⟩ (.int .i64 2) hplt).setCell ⟨w.heap.size, 1, none⟩ (.int .i64 0) hplt).setCell ⟨w.heap.size, 2, none⟩ (.string S) hplt).setCell ⟨w.heap.size, 3, none⟩ (.slice none 0 0) hplt)
    generalize (((((w4.setCell ⟨w.heap.size, 2, none⟩ (.string S)).setCell ⟨w.heap.size, 0, none⟩ (.int .i64 2)).setCell ⟨w.heap.size, 1, none⟩ (.int .i64 0)).setCell ⟨w.heap.size, 2, none⟩ (.string S)).setCell ⟨w.heap.size, 3, none⟩ (.slice none 0 0)) = w5 at *
    obtain ⟨e0, e1, e2, e3, ez⟩ := hB5
    refine ⟨rfl, .agg #[.int .i64 2, .int .i64 0, .string S, .slice none 0 0], ?_, ?_⟩
    · simp [results, Tryd.results47, go_sem, e0, e1, e2, e3]
    · refine ⟨?_, hT5⟩
      rw [HP.out]
      have hsz : S.size ≤ 9223372036854775807 := by
        rw [HS.out]
        have := hR3.ex
        obtain ⟨ao3, cap3, _, hs3, _⟩ := this
        have h1 := hs3.le
        have h2 := hs3.max
        rw [br_length] at h1
        show ((r'.take n).toArray).size ≤ _
        simp
        omega
      rw [← HS.out]
      exact ⟨_, fun _ => False, rfl, RepV.mk (k := 2) (n := 0) (s := S) (ao := none) (cap := 0) (l := []) [] ⟨by omega, by omega⟩ ⟨by omega, by omega⟩ hsz (SL.done none) (by simp) rfl (by simp), by simp, hR5⟩

end Go.Proofs.YtahaplioegeloaaDoor
