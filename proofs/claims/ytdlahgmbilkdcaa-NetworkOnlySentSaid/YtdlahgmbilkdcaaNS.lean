/- sane: the chapter's examples. -/
import Derived.Test.YtdlahgmbilkdcaaNL
namespace Go.Sz
open Go.RowKit
theorem sane1 : deliverN ⟨[], []⟩ 0 = (⟨0, 0, []⟩, ⟨[], []⟩, 1) := by kernel_rfl
theorem sane2 : sendN ⟨[], []⟩ ⟨3, 3, []⟩ = (⟨[], []⟩, 480) := by kernel_rfl
theorem sane3 : cutN ⟨[], []⟩ 2 2 true = (⟨[], []⟩, 1) := by kernel_rfl
theorem sane4 : sendN ⟨[], []⟩ ⟨1, 4, [7]⟩ = (⟨[⟨1, 4, [7]⟩], []⟩, 0) := by kernel_rfl
theorem sane5 : repeatN ⟨[⟨1, 4, [7]⟩], []⟩ 0 = (⟨[⟨1, 4, [7]⟩, ⟨1, 4, [7]⟩], []⟩, 0) := by kernel_rfl
theorem sane6 : cutN ⟨[⟨1, 4, [7]⟩, ⟨1, 4, [7]⟩], []⟩ 4 1 true = (⟨[⟨1, 4, [7]⟩, ⟨1, 4, [7]⟩], [(1, 4)]⟩, 0) := by kernel_rfl
theorem sane7 : deliverN ⟨[⟨1, 4, [7]⟩, ⟨1, 4, [7]⟩], []⟩ 0 = (⟨1, 4, [7]⟩, ⟨[⟨1, 4, [7]⟩], []⟩, 0) := by kernel_rfl
theorem sane8 : deliverN ⟨[⟨1, 4, [7]⟩, ⟨1, 4, [7]⟩], [(1, 4)]⟩ 1 = (⟨0, 0, []⟩, ⟨[⟨1, 4, [7]⟩], [(1, 4)]⟩, 0) := by kernel_rfl
theorem sane9 : checkN ⟨[], []⟩ = 0 := by kernel_rfl
theorem sane10 : samePk ⟨1, 4, [7]⟩ ⟨1, 4, [7]⟩ = true := by kernel_rfl
theorem sane11 : samePk ⟨0, 0, []⟩ ⟨0, 0, []⟩ = true := by kernel_rfl
theorem rep_lit (W : World) (f t : Int) (b : UInt8) (v : Int) (hv : v = b.toNat) (e : TypeId) (hf : inI64 f) (ht : inI64 t) (g : Nat) (hg : g = W.heap.size) : RepP (W.alloc (.cells #[.int .u8 v] e)) [.int .i64 f, .int .i64 t, .slice (some ⟨g, 0, none⟩) 1 1] ⟨f, t, [b]⟩ := by
  subst hg hv
  exact ⟨_, _, rfl, hf, ht, sl_new W [.int .u8 b.toNat] 1 e rfl⟩
theorem RepN.parts {W : World} {a0 b0 : Option Addr} {k c m d : Nat} {n : Nw} (h : RepN W [.slice a0 k c, .slice b0 m d] n) : ∃ rows, RepQ W a0 c rows n.q ∧ RepA W b0 d n.a ∧ k = n.q.length ∧ m = n.a.length := by
  obtain ⟨ao, cap, bo, cap', rows, he, hq, ha⟩ := h
  simp only [List.cons.injEq, Value.slice.injEq, and_true] at he
  obtain ⟨⟨rfl, h1, rfl⟩, rfl, h2, rfl⟩ := he
  exact ⟨rows, hq, ha, h1, h2⟩
end Go.Sz
namespace Go.Proofs.Ytdlahgmbilkdcaa
open Go.RowKit Go.Sz

set_option maxRecDepth 100000 in
set_option maxHeartbeats 12800000 in
theorem sane_any (w : World) : Calls Try.prog 9 #[] w fun e w' => e = .returned (.bool true) ∧ Ext w w' := by
  go_enter Try.func9, Try.ntmps9
  go_wp2_with fail
  have HX := Lib.hid (Ext.refl w)
  refine (new_any _).mono ?_
  rintro e v1 ⟨rfl, hE1⟩
  have HR0 := Lib.hid (RepN.zero v1)
  go_wp2_with fail
  have hA1 : Ext v1 (v1.alloc (.cells #[.slice none 0 0, .slice none 0 0] 25)) := ((Ext.refl v1).alloc (.cells #[.slice none 0 0, .slice none 0 0] 25))
  have hX1 := hE1.trans hA1
  have hbn := ((Box2.new' v1 (.slice none 0 0) (.slice none 0 0) 25 (v1.heap.size) (by simp)))
  have hhHR0 := HR0.out.ext hA1
  clear HR0
  have hXX := HX.out.trans hX1
  clear HX
  clear hA1 hX1 hE1
  generalize (v1.alloc (.cells #[.slice none 0 0, .slice none 0 0] 25)) = u1 at *
  have HX := Lib.hid hXX
  clear hXX
  have HR0 := Lib.hid hhHR0
  clear hhHR0
  have Hn := Lib.hid hbn
  clear hbn
  refine (deliver_any ⟨[], []⟩ 0 _ _ HR0.out).mono ?_
  rintro e v2 ⟨cp2, cs2, rfl, hP2, hN2, hE2⟩
  rw [sane1] at hP2 hN2 ⊢
  have HP2 := Lib.hid hP2
  have HN2 := Lib.hid hN2
  obtain ⟨p2, q2, hcp⟩ := hP2.open
  subst hcp
  obtain ⟨a2, c2, b2, d2, hcs⟩ := hN2.open
  subst hcs
  clear hP2 hN2
  simp only [List.length_nil] at HP2 HN2 ⊢
  clear HP2 HN2
  have yn0 := fun ob0 ob1 => (((Ext.refl v2).alloc ob0).alloc ob1).cell (Hn.out.ext hE2).c0
  have yn1 := fun ob0 ob1 => (((Ext.refl v2).alloc ob0).alloc ob1).cell (Hn.out.ext hE2).c1
  go_wp2_with fail
  have hA2 : Ext v2 ((v2.alloc (.cells #[.int .i64 0, .int .i64 0, .slice p2 0 q2] 28)).alloc (.cells #[.slice a2 0 c2, .slice b2 0 d2] 25)) := (((Ext.refl v2).alloc (.cells #[.int .i64 0, .int .i64 0, .slice p2 0 q2] 28)).alloc (.cells #[.slice a2 0 c2, .slice b2 0 d2] 25))
  have hX2 := hE2.trans hA2
  have hhHR0 := HR0.out.ext hX2
  have hhHn := Hn.out.ext hX2
  clear HR0 Hn
  have hXX := HX.out.trans hX2
  clear HX
  clear hA2 hX2 hE2 yn0 yn1
  generalize ((v2.alloc (.cells #[.int .i64 0, .int .i64 0, .slice p2 0 q2] 28)).alloc (.cells #[.slice a2 0 c2, .slice b2 0 d2] 25)) = u2 at *
  have HX := Lib.hid hXX
  clear hXX
  have HR0 := Lib.hid hhHR0
  clear hhHR0
  have Hn := Lib.hid hhHn
  clear hhHn
  refine (send_any ⟨[], []⟩ ⟨3, 3, []⟩ _ [.int .i64 3, .int .i64 3, .slice none 0 0] _ HR0.out ⟨none, 0, rfl, ⟨by simp, by simp⟩, ⟨by simp, by simp⟩, SL.empty _ _⟩).mono ?_
  rintro e v3 ⟨cs3, rfl, hN3, hE3⟩
  rw [sane2] at hN3 ⊢
  have HN3 := Lib.hid hN3
  obtain ⟨a3, c3, b3, d3, hcs⟩ := hN3.open
  subst hcs
  clear hN3
  simp only [List.length_nil] at HN3 ⊢
  clear HN3
  have yn0 := fun ob0 => ((Ext.refl v3).alloc ob0).cell (Hn.out.ext hE3).c0
  have yn1 := fun ob0 => ((Ext.refl v3).alloc ob0).cell (Hn.out.ext hE3).c1
  go_wp2_with fail
  have hA3 : Ext v3 (v3.alloc (.cells #[.slice a3 0 c3, .slice b3 0 d3] 25)) := ((Ext.refl v3).alloc (.cells #[.slice a3 0 c3, .slice b3 0 d3] 25))
  have hX3 := hE3.trans hA3
  have hhHR0 := HR0.out.ext hX3
  have hhHn := Hn.out.ext hX3
  clear HR0 Hn
  have hXX := HX.out.trans hX3
  clear HX
  clear hA3 hX3 hE3 yn0 yn1
  generalize (v3.alloc (.cells #[.slice a3 0 c3, .slice b3 0 d3] 25)) = u3 at *
  have HX := Lib.hid hXX
  clear hXX
  have HR0 := Lib.hid hhHR0
  clear hhHR0
  have Hn := Lib.hid hhHn
  clear hhHn
  refine (cut_any ⟨[], []⟩ 2 2 true _ _ HR0.out).mono ?_
  rintro e v4 ⟨cs4, rfl, hN4, hE4⟩
  rw [sane3] at hN4 ⊢
  have HN4 := Lib.hid hN4
  obtain ⟨a4, c4, b4, d4, hcs⟩ := hN4.open
  subst hcs
  clear hN4
  simp only [List.length_nil] at HN4 ⊢
  clear HN4
  have yn0 := fun ob0 ob1 ob2 => ((((Ext.refl v4).alloc ob0).alloc ob1).alloc ob2).cell (Hn.out.ext hE4).c0
  have yn1 := fun ob0 ob1 ob2 => ((((Ext.refl v4).alloc ob0).alloc ob1).alloc ob2).cell (Hn.out.ext hE4).c1
  go_wp2_with fail
  have hA4 : Ext v4 (((v4.alloc (.cells #[.slice a4 0 c4, .slice b4 0 d4] 25)).alloc (.cells #[.int .u8 7] 5)).alloc (.cells #[.int .i64 1, .int .i64 4, .slice (some ⟨v4.heap.size + 1, 0, none⟩) 1 1] 28)) := ((((Ext.refl v4).alloc (.cells #[.slice a4 0 c4, .slice b4 0 d4] 25)).alloc (.cells #[.int .u8 7] 5)).alloc (.cells #[.int .i64 1, .int .i64 4, .slice (some ⟨v4.heap.size + 1, 0, none⟩) 1 1] 28))
  have hrp := ((rep_lit (v4.alloc (.cells #[.slice a4 0 c4, .slice b4 0 d4] 25)) 1 4 7 7 rfl 5 ⟨by omega, by omega⟩ ⟨by omega, by omega⟩ (v4.heap.size + 1) (by simp)).ext ((Ext.refl _).alloc (.cells #[.int .i64 1, .int .i64 4, .slice (some ⟨v4.heap.size + 1, 0, none⟩) 1 1] 28)))
  have hX4 := hE4.trans hA4
  have hbp := ((Box3.new' ((v4.alloc (.cells #[.slice a4 0 c4, .slice b4 0 d4] 25)).alloc (.cells #[.int .u8 7] 5)) (.int .i64 1) (.int .i64 4) (.slice (some ⟨v4.heap.size + 1, 0, none⟩) 1 1) 28 (v4.heap.size + 1 + 1) (by simp)))
  have hhHR0 := HR0.out.ext hX4
  have hhHn := Hn.out.ext hX4
  clear HR0 Hn
  have hXX := HX.out.trans hX4
  clear HX
  clear hA4 hX4 hE4 yn0 yn1
  generalize (((v4.alloc (.cells #[.slice a4 0 c4, .slice b4 0 d4] 25)).alloc (.cells #[.int .u8 7] 5)).alloc (.cells #[.int .i64 1, .int .i64 4, .slice (some ⟨v4.heap.size + 1, 0, none⟩) 1 1] 28)) = u4 at *
  have HRp : Hid (RepP u4 [.int .i64 1, .int .i64 4, .slice (some ⟨v4.heap.size + 1, 0, none⟩) 1 1] ⟨1, 4, [7]⟩) := Lib.hid hrp
  clear hrp
  have HX := Lib.hid hXX
  clear hXX
  have HR0 := Lib.hid hhHR0
  clear hhHR0
  have Hn := Lib.hid hhHn
  clear hhHn
  have Hp := Lib.hid hbp
  clear hbp
  refine (send_any ⟨[], []⟩ ⟨1, 4, [7]⟩ _ _ _ HR0.out HRp.out).mono ?_
  rintro e v5 ⟨cs5, rfl, hN5, hE5⟩
  rw [sane4] at hN5 ⊢
  have HN5 := Lib.hid hN5
  obtain ⟨a5, c5, b5, d5, hcs⟩ := hN5.open
  subst hcs
  clear hN5
  simp only [List.length_cons, List.length_nil, Nat.zero_add] at HN5 ⊢
  go_wp2_with fail
  have hA5 : Ext v5 (v5.alloc (.cells #[.slice a5 1 c5, .slice b5 0 d5] 25)) := ((Ext.refl v5).alloc (.cells #[.slice a5 1 c5, .slice b5 0 d5] 25))
  have hX5 := hE5.trans hA5
  have hhHRp := HRp.out.ext hX5
  clear HRp
  have hba := ((Box2.new' v5 (.slice a5 1 c5) (.slice b5 0 d5) 25 (v5.heap.size) (by simp)))
  have hhHR0 := HR0.out.ext hX5
  have hhHn := Hn.out.ext hX5
  have hhHp := Hp.out.ext hX5
  clear HR0 Hn Hp
  have hhHN5 := HN5.out.ext hA5
  clear HN5
  have hXX := HX.out.trans hX5
  clear HX
  clear hA5 hX5 hE5
  generalize (v5.alloc (.cells #[.slice a5 1 c5, .slice b5 0 d5] 25)) = u5 at *
  have HRp := Lib.hid hhHRp
  clear hhHRp
  have HX := Lib.hid hXX
  clear hXX
  have HR0 := Lib.hid hhHR0
  clear hhHR0
  have Hn := Lib.hid hhHn
  clear hhHn
  have Hp := Lib.hid hhHp
  clear hhHp
  have HN5 := Lib.hid hhHN5
  clear hhHN5
  have Ha := Lib.hid hba
  clear hba
  refine (repeat_any ⟨[⟨1, 4, [7]⟩], []⟩ 0 _ _ HN5.out).mono ?_
  rintro e v6 ⟨cs6, rfl, hN6, hE6⟩
  rw [sane5] at hN6 ⊢
  have HN6 := Lib.hid hN6
  obtain ⟨a6, c6, b6, d6, hcs⟩ := hN6.open
  subst hcs
  clear hN6
  simp only [List.length_cons, List.length_nil, Nat.zero_add, Nat.reduceAdd] at HN6 ⊢
  go_wp2_with fail
  have hA6 : Ext v6 (v6.alloc (.cells #[.slice a6 2 c6, .slice b6 0 d6] 25)) := ((Ext.refl v6).alloc (.cells #[.slice a6 2 c6, .slice b6 0 d6] 25))
  have hX6 := hE6.trans hA6
  have hhHRp := HRp.out.ext hX6
  clear HRp
  have hbb := ((Box2.new' v6 (.slice a6 2 c6) (.slice b6 0 d6) 25 (v6.heap.size) (by simp)))
  have hhHR0 := HR0.out.ext hX6
  have hhHn := Hn.out.ext hX6
  have hhHp := Hp.out.ext hX6
  have hhHN5 := HN5.out.ext hX6
  have hhHa := Ha.out.ext hX6
  clear HR0 Hn Hp HN5 Ha
  have hhHN6 := HN6.out.ext hA6
  clear HN6
  have hXX := HX.out.trans hX6
  clear HX
  clear hA6 hX6 hE6
  generalize (v6.alloc (.cells #[.slice a6 2 c6, .slice b6 0 d6] 25)) = u6 at *
  have HRp := Lib.hid hhHRp
  clear hhHRp
  have HX := Lib.hid hXX
  clear hXX
  have HR0 := Lib.hid hhHR0
  clear hhHR0
  have Hn := Lib.hid hhHn
  clear hhHn
  have Hp := Lib.hid hhHp
  clear hhHp
  have HN5 := Lib.hid hhHN5
  clear hhHN5
  have Ha := Lib.hid hhHa
  clear hhHa
  have HN6 := Lib.hid hhHN6
  clear hhHN6
  have Hb := Lib.hid hbb
  clear hbb
  refine (cut_any ⟨[⟨1, 4, [7]⟩, ⟨1, 4, [7]⟩], []⟩ 4 1 true _ _ HN6.out).mono ?_
  rintro e v7 ⟨cs7, rfl, hN7, hE7⟩
  rw [sane6] at hN7 ⊢
  have HN7 := Lib.hid hN7
  obtain ⟨a7, c7, b7, d7, hcs⟩ := hN7.open
  subst hcs
  clear hN7
  simp only [List.length_cons, List.length_nil, Nat.zero_add, Nat.reduceAdd] at HN7 ⊢
  obtain ⟨_, -, hA7, -, -⟩ := HN7.out.parts
  obtain ⟨bb7, oo7, rfl, _⟩ := hA7.sl.at (by omega) 0 (by simp [pr])
  clear hA7
  have yb0 := fun ob0 => ((Ext.refl v7).alloc ob0).cell (Hb.out.ext hE7).c0
  have yb1 := fun ob0 => ((Ext.refl v7).alloc ob0).cell (Hb.out.ext hE7).c1
  go_wp2_with fail
  have hA7 : Ext v7 (v7.alloc (.cells #[.slice a7 2 c7, .slice (some ⟨bb7, oo7, none⟩) 1 d7] 25)) := ((Ext.refl v7).alloc (.cells #[.slice a7 2 c7, .slice (some ⟨bb7, oo7, none⟩) 1 d7] 25))
  have hX7 := hE7.trans hA7
  have hhHRp := HRp.out.ext hX7
  clear HRp
  have hbc := ((Box2.new' v7 (.slice a7 2 c7) (.slice (some ⟨bb7, oo7, none⟩) 1 d7) 25 (v7.heap.size) (by simp)))
  have hhHR0 := HR0.out.ext hX7
  have hhHn := Hn.out.ext hX7
  have hhHp := Hp.out.ext hX7
  have hhHN5 := HN5.out.ext hX7
  have hhHa := Ha.out.ext hX7
  have hhHN6 := HN6.out.ext hX7
  have hhHb := Hb.out.ext hX7
  clear HR0 Hn Hp HN5 Ha HN6 Hb
  have hhHN7 := HN7.out.ext hA7
  clear HN7
  have hXX := HX.out.trans hX7
  clear HX
  clear hA7 hX7 hE7 yb0 yb1
  generalize (v7.alloc (.cells #[.slice a7 2 c7, .slice (some ⟨bb7, oo7, none⟩) 1 d7] 25)) = u7 at *
  have HRp := Lib.hid hhHRp
  clear hhHRp
  have HX := Lib.hid hXX
  clear hXX
  have HR0 := Lib.hid hhHR0
  clear hhHR0
  have Hn := Lib.hid hhHn
  clear hhHn
  have Hp := Lib.hid hhHp
  clear hhHp
  have HN5 := Lib.hid hhHN5
  clear hhHN5
  have Ha := Lib.hid hhHa
  clear hhHa
  have HN6 := Lib.hid hhHN6
  clear hhHN6
  have Hb := Lib.hid hhHb
  clear hhHb
  have HN7 := Lib.hid hhHN7
  clear hhHN7
  have Hc := Lib.hid hbc
  clear hbc
  refine (deliver_any ⟨[⟨1, 4, [7]⟩, ⟨1, 4, [7]⟩], []⟩ 0 _ _ HN6.out).mono ?_
  rintro e v8 ⟨cp8, cs8, rfl, hP8, hN8, hE8⟩
  rw [sane7] at hP8 hN8 ⊢
  have HP8 := Lib.hid hP8
  have HN8 := Lib.hid hN8
  obtain ⟨p8, q8, hcp⟩ := hP8.open
  subst hcp
  obtain ⟨a8, c8, b8, d8, hcs⟩ := hN8.open
  subst hcs
  clear hP8 hN8
  simp only [List.length_cons, List.length_nil, Nat.zero_add] at HP8 HN8 ⊢
  have yc0 := fun ob0 ob1 => (((Ext.refl v8).alloc ob0).alloc ob1).cell (Hc.out.ext hE8).c0
  have yc1 := fun ob0 ob1 => (((Ext.refl v8).alloc ob0).alloc ob1).cell (Hc.out.ext hE8).c1
  go_wp2_with fail
  have hA8 : Ext v8 ((v8.alloc (.cells #[.int .i64 1, .int .i64 4, .slice p8 1 q8] 28)).alloc (.cells #[.slice a8 1 c8, .slice b8 0 d8] 25)) := (((Ext.refl v8).alloc (.cells #[.int .i64 1, .int .i64 4, .slice p8 1 q8] 28)).alloc (.cells #[.slice a8 1 c8, .slice b8 0 d8] 25))
  have hX8 := hE8.trans hA8
  have hhHRp := HRp.out.ext hX8
  clear HRp
  have hbq := (((Box3.new' v8 (.int .i64 1) (.int .i64 4) (.slice p8 1 q8) 28 (v8.heap.size) (by simp))).ext ((Ext.refl _).alloc (.cells #[.slice a8 1 c8, .slice b8 0 d8] 25)))
  have hbd := ((Box2.new' (v8.alloc (.cells #[.int .i64 1, .int .i64 4, .slice p8 1 q8] 28)) (.slice a8 1 c8) (.slice b8 0 d8) 25 (v8.heap.size + 1) (by simp)))
  have hhHR0 := HR0.out.ext hX8
  have hhHn := Hn.out.ext hX8
  have hhHp := Hp.out.ext hX8
  have hhHN5 := HN5.out.ext hX8
  have hhHa := Ha.out.ext hX8
  have hhHN6 := HN6.out.ext hX8
  have hhHb := Hb.out.ext hX8
  have hhHN7 := HN7.out.ext hX8
  have hhHc := Hc.out.ext hX8
  clear HR0 Hn Hp HN5 Ha HN6 Hb HN7 Hc
  have hhHP8 := HP8.out.ext hA8
  have hhHN8 := HN8.out.ext hA8
  clear HP8 HN8
  have hXX := HX.out.trans hX8
  clear HX
  clear hA8 hX8 hE8 yc0 yc1
  generalize ((v8.alloc (.cells #[.int .i64 1, .int .i64 4, .slice p8 1 q8] 28)).alloc (.cells #[.slice a8 1 c8, .slice b8 0 d8] 25)) = u8 at *
  have HRp := Lib.hid hhHRp
  clear hhHRp
  have HX := Lib.hid hXX
  clear hXX
  have HR0 := Lib.hid hhHR0
  clear hhHR0
  have Hn := Lib.hid hhHn
  clear hhHn
  have Hp := Lib.hid hhHp
  clear hhHp
  have HN5 := Lib.hid hhHN5
  clear hhHN5
  have Ha := Lib.hid hhHa
  clear hhHa
  have HN6 := Lib.hid hhHN6
  clear hhHN6
  have Hb := Lib.hid hhHb
  clear hhHb
  have HN7 := Lib.hid hhHN7
  clear hhHN7
  have Hc := Lib.hid hhHc
  clear hhHc
  have HP8 := Lib.hid hhHP8
  clear hhHP8
  have HN8 := Lib.hid hhHN8
  clear hhHN8
  have Hq := Lib.hid hbq
  clear hbq
  have Hd := Lib.hid hbd
  clear hbd
  refine (deliver_any ⟨[⟨1, 4, [7]⟩, ⟨1, 4, [7]⟩], [(1, 4)]⟩ 1 _ _ HN7.out).mono ?_
  rintro e v9 ⟨cp9, cs9, rfl, hP9, hN9, hE9⟩
  rw [sane8] at hP9 hN9 ⊢
  have HP9 := Lib.hid hP9
  have HN9 := Lib.hid hN9
  obtain ⟨p9, q9, hcp⟩ := hP9.open
  subst hcp
  obtain ⟨a9, c9, b9, d9, hcs⟩ := hN9.open
  subst hcs
  clear hP9 hN9
  simp only [List.length_cons, List.length_nil, Nat.zero_add] at HP9 HN9 ⊢
  clear HN9
  have yn0 := fun ob0 ob1 => (((Ext.refl v9).alloc ob0).alloc ob1).cell (Hn.out.ext hE9).c0
  have yn1 := fun ob0 ob1 => (((Ext.refl v9).alloc ob0).alloc ob1).cell (Hn.out.ext hE9).c1
  go_wp2_with fail
  have hA9 : Ext v9 ((v9.alloc (.cells #[.int .i64 0, .int .i64 0, .slice p9 0 q9] 28)).alloc (.cells #[.slice a9 1 c9, .slice b9 1 d9] 25)) := (((Ext.refl v9).alloc (.cells #[.int .i64 0, .int .i64 0, .slice p9 0 q9] 28)).alloc (.cells #[.slice a9 1 c9, .slice b9 1 d9] 25))
  have hX9 := hE9.trans hA9
  have hhHRp := HRp.out.ext hX9
  clear HRp
  have hbr := (((Box3.new' v9 (.int .i64 0) (.int .i64 0) (.slice p9 0 q9) 28 (v9.heap.size) (by simp))).ext ((Ext.refl _).alloc (.cells #[.slice a9 1 c9, .slice b9 1 d9] 25)))
  have hhHR0 := HR0.out.ext hX9
  have hhHn := Hn.out.ext hX9
  have hhHp := Hp.out.ext hX9
  have hhHN5 := HN5.out.ext hX9
  have hhHa := Ha.out.ext hX9
  have hhHN6 := HN6.out.ext hX9
  have hhHb := Hb.out.ext hX9
  have hhHN7 := HN7.out.ext hX9
  have hhHc := Hc.out.ext hX9
  have hhHP8 := HP8.out.ext hX9
  have hhHN8 := HN8.out.ext hX9
  have hhHq := Hq.out.ext hX9
  have hhHd := Hd.out.ext hX9
  clear HR0 Hn Hp HN5 Ha HN6 Hb HN7 Hc HP8 HN8 Hq Hd
  have hhHP9 := HP9.out.ext hA9
  clear HP9
  have hXX := HX.out.trans hX9
  clear HX
  clear hA9 hX9 hE9 yn0 yn1
  generalize ((v9.alloc (.cells #[.int .i64 0, .int .i64 0, .slice p9 0 q9] 28)).alloc (.cells #[.slice a9 1 c9, .slice b9 1 d9] 25)) = u9 at *
  have HRp := Lib.hid hhHRp
  clear hhHRp
  have HX := Lib.hid hXX
  clear hXX
  have HR0 := Lib.hid hhHR0
  clear hhHR0
  have Hn := Lib.hid hhHn
  clear hhHn
  have Hp := Lib.hid hhHp
  clear hhHp
  have HN5 := Lib.hid hhHN5
  clear hhHN5
  have Ha := Lib.hid hhHa
  clear hhHa
  have HN6 := Lib.hid hhHN6
  clear hhHN6
  have Hb := Lib.hid hhHb
  clear hhHb
  have HN7 := Lib.hid hhHN7
  clear hhHN7
  have Hc := Lib.hid hhHc
  clear hhHc
  have HP8 := Lib.hid hhHP8
  clear hhHP8
  have HN8 := Lib.hid hhHN8
  clear hhHN8
  have Hq := Lib.hid hhHq
  clear hhHq
  have Hd := Lib.hid hhHd
  clear hhHd
  have HP9 := Lib.hid hhHP9
  clear hhHP9
  have Hr := Lib.hid hbr
  clear hbr
  refine (check_any ⟨[], []⟩ _ _ HR0.out).mono ?_
  rintro e v10 ⟨rfl, hE10⟩
  rw [sane9]
  have yp0 := (Hp.out.ext hE10).c0
  have yp1 := (Hp.out.ext hE10).c1
  have yp2 := (Hp.out.ext hE10).c2
  have yq0 := (Hq.out.ext hE10).c0
  have yq1 := (Hq.out.ext hE10).c1
  have yq2 := (Hq.out.ext hE10).c2
  go_wp2_with fail
  have hA10 : Ext v10 v10 := (Ext.refl v10)
  have hX10 := hE10.trans hA10
  have hhHRp := HRp.out.ext hX10
  clear HRp
  have hhHR0 := HR0.out.ext hX10
  have hhHn := Hn.out.ext hX10
  have hhHp := Hp.out.ext hX10
  have hhHN5 := HN5.out.ext hX10
  have hhHa := Ha.out.ext hX10
  have hhHN6 := HN6.out.ext hX10
  have hhHb := Hb.out.ext hX10
  have hhHN7 := HN7.out.ext hX10
  have hhHc := Hc.out.ext hX10
  have hhHP8 := HP8.out.ext hX10
  have hhHN8 := HN8.out.ext hX10
  have hhHq := Hq.out.ext hX10
  have hhHd := Hd.out.ext hX10
  have hhHP9 := HP9.out.ext hX10
  have hhHr := Hr.out.ext hX10
  clear HR0 Hn Hp HN5 Ha HN6 Hb HN7 Hc HP8 HN8 Hq Hd HP9 Hr
  have hXX := HX.out.trans hX10
  clear HX
  clear hA10 hX10 hE10 yp0 yp1 yp2 yq0 yq1 yq2
  have HRp := Lib.hid hhHRp
  clear hhHRp
  have HX := Lib.hid hXX
  clear hXX
  have HR0 := Lib.hid hhHR0
  clear hhHR0
  have Hn := Lib.hid hhHn
  clear hhHn
  have Hp := Lib.hid hhHp
  clear hhHp
  have HN5 := Lib.hid hhHN5
  clear hhHN5
  have Ha := Lib.hid hhHa
  clear hhHa
  have HN6 := Lib.hid hhHN6
  clear hhHN6
  have Hb := Lib.hid hhHb
  clear hhHb
  have HN7 := Lib.hid hhHN7
  clear hhHN7
  have Hc := Lib.hid hhHc
  clear hhHc
  have HP8 := Lib.hid hhHP8
  clear hhHP8
  have HN8 := Lib.hid hhHN8
  clear hhHN8
  have Hq := Lib.hid hhHq
  clear hhHq
  have Hd := Lib.hid hhHd
  clear hhHd
  have HP9 := Lib.hid hhHP9
  clear hhHP9
  have Hr := Lib.hid hhHr
  clear hhHr
  refine (samePacket_any ⟨1, 4, [7]⟩ ⟨1, 4, [7]⟩ _ _ _ HRp.out HP8.out).mono ?_
  rintro e v11 ⟨rfl, hE11⟩
  rw [sane10]
  have yr0 := (Hr.out.ext hE11).c0
  have yr1 := (Hr.out.ext hE11).c1
  have yr2 := (Hr.out.ext hE11).c2
  go_wp2_with fail
  have hA11 : Ext v11 v11 := (Ext.refl v11)
  have hX11 := hE11.trans hA11
  have hhHRp := HRp.out.ext hX11
  clear HRp
  have hhHR0 := HR0.out.ext hX11
  have hhHn := Hn.out.ext hX11
  have hhHp := Hp.out.ext hX11
  have hhHN5 := HN5.out.ext hX11
  have hhHa := Ha.out.ext hX11
  have hhHN6 := HN6.out.ext hX11
  have hhHb := Hb.out.ext hX11
  have hhHN7 := HN7.out.ext hX11
  have hhHc := Hc.out.ext hX11
  have hhHP8 := HP8.out.ext hX11
  have hhHN8 := HN8.out.ext hX11
  have hhHq := Hq.out.ext hX11
  have hhHd := Hd.out.ext hX11
  have hhHP9 := HP9.out.ext hX11
  have hhHr := Hr.out.ext hX11
  clear HR0 Hn Hp HN5 Ha HN6 Hb HN7 Hc HP8 HN8 Hq Hd HP9 Hr
  have hXX := HX.out.trans hX11
  clear HX
  clear hA11 hX11 hE11 yr0 yr1 yr2
  have HRp := Lib.hid hhHRp
  clear hhHRp
  have HX := Lib.hid hXX
  clear hXX
  have HR0 := Lib.hid hhHR0
  clear hhHR0
  have Hn := Lib.hid hhHn
  clear hhHn
  have Hp := Lib.hid hhHp
  clear hhHp
  have HN5 := Lib.hid hhHN5
  clear hhHN5
  have Ha := Lib.hid hhHa
  clear hhHa
  have HN6 := Lib.hid hhHN6
  clear hhHN6
  have Hb := Lib.hid hhHb
  clear hhHb
  have HN7 := Lib.hid hhHN7
  clear hhHN7
  have Hc := Lib.hid hhHc
  clear hhHc
  have HP8 := Lib.hid hhHP8
  clear hhHP8
  have HN8 := Lib.hid hhHN8
  clear hhHN8
  have Hq := Lib.hid hhHq
  clear hhHq
  have Hd := Lib.hid hhHd
  clear hhHd
  have HP9 := Lib.hid hhHP9
  clear hhHP9
  have Hr := Lib.hid hhHr
  clear hhHr
  refine (samePacket_any ⟨0, 0, []⟩ ⟨0, 0, []⟩ _ _ _ HP9.out (RepP.zero _)).mono ?_
  rintro e v12 ⟨rfl, hE12⟩
  rw [sane11]
  have yd0 := (Hd.out.ext hE12).c0
  have yd1 := (Hd.out.ext hE12).c1
  have ya0 := (Ha.out.ext hE12).c0
  have ya1 := (Ha.out.ext hE12).c1
  go_wp2_with fail
  have hA12 : Ext v12 v12 := (Ext.refl v12)
  have hX12 := hE12.trans hA12
  have hhHRp := HRp.out.ext hX12
  clear HRp
  have hhHR0 := HR0.out.ext hX12
  have hhHn := Hn.out.ext hX12
  have hhHp := Hp.out.ext hX12
  have hhHN5 := HN5.out.ext hX12
  have hhHa := Ha.out.ext hX12
  have hhHN6 := HN6.out.ext hX12
  have hhHb := Hb.out.ext hX12
  have hhHN7 := HN7.out.ext hX12
  have hhHc := Hc.out.ext hX12
  have hhHP8 := HP8.out.ext hX12
  have hhHN8 := HN8.out.ext hX12
  have hhHq := Hq.out.ext hX12
  have hhHd := Hd.out.ext hX12
  have hhHP9 := HP9.out.ext hX12
  have hhHr := Hr.out.ext hX12
  clear HR0 Hn Hp HN5 Ha HN6 Hb HN7 Hc HP8 HN8 Hq Hd HP9 Hr
  have hXX := HX.out.trans hX12
  clear HX
  clear hA12 hX12 hE12 yd0 yd1 ya0 ya1
  have HRp := Lib.hid hhHRp
  clear hhHRp
  have HX := Lib.hid hXX
  clear hXX
  have HR0 := Lib.hid hhHR0
  clear hhHR0
  have Hn := Lib.hid hhHn
  clear hhHn
  have Hp := Lib.hid hhHp
  clear hhHp
  have HN5 := Lib.hid hhHN5
  clear hhHN5
  have Ha := Lib.hid hhHa
  clear hhHa
  have HN6 := Lib.hid hhHN6
  clear hhHN6
  have Hb := Lib.hid hhHb
  clear hhHb
  have HN7 := Lib.hid hhHN7
  clear hhHN7
  have Hc := Lib.hid hhHc
  clear hhHc
  have HP8 := Lib.hid hhHP8
  clear hhHP8
  have HN8 := Lib.hid hhHN8
  clear hhHN8
  have Hq := Lib.hid hhHq
  clear hhHq
  have Hd := Lib.hid hhHd
  clear hhHd
  have HP9 := Lib.hid hhHP9
  clear hhHP9
  have Hr := Lib.hid hhHr
  clear hhHr
  refine (same_any ⟨[⟨1, 4, [7]⟩], []⟩ ⟨[⟨1, 4, [7]⟩], []⟩ _ _ _ HN8.out HN5.out).mono ?_
  rintro e v13 ⟨⟨bb, rfl, hbb⟩, hE13⟩
  obtain rfl : bb = true := hbb.2 rfl
  clear hbb
  obtain ⟨x0, x1, _⟩ := Hc.out.ext hE13
  obtain ⟨_, -, hA7, -, -⟩ := (HN7.out.ext hE13).parts
  obtain ⟨z0, z1⟩ := a_cells hA7 (Ext.refl _) (i := 0) (by simp)
  simp only [List.getElem_cons_zero, Nat.zero_mul, Nat.add_zero] at z0 z1
  obtain ⟨s1, hs1⟩ : ∃ s : Int, s = 1 := ⟨_, rfl⟩
  obtain ⟨s4, hs4⟩ : ∃ s : Int, s = 4 := ⟨_, rfl⟩
  have heq := eq2 s1 s4 1 4
  rw [show ((s1 == 1) && (s4 == 4)) = true by rw [hs1, hs4]; rfl] at heq
  rw [← hs1] at z0
  rw [← hs4] at z1
  clear hs1 hs4 hA7
  go_wp2_with fail
  go_ret
  exact ⟨rfl, HX.out.trans hE13⟩
end Go.Proofs.Ytdlahgmbilkdcaa
