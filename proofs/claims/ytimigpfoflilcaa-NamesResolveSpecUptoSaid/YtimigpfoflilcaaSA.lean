/- Names: the examples of the chapter. -/
import Derived.Test.YtimigpfoflilcaaSF
import Derived.Test.YtimigpfoflilcaaYZ
namespace Go.Sz
open Go.RowKit
def adN (g n : Nat) : Adr := ⟨some ⟨g, 0, none⟩, n, none, 0, none, 0, none, 0, none, 0, none, 0, none, 0⟩
/-- a catalogue of courses that were laid -/
theorem cat_new {W : World} {l : List Cr} {rows : List (List Value)} {n : Nat} (t : TypeId) (hn : l.length = n) (hl : rows.length = n) (hm : n ≤ 1000) (hr : ∀ (i : Nat) k c, l[i]? = some k → rows[i]? = some c → ∃ u v, c = k.head ++ u ++ v ∧ RepU W k.need u ∧ RepU W k.bar v ∧ k.ok) (hw : ∀ r ∈ rows, r.length = 16) : RepX (W.alloc (.cells rows.flatten.toArray t)) (adN W.heap.size n) (catC l) := by
  have hx : Ext W (W.alloc (.cells rows.flatten.toArray t)) := (Ext.refl W).alloc _
  refine ⟨⟨rows, sl_news W rows 16 n t hw hl (by omega), by rw [hl]; exact hn.symm, fun i k c h1 h2 => ?_⟩, SL.empty _ _, RepG.nil _, SL.empty _ _, SL.empty _ _, SL.empty _ _, SL.empty _ _⟩
  obtain ⟨u, v, e, hu, hv, ho⟩ := hr i k c h1 h2
  exact ⟨u, v, e, hu.ext hx, hv.ext hx, ho⟩
theorem catC_ok {l : List Cr} (h : l.length ≤ 1000) (hr : ∀ x ∈ l, x.need.parts.length ≤ 100000 ∧ x.bar.parts.length ≤ 100000) (hs : ∀ x ∈ l, x.nm.size ≤ maxLen) : (catC l).Ok :=
  ⟨h, Nat.zero_le _, Nat.zero_le _, Nat.zero_le _, Nat.zero_le _, Nat.zero_le _, (fun _ h => by cases h), hr, hs, (fun _ h => by cases h), (fun _ h => by cases h), (fun _ h => by cases h), fun _ h => by cases h⟩
theorem cempty_ok : Cat.empty.Ok := catC_ok (l := []) (Nat.zero_le _) (fun _ h => by cases h) fun _ h => by cases h
theorem crk (nm : ByteArray) (nu : Int) (ns : List ByteArray) (h : inI64 nu) : (courseN nm nu ns).ok := ⟨h, (⟨by decide, by decide⟩ : inI64 4), (⟨by decide, by decide⟩ : inI64 0)⟩
end Go.Sz
namespace Go.Proofs.Ytimigpfoflilcaa
open Go.RowKit Go.Sz
/-- course at a known result -/
theorem co1_as (nm x : ByteArray) (nu : Int) (ao : Option Addr) (cap : Nat) (w : World) (h : SL w 1 ao cap (srows [x])) : Calls Try.prog 25 #[.string nm, .int .i64 nu, .slice ao 1 cap] w fun e w' => ∃ a n b m, e = .returned (.agg #[.string nm, .int .i64 nu, .int .i64 4, .int .i64 0, .int .i64 1, .int .i64 0, .string ⟨#[]⟩, .int .i64 0, .int .i64 0, .slice a 1 n, .int .i64 2, .int .i64 0, .string ⟨#[]⟩, .int .i64 0, .int .i64 0, .slice b 0 m]) ∧ RepU w' (courseN nm nu [x]).need ((courseN nm nu [x]).need.cells a n) ∧ RepU w' (courseN nm nu [x]).bar ((courseN nm nu [x]).bar.cells b m) ∧ Ext w w' := course_any nm nu [x] (by simp) ao cap w h
theorem co0_as (nm : ByteArray) (nu : Int) (w : World) : Calls Try.prog 25 #[.string nm, .int .i64 nu, .slice none 0 0] w fun e w' => ∃ a n b m, e = .returned (.agg #[.string nm, .int .i64 nu, .int .i64 4, .int .i64 0, .int .i64 1, .int .i64 0, .string ⟨#[]⟩, .int .i64 0, .int .i64 0, .slice a 0 n, .int .i64 2, .int .i64 0, .string ⟨#[]⟩, .int .i64 0, .int .i64 0, .slice b 0 m]) ∧ RepU w' (courseN nm nu []).need ((courseN nm nu []).need.cells a n) ∧ RepU w' (courseN nm nu []).bar ((courseN nm nu []).bar.cells b m) ∧ Ext w w' := course_any nm nu [] (by decide) none 0 w (SL.empty _ _)
/-- Resolve at a known error -/
theorem re_err {c : Cat} {x : Int} (hc : c.resN = (x, .empty)) (hk : c.Ok) (d : Adr) (w : World) (hX : RepX w d c) : Calls Try.prog 12 #[.agg (c.cells d).toArray] w fun e w' => ∃ g : Adr, e = .returned (.tuple #[.agg #[.slice g.a0 0 g.k0, .slice g.a1 0 g.k1, .slice g.a2 0 g.k2, .slice g.a3 0 g.k3, .slice g.a4 0 g.k4, .slice g.a5 0 g.k5, .slice g.a6 0 g.k6], .int .i64 x]) ∧ RepX w' g .empty ∧ Ext w w' := by
  refine (resolve_any c hk d w hX).mono ?_
  rintro e w' ⟨g, rfl, hR, hE⟩
  rw [hc] at hR
  rw [hc]
  exact ⟨g, rfl, hR, hE⟩
theorem re_ok (d : Adr) (w : World) (hX : RepX w d (catC [crB, crA])) (hk : (catC [crB, crA]).Ok) : Calls Try.prog 12 #[.agg ((catC [crB, crA]).cells d).toArray] w fun e w' => ∃ g : Adr, e = .returned (.tuple #[.agg #[.slice g.a0 2 g.k0, .slice g.a1 0 g.k1, .slice g.a2 0 g.k2, .slice g.a3 0 g.k3, .slice g.a4 0 g.k4, .slice g.a5 0 g.k5, .slice g.a6 0 g.k6], .int .i64 0]) ∧ RepX w' g (catC [crB', crA]) ∧ Ext w w' := by
  refine (resolve_any _ hk d w hX).mono ?_
  rintro e w' ⟨g, rfl, hR, hE⟩
  rw [sf_res1] at hR
  rw [sf_res1]
  exact ⟨g, rfl, hR, hE⟩
theorem or_as (ao : Option Addr) (cap : Nat) (v1 v2 v3 v4 v5 v6 : Value) (w : World) (h : RepC w ao cap [crB, crA]) : Calls Try.prog 17 #[.agg #[.slice ao 2 cap, v1, v2, v3, v4, v5, v6]] w fun e w' => ∃ oa oc, e = .returned (.tuple #[.slice oa 2 oc, .int .i64 0]) ∧ SL w' 1 oa oc (irows [17, 18]) ∧ Ext w w' := by
  have := order_any [crB, crA] (by decide) ao cap v1 v2 v3 v4 v5 v6 w h
  rw [sf_ord.1, sf_ord.2] at this
  exact this
theorem or0_as (ao : Option Addr) (cap : Nat) (v1 v2 v3 v4 v5 v6 : Value) (w : World) (h : RepC w ao cap []) : Calls Try.prog 17 #[.agg #[.slice ao 0 cap, v1, v2, v3, v4, v5, v6]] w fun e w' => ∃ oa oc, e = .returned (.tuple #[.slice oa 0 oc, .int .i64 0]) ∧ SL w' 1 oa oc (irows []) ∧ Ext w w' := by
  have := order_any [] (by decide) ao cap v1 v2 v3 v4 v5 v6 w h
  rw [sf_ord0.1, sf_ord0.2] at this
  exact this
theorem cy_as (ao : Option Addr) (cap : Nat) (v1 v2 v3 v4 v5 v6 : Value) (w : World) (h : RepC w ao cap [crB, crA]) : Calls Try.prog 20 #[.agg #[.slice ao 2 cap, v1, v2, v3, v4, v5, v6]] w fun e w' => ∃ oa oc, e = .returned (.slice oa 0 oc) ∧ SL w' 1 oa oc (irows []) ∧ Ext w w' := by
  have := cycle_any [crB, crA] (by decide) ao cap v1 v2 v3 v4 v5 v6 w h
  rw [sf_cyc] at this
  exact this
theorem cyS_as (ao : Option Addr) (cap : Nat) (v1 v2 v3 v4 v5 v6 : Value) (w : World) (h : RepC w ao cap [crS]) : Calls Try.prog 20 #[.agg #[.slice ao 1 cap, v1, v2, v3, v4, v5, v6]] w fun e w' => ∃ oa oc, e = .returned (.slice oa 1 oc) ∧ SL w' 1 oa oc (irows [17]) ∧ Ext w w' := by
  have := cycle_any [crS] (by decide) ao cap v1 v2 v3 v4 v5 v6 w h
  rw [sf_cycS] at this
  exact this
set_option maxRecDepth 1000000 in
set_option maxHeartbeats 12800000 in
theorem sane_any (w : World) : Calls Try.prog 10 #[] w fun e w' => e = .returned (.bool true) ∧ Ext w w' := by
  have HX := Lib.hid (Ext.refl w)
  go_enter Try.func10, Try.ntmps10
  go_wp2_with fail
  refine (co1_as bB bA 18 (some ⟨w.heap.size, 0, none⟩) 1 _ (sl_new w [.string bA] 1 9 rfl)).mono ?_
  rintro e w1 ⟨a1, n1, b1, m1, rfl, hu1, hv1, hE⟩
  have hX : Ext w w1 := ((Ext.refl _).alloc _).trans hE
  have HX := Lib.hid (HX.out.trans hX)
  have HU1 := Lib.hid (hu1)
  have HV1 := Lib.hid (hv1)
  clear hE hX hu1 hv1
  go_wp2_with fail
  refine (co0_as bA 17 _).mono ?_
  rintro e w2 ⟨a2, n2, b2, m2, rfl, hu2, hv2, hE⟩
  have hX : Ext w1 w2 := (Ext.refl _).trans hE
  have HX := Lib.hid (HX.out.trans hX)
  have HU1 := Lib.hid (HU1.out.ext hX)
  have HV1 := Lib.hid (HV1.out.ext hX)
  have HU2 := Lib.hid (hu2)
  have HV2 := Lib.hid (hv2)
  clear hE hX hu2 hv2
  go_wp2_with fail
  have hc1 := cat_new (W := w2) (l := [crB, crA]) (rows := [[.string bB, .int .i64 18, .int .i64 4, .int .i64 0, .int .i64 1, .int .i64 0, .string ⟨#[]⟩, .int .i64 0, .int .i64 0, .slice a1 1 n1, .int .i64 2, .int .i64 0, .string ⟨#[]⟩, .int .i64 0, .int .i64 0, .slice b1 0 m1], [.string bA, .int .i64 17, .int .i64 4, .int .i64 0, .int .i64 1, .int .i64 0, .string ⟨#[]⟩, .int .i64 0, .int .i64 0, .slice a2 0 n2, .int .i64 2, .int .i64 0, .string ⟨#[]⟩, .int .i64 0, .int .i64 0, .slice b2 0 m2]]) (n := 2) 41 rfl rfl (by decide) (fun i k c h1 h2 => by match i, h1, h2 with | 0, h1, h2 => cases h1; cases h2; exact ⟨_, _, rfl, HU1.out, HV1.out, crk _ _ _ ⟨by decide, by decide⟩⟩ | 1, h1, h2 => cases h1; cases h2; exact ⟨_, _, rfl, HU2.out, HV2.out, crk _ _ _ ⟨by decide, by decide⟩⟩ | i + 2, h1, h2 => simp at h1) (fun r hr => by simp only [List.mem_cons, List.not_mem_nil, or_false] at hr; rcases hr with rfl | rfl <;> rfl)
  refine (re_ok (adN w2.heap.size 2) _ (hc1.ext ((Ext.refl _).alloc _)) (catC_ok (by decide) (fun x hx => by simp only [List.mem_cons, List.not_mem_nil, or_false] at hx; rcases hx with rfl | rfl <;> decide) (fun x hx => by simp only [List.mem_cons, List.not_mem_nil, or_false] at hx; rcases hx with rfl | rfl <;> decide))).mono ?_
  rintro e w3 ⟨g3, rfl, hr3, hE⟩
  have hX : Ext w2 w3 := (((Ext.refl _).alloc _).alloc _).trans hE
  have HX := Lib.hid (HX.out.trans hX)
  have HU1 := Lib.hid (HU1.out.ext hX)
  have HV1 := Lib.hid (HV1.out.ext hX)
  have HU2 := Lib.hid (HU2.out.ext hX)
  have HV2 := Lib.hid (HV2.out.ext hX)
  have HC1 := Lib.hid ((hc1.ext ((Ext.refl _).alloc _)).ext hE)
  have HT1 := Lib.hid ((show Row ((w2.alloc (.cells #[.string bB, .int .i64 18, .int .i64 4, .int .i64 0, .int .i64 1, .int .i64 0, .string ⟨#[]⟩, .int .i64 0, .int .i64 0, .slice a1 1 n1, .int .i64 2, .int .i64 0, .string ⟨#[]⟩, .int .i64 0, .int .i64 0, .slice b1 0 m1, .string bA, .int .i64 17, .int .i64 4, .int .i64 0, .int .i64 1, .int .i64 0, .string ⟨#[]⟩, .int .i64 0, .int .i64 0, .slice a2 0 n2, .int .i64 2, .int .i64 0, .string ⟨#[]⟩, .int .i64 0, .int .i64 0, .slice b2 0 m2] 41)).alloc (.cells #[.slice (some ⟨w2.heap.size, 0, none⟩) 2 2, .slice none 0 0, .slice none 0 0, .slice none 0 0, .slice none 0 0, .slice none 0 0, .slice none 0 0] 29)) (w2.heap.size + 1) 29 [.slice (some ⟨w2.heap.size, 0, none⟩) 2 2, .slice none 0 0, .slice none 0 0, .slice none 0 0, .slice none 0 0, .slice none 0 0, .slice none 0 0] from by unfold Row; simp only [heap_al, World.size_alloc]; all_goals (repeat rw [if_neg (by omega)]); all_goals rfl).kpC hE.kpC)
  have HR3 := Lib.hid (hr3)
  clear hE hX hr3 hc1
  go_wp2_with fail
  refine (co0_as bA 17 _).mono ?_
  rintro e w4 ⟨a4, n4, b4, m4, rfl, hu4, hv4, hE⟩
  have hX : Ext w3 w4 := ((Ext.refl _).alloc _).trans hE
  have HX := Lib.hid (HX.out.trans hX)
  have HU1 := Lib.hid (HU1.out.ext hX)
  have HV1 := Lib.hid (HV1.out.ext hX)
  have HU2 := Lib.hid (HU2.out.ext hX)
  have HV2 := Lib.hid (HV2.out.ext hX)
  have HC1 := Lib.hid (HC1.out.ext hX)
  have HT1 := Lib.hid (HT1.out.kpC hX.kpC)
  have HR3 := Lib.hid (HR3.out.ext hX)
  have HT2 := Lib.hid ((show Row (w3.alloc (.cells #[.slice g3.a0 2 g3.k0, .slice g3.a1 0 g3.k1, .slice g3.a2 0 g3.k2, .slice g3.a3 0 g3.k3, .slice g3.a4 0 g3.k4, .slice g3.a5 0 g3.k5, .slice g3.a6 0 g3.k6] 29)) w3.heap.size 29 [.slice g3.a0 2 g3.k0, .slice g3.a1 0 g3.k1, .slice g3.a2 0 g3.k2, .slice g3.a3 0 g3.k3, .slice g3.a4 0 g3.k4, .slice g3.a5 0 g3.k5, .slice g3.a6 0 g3.k6] from by unfold Row; simp only [heap_al]; all_goals (repeat rw [if_neg (by omega)]); all_goals rfl).kpC hE.kpC)
  have HU4 := Lib.hid (hu4)
  have HV4 := Lib.hid (hv4)
  clear hE hX hu4 hv4
  go_wp2_with fail
  refine (co0_as bB 17 _).mono ?_
  rintro e w5 ⟨a5, n5, b5, m5, rfl, hu5, hv5, hE⟩
  have hX : Ext w4 w5 := (Ext.refl _).trans hE
  have HX := Lib.hid (HX.out.trans hX)
  have HU1 := Lib.hid (HU1.out.ext hX)
  have HV1 := Lib.hid (HV1.out.ext hX)
  have HU2 := Lib.hid (HU2.out.ext hX)
  have HV2 := Lib.hid (HV2.out.ext hX)
  have HC1 := Lib.hid (HC1.out.ext hX)
  have HT1 := Lib.hid (HT1.out.kpC hX.kpC)
  have HR3 := Lib.hid (HR3.out.ext hX)
  have HT2 := Lib.hid (HT2.out.kpC hX.kpC)
  have HU4 := Lib.hid (HU4.out.ext hX)
  have HV4 := Lib.hid (HV4.out.ext hX)
  have HU5 := Lib.hid (hu5)
  have HV5 := Lib.hid (hv5)
  clear hE hX hu5 hv5
  go_wp2_with fail
  have hc2 := cat_new (W := w5) (l := [courseN bA 17 [], courseN bB 17 []]) (rows := [[.string bA, .int .i64 17, .int .i64 4, .int .i64 0, .int .i64 1, .int .i64 0, .string ⟨#[]⟩, .int .i64 0, .int .i64 0, .slice a4 0 n4, .int .i64 2, .int .i64 0, .string ⟨#[]⟩, .int .i64 0, .int .i64 0, .slice b4 0 m4], [.string bB, .int .i64 17, .int .i64 4, .int .i64 0, .int .i64 1, .int .i64 0, .string ⟨#[]⟩, .int .i64 0, .int .i64 0, .slice a5 0 n5, .int .i64 2, .int .i64 0, .string ⟨#[]⟩, .int .i64 0, .int .i64 0, .slice b5 0 m5]]) (n := 2) 41 rfl rfl (by decide) (fun i k c h1 h2 => by match i, h1, h2 with | 0, h1, h2 => cases h1; cases h2; exact ⟨_, _, rfl, HU4.out, HV4.out, crk _ _ _ ⟨by decide, by decide⟩⟩ | 1, h1, h2 => cases h1; cases h2; exact ⟨_, _, rfl, HU5.out, HV5.out, crk _ _ _ ⟨by decide, by decide⟩⟩ | i + 2, h1, h2 => simp at h1) (fun r hr => by simp only [List.mem_cons, List.not_mem_nil, or_false] at hr; rcases hr with rfl | rfl <;> rfl)
  refine (re_err sf_res2 (catC_ok (by decide) (fun x hx => by simp only [List.mem_cons, List.not_mem_nil, or_false] at hx; rcases hx with rfl | rfl <;> decide) (fun x hx => by simp only [List.mem_cons, List.not_mem_nil, or_false] at hx; rcases hx with rfl | rfl <;> decide)) (adN w5.heap.size 2) _ hc2).mono ?_
  rintro e w6 ⟨g6, rfl, hr6, hE⟩
  have hX : Ext w5 w6 := ((Ext.refl _).alloc _).trans hE
  have HX := Lib.hid (HX.out.trans hX)
  have HU1 := Lib.hid (HU1.out.ext hX)
  have HV1 := Lib.hid (HV1.out.ext hX)
  have HU2 := Lib.hid (HU2.out.ext hX)
  have HV2 := Lib.hid (HV2.out.ext hX)
  have HC1 := Lib.hid (HC1.out.ext hX)
  have HT1 := Lib.hid (HT1.out.kpC hX.kpC)
  have HR3 := Lib.hid (HR3.out.ext hX)
  have HT2 := Lib.hid (HT2.out.kpC hX.kpC)
  have HU4 := Lib.hid (HU4.out.ext hX)
  have HV4 := Lib.hid (HV4.out.ext hX)
  have HU5 := Lib.hid (HU5.out.ext hX)
  have HV5 := Lib.hid (HV5.out.ext hX)
  clear hE hX hr6 hc2
  go_wp2_with fail
  refine (co0_as bA 17 _).mono ?_
  rintro e w7 ⟨a7, n7, b7, m7, rfl, hu7, hv7, hE⟩
  have hX : Ext w6 w7 := ((Ext.refl _).alloc _).trans hE
  have HX := Lib.hid (HX.out.trans hX)
  have HU1 := Lib.hid (HU1.out.ext hX)
  have HV1 := Lib.hid (HV1.out.ext hX)
  have HU2 := Lib.hid (HU2.out.ext hX)
  have HV2 := Lib.hid (HV2.out.ext hX)
  have HC1 := Lib.hid (HC1.out.ext hX)
  have HT1 := Lib.hid (HT1.out.kpC hX.kpC)
  have HR3 := Lib.hid (HR3.out.ext hX)
  have HT2 := Lib.hid (HT2.out.kpC hX.kpC)
  have HU4 := Lib.hid (HU4.out.ext hX)
  have HV4 := Lib.hid (HV4.out.ext hX)
  have HU5 := Lib.hid (HU5.out.ext hX)
  have HV5 := Lib.hid (HV5.out.ext hX)
  have HU7 := Lib.hid (hu7)
  have HV7 := Lib.hid (hv7)
  clear hE hX hu7 hv7
  go_wp2_with fail
  have hk7 : SL ((w7.alloc (.cells #[.string bA, .int .i64 17, .int .i64 4, .int .i64 0, .int .i64 1, .int .i64 0, .string ⟨#[]⟩, .int .i64 0, .int .i64 0, .slice a7 0 n7, .int .i64 2, .int .i64 0, .string ⟨#[]⟩, .int .i64 0, .int .i64 0, .slice (some ⟨w7.heap.size + 1, 0, none⟩) 1 1] 41)).alloc (.cells #[.int .i64 9, .int .i64 0, .string ⟨#[90]⟩, .int .i64 0, .int .i64 0, .slice none 0 0] 39)) 6 (some ⟨w7.heap.size + 1, 0, none⟩) 1 [[.int .i64 9, .int .i64 0, .string ⟨#[90]⟩, .int .i64 0, .int .i64 0, .slice none 0 0]] := by
    have h := sl_new (w7.alloc (.cells #[.string bA, .int .i64 17, .int .i64 4, .int .i64 0, .int .i64 1, .int .i64 0, .string ⟨#[]⟩, .int .i64 0, .int .i64 0, .slice a7 0 n7, .int .i64 2, .int .i64 0, .string ⟨#[]⟩, .int .i64 0, .int .i64 0, .slice (some ⟨w7.heap.size + 1, 0, none⟩) 1 1] 41)) [.int .i64 9, .int .i64 0, .string ⟨#[90]⟩, .int .i64 0, .int .i64 0, .slice none 0 0] 6 39 rfl
    rw [show (w7.alloc (.cells #[.string bA, .int .i64 17, .int .i64 4, .int .i64 0, .int .i64 1, .int .i64 0, .string ⟨#[]⟩, .int .i64 0, .int .i64 0, .slice a7 0 n7, .int .i64 2, .int .i64 0, .string ⟨#[]⟩, .int .i64 0, .int .i64 0, .slice (some ⟨w7.heap.size + 1, 0, none⟩) 1 1] 41)).heap.size = w7.heap.size + 1 from by simp] at h
    exact h
  have hb7 : RepU ((w7.alloc (.cells #[.string bA, .int .i64 17, .int .i64 4, .int .i64 0, .int .i64 1, .int .i64 0, .string ⟨#[]⟩, .int .i64 0, .int .i64 0, .slice a7 0 n7, .int .i64 2, .int .i64 0, .string ⟨#[]⟩, .int .i64 0, .int .i64 0, .slice (some ⟨w7.heap.size + 1, 0, none⟩) 1 1] 41)).alloc (.cells #[.int .i64 9, .int .i64 0, .string ⟨#[90]⟩, .int .i64 0, .int .i64 0, .slice none 0 0] 39)) crA'.bar (crA'.bar.cells (some ⟨w7.heap.size + 1, 0, none⟩) 1) := RepU.of ⟨[[.int .i64 9, .int .i64 0, .string ⟨#[90]⟩, .int .i64 0, .int .i64 0, .slice none 0 0]], hk7, rfl, fun i k c h1 h2 => by match i, h1, h2 with | 0, h1, h2 => cases h1; cases h2; exact RepU.of (r := .mk 9 0 bZ 0 0 []) (ao := none) (cap := 0) repR_nil ⟨(⟨by decide, by decide⟩ : inI64 9), (⟨by decide, by decide⟩ : inI64 0), (⟨by decide, by decide⟩ : inI64 0), (⟨by decide, by decide⟩ : inI64 0)⟩ | i + 1, h1, h2 => simp at h2⟩ ⟨(⟨by decide, by decide⟩ : inI64 2), (⟨by decide, by decide⟩ : inI64 0), (⟨by decide, by decide⟩ : inI64 0), (⟨by decide, by decide⟩ : inI64 0)⟩
  have hc3 : RepX (((w7.alloc (.cells #[.string bA, .int .i64 17, .int .i64 4, .int .i64 0, .int .i64 1, .int .i64 0, .string ⟨#[]⟩, .int .i64 0, .int .i64 0, .slice a7 0 n7, .int .i64 2, .int .i64 0, .string ⟨#[]⟩, .int .i64 0, .int .i64 0, .slice (some ⟨w7.heap.size + 1, 0, none⟩) 1 1] 41)).alloc (.cells #[.int .i64 9, .int .i64 0, .string ⟨#[90]⟩, .int .i64 0, .int .i64 0, .slice none 0 0] 39)).alloc (.cells #[.string bA, .int .i64 17, .int .i64 4, .int .i64 0, .int .i64 1, .int .i64 0, .string ⟨#[]⟩, .int .i64 0, .int .i64 0, .slice a7 0 n7, .int .i64 2, .int .i64 0, .string ⟨#[]⟩, .int .i64 0, .int .i64 0, .slice (some ⟨w7.heap.size + 1, 0, none⟩) 1 1] 41)) (adN (w7.heap.size + 1 + 1) 1) (catC [crA']) := by
    have h := cat_new (W := ((w7.alloc (.cells #[.string bA, .int .i64 17, .int .i64 4, .int .i64 0, .int .i64 1, .int .i64 0, .string ⟨#[]⟩, .int .i64 0, .int .i64 0, .slice a7 0 n7, .int .i64 2, .int .i64 0, .string ⟨#[]⟩, .int .i64 0, .int .i64 0, .slice (some ⟨w7.heap.size + 1, 0, none⟩) 1 1] 41)).alloc (.cells #[.int .i64 9, .int .i64 0, .string ⟨#[90]⟩, .int .i64 0, .int .i64 0, .slice none 0 0] 39))) (l := [crA']) (rows := [[.string bA, .int .i64 17, .int .i64 4, .int .i64 0, .int .i64 1, .int .i64 0, .string ⟨#[]⟩, .int .i64 0, .int .i64 0, .slice a7 0 n7, .int .i64 2, .int .i64 0, .string ⟨#[]⟩, .int .i64 0, .int .i64 0, .slice (some ⟨w7.heap.size + 1, 0, none⟩) 1 1]]) (n := 1) 41 rfl rfl (by decide) (fun i k c h1 h2 => by match i, h1, h2 with | 0, h1, h2 => cases h1; cases h2; exact ⟨_, _, rfl, HU7.out.ext (((Ext.refl _).alloc _).alloc _), hb7, ⟨(⟨by decide, by decide⟩ : inI64 17), (⟨by decide, by decide⟩ : inI64 4), (⟨by decide, by decide⟩ : inI64 0)⟩⟩ | i + 1, h1, h2 => simp at h1) (fun r hr => by simp only [List.mem_cons, List.not_mem_nil, or_false] at hr; subst hr <;> rfl)
    rw [show ((w7.alloc (.cells #[.string bA, .int .i64 17, .int .i64 4, .int .i64 0, .int .i64 1, .int .i64 0, .string ⟨#[]⟩, .int .i64 0, .int .i64 0, .slice a7 0 n7, .int .i64 2, .int .i64 0, .string ⟨#[]⟩, .int .i64 0, .int .i64 0, .slice (some ⟨w7.heap.size + 1, 0, none⟩) 1 1] 41)).alloc (.cells #[.int .i64 9, .int .i64 0, .string ⟨#[90]⟩, .int .i64 0, .int .i64 0, .slice none 0 0] 39)).heap.size = w7.heap.size + 1 + 1 from by simp] at h
    exact h
  refine (re_err sf_res3 (catC_ok (by decide) (fun x hx => by simp only [List.mem_cons, List.not_mem_nil, or_false] at hx; subst hx; decide) (fun x hx => by simp only [List.mem_cons, List.not_mem_nil, or_false] at hx; subst hx; decide)) (adN (w7.heap.size + 1 + 1) 1) _ hc3).mono ?_
  rintro e w8 ⟨g8, rfl, hr8, hE⟩
  have hX : Ext w7 w8 := ((((Ext.refl _).alloc _).alloc _).alloc _).trans hE
  have HX := Lib.hid (HX.out.trans hX)
  have HU1 := Lib.hid (HU1.out.ext hX)
  have HV1 := Lib.hid (HV1.out.ext hX)
  have HU2 := Lib.hid (HU2.out.ext hX)
  have HV2 := Lib.hid (HV2.out.ext hX)
  have HC1 := Lib.hid (HC1.out.ext hX)
  have HT1 := Lib.hid (HT1.out.kpC hX.kpC)
  have HR3 := Lib.hid (HR3.out.ext hX)
  have HT2 := Lib.hid (HT2.out.kpC hX.kpC)
  have HU4 := Lib.hid (HU4.out.ext hX)
  have HV4 := Lib.hid (HV4.out.ext hX)
  have HU5 := Lib.hid (HU5.out.ext hX)
  have HV5 := Lib.hid (HV5.out.ext hX)
  have HU7 := Lib.hid (HU7.out.ext hX)
  have HV7 := Lib.hid (HV7.out.ext hX)
  clear hE hX hr8 hc3 hk7 hb7
  go_wp2_with fail
  have hs8 : SL ((w8.alloc (.cells #[.slice g8.a0 0 g8.k0, .slice g8.a1 0 g8.k1, .slice g8.a2 0 g8.k2, .slice g8.a3 0 g8.k3, .slice g8.a4 0 g8.k4, .slice g8.a5 0 g8.k5, .slice g8.a6 0 g8.k6] 29)).alloc (.cells #[.string ⟨#[65]⟩] 9)) 1 (some ⟨w8.heap.size + 1, 0, none⟩) 1 (srows [bA]) := by
    have h := sl_new (w8.alloc (.cells #[.slice g8.a0 0 g8.k0, .slice g8.a1 0 g8.k1, .slice g8.a2 0 g8.k2, .slice g8.a3 0 g8.k3, .slice g8.a4 0 g8.k4, .slice g8.a5 0 g8.k5, .slice g8.a6 0 g8.k6] 29)) [.string bA] 1 9 rfl
    rw [show (w8.alloc (.cells #[.slice g8.a0 0 g8.k0, .slice g8.a1 0 g8.k1, .slice g8.a2 0 g8.k2, .slice g8.a3 0 g8.k3, .slice g8.a4 0 g8.k4, .slice g8.a5 0 g8.k5, .slice g8.a6 0 g8.k6] 29)).heap.size = w8.heap.size + 1 from by simp] at h
    exact h
  refine (co1_as bA bA 17 (some ⟨w8.heap.size + 1, 0, none⟩) 1 _ hs8).mono ?_
  rintro e w9 ⟨a9, n9, b9, m9, rfl, hu9, hv9, hE⟩
  have hX : Ext w8 w9 := (((Ext.refl _).alloc _).alloc _).trans hE
  have HX := Lib.hid (HX.out.trans hX)
  have HU1 := Lib.hid (HU1.out.ext hX)
  have HV1 := Lib.hid (HV1.out.ext hX)
  have HU2 := Lib.hid (HU2.out.ext hX)
  have HV2 := Lib.hid (HV2.out.ext hX)
  have HC1 := Lib.hid (HC1.out.ext hX)
  have HT1 := Lib.hid (HT1.out.kpC hX.kpC)
  have HR3 := Lib.hid (HR3.out.ext hX)
  have HT2 := Lib.hid (HT2.out.kpC hX.kpC)
  have HU4 := Lib.hid (HU4.out.ext hX)
  have HV4 := Lib.hid (HV4.out.ext hX)
  have HU5 := Lib.hid (HU5.out.ext hX)
  have HV5 := Lib.hid (HV5.out.ext hX)
  have HU7 := Lib.hid (HU7.out.ext hX)
  have HV7 := Lib.hid (HV7.out.ext hX)
  have HU9 := Lib.hid (hu9)
  have HV9 := Lib.hid (hv9)
  clear hE hX hu9 hv9 hs8
  go_wp2_with fail
  have hc4 := cat_new (W := w9) (l := [crS]) (rows := [[.string bA, .int .i64 17, .int .i64 4, .int .i64 0, .int .i64 1, .int .i64 0, .string ⟨#[]⟩, .int .i64 0, .int .i64 0, .slice a9 1 n9, .int .i64 2, .int .i64 0, .string ⟨#[]⟩, .int .i64 0, .int .i64 0, .slice b9 0 m9]]) (n := 1) 41 rfl rfl (by decide) (fun i k c h1 h2 => by match i, h1, h2 with | 0, h1, h2 => cases h1; cases h2; exact ⟨_, _, rfl, HU9.out, HV9.out, crk _ _ _ ⟨by decide, by decide⟩⟩ | i + 1, h1, h2 => simp at h1) (fun r hr => by simp only [List.mem_cons, List.not_mem_nil, or_false] at hr; subst hr <;> rfl)
  refine (re_err sf_res4 (catC_ok (by decide) (fun x hx => by simp only [List.mem_cons, List.not_mem_nil, or_false] at hx; subst hx; decide) (fun x hx => by simp only [List.mem_cons, List.not_mem_nil, or_false] at hx; subst hx; decide)) (adN w9.heap.size 1) _ (hc4.ext ((Ext.refl _).alloc _))).mono ?_
  rintro e w10 ⟨g10, rfl, hr10, hE⟩
  have hX : Ext w9 w10 := (((Ext.refl _).alloc _).alloc _).trans hE
  have HX := Lib.hid (HX.out.trans hX)
  have HU1 := Lib.hid (HU1.out.ext hX)
  have HV1 := Lib.hid (HV1.out.ext hX)
  have HU2 := Lib.hid (HU2.out.ext hX)
  have HV2 := Lib.hid (HV2.out.ext hX)
  have HC1 := Lib.hid (HC1.out.ext hX)
  have HT1 := Lib.hid (HT1.out.kpC hX.kpC)
  have HR3 := Lib.hid (HR3.out.ext hX)
  have HT2 := Lib.hid (HT2.out.kpC hX.kpC)
  have HU4 := Lib.hid (HU4.out.ext hX)
  have HV4 := Lib.hid (HV4.out.ext hX)
  have HU5 := Lib.hid (HU5.out.ext hX)
  have HV5 := Lib.hid (HV5.out.ext hX)
  have HU7 := Lib.hid (HU7.out.ext hX)
  have HV7 := Lib.hid (HV7.out.ext hX)
  have HU9 := Lib.hid (HU9.out.ext hX)
  have HV9 := Lib.hid (HV9.out.ext hX)
  have HC4 := Lib.hid ((hc4.ext ((Ext.refl _).alloc _)).ext hE)
  have HT9 := Lib.hid ((show Row ((w9.alloc (.cells #[.string bA, .int .i64 17, .int .i64 4, .int .i64 0, .int .i64 1, .int .i64 0, .string ⟨#[]⟩, .int .i64 0, .int .i64 0, .slice a9 1 n9, .int .i64 2, .int .i64 0, .string ⟨#[]⟩, .int .i64 0, .int .i64 0, .slice b9 0 m9] 41)).alloc (.cells #[.slice (some ⟨w9.heap.size, 0, none⟩) 1 1, .slice none 0 0, .slice none 0 0, .slice none 0 0, .slice none 0 0, .slice none 0 0, .slice none 0 0] 29)) (w9.heap.size + 1) 29 [.slice (some ⟨w9.heap.size, 0, none⟩) 1 1, .slice none 0 0, .slice none 0 0, .slice none 0 0, .slice none 0 0, .slice none 0 0, .slice none 0 0] from by unfold Row; simp only [heap_al, World.size_alloc]; all_goals (repeat rw [if_neg (by omega)]); all_goals rfl).kpC hE.kpC)
  clear hE hX hr10 hc4
  go_wp2_with fail
  refine (re_err sf_res0 cempty_ok Adr.nil _ (RepX.nil _)).mono ?_
  rintro e w11 ⟨g11, rfl, hr11, hE⟩
  have hX : Ext w10 w11 := ((Ext.refl _).alloc _).trans hE
  have HX := Lib.hid (HX.out.trans hX)
  have HU1 := Lib.hid (HU1.out.ext hX)
  have HV1 := Lib.hid (HV1.out.ext hX)
  have HU2 := Lib.hid (HU2.out.ext hX)
  have HV2 := Lib.hid (HV2.out.ext hX)
  have HC1 := Lib.hid (HC1.out.ext hX)
  have HT1 := Lib.hid (HT1.out.kpC hX.kpC)
  have HR3 := Lib.hid (HR3.out.ext hX)
  have HT2 := Lib.hid (HT2.out.kpC hX.kpC)
  have HU4 := Lib.hid (HU4.out.ext hX)
  have HV4 := Lib.hid (HV4.out.ext hX)
  have HU5 := Lib.hid (HU5.out.ext hX)
  have HV5 := Lib.hid (HV5.out.ext hX)
  have HU7 := Lib.hid (HU7.out.ext hX)
  have HV7 := Lib.hid (HV7.out.ext hX)
  have HU9 := Lib.hid (HU9.out.ext hX)
  have HV9 := Lib.hid (HV9.out.ext hX)
  have HC4 := Lib.hid (HC4.out.ext hX)
  have HT9 := Lib.hid (HT9.out.kpC hX.kpC)
  have HR11 := Lib.hid (hr11)
  clear hr11
  clear hE hX
  have t0 : (w11.alloc (.cells #[.slice g11.a0 0 g11.k0, .slice g11.a1 0 g11.k1, .slice g11.a2 0 g11.k2, .slice g11.a3 0 g11.k3, .slice g11.a4 0 g11.k4, .slice g11.a5 0 g11.k5, .slice g11.a6 0 g11.k6] 29)).cell? ⟨(w2.heap.size + 1), 0, none⟩ = some (.slice (some ⟨w2.heap.size, 0, none⟩) 2 2) := ((Ext.refl _).alloc _).cell (HT1.out.cell (j := 0) rfl)
  have t1 : (w11.alloc (.cells #[.slice g11.a0 0 g11.k0, .slice g11.a1 0 g11.k1, .slice g11.a2 0 g11.k2, .slice g11.a3 0 g11.k3, .slice g11.a4 0 g11.k4, .slice g11.a5 0 g11.k5, .slice g11.a6 0 g11.k6] 29)).cell? ⟨(w2.heap.size + 1), 1, none⟩ = some (.slice none 0 0) := ((Ext.refl _).alloc _).cell (HT1.out.cell (j := 1) rfl)
  have t2 : (w11.alloc (.cells #[.slice g11.a0 0 g11.k0, .slice g11.a1 0 g11.k1, .slice g11.a2 0 g11.k2, .slice g11.a3 0 g11.k3, .slice g11.a4 0 g11.k4, .slice g11.a5 0 g11.k5, .slice g11.a6 0 g11.k6] 29)).cell? ⟨(w2.heap.size + 1), 2, none⟩ = some (.slice none 0 0) := ((Ext.refl _).alloc _).cell (HT1.out.cell (j := 2) rfl)
  have t3 : (w11.alloc (.cells #[.slice g11.a0 0 g11.k0, .slice g11.a1 0 g11.k1, .slice g11.a2 0 g11.k2, .slice g11.a3 0 g11.k3, .slice g11.a4 0 g11.k4, .slice g11.a5 0 g11.k5, .slice g11.a6 0 g11.k6] 29)).cell? ⟨(w2.heap.size + 1), 3, none⟩ = some (.slice none 0 0) := ((Ext.refl _).alloc _).cell (HT1.out.cell (j := 3) rfl)
  have t4 : (w11.alloc (.cells #[.slice g11.a0 0 g11.k0, .slice g11.a1 0 g11.k1, .slice g11.a2 0 g11.k2, .slice g11.a3 0 g11.k3, .slice g11.a4 0 g11.k4, .slice g11.a5 0 g11.k5, .slice g11.a6 0 g11.k6] 29)).cell? ⟨(w2.heap.size + 1), 4, none⟩ = some (.slice none 0 0) := ((Ext.refl _).alloc _).cell (HT1.out.cell (j := 4) rfl)
  have t5 : (w11.alloc (.cells #[.slice g11.a0 0 g11.k0, .slice g11.a1 0 g11.k1, .slice g11.a2 0 g11.k2, .slice g11.a3 0 g11.k3, .slice g11.a4 0 g11.k4, .slice g11.a5 0 g11.k5, .slice g11.a6 0 g11.k6] 29)).cell? ⟨(w2.heap.size + 1), 5, none⟩ = some (.slice none 0 0) := ((Ext.refl _).alloc _).cell (HT1.out.cell (j := 5) rfl)
  have t6 : (w11.alloc (.cells #[.slice g11.a0 0 g11.k0, .slice g11.a1 0 g11.k1, .slice g11.a2 0 g11.k2, .slice g11.a3 0 g11.k3, .slice g11.a4 0 g11.k4, .slice g11.a5 0 g11.k5, .slice g11.a6 0 g11.k6] 29)).cell? ⟨(w2.heap.size + 1), 6, none⟩ = some (.slice none 0 0) := ((Ext.refl _).alloc _).cell (HT1.out.cell (j := 6) rfl)
  go_wp2_with fail
  clear t0 t1 t2 t3 t4 t5 t6
  refine (or_as (some ⟨w2.heap.size, 0, none⟩) 2 (.slice none 0 0) (.slice none 0 0) (.slice none 0 0) (.slice none 0 0) (.slice none 0 0) (.slice none 0 0) _ ((HC1.out.ext ((Ext.refl _).alloc _)).cs)).mono ?_
  rintro e w12 ⟨oa, oc, rfl, ho, hE⟩
  have hX : Ext w11 w12 := ((Ext.refl _).alloc _).trans hE
  have HX := Lib.hid (HX.out.trans hX)
  have HU1 := Lib.hid (HU1.out.ext hX)
  have HV1 := Lib.hid (HV1.out.ext hX)
  have HU2 := Lib.hid (HU2.out.ext hX)
  have HV2 := Lib.hid (HV2.out.ext hX)
  have HC1 := Lib.hid (HC1.out.ext hX)
  have HT1 := Lib.hid (HT1.out.kpC hX.kpC)
  have HR3 := Lib.hid (HR3.out.ext hX)
  have HT2 := Lib.hid (HT2.out.kpC hX.kpC)
  have HU4 := Lib.hid (HU4.out.ext hX)
  have HV4 := Lib.hid (HV4.out.ext hX)
  have HU5 := Lib.hid (HU5.out.ext hX)
  have HV5 := Lib.hid (HV5.out.ext hX)
  have HU7 := Lib.hid (HU7.out.ext hX)
  have HV7 := Lib.hid (HV7.out.ext hX)
  have HU9 := Lib.hid (HU9.out.ext hX)
  have HV9 := Lib.hid (HV9.out.ext hX)
  have HC4 := Lib.hid (HC4.out.ext hX)
  have HT9 := Lib.hid (HT9.out.kpC hX.kpC)
  have HR11 := Lib.hid (HR11.out.ext hX)
  have HL := Lib.hid (ho)
  have HT12 := Lib.hid ((show Row (w11.alloc (.cells #[.slice g11.a0 0 g11.k0, .slice g11.a1 0 g11.k1, .slice g11.a2 0 g11.k2, .slice g11.a3 0 g11.k3, .slice g11.a4 0 g11.k4, .slice g11.a5 0 g11.k5, .slice g11.a6 0 g11.k6] 29)) w11.heap.size 29 [.slice g11.a0 0 g11.k0, .slice g11.a1 0 g11.k1, .slice g11.a2 0 g11.k2, .slice g11.a3 0 g11.k3, .slice g11.a4 0 g11.k4, .slice g11.a5 0 g11.k5, .slice g11.a6 0 g11.k6] from by unfold Row; simp only [heap_al]; all_goals (repeat rw [if_neg (by omega)]); all_goals rfl).kpC hE.kpC)
  clear ho
  clear hE hX
  go_wp2_with fail
  refine (or0_as none 0 (.slice none 0 0) (.slice none 0 0) (.slice none 0 0) (.slice none 0 0) (.slice none 0 0) (.slice none 0 0) _ (RepC.nil _)).mono ?_
  rintro e w13 ⟨oa2, oc2, rfl, -, hE⟩
  have hX : Ext w12 w13 := (Ext.refl _).trans hE
  have HX := Lib.hid (HX.out.trans hX)
  have HU1 := Lib.hid (HU1.out.ext hX)
  have HV1 := Lib.hid (HV1.out.ext hX)
  have HU2 := Lib.hid (HU2.out.ext hX)
  have HV2 := Lib.hid (HV2.out.ext hX)
  have HC1 := Lib.hid (HC1.out.ext hX)
  have HT1 := Lib.hid (HT1.out.kpC hX.kpC)
  have HR3 := Lib.hid (HR3.out.ext hX)
  have HT2 := Lib.hid (HT2.out.kpC hX.kpC)
  have HU4 := Lib.hid (HU4.out.ext hX)
  have HV4 := Lib.hid (HV4.out.ext hX)
  have HU5 := Lib.hid (HU5.out.ext hX)
  have HV5 := Lib.hid (HV5.out.ext hX)
  have HU7 := Lib.hid (HU7.out.ext hX)
  have HV7 := Lib.hid (HV7.out.ext hX)
  have HU9 := Lib.hid (HU9.out.ext hX)
  have HV9 := Lib.hid (HV9.out.ext hX)
  have HC4 := Lib.hid (HC4.out.ext hX)
  have HT9 := Lib.hid (HT9.out.kpC hX.kpC)
  have HR11 := Lib.hid (HR11.out.ext hX)
  have HL := Lib.hid (HL.out.ext hX)
  have HT12 := Lib.hid (HT12.out.kpC hX.kpC)
  clear hE hX
  have t0 : w13.cell? ⟨(w2.heap.size + 1), 0, none⟩ = some (.slice (some ⟨w2.heap.size, 0, none⟩) 2 2) := (Ext.refl _).cell (HT1.out.cell (j := 0) rfl)
  have t1 : w13.cell? ⟨(w2.heap.size + 1), 1, none⟩ = some (.slice none 0 0) := (Ext.refl _).cell (HT1.out.cell (j := 1) rfl)
  have t2 : w13.cell? ⟨(w2.heap.size + 1), 2, none⟩ = some (.slice none 0 0) := (Ext.refl _).cell (HT1.out.cell (j := 2) rfl)
  have t3 : w13.cell? ⟨(w2.heap.size + 1), 3, none⟩ = some (.slice none 0 0) := (Ext.refl _).cell (HT1.out.cell (j := 3) rfl)
  have t4 : w13.cell? ⟨(w2.heap.size + 1), 4, none⟩ = some (.slice none 0 0) := (Ext.refl _).cell (HT1.out.cell (j := 4) rfl)
  have t5 : w13.cell? ⟨(w2.heap.size + 1), 5, none⟩ = some (.slice none 0 0) := (Ext.refl _).cell (HT1.out.cell (j := 5) rfl)
  have t6 : w13.cell? ⟨(w2.heap.size + 1), 6, none⟩ = some (.slice none 0 0) := (Ext.refl _).cell (HT1.out.cell (j := 6) rfl)
  go_wp2_with fail
  clear t0 t1 t2 t3 t4 t5 t6
  refine ((sf_find ▸ find_any [crB, crA] bA (some ⟨w2.heap.size, 0, none⟩) 2 (.slice none 0 0) (.slice none 0 0) (.slice none 0 0) (.slice none 0 0) (.slice none 0 0) (.slice none 0 0) _ HC1.out.cs)).mono ?_
  rintro e w14 ⟨rfl, hE⟩
  have hX : Ext w13 w14 := (Ext.refl _).trans hE
  have HX := Lib.hid (HX.out.trans hX)
  have HU1 := Lib.hid (HU1.out.ext hX)
  have HV1 := Lib.hid (HV1.out.ext hX)
  have HU2 := Lib.hid (HU2.out.ext hX)
  have HV2 := Lib.hid (HV2.out.ext hX)
  have HC1 := Lib.hid (HC1.out.ext hX)
  have HT1 := Lib.hid (HT1.out.kpC hX.kpC)
  have HR3 := Lib.hid (HR3.out.ext hX)
  have HT2 := Lib.hid (HT2.out.kpC hX.kpC)
  have HU4 := Lib.hid (HU4.out.ext hX)
  have HV4 := Lib.hid (HV4.out.ext hX)
  have HU5 := Lib.hid (HU5.out.ext hX)
  have HV5 := Lib.hid (HV5.out.ext hX)
  have HU7 := Lib.hid (HU7.out.ext hX)
  have HV7 := Lib.hid (HV7.out.ext hX)
  have HU9 := Lib.hid (HU9.out.ext hX)
  have HV9 := Lib.hid (HV9.out.ext hX)
  have HC4 := Lib.hid (HC4.out.ext hX)
  have HT9 := Lib.hid (HT9.out.kpC hX.kpC)
  have HR11 := Lib.hid (HR11.out.ext hX)
  have HL := Lib.hid (HL.out.ext hX)
  have HT12 := Lib.hid (HT12.out.kpC hX.kpC)
  clear hE hX
  go_wp2_with fail
  refine ((sf_find0 ▸ find_any [] bA none 0 (.slice none 0 0) (.slice none 0 0) (.slice none 0 0) (.slice none 0 0) (.slice none 0 0) (.slice none 0 0) _ (RepC.nil _))).mono ?_
  rintro e w15 ⟨rfl, hE⟩
  have hX : Ext w14 w15 := (Ext.refl _).trans hE
  have HX := Lib.hid (HX.out.trans hX)
  have HU1 := Lib.hid (HU1.out.ext hX)
  have HV1 := Lib.hid (HV1.out.ext hX)
  have HU2 := Lib.hid (HU2.out.ext hX)
  have HV2 := Lib.hid (HV2.out.ext hX)
  have HC1 := Lib.hid (HC1.out.ext hX)
  have HT1 := Lib.hid (HT1.out.kpC hX.kpC)
  have HR3 := Lib.hid (HR3.out.ext hX)
  have HT2 := Lib.hid (HT2.out.kpC hX.kpC)
  have HU4 := Lib.hid (HU4.out.ext hX)
  have HV4 := Lib.hid (HV4.out.ext hX)
  have HU5 := Lib.hid (HU5.out.ext hX)
  have HV5 := Lib.hid (HV5.out.ext hX)
  have HU7 := Lib.hid (HU7.out.ext hX)
  have HV7 := Lib.hid (HV7.out.ext hX)
  have HU9 := Lib.hid (HU9.out.ext hX)
  have HV9 := Lib.hid (HV9.out.ext hX)
  have HC4 := Lib.hid (HC4.out.ext hX)
  have HT9 := Lib.hid (HT9.out.kpC hX.kpC)
  have HR11 := Lib.hid (HR11.out.ext hX)
  have HL := Lib.hid (HL.out.ext hX)
  have HT12 := Lib.hid (HT12.out.kpC hX.kpC)
  clear hE hX
  obtain ⟨B3, o3, na3, nn3, _, _, eg3, hra3, -, -, -, -, hcells3⟩ := HR3.out.cs.at (i := 0) (k := crB') rfl
  have y9 : w15.cell? ⟨B3, o3 + 9, none⟩ = some (.slice na3 1 nn3) := by have h := hcells3 9 (.slice na3 1 nn3) rfl; simpa using h
  obtain ⟨ck, B4, o4, rfl, huk, hck⟩ := hra3.at (i := 0) (k := .mk 5 17 bA 1 0 []) rfl
  obtain ⟨_, _, rfl, -, -⟩ := huk.out
  have z1 : w15.cell? ⟨B4, o4 + 1, none⟩ = some (.int .i64 17) := by have h := hck 1 (.int .i64 17) rfl; simpa using h
  have z2 : w15.cell? ⟨B4, o4 + 2, none⟩ = some (.string bA) := by have h := hck 2 (.string bA) rfl; simpa using h
  have x0 : w15.cell? ⟨w3.heap.size, 0, none⟩ = some (.slice (some ⟨B3, o3, none⟩) 2 g3.k0) := by rw [← eg3]; exact HT2.out.cell (j := 0) rfl
  have hq := tA
  have q0 : w15.cell? ⟨w11.heap.size, 0, none⟩ = some (.slice g11.a0 0 g11.k0) := (Ext.refl _).cell (HT12.out.cell (j := 0) rfl)
  have q1 : w15.cell? ⟨w11.heap.size, 1, none⟩ = some (.slice g11.a1 0 g11.k1) := (Ext.refl _).cell (HT12.out.cell (j := 1) rfl)
  have q2 : w15.cell? ⟨w11.heap.size, 2, none⟩ = some (.slice g11.a2 0 g11.k2) := (Ext.refl _).cell (HT12.out.cell (j := 2) rfl)
  have q3 : w15.cell? ⟨w11.heap.size, 3, none⟩ = some (.slice g11.a3 0 g11.k3) := (Ext.refl _).cell (HT12.out.cell (j := 3) rfl)
  have q4 : w15.cell? ⟨w11.heap.size, 4, none⟩ = some (.slice g11.a4 0 g11.k4) := (Ext.refl _).cell (HT12.out.cell (j := 4) rfl)
  have q5 : w15.cell? ⟨w11.heap.size, 5, none⟩ = some (.slice g11.a5 0 g11.k5) := (Ext.refl _).cell (HT12.out.cell (j := 5) rfl)
  have q6 : w15.cell? ⟨w11.heap.size, 6, none⟩ = some (.slice g11.a6 0 g11.k6) := (Ext.refl _).cell (HT12.out.cell (j := 6) rfl)
  clear hcells3 hck huk
  go_wp2_with fail
  clear q0 q1 q2 q3 q4 q5 q6
  refine (same_any Cat.empty Cat.empty g11 Adr.nil _ HR11.out (RepX.nil _)).mono ?_
  rintro e w16 ⟨bb, rfl, hiff, hE⟩
  have hX : Ext w15 w16 := (Ext.refl _).trans hE
  have HX := Lib.hid (HX.out.trans hX)
  have HU1 := Lib.hid (HU1.out.ext hX)
  have HV1 := Lib.hid (HV1.out.ext hX)
  have HU2 := Lib.hid (HU2.out.ext hX)
  have HV2 := Lib.hid (HV2.out.ext hX)
  have HC1 := Lib.hid (HC1.out.ext hX)
  have HT1 := Lib.hid (HT1.out.kpC hX.kpC)
  have HR3 := Lib.hid (HR3.out.ext hX)
  have HT2 := Lib.hid (HT2.out.kpC hX.kpC)
  have HU4 := Lib.hid (HU4.out.ext hX)
  have HV4 := Lib.hid (HV4.out.ext hX)
  have HU5 := Lib.hid (HU5.out.ext hX)
  have HV5 := Lib.hid (HV5.out.ext hX)
  have HU7 := Lib.hid (HU7.out.ext hX)
  have HV7 := Lib.hid (HV7.out.ext hX)
  have HU9 := Lib.hid (HU9.out.ext hX)
  have HV9 := Lib.hid (HV9.out.ext hX)
  have HC4 := Lib.hid (HC4.out.ext hX)
  have HT9 := Lib.hid (HT9.out.kpC hX.kpC)
  have HR11 := Lib.hid (HR11.out.ext hX)
  have HL := Lib.hid (HL.out.ext hX)
  have HT12 := Lib.hid (HT12.out.kpC hX.kpC)
  obtain rfl : bb = true := hiff.2 rfl
  clear hiff
  clear hE hX
  go_wp2_with fail
  refine ((show decide (([17, 18] : List Int) = [17, 18]) = true from rfl) ▸ sameI_any [17, 18] [17, 18] oa (some ⟨w16.heap.size, 0, none⟩) oc 2 _ (HL.out.ext ((Ext.refl _).alloc _)) (sl_news w16 (irows [17, 18]) 1 2 3 (irows_wid _) rfl (by decide))).mono ?_
  rintro e w17 ⟨rfl, hE⟩
  have hX : Ext w16 w17 := ((Ext.refl _).alloc _).trans hE
  have HX := Lib.hid (HX.out.trans hX)
  have HU1 := Lib.hid (HU1.out.ext hX)
  have HV1 := Lib.hid (HV1.out.ext hX)
  have HU2 := Lib.hid (HU2.out.ext hX)
  have HV2 := Lib.hid (HV2.out.ext hX)
  have HC1 := Lib.hid (HC1.out.ext hX)
  have HT1 := Lib.hid (HT1.out.kpC hX.kpC)
  have HR3 := Lib.hid (HR3.out.ext hX)
  have HT2 := Lib.hid (HT2.out.kpC hX.kpC)
  have HU4 := Lib.hid (HU4.out.ext hX)
  have HV4 := Lib.hid (HV4.out.ext hX)
  have HU5 := Lib.hid (HU5.out.ext hX)
  have HV5 := Lib.hid (HV5.out.ext hX)
  have HU7 := Lib.hid (HU7.out.ext hX)
  have HV7 := Lib.hid (HV7.out.ext hX)
  have HU9 := Lib.hid (HU9.out.ext hX)
  have HV9 := Lib.hid (HV9.out.ext hX)
  have HC4 := Lib.hid (HC4.out.ext hX)
  have HT9 := Lib.hid (HT9.out.kpC hX.kpC)
  have HR11 := Lib.hid (HR11.out.ext hX)
  have HL := Lib.hid (HL.out.ext hX)
  have HT12 := Lib.hid (HT12.out.kpC hX.kpC)
  clear hE hX
  have t0 : w17.cell? ⟨(w9.heap.size + 1), 0, none⟩ = some (.slice (some ⟨w9.heap.size, 0, none⟩) 1 1) := (Ext.refl _).cell (HT9.out.cell (j := 0) rfl)
  have t1 : w17.cell? ⟨(w9.heap.size + 1), 1, none⟩ = some (.slice none 0 0) := (Ext.refl _).cell (HT9.out.cell (j := 1) rfl)
  have t2 : w17.cell? ⟨(w9.heap.size + 1), 2, none⟩ = some (.slice none 0 0) := (Ext.refl _).cell (HT9.out.cell (j := 2) rfl)
  have t3 : w17.cell? ⟨(w9.heap.size + 1), 3, none⟩ = some (.slice none 0 0) := (Ext.refl _).cell (HT9.out.cell (j := 3) rfl)
  have t4 : w17.cell? ⟨(w9.heap.size + 1), 4, none⟩ = some (.slice none 0 0) := (Ext.refl _).cell (HT9.out.cell (j := 4) rfl)
  have t5 : w17.cell? ⟨(w9.heap.size + 1), 5, none⟩ = some (.slice none 0 0) := (Ext.refl _).cell (HT9.out.cell (j := 5) rfl)
  have t6 : w17.cell? ⟨(w9.heap.size + 1), 6, none⟩ = some (.slice none 0 0) := (Ext.refl _).cell (HT9.out.cell (j := 6) rfl)
  go_wp2_with fail
  clear t0 t1 t2 t3 t4 t5 t6
  refine (cyS_as (some ⟨w9.heap.size, 0, none⟩) 1 (.slice none 0 0) (.slice none 0 0) (.slice none 0 0) (.slice none 0 0) (.slice none 0 0) (.slice none 0 0) _ HC4.out.cs).mono ?_
  rintro e w18 ⟨ya, yc, rfl, hy, hE⟩
  have hX : Ext w17 w18 := (Ext.refl _).trans hE
  have HX := Lib.hid (HX.out.trans hX)
  have HU1 := Lib.hid (HU1.out.ext hX)
  have HV1 := Lib.hid (HV1.out.ext hX)
  have HU2 := Lib.hid (HU2.out.ext hX)
  have HV2 := Lib.hid (HV2.out.ext hX)
  have HC1 := Lib.hid (HC1.out.ext hX)
  have HT1 := Lib.hid (HT1.out.kpC hX.kpC)
  have HR3 := Lib.hid (HR3.out.ext hX)
  have HT2 := Lib.hid (HT2.out.kpC hX.kpC)
  have HU4 := Lib.hid (HU4.out.ext hX)
  have HV4 := Lib.hid (HV4.out.ext hX)
  have HU5 := Lib.hid (HU5.out.ext hX)
  have HV5 := Lib.hid (HV5.out.ext hX)
  have HU7 := Lib.hid (HU7.out.ext hX)
  have HV7 := Lib.hid (HV7.out.ext hX)
  have HU9 := Lib.hid (HU9.out.ext hX)
  have HV9 := Lib.hid (HV9.out.ext hX)
  have HC4 := Lib.hid (HC4.out.ext hX)
  have HT9 := Lib.hid (HT9.out.kpC hX.kpC)
  have HR11 := Lib.hid (HR11.out.ext hX)
  have HL := Lib.hid (HL.out.ext hX)
  have HT12 := Lib.hid (HT12.out.kpC hX.kpC)
  have HY := Lib.hid (hy)
  clear hy
  clear hE hX
  go_wp2_with fail
  refine ((show decide (([17] : List Int) = [17]) = true from rfl) ▸ sameI_any [17] [17] ya (some ⟨w18.heap.size, 0, none⟩) yc 1 _ (HY.out.ext ((Ext.refl _).alloc _)) (sl_news w18 (irows [17]) 1 1 3 (irows_wid _) rfl (by decide))).mono ?_
  rintro e w19 ⟨rfl, hE⟩
  have hX : Ext w18 w19 := ((Ext.refl _).alloc _).trans hE
  have HX := Lib.hid (HX.out.trans hX)
  have HU1 := Lib.hid (HU1.out.ext hX)
  have HV1 := Lib.hid (HV1.out.ext hX)
  have HU2 := Lib.hid (HU2.out.ext hX)
  have HV2 := Lib.hid (HV2.out.ext hX)
  have HC1 := Lib.hid (HC1.out.ext hX)
  have HT1 := Lib.hid (HT1.out.kpC hX.kpC)
  have HR3 := Lib.hid (HR3.out.ext hX)
  have HT2 := Lib.hid (HT2.out.kpC hX.kpC)
  have HU4 := Lib.hid (HU4.out.ext hX)
  have HV4 := Lib.hid (HV4.out.ext hX)
  have HU5 := Lib.hid (HU5.out.ext hX)
  have HV5 := Lib.hid (HV5.out.ext hX)
  have HU7 := Lib.hid (HU7.out.ext hX)
  have HV7 := Lib.hid (HV7.out.ext hX)
  have HU9 := Lib.hid (HU9.out.ext hX)
  have HV9 := Lib.hid (HV9.out.ext hX)
  have HC4 := Lib.hid (HC4.out.ext hX)
  have HT9 := Lib.hid (HT9.out.kpC hX.kpC)
  have HR11 := Lib.hid (HR11.out.ext hX)
  have HL := Lib.hid (HL.out.ext hX)
  have HT12 := Lib.hid (HT12.out.kpC hX.kpC)
  have HY := Lib.hid (HY.out.ext hX)
  clear hE hX
  have t0 : w19.cell? ⟨(w2.heap.size + 1), 0, none⟩ = some (.slice (some ⟨w2.heap.size, 0, none⟩) 2 2) := (Ext.refl _).cell (HT1.out.cell (j := 0) rfl)
  have t1 : w19.cell? ⟨(w2.heap.size + 1), 1, none⟩ = some (.slice none 0 0) := (Ext.refl _).cell (HT1.out.cell (j := 1) rfl)
  have t2 : w19.cell? ⟨(w2.heap.size + 1), 2, none⟩ = some (.slice none 0 0) := (Ext.refl _).cell (HT1.out.cell (j := 2) rfl)
  have t3 : w19.cell? ⟨(w2.heap.size + 1), 3, none⟩ = some (.slice none 0 0) := (Ext.refl _).cell (HT1.out.cell (j := 3) rfl)
  have t4 : w19.cell? ⟨(w2.heap.size + 1), 4, none⟩ = some (.slice none 0 0) := (Ext.refl _).cell (HT1.out.cell (j := 4) rfl)
  have t5 : w19.cell? ⟨(w2.heap.size + 1), 5, none⟩ = some (.slice none 0 0) := (Ext.refl _).cell (HT1.out.cell (j := 5) rfl)
  have t6 : w19.cell? ⟨(w2.heap.size + 1), 6, none⟩ = some (.slice none 0 0) := (Ext.refl _).cell (HT1.out.cell (j := 6) rfl)
  go_wp2_with fail
  clear t0 t1 t2 t3 t4 t5 t6
  refine (cy_as (some ⟨w2.heap.size, 0, none⟩) 2 (.slice none 0 0) (.slice none 0 0) (.slice none 0 0) (.slice none 0 0) (.slice none 0 0) (.slice none 0 0) _ HC1.out.cs).mono ?_
  rintro e w20 ⟨yb, yd, rfl, -, hE⟩
  have hX : Ext w19 w20 := (Ext.refl _).trans hE
  have HX := Lib.hid (HX.out.trans hX)
  have HU1 := Lib.hid (HU1.out.ext hX)
  have HV1 := Lib.hid (HV1.out.ext hX)
  have HU2 := Lib.hid (HU2.out.ext hX)
  have HV2 := Lib.hid (HV2.out.ext hX)
  have HC1 := Lib.hid (HC1.out.ext hX)
  have HT1 := Lib.hid (HT1.out.kpC hX.kpC)
  have HR3 := Lib.hid (HR3.out.ext hX)
  have HT2 := Lib.hid (HT2.out.kpC hX.kpC)
  have HU4 := Lib.hid (HU4.out.ext hX)
  have HV4 := Lib.hid (HV4.out.ext hX)
  have HU5 := Lib.hid (HU5.out.ext hX)
  have HV5 := Lib.hid (HV5.out.ext hX)
  have HU7 := Lib.hid (HU7.out.ext hX)
  have HV7 := Lib.hid (HV7.out.ext hX)
  have HU9 := Lib.hid (HU9.out.ext hX)
  have HV9 := Lib.hid (HV9.out.ext hX)
  have HC4 := Lib.hid (HC4.out.ext hX)
  have HT9 := Lib.hid (HT9.out.kpC hX.kpC)
  have HR11 := Lib.hid (HR11.out.ext hX)
  have HL := Lib.hid (HL.out.ext hX)
  have HT12 := Lib.hid (HT12.out.kpC hX.kpC)
  have HY := Lib.hid (HY.out.ext hX)
  clear hE hX
  go_wp2_with fail
  go_ret
  exact ⟨rfl, HX.out⟩
end Go.Proofs.Ytimigpfoflilcaa
