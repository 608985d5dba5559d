/- The law NetworkOnlySent, walked: it answers true. -/
import Derived.Test.YtdlahgmbilkdcaaNMf
namespace Go.Sz
open Go.RowKit
def mvRow (m : Mv) : List Value := [.int .u8 m.b0.toNat, .int .u8 m.b1.toNat, .int .u8 m.b2.toNat, .int .u8 m.b3.toNat, .int .u8 m.b4.toNat]
def mvr (l : List Mv) : List (List Value) := l.map mvRow
theorem mvr_length (l : List Mv) : (mvr l).length = l.length := List.length_map _
def spRetH (r : Nw × Pk × Int) : Spec := ⟨fun v W => ∃ cs cp : List Value, v = .tuple #[.agg cs.toArray, .agg cp.toArray, .int .i64 r.2.2] ∧ RepN W cs r.1 ∧ RepP W cp r.2.1, fun hE ⟨cs, cp, h1, h2, h3⟩ => ⟨cs, cp, h1, h2.ext hE, h3.ext hE⟩⟩
/-- a new variable of a zero packet -/
def spVar3 (D : Nat) (t : TypeId) : Spec := ⟨fun v W => ∃ g, v = .pointer (some ⟨g, 0, none⟩) ∧ D ≤ g ∧ W.heap[g]? = some (.cells #[.int .i64 0, .int .i64 0, .slice none 0 0] t (0, 0)), fun hE ⟨g, h1, h0, h2⟩ => ⟨g, h1, h0, (hE.block g (Array.getElem?_eq_some_iff.1 h2).1).trans h2⟩⟩
theorem mv_cells {w W : World} {ao : Option Addr} {cap : Nat} {l : List Mv} (h : SL w 5 ao cap (mvr l)) (hE : Ext w W) {j : Nat} (hj : j < l.length) : ∃ b o, ao = some ⟨b, o, none⟩ ∧ W.cell? ⟨b, o + j * 5, none⟩ = some (.int .u8 l[j].b0.toNat) ∧ W.cell? ⟨b, o + j * 5 + 1, none⟩ = some (.int .u8 l[j].b1.toNat) ∧ W.cell? ⟨b, o + j * 5 + 2, none⟩ = some (.int .u8 l[j].b2.toNat) ∧ W.cell? ⟨b, o + j * 5 + 3, none⟩ = some (.int .u8 l[j].b3.toNat) ∧ W.cell? ⟨b, o + j * 5 + 4, none⟩ = some (.int .u8 l[j].b4.toNat) := by
  have hr : (mvr l)[j]? = some (mvRow l[j]) := by simp [mvr, hj]
  obtain ⟨b, o, rfl, _⟩ := h.at (by omega) j (by rw [mvr_length]; exact hj)
  exact ⟨b, o, rfl, by simpa using hE.cell (h.cellAt hr (j := 0) rfl), hE.cell (h.cellAt hr (j := 1) rfl), hE.cell (h.cellAt hr (j := 2) rfl), hE.cell (h.cellAt hr (j := 3) rfl), hE.cell (h.cellAt hr (j := 4) rfl)⟩
theorem box3_of {W : World} {g : Nat} {t : TypeId} {x y z : Value} (h : W.heap[g]? = some (.cells #[x, y, z] t (0, 0))) : Box3 W g x y z := ⟨by simp [World.cell?, h], by simp [World.cell?, h], by simp [World.cell?, h], fun j => by simp [World.frozen?, h]⟩
theorem tup_inj {cs cp cs' cp' : List Value} {e : Value} (h : Value.tuple #[.agg cs.toArray, .agg cp.toArray, e] = .tuple #[.agg cs'.toArray, .agg cp'.toArray, e]) : cs = cs' ∧ cp = cp' := by simpa using h
/-- what holds at the head of each round -/
structure Rnd (l : List Mv) (v2 : World) (t : TypeId) (sv : Value) (i cuts : Nat) (n : Nw) (sent : List Pk) (rws : List (List Value)) (a : Option Addr) (c : Nat) (b : Option Addr) (d : Nat) (wr : World) : Prop where
  il : i ≤ l.length
  ci : cuts ≤ i
  si : sent.length ≤ i
  inv : Inv n sent cuts
  own : wr.ownsRow (v2.heap.size + 1) t 3 sv sent.length rws.flatten
  spare : Spare wr sv sent.length
  kept : Kept wr rws sent
  sl : ∀ r ∈ rws, ∀ f t x, r = [Value.int .i64 f, .int .i64 t, x] → ∃ a k c, x = .slice a k c
  box : Box2 wr v2.heap.size (.slice a n.q.length c) (.slice b n.a.length d)
  rep : RepN wr [.slice a n.q.length c, .slice b n.a.length d] n
  ext : Ext v2 wr
theorem Kept.map {W W' : World} {rws : List (List Value)} {want : List Pk} (h : Kept W rws want) (hm : ∀ r p, RepP W r p → RepP W' r p) : Kept W' rws want := ⟨h.len, h.row, fun i r p h1 h2 => hm r p (h.el i r p h1 h2)⟩
theorem Kept.ext {W W' : World} {rws : List (List Value)} {want : List Pk} (h : Kept W rws want) (hE : Ext W W') : Kept W' rws want := h.map fun _ _ h => h.ext hE
theorem Spare.far {W : World} {v : Value} {n : Nat} (h : Spare W v n) {q : Addr} (u : Value) (hv : ∀ k, v.ownBlock = some k → k ≠ q.block) : Spare (W.setCell q u) v n := fun a k c ha => by
  obtain ⟨h1, h2⟩ := h a k c ha
  refine ⟨by simpa using h1, fun j x hj hc => h2 j x hj ?_⟩
  rw [World.cell?_setCell_other _ _ _ _ (fun e => hv a.block (by rw [ha]; rfl) (by rw [e]))] at hc
  exact hc
theorem rnd_close {l : List Mv} {v2 : World} {t : TypeId} {sv : Value} {i cuts : Nat} {n : Nw} {sent : List Pk} {rws : List (List Value)} {a b : Option Addr} {c d : Nat} {V W : World} {x0 x1 : Option Addr} {k0 k1 c0 c1 : Nat}
    (hil : i + 1 ≤ l.length) (hci : cuts ≤ i + 1) (hsi : sent.length ≤ i + 1) (inv : Inv n sent cuts) (own : V.ownsRow (v2.heap.size + 1) t 3 sv sent.length rws.flatten) (spare : Spare V sv sent.length) (kept : Kept V rws sent)
    (sl : ∀ r ∈ rws, ∀ f t x, r = [Value.int .i64 f, .int .i64 t, x] → ∃ a k c, x = .slice a k c) (box : Box2 V v2.heap.size (.slice x0 k0 c0) (.slice x1 k1 c1)) (rep : RepN V [.slice a n.q.length c, .slice b n.a.length d] n) (ext : Ext v2 V)
    (hE : Ext ((V.setCell ⟨v2.heap.size, 0, none⟩ (.slice a n.q.length c)).setCell ⟨v2.heap.size, 1, none⟩ (.slice b n.a.length d)) W) : Rnd l v2 t sv (i + 1) cuts n sent rws a c b d W := by
  have hne : ∀ k, sv.ownBlock = some k → k ≠ v2.heap.size := fun k hk => by have := ownsRow_blocks own k hk; omega
  refine ⟨hil, hci, hsi, inv, ownsRow_ext (ownsRow_far (ownsRow_far own _ (Nat.lt_succ_self _)) _ (Nat.lt_succ_self _)) hE, ((spare.far _ hne).far _ hne).ext hE, (kept.map fun r p h => h.set2 box _ _).ext hE, sl, ((box.set0 _).set1 _).ext hE, (rep.setN box _ _).ext hE, ((ext.setCell (Nat.le_refl _) _).setCell (Nat.le_refl _) _).trans hE⟩
theorem Rnd.next {l : List Mv} {v2 : World} {t : TypeId} {sv : Value} {i cuts : Nat} {n : Nw} {sent : List Pk} {rws : List (List Value)} {a b : Option Addr} {c d : Nat} {V W : World} (h : Rnd l v2 t sv i cuts n sent rws a c b d V) (hil : i + 1 ≤ l.length) (hE : Ext V W) : Rnd l v2 t sv (i + 1) cuts n sent rws a c b d W :=
  ⟨hil, by have := h.ci; omega, by have := h.si; omega, h.inv, ownsRow_ext h.own hE, h.spare.ext hE, h.kept.ext hE, h.sl, h.box.ext hE, h.rep.ext hE, h.ext.trans hE⟩
theorem any_take {l : List Pk} {k : Nat} (h : k < l.length) (f : Pk → Bool) : (l.take (k + 1)).any f = ((l.take k).any f || f l[k]) := by
  rw [List.take_succ_eq_append_getElem h, List.any_append]; simp
theorem checkN_zero {n : Nw} (h : okN n = true) : checkN n = 0 := by unfold checkN; rw [if_pos h]
end Go.Sz
namespace Go.Proofs.Ytdlahgmbilkdcaa
open Go.RowKit Go.Sz Go.Shelf

set_option maxRecDepth 100000 in
set_option maxHeartbeats 12800000 in
theorem law_sent (l : List Mv) (ao : Option Addr) (cap : Nat) (w : World) (h : SL w 5 ao cap (mvr l)) : Calls Try.prog 7 #[.slice ao l.length cap] w fun e w' => e = .returned (.bool true) ∧ Ext w w' := by
  have HL0 := Lib.hid h
  have hs1 : (l.length : Int) ≤ 9223372036854775807 := by have h1 := h.max; have h2 := h.le; rw [mvr_length] at h2; omega
  clear h
  obtain ⟨i0, hi, hz0, hz1, hz2⟩ := info_parts infoPk
  go_enter Try.func7, Try.ntmps7
  go_wp2_with fail
  refine (sane_any _).mono ?_
  rintro e v1 ⟨rfl, hE1⟩
  by_cases hgt : 60 < l.length
  · have hl60 : (60 : Int) < (l.length : Int) := by omega
    go_wp2_with fail
    go_ret
    exact ⟨rfl, hE1⟩
  have hl : l.length ≤ 60 := by omega
  clear hgt
  have hl60 : ¬ (60 : Int) < (l.length : Int) := by omega
  go_wp2_with fail
  refine (new_any _).mono ?_
  rintro e v2 ⟨rfl, hE2⟩
  have HX2 := Lib.hid (hE1.trans hE2)
  have HLS := Lib.hid (HL0.out.ext HX2.out)
  have HL := Lib.hid hl
  clear HL0 hE1 hE2 hl hl60
  go_wp2_with fail
  have hbn := Box2.new v2 (.slice none 0 0) (.slice none 0 0) 25
  go_loopw [4, 5, 6] (fun sv cv iv wr => ∃ (i cuts : Nat) (n : Nw) (sent : List Pk) (rws : List (List Value)) (a : Option Addr) (c : Nat) (b : Option Addr) (d : Nat), iv = .int .i64 i ∧ cv = .int .i64 cuts ∧ Rnd l v2 28 sv i cuts n sent rws a c b d wr) (fun _ _ iv _ => l.length - (intOf iv).toNat)
  case atStart => exact ⟨0, 0, ⟨[], []⟩, [], [], none, 0, none, 0, rfl, rfl, ⟨by omega, by omega, by simp, Inv.zero, by exact World.ownsRow_nil _ _ _ _, Spare.nil _ _ _ _, Kept.nil _, by simp, hbn, RepN.zero _, (Ext.refl _).alloc _⟩⟩
  case round =>
    clear hbn
    obtain ⟨i, cuts, n, sent, rws, a, c, b, d, rfl, rfl, hR⟩ := hrel
    have HR := Lib.hid hR
    have hil := hR.il
    clear hR
    by_cases hlt : i < l.length
    · obtain ⟨bm, om, hao, m0, m1, m2, m3, m4⟩ := mv_cells HLS.out HR.out.ext hlt
      have hji : (i : Int) < (l.length : Int) := by omega
      have HHA := Lib.hid (happens_any n l[i])
      generalize hm : l[i] = m at *
      have HM := Lib.hid hm
      clear hm
      subst hao
      obtain ⟨n0, n1, nz⟩ := HR.out.box
      have gn0 : ∀ X, (wr.drew.grow X).cell? ⟨v2.heap.size, 0, none⟩ = some (.slice a n.q.length c) := fun X => ((Ext.refl wr).drew.trans (ext_grow _ X)).cell n0
      have gn1 : ∀ X, (wr.drew.grow X).cell? ⟨v2.heap.size, 1, none⟩ = some (.slice b n.a.length d) := fun X => ((Ext.refl wr).drew.trans (ext_grow _ X)).cell n1
      have gm0 : ∀ X, (wr.drew.grow X).cell? ⟨bm, om + i * 5, none⟩ = some (.int .u8 m.b0.toNat) := fun X => ((Ext.refl wr).drew.trans (ext_grow _ X)).cell m0
      have gm1 : ∀ X, (wr.drew.grow X).cell? ⟨bm, om + i * 5 + 1, none⟩ = some (.int .u8 m.b1.toNat) := fun X => ((Ext.refl wr).drew.trans (ext_grow _ X)).cell m1
      have gm2 : ∀ X, (wr.drew.grow X).cell? ⟨bm, om + i * 5 + 2, none⟩ = some (.int .u8 m.b2.toNat) := fun X => ((Ext.refl wr).drew.trans (ext_grow _ X)).cell m2
      have gm3 : ∀ X, (wr.drew.grow X).cell? ⟨bm, om + i * 5 + 3, none⟩ = some (.int .u8 m.b3.toNat) := fun X => ((Ext.refl wr).drew.trans (ext_grow _ X)).cell m3
      have gm4 : ∀ X, (wr.drew.grow X).cell? ⟨bm, om + i * 5 + 4, none⟩ = some (.int .u8 m.b4.toNat) := fun X => ((Ext.refl wr).drew.trans (ext_grow _ X)).cell m4
      go_wp2_with fail
      refine wp_region_noPanic ?_
      refine wp_region_rel2 (fun j => if j = 5 then some (spRetH (happensN n m)) else if j = 10 then some (spVar2 wr.heap.size 25) else if j = 11 then some (spVar3 wr.heap.size 28) else none) 12 3 [8, 9] (by kernel_rfl) (by kernel_rfl) (fun i hi => by simp at hi; rcases hi with rfl | rfl <;> rfl) (fun _ _ _ _ _ h => h) ?_
      simp only [List.take_succ_cons, List.take_zero]
      repeat (first
        | (refine wpRel_quick ?_ ?_ ?_ ?_
           · rfl
           · rfl
           · first | exact noEnter rfl | (intro f args W W'; go_simp)
           intro K hK
           go_big_quiet_op
           go_big_quiet_on)
        | (refine wpRel_skip ?_ ?_
           · rfl
           simp only [Act.put, List.setIfInBounds_toArray, List.set_cons_zero, List.set_cons_succ]))
      refine wpRel_rich _ rfl rfl (fun W hW => ?_) (fun v W8 hW8 hv => ?_)
      · have hx : Ext wr W := (Ext.refl wr).drew.trans hW.1
        have hc := HHA.out _ W (HR.out.rep.ext hx)
        go_simp
        refine Calls.mono hc ?_
        rintro e w8 ⟨cs8, cp8, rfl, hN8, hP8, hE8⟩
        exact ⟨_, rfl, ⟨cs8, cp8, rfl, hN8, hP8⟩, hE8⟩
      obtain ⟨cs8, cp8, rfl, hN8, hP8⟩ := hv
      obtain ⟨a8, c8, b8, d8, rfl⟩ := hN8.open
      obtain ⟨p8, q8, rfl⟩ := hP8.open
      clear hN8 hP8
      simp only [Act.put, List.setIfInBounds_toArray, List.set_cons_zero, List.set_cons_succ]
      repeat (first
        | (refine wpRel_quick ?_ ?_ ?_ ?_
           · rfl
           · rfl
           · first | exact noEnter rfl | (intro f args W W'; go_simp)
           intro K hK
           go_big_quiet_op
           go_big_quiet_on)
        | (refine wpRel_skip ?_ ?_
           · rfl
           simp only [Act.put, List.setIfInBounds_toArray, List.set_cons_zero, List.set_cons_succ]))
      refine wpRel_rich _ rfl rfl (fun W hW => ?_) (fun v W9 hW9 hv => ?_)
      · go_simp
        exact ⟨⟨_, rfl, hW.1.size, World.alloc_heap_new W _⟩, (Ext.refl _).alloc _⟩
      obtain ⟨g7, rfl, hg7, _⟩ := hv
      simp only [Act.put, List.setIfInBounds_toArray, List.set_cons_zero, List.set_cons_succ]
      repeat (first
        | (refine wpRel_quick ?_ ?_ ?_ ?_
           · rfl
           · rfl
           · first | exact noEnter rfl | (intro f args W W'; go_simp)
           intro K hK
           go_big_quiet_op
           go_big_quiet_on)
        | (refine wpRel_skip ?_ ?_
           · rfl
           simp only [Act.put, List.setIfInBounds_toArray, List.set_cons_zero, List.set_cons_succ]))
      refine wpRel_rich _ rfl rfl (fun W hW => ?_) (fun v W10 hW10 hv => ?_)
      · go_simp
        exact ⟨⟨_, rfl, hW.1.size, World.alloc_heap_new W _⟩, (Ext.refl _).alloc _⟩
      obtain ⟨g8, rfl, hg8, _⟩ := hv
      simp only [Act.put, List.setIfInBounds_toArray, List.set_cons_zero, List.set_cons_succ]
      refine wpRel_nil ?_
      intro W8' hW8'
      obtain ⟨cs9, cp9, hcs, hN8, hP8⟩ := hW8'.2 5 trivial _ _ rfl rfl
      obtain ⟨rfl, rfl⟩ := tup_inj hcs
      obtain ⟨g7', hg, _, hh7⟩ := hW8'.2 10 trivial _ _ rfl rfl
      cases hg
      obtain ⟨g8', hg, _, hh8⟩ := hW8'.2 11 trivial _ _ rfl rfl
      cases hg
      have hE8 : Ext wr W8' := (Ext.refl wr).drew.trans hW8'.1
      replace hg7 : wr.heap.size ≤ g7 := hg7
      replace hg8 : wr.heap.size ≤ g8 := hg8
      have hg78 : g7 ≠ g8 := fun he => by rw [he] at hh7; rw [hh7] at hh8; simp at hh8
      have hb7 : Box2 W8' g7 (.slice none 0 0) (.slice none 0 0) := Boxed2.box (t := 25) hh7
      have hb8 : Box3 W8' g8 (.int .i64 0) (.int .i64 0) (.slice none 0 0) := box3_of hh8
      clear hW8' hW8 hW9 hW10 hcs hh7 hh8 gn0 gn1 gm0 gm1 gm2 gm3 gm4 HHA n0 n1 nz
      have HNE := Lib.hid (hap_ne (m := m) HR.out.inv)
      have HER := Lib.hid (happens_err (n := n) (m := m))
      have HI0 := Lib.hid (hap_inv0 (m := m) HR.out.inv)
      have HI1 := Lib.hid (hap_inv1 (m := m) HR.out.inv)
      have HI2 := Lib.hid (hap_inv2 (m := m) HR.out.inv)
      have HI3 := Lib.hid (hap_inv3 (m := m) HR.out.inv)
      have HI4 := Lib.hid (hap_inv4 (m := m) HR.out.inv)
      have HI5 := Lib.hid (hap_inv5 (m := m) HR.out.inv)
      have hkl := kind_lt m
      generalize happensN n m = hh at *
      obtain ⟨r1, ⟨pf, pt, pd⟩, er⟩ := hh
      simp only at hN8 hP8 HNE HER HI0 HI1 HI2 HI3 HI4 HI5 ⊢
      have HN8 := Lib.hid hN8
      have HP8 := Lib.hid hP8
      have HB7 := Lib.hid hb7
      have HB8 := Lib.hid hb8
      have HE8 := Lib.hid hE8
      obtain ⟨k0, k1, kz⟩ := hb7
      obtain ⟨l0, l1, l2, lz⟩ := hb8
      clear hN8 hP8 hE8
      refine wpAny_ready (rs := [12]) (by kernel_rfl) (by simp) ?_
      refine AllReady.cons rfl (fun K hK => ?_) AllReady.nil
      go_simp
      refine hK _ _ ?_
      clear hK K
      refine wpAny_ready (rs := [13]) (by kernel_rfl) (by simp) ?_
      refine AllReady.cons rfl (fun K hK => ?_) AllReady.nil
      go_simp
      refine hK _ _ ?_
      clear hK K
      refine wpAny_ready (rs := [14]) (by kernel_rfl) (by simp) ?_
      refine AllReady.cons rfl (fun K hK => ?_) AllReady.nil
      go_simp
      refine hK _ _ ?_
      clear hK K
      refine wpAny_done (by kernel_rfl) ?_ _
      refine NoPanic.normal ?_
      have hb8f := (HB8.out.far (q := ⟨g7, 0, none⟩) (.slice a8 r1.q.length c8) (Ne.symm hg78)).far (q := ⟨g7, 1, none⟩) (.slice b8 r1.a.length d8) (Ne.symm hg78)
      have hN9 := (HN8.out.setN HB7.out (.slice a8 r1.q.length c8) (.slice b8 r1.a.length d8)).setP HNE.out.1 HNE.out.2 hb8f (.int .i64 pf) (.int .i64 pt) (.slice p8 pd.length q8)
      have hP9 := (HP8.out.set2 HB7.out (.slice a8 r1.q.length c8) (.slice b8 r1.a.length d8)).set3 hb8f (.int .i64 pf) (.int .i64 pt) (.slice p8 pd.length q8)
      have hb79 := ((((HB7.out.set0 (.slice a8 r1.q.length c8)).set1 (.slice b8 r1.a.length d8)).far (q := ⟨g8, 0, none⟩) (.int .i64 pf) hg78).far (q := ⟨g8, 1, none⟩) (.int .i64 pt) hg78).far (q := ⟨g8, 2, none⟩) (.slice p8 pd.length q8) hg78
      have hb89 := hb8f.all (.int .i64 pf) (.int .i64 pt) (.slice p8 pd.length q8)
      have hX9 := ((((HE8.out.setCell (p := ⟨g7, 0, none⟩) hg7 (.slice a8 r1.q.length c8)).setCell (p := ⟨g7, 1, none⟩) hg7 (.slice b8 r1.a.length d8)).setCell (p := ⟨g8, 0, none⟩) hg8 (.int .i64 pf)).setCell (p := ⟨g8, 1, none⟩) hg8 (.int .i64 pt)).setCell (p := ⟨g8, 2, none⟩) hg8 (.slice p8 pd.length q8)
      clear k0 k1 kz l0 l1 l2 lz hb8f HB7 HB8 HN8 HP8 HE8
      generalize (((((W8'.setCell ⟨g7, 0, none⟩ (.slice a8 r1.q.length c8)).setCell ⟨g7, 1, none⟩ (.slice b8 r1.a.length d8)).setCell ⟨g8, 0, none⟩ (.int .i64 pf)).setCell ⟨g8, 1, none⟩ (.int .i64 pt)).setCell ⟨g8, 2, none⟩ (.slice p8 pd.length q8)) = W9 at *
      have HN9 := Lib.hid hN9
      have HP9 := Lib.hid hP9
      have HB7 := Lib.hid hb79
      have HB8 := Lib.hid hb89
      have HX9 := Lib.hid hX9
      have HNB := Lib.hid (HR.out.box.ext hX9)
      have HG7 : Hid (v2.heap.size ≠ g7 ∧ v2.heap.size ≠ g8 ∧ wr.heap.size ≤ g7 ∧ wr.heap.size ≤ g8) := Lib.hid ⟨by have := HR.out.box.lt; omega, by have := HR.out.box.lt; omega, hg7, hg8⟩
      have q0 := hX9.cell m0
      clear hN9 hP9 hb79 hb89 hX9 m0 m1 m2 m3 m4
      obtain ⟨n0, n1, nz⟩ := HNB.out
      obtain ⟨k0, k1, kz⟩ := HB7.out
      obtain ⟨l0, l1, l2, lz⟩ := HB8.out
      by_cases he : er = 0
      · have hge : (er != 0) = false := by rw [he]; rfl
        subst he
        have hb0 := m.b0.toNat_lt
        have h6 : m.kind = 0 ∨ m.kind = 1 ∨ m.kind = 2 ∨ m.kind = 3 ∨ m.kind = 4 ∨ m.kind = 5 := by omega
        rcases h6 with hk | hk | hk | hk | hk | hk
        · have hk6 : (m.b0.toNat : Int) % 6 = 0 := by have : m.b0.toNat % 6 = 0 := hk; omega
          have HI := Lib.hid (HI0.out hk rfl)
          have hcl : (cuts : Int) ≤ 9223372036854775806 := by have := HR.out.ci; omega
          have hlq : r1.q.length = n.q.length + 1 := by rw [HI.out.1]; simp
          have hll := okN_len HI.out.2.ok
          obtain ⟨rows8, hRQ, _, _, _⟩ := HN9.out.parts
          obtain ⟨bq, oq, rfl, _⟩ := hRQ.sl.at (by omega) n.q.length (by have := hRQ.len; omega)
          obtain ⟨f, t, dd, co, cap3, hqj, hP, z0, z1, z2⟩ := q_cells hRQ (Ext.refl _) (i := r1.q.length - 1) (by omega)
          have hqe : r1.q[r1.q.length - 1] = ⟨m.x, m.y, [m.b4]⟩ := by
            have h1 : r1.q = n.q ++ [⟨m.x, m.y, [m.b4]⟩] := by rw [HI.out.1]
            simp [h1]
          rw [hqe] at hP
          have HP := Lib.hid hP
          clear hk hb0 hP hqj hRQ hqe
          have hl0 : ((r1.q.length : Int) == 0) = false := by rw [beq_eq_false_iff_ne]; omega
          have hl1 : (1 : Int) ≤ (r1.q.length : Int) := by omega
          have hl2 : (r1.q.length : Int) ≤ 4096 := by omega
          have HLQ := Lib.hid hlq
          clear hlq hll
          have hA9 : Ext W9 (W9.alloc (.cells #[.int .i64 f, .int .i64 t, .slice co dd.length cap3] 28)) := (Ext.refl W9).alloc (.cells #[.int .i64 f, .int .i64 t, .slice co dd.length cap3] 28)
          have HA9 := Lib.hid hA9
          have HNB3 := Lib.hid (Box3.new' W9 (.int .i64 f) (.int .i64 t) (.slice co dd.length cap3) 28 W9.heap.size rfl)
          have HOA := Lib.hid (ownsRow_ext HR.out.own (HX9.out.trans hA9))
          have HSA := Lib.hid (HR.out.spare.ext (HX9.out.trans hA9))
          have HCA := Lib.hid (fun (a : Addr) (k c : Nat) (hv : u4 = .slice (some a) k c) (j : Nat) (u : Value) (hu : (W9.alloc (.cells #[.int .i64 f, .int .i64 t, .slice co dd.length cap3] 28)).cell? ⟨a.block, j, none⟩ = some u) => row_cells HOA.out HR.out.kept.row HR.out.sl HR.out.kept.len HSA.out hv j u hu)
          have HBK := Lib.hid (ownsRow_blocks HR.out.own)
          have HBT := Lib.hid (ownsRow_lt HR.out.own)
          have HK7 : Hid (∀ v' w', Grows (W9.alloc (.cells #[.int .i64 f, .int .i64 t, .slice co dd.length cap3] 28)) u4 w' v' → Box2 w' g7 (.slice (some ⟨bq, oq, none⟩) r1.q.length c8) (.slice b8 r1.a.length d8) ∧ Box2 w' v2.heap.size (.slice a n.q.length c) (.slice b n.a.length d)) := Lib.hid fun v' w' hg => ⟨(HB7.out.ext hA9).keep (hg.by_.block _ (HB7.out.ext hA9).lt (fun h => by have h1 := HBT.out _ h.symm; have h2 := HG7.out.2.2.1; omega)), (HNB.out.ext hA9).keep (hg.by_.block _ (HNB.out.ext hA9).lt (fun h => by have h1 := HBK.out _ h.symm; omega))⟩
          have hszA : v2.heap.size + 1 ≤ (W9.alloc (.cells #[.int .i64 f, .int .i64 t, .slice co dd.length cap3] 28)).heap.size := (HNB.out.ext hA9).lt
          have HSZ := Lib.hid hszA
          have HSI : Hid (sent.length ≤ 60) := Lib.hid (by have := HR.out.si; have := HL.out; omega)
          clear hA9 hszA
          go_wp2_with (at_builtin; refine wpList_append_Z rfl _ _ 22 22 rfl (v2.heap.size + 1) 28 i0 40 Try.underlying22 hi hz0 hz1 hz2 _ _ _ rfl HOA.out HSA.out (.slice (some ⟨W9.heap.size, 0, none⟩) 1 1) [.int .i64 f, .int .i64 t, .slice co dd.length cap3] rfl (Src.ofSlice _ Try.underlying22 ⟨W9.heap.size, 0, none⟩ 1 1 _ rfl (three_cells HNB3.out.c0 HNB3.out.c1 HNB3.out.c2) (by simp [Value.oneCell'])) (by have := HSI.out; unfold maxLen; omega) (by have := HSI.out; omega) HSZ.out ?_; intro v6 w6 ho6 hg6 hz6 hs6; obtain ⟨⟨k0, k1, kz⟩, ⟨n0, n1, nz⟩⟩ := HK7.out _ _ hg6; have HO6 := Lib.hid ho6; have HG6 := Lib.hid hg6; have HZ6 := Lib.hid hz6; have HS6 := Lib.hid hs6; clear ho6 hg6 hz6 hs6)
          have HN6 := Lib.hid ((HN9.out.ext HA9.out).zed HNE.out.1 HNE.out.2 HZ6.out HSA.out HCA.out)
          have HKP : Hid (Kept w6 (rws ++ [[Value.int .i64 f, .int .i64 t, .slice co dd.length cap3]]) (sent ++ [⟨m.x, m.y, [m.b4]⟩])) := Lib.hid ((HR.out.kept.map fun r p h => (h.ext (HX9.out.trans HA9.out)).zed HZ6.out HSA.out).snoc ((HP.out.ext HA9.out).zed HZ6.out HSA.out))
          have HSL : Hid (∀ r ∈ (rws ++ [[Value.int .i64 f, .int .i64 t, .slice co dd.length cap3]] : List (List Value)), ∀ f t x, r = [Value.int .i64 f, .int .i64 t, x] → ∃ a k c, x = .slice a k c) := Lib.hid (by
            intro r hr f' t' x he
            rcases List.mem_append.1 hr with hr | hr
            · exact HR.out.sl r hr f' t' x he
            · rw [List.mem_singleton.1 hr] at he; simp at he; exact ⟨_, _, _, he.2.2.symm⟩)
          have HX6 : Hid (Ext v2 w6) := Lib.hid (Ext.trans' (HR.out.ext.trans (HX9.out.trans HA9.out)) HG6.out (fun k hk => by have := HBK.out k hk; omega))
          have HOO : Hid (w6.ownsRow (v2.heap.size + 1) 28 3 v6 (sent ++ [(⟨m.x, m.y, [m.b4]⟩ : Pk)]).length (rws ++ [[Value.int .i64 f, .int .i64 t, .slice co dd.length cap3]]).flatten) := Lib.hid (by rw [List.length_append]; simpa using HO6.out)
          have HSS : Hid (Spare w6 v6 (sent ++ [(⟨m.x, m.y, [m.b4]⟩ : Pk)]).length) := Lib.hid (by rw [List.length_append]; exact HS6.out)
          have HINV := Lib.hid HI.out.2
          go_wp2_with fail
          refine (check_any r1 _ _ ((HN6.out).setN (HK7.out _ _ HG6.out).2 (.slice (some ⟨bq, oq, none⟩) r1.q.length c8) (.slice b8 r1.a.length d8))).mono ?_
          rintro e v5 ⟨rfl, hE5⟩
          rw [checkN_zero (Inv.ok HINV.out)]
          have HE5 := Lib.hid hE5
          clear hE5
          go_wp2_with fail
          go_roundw
          case rel => exact ⟨i + 1, cuts, r1, (sent ++ [⟨m.x, m.y, [m.b4]⟩]), (rws ++ [[.int .i64 f, .int .i64 t, .slice co dd.length cap3]]), some ⟨bq, oq, none⟩, c8, b8, d8, by go_num, rfl, rnd_close (by omega) (by have := HR.out.ci; omega) (by have := HR.out.si; rw [List.length_append]; simp only [List.length_singleton]; omega) HINV.out HOO.out HSS.out HKP.out HSL.out (HK7.out _ _ HG6.out).2 (HN6.out) HX6.out HE5.out⟩
          case measure => simp [intOf] <;> omega
        · have hk6 : (m.b0.toNat : Int) % 6 = 1 := by have : m.b0.toNat % 6 = 1 := hk; omega
          have HI := Lib.hid (HI1.out hk rfl)
          have hcl : (cuts : Int) ≤ 9223372036854775806 := by have := HR.out.ci; omega
          obtain ⟨ao1, cap1, hsv, hs1', _⟩ := SL.of_own HR.out.own HR.out.kept.wid HR.out.kept.len
          subst hsv
          have HQ := Lib.hid (HR.out.kept.q (Ext.refl _) hs1')
          have hsl : (sent.length : Int) ≤ 9223372036854775806 := by have := HR.out.si; omega
          clear hk hb0 hs1'
          obtain ⟨wo, hwo⟩ : ∃ wo, wo = wr := ⟨_, rfl⟩
          subst hwo
          go_wp2_with fail
          refine (samePacket_any ⟨pf, pt, pd⟩ ⟨0, 0, []⟩ _ _ _ HP9.out (RepP.zero _)).mono ?_
          rintro e v3 ⟨rfl, hE3⟩
          have HE3 := Lib.hid hE3
          clear hE3
          cases hs0 : samePk ⟨pf, pt, pd⟩ ⟨0, 0, []⟩ with
          | true =>
           have HS0 := Lib.hid hs0
           clear hs0
           rcases Nat.lt_or_ge 0 cuts with hcc | hcc
           · have hc0 : (0 : Int) < (cuts : Int) := by omega
             have HCC := Lib.hid hcc
             clear hcc
             go_wp2_with fail
             go_loopw [10, 11] (fun mv kv w3 => ∃ (k : Nat) (M : Bool), kv = .int .i64 k ∧ k ≤ sent.length ∧ mv = .bool M ∧ M = (true || (sent.take k).any fun q => samePk q ⟨pf, pt, pd⟩) ∧ Ext W9 w3) (fun _ kv _ => sent.length - (intOf kv).toNat)
             case atStart => exact ⟨0, true, rfl, by omega, congrArg Value.bool (decide_eq_true HCC.out), by simp, HE3.out⟩
             case round =>
               obtain ⟨k, M, rfl, hkl, rfl, hM, hB⟩ := hrel
               have HMM := Lib.hid hM
               have HBB := Lib.hid hB
               clear hM hB
               by_cases hk1 : k < sent.length
               · have hki : (k : Int) < (sent.length : Int) := by omega
                 have hk0 : (0 : Int) ≤ (k : Int) := by omega
                 obtain ⟨bs, os, rfl, _⟩ := HQ.out.sl.at (by omega) k (by rw [HQ.out.len]; exact hk1)
                 obtain ⟨f, t, dd, co, cap3, hqk, hPk, z0, z1, z2⟩ := q_cells HQ.out (HX9.out.trans HBB.out) hk1
                 have HPK := Lib.hid hPk
                 have HQK := Lib.hid hqk
                 clear hPk hqk
                 cases M with
                 | true =>
                   go_wp2_with fail
                   refine wp_region_rel_all (fun _ => none) (by kernel_rfl) (by kernel_rfl) ?_
                   repeat (first
                     | (refine wpRel_quick ?_ ?_ ?_ ?_
                        · rfl
                        · rfl
                        · first | exact noEnter rfl | (intro f args W W'; go_simp)
                        intro K hK
                        go_big_quiet_op
                        go_big_quiet_on)
                     | (refine wpRel_skip ?_ ?_
                        · rfl
                        simp only [Act.put, List.setIfInBounds_toArray, List.set_cons_zero, List.set_cons_succ]))
                   refine wpRel_nil ?_
                   intro W3 hW3
                   have hE4 := (Ext.refl wr).drew.trans hW3.1
                   have HE4 := Lib.hid hE4
                   clear hE4 hW3
                   go_wp2_with fail
                   go_roundw
                   case rel => exact ⟨k + 1, true, by go_num, by omega, rfl, by rw [any_take hk1, ← Bool.or_assoc, ← HMM.out]; rfl, HBB.out.trans HE4.out⟩
                   case measure => simp [intOf] <;> omega
                 | false =>
                   obtain ⟨l0, l1, l2, lz⟩ := HB8.out.ext HBB.out
                   have gl0 : ∀ X, (wr.drew.grow X).cell? ⟨g8, 0, none⟩ = some (.int .i64 pf) := fun X => ((Ext.refl wr).drew.trans (ext_grow _ X)).cell l0
                   have gl1 : ∀ X, (wr.drew.grow X).cell? ⟨g8, 1, none⟩ = some (.int .i64 pt) := fun X => ((Ext.refl wr).drew.trans (ext_grow _ X)).cell l1
                   have gl2 : ∀ X, (wr.drew.grow X).cell? ⟨g8, 2, none⟩ = some (.slice p8 pd.length q8) := fun X => ((Ext.refl wr).drew.trans (ext_grow _ X)).cell l2
                   have gz0 : ∀ X, (wr.drew.grow X).cell? ⟨bs, os + k * 3, none⟩ = some (.int .i64 f) := fun X => ((Ext.refl wr).drew.trans (ext_grow _ X)).cell z0
                   have gz1 : ∀ X, (wr.drew.grow X).cell? ⟨bs, os + k * 3 + 1, none⟩ = some (.int .i64 t) := fun X => ((Ext.refl wr).drew.trans (ext_grow _ X)).cell z1
                   have gz2 : ∀ X, (wr.drew.grow X).cell? ⟨bs, os + k * 3 + 2, none⟩ = some (.slice co dd.length cap3) := fun X => ((Ext.refl wr).drew.trans (ext_grow _ X)).cell z2
                   go_wp2_with fail
                   refine wp_region_rel_all (fun j => if j = 7 then some (spV (.bool (samePk sent[k] ⟨pf, pt, pd⟩))) else none) (by kernel_rfl) (by kernel_rfl) ?_
                   repeat (first
                     | (refine wpRel_quick ?_ ?_ ?_ ?_
                        · rfl
                        · rfl
                        · first | exact noEnter rfl | (intro f args W W'; go_simp)
                        intro K hK
                        go_big_quiet_op
                        go_big_quiet_on)
                     | (refine wpRel_skip ?_ ?_
                        · rfl
                        simp only [Act.put, List.setIfInBounds_toArray, List.set_cons_zero, List.set_cons_succ]))
                   refine wpRel_rich _ rfl rfl (fun W hW => ?_) (fun v W8 hW8 hv => ?_)
                   · have hx : Ext wr W := (Ext.refl wr).drew.trans hW.1
                     have hc := samePacket_any sent[k] ⟨pf, pt, pd⟩ _ _ W (HPK.out.ext hx) (HP9.out.ext (HBB.out.trans hx))
                     go_simp
                     refine Calls.mono hc ?_
                     rintro e w8 ⟨rfl, hE8⟩
                     exact ⟨_, rfl, rfl, hE8⟩
                   obtain rfl := hv
                   simp only [Act.put, List.setIfInBounds_toArray, List.set_cons_zero, List.set_cons_succ]
                   repeat (first
                     | (refine wpRel_quick ?_ ?_ ?_ ?_
                        · rfl
                        · rfl
                        · first | exact noEnter rfl | (intro f args W W'; go_simp)
                        intro K hK
                        go_big_quiet_op
                        go_big_quiet_on)
                     | (refine wpRel_skip ?_ ?_
                        · rfl
                        simp only [Act.put, List.setIfInBounds_toArray, List.set_cons_zero, List.set_cons_succ]))
                   refine wpRel_nil ?_
                   intro W3 hW3
                   have hE4 := (Ext.refl wr).drew.trans hW3.1
                   have HE4 := Lib.hid hE4
                   clear hE4 hW3 hW8 gl0 gl1 gl2 gz0 gz1 gz2
                   go_wp2_with fail
                   go_roundw
                   case rel => exact ⟨k + 1, _, by go_num, by omega, rfl, by rw [any_take hk1, ← Bool.or_assoc, ← HMM.out]; rfl, HBB.out.trans HE4.out⟩
                   case measure => simp [intOf] <;> omega
               · have hki : ¬ (k : Int) < (sent.length : Int) := by omega
                 have hMt : M = true := by
                   rw [HMM.out, List.take_of_length_le (by omega)]
                   rcases HI.out.2 with h | h
                   · rw [Bool.or_eq_true]; exact .inr (List.any_eq_true.2 ⟨_, h, (samePk_iff _ _).2 rfl⟩)
                   · rfl
                 subst hMt
                 obtain ⟨k0, k1, kz⟩ := HB7.out.ext HBB.out
                 obtain ⟨n0, n1, nz⟩ := HNB.out.ext HBB.out
                 have HXV := Lib.hid (HX9.out.trans HBB.out)
                 have HINV := Lib.hid HI.out.1
                 go_wp2_with fail
                 refine (check_any r1 _ _ (((HN9.out.ext HBB.out)).setN (HNB.out.ext HBB.out) (.slice a8 r1.q.length c8) (.slice b8 r1.a.length d8))).mono ?_
                 rintro e v5 ⟨rfl, hE5⟩
                 rw [checkN_zero (Inv.ok HINV.out)]
                 have HE5 := Lib.hid hE5
                 clear hE5
                 go_wp2_with fail
                 go_roundw
                 case rel => exact ⟨i + 1, cuts, r1, sent, rws, a8, c8, b8, d8, by go_num, rfl, rnd_close (by omega) (by have := HR.out.ci; omega) (by have := HR.out.si; omega) HINV.out (ownsRow_ext HR.out.own HXV.out) (HR.out.spare.ext HXV.out) (HR.out.kept.ext HXV.out) HR.out.sl (HNB.out.ext HBB.out) ((HN9.out.ext HBB.out)) (HR.out.ext.trans HXV.out) HE5.out⟩
                 case measure => simp [intOf] <;> omega
           · have hc0 : ¬ (0 : Int) < (cuts : Int) := by omega
             have HCC := Lib.hid hcc
             clear hcc
             go_wp2_with fail
             go_loopw [10, 11] (fun mv kv w3 => ∃ (k : Nat) (M : Bool), kv = .int .i64 k ∧ k ≤ sent.length ∧ mv = .bool M ∧ M = (false || (sent.take k).any fun q => samePk q ⟨pf, pt, pd⟩) ∧ Ext W9 w3) (fun _ kv _ => sent.length - (intOf kv).toNat)
             case atStart => exact ⟨0, false, rfl, by omega, congrArg Value.bool (decide_eq_false (by have := HCC.out; omega)), by simp, HE3.out⟩
             case round =>
               obtain ⟨k, M, rfl, hkl, rfl, hM, hB⟩ := hrel
               have HMM := Lib.hid hM
               have HBB := Lib.hid hB
               clear hM hB
               by_cases hk1 : k < sent.length
               · have hki : (k : Int) < (sent.length : Int) := by omega
                 have hk0 : (0 : Int) ≤ (k : Int) := by omega
                 obtain ⟨bs, os, rfl, _⟩ := HQ.out.sl.at (by omega) k (by rw [HQ.out.len]; exact hk1)
                 obtain ⟨f, t, dd, co, cap3, hqk, hPk, z0, z1, z2⟩ := q_cells HQ.out (HX9.out.trans HBB.out) hk1
                 have HPK := Lib.hid hPk
                 have HQK := Lib.hid hqk
                 clear hPk hqk
                 cases M with
                 | true =>
                   go_wp2_with fail
                   refine wp_region_rel_all (fun _ => none) (by kernel_rfl) (by kernel_rfl) ?_
                   repeat (first
                     | (refine wpRel_quick ?_ ?_ ?_ ?_
                        · rfl
                        · rfl
                        · first | exact noEnter rfl | (intro f args W W'; go_simp)
                        intro K hK
                        go_big_quiet_op
                        go_big_quiet_on)
                     | (refine wpRel_skip ?_ ?_
                        · rfl
                        simp only [Act.put, List.setIfInBounds_toArray, List.set_cons_zero, List.set_cons_succ]))
                   refine wpRel_nil ?_
                   intro W3 hW3
                   have hE4 := (Ext.refl wr).drew.trans hW3.1
                   have HE4 := Lib.hid hE4
                   clear hE4 hW3
                   go_wp2_with fail
                   go_roundw
                   case rel => exact ⟨k + 1, true, by go_num, by omega, rfl, by rw [any_take hk1, ← Bool.or_assoc, ← HMM.out]; rfl, HBB.out.trans HE4.out⟩
                   case measure => simp [intOf] <;> omega
                 | false =>
                   obtain ⟨l0, l1, l2, lz⟩ := HB8.out.ext HBB.out
                   have gl0 : ∀ X, (wr.drew.grow X).cell? ⟨g8, 0, none⟩ = some (.int .i64 pf) := fun X => ((Ext.refl wr).drew.trans (ext_grow _ X)).cell l0
                   have gl1 : ∀ X, (wr.drew.grow X).cell? ⟨g8, 1, none⟩ = some (.int .i64 pt) := fun X => ((Ext.refl wr).drew.trans (ext_grow _ X)).cell l1
                   have gl2 : ∀ X, (wr.drew.grow X).cell? ⟨g8, 2, none⟩ = some (.slice p8 pd.length q8) := fun X => ((Ext.refl wr).drew.trans (ext_grow _ X)).cell l2
                   have gz0 : ∀ X, (wr.drew.grow X).cell? ⟨bs, os + k * 3, none⟩ = some (.int .i64 f) := fun X => ((Ext.refl wr).drew.trans (ext_grow _ X)).cell z0
                   have gz1 : ∀ X, (wr.drew.grow X).cell? ⟨bs, os + k * 3 + 1, none⟩ = some (.int .i64 t) := fun X => ((Ext.refl wr).drew.trans (ext_grow _ X)).cell z1
                   have gz2 : ∀ X, (wr.drew.grow X).cell? ⟨bs, os + k * 3 + 2, none⟩ = some (.slice co dd.length cap3) := fun X => ((Ext.refl wr).drew.trans (ext_grow _ X)).cell z2
                   go_wp2_with fail
                   refine wp_region_rel_all (fun j => if j = 7 then some (spV (.bool (samePk sent[k] ⟨pf, pt, pd⟩))) else none) (by kernel_rfl) (by kernel_rfl) ?_
                   repeat (first
                     | (refine wpRel_quick ?_ ?_ ?_ ?_
                        · rfl
                        · rfl
                        · first | exact noEnter rfl | (intro f args W W'; go_simp)
                        intro K hK
                        go_big_quiet_op
                        go_big_quiet_on)
                     | (refine wpRel_skip ?_ ?_
                        · rfl
                        simp only [Act.put, List.setIfInBounds_toArray, List.set_cons_zero, List.set_cons_succ]))
                   refine wpRel_rich _ rfl rfl (fun W hW => ?_) (fun v W8 hW8 hv => ?_)
                   · have hx : Ext wr W := (Ext.refl wr).drew.trans hW.1
                     have hc := samePacket_any sent[k] ⟨pf, pt, pd⟩ _ _ W (HPK.out.ext hx) (HP9.out.ext (HBB.out.trans hx))
                     go_simp
                     refine Calls.mono hc ?_
                     rintro e w8 ⟨rfl, hE8⟩
                     exact ⟨_, rfl, rfl, hE8⟩
                   obtain rfl := hv
                   simp only [Act.put, List.setIfInBounds_toArray, List.set_cons_zero, List.set_cons_succ]
                   repeat (first
                     | (refine wpRel_quick ?_ ?_ ?_ ?_
                        · rfl
                        · rfl
                        · first | exact noEnter rfl | (intro f args W W'; go_simp)
                        intro K hK
                        go_big_quiet_op
                        go_big_quiet_on)
                     | (refine wpRel_skip ?_ ?_
                        · rfl
                        simp only [Act.put, List.setIfInBounds_toArray, List.set_cons_zero, List.set_cons_succ]))
                   refine wpRel_nil ?_
                   intro W3 hW3
                   have hE4 := (Ext.refl wr).drew.trans hW3.1
                   have HE4 := Lib.hid hE4
                   clear hE4 hW3 hW8 gl0 gl1 gl2 gz0 gz1 gz2
                   go_wp2_with fail
                   go_roundw
                   case rel => exact ⟨k + 1, _, by go_num, by omega, rfl, by rw [any_take hk1, ← Bool.or_assoc, ← HMM.out]; rfl, HBB.out.trans HE4.out⟩
                   case measure => simp [intOf] <;> omega
               · have hki : ¬ (k : Int) < (sent.length : Int) := by omega
                 have hMt : M = true := by
                   rw [HMM.out, List.take_of_length_le (by omega)]
                   rcases HI.out.2 with h | h
                   · rw [Bool.or_eq_true]; exact .inr (List.any_eq_true.2 ⟨_, h, (samePk_iff _ _).2 rfl⟩)
                   · exact absurd h.2 (by have := HCC.out; omega)
                 subst hMt
                 obtain ⟨k0, k1, kz⟩ := HB7.out.ext HBB.out
                 obtain ⟨n0, n1, nz⟩ := HNB.out.ext HBB.out
                 have HXV := Lib.hid (HX9.out.trans HBB.out)
                 have HINV := Lib.hid HI.out.1
                 go_wp2_with fail
                 refine (check_any r1 _ _ (((HN9.out.ext HBB.out)).setN (HNB.out.ext HBB.out) (.slice a8 r1.q.length c8) (.slice b8 r1.a.length d8))).mono ?_
                 rintro e v5 ⟨rfl, hE5⟩
                 rw [checkN_zero (Inv.ok HINV.out)]
                 have HE5 := Lib.hid hE5
                 clear hE5
                 go_wp2_with fail
                 go_roundw
                 case rel => exact ⟨i + 1, cuts, r1, sent, rws, a8, c8, b8, d8, by go_num, rfl, rnd_close (by omega) (by have := HR.out.ci; omega) (by have := HR.out.si; omega) HINV.out (ownsRow_ext HR.out.own HXV.out) (HR.out.spare.ext HXV.out) (HR.out.kept.ext HXV.out) HR.out.sl (HNB.out.ext HBB.out) ((HN9.out.ext HBB.out)) (HR.out.ext.trans HXV.out) HE5.out⟩
                 case measure => simp [intOf] <;> omega
          | false =>
           have HS0 := Lib.hid hs0
           clear hs0
           go_wp2_with fail
           go_loopw [10, 11] (fun mv kv w3 => ∃ (k : Nat) (M : Bool), kv = .int .i64 k ∧ k ≤ sent.length ∧ mv = .bool M ∧ M = (false || (sent.take k).any fun q => samePk q ⟨pf, pt, pd⟩) ∧ Ext W9 w3) (fun _ kv _ => sent.length - (intOf kv).toNat)
           case atStart => exact ⟨0, false, rfl, by omega, rfl, by simp, HE3.out⟩
           case round =>
             obtain ⟨k, M, rfl, hkl, rfl, hM, hB⟩ := hrel
             have HMM := Lib.hid hM
             have HBB := Lib.hid hB
             clear hM hB
             by_cases hk1 : k < sent.length
             · have hki : (k : Int) < (sent.length : Int) := by omega
               have hk0 : (0 : Int) ≤ (k : Int) := by omega
               obtain ⟨bs, os, rfl, _⟩ := HQ.out.sl.at (by omega) k (by rw [HQ.out.len]; exact hk1)
               obtain ⟨f, t, dd, co, cap3, hqk, hPk, z0, z1, z2⟩ := q_cells HQ.out (HX9.out.trans HBB.out) hk1
               have HPK := Lib.hid hPk
               have HQK := Lib.hid hqk
               clear hPk hqk
               cases M with
               | true =>
                 go_wp2_with fail
                 refine wp_region_rel_all (fun _ => none) (by kernel_rfl) (by kernel_rfl) ?_
                 repeat (first
                   | (refine wpRel_quick ?_ ?_ ?_ ?_
                      · rfl
                      · rfl
                      · first | exact noEnter rfl | (intro f args W W'; go_simp)
                      intro K hK
                      go_big_quiet_op
                      go_big_quiet_on)
                   | (refine wpRel_skip ?_ ?_
                      · rfl
                      simp only [Act.put, List.setIfInBounds_toArray, List.set_cons_zero, List.set_cons_succ]))
                 refine wpRel_nil ?_
                 intro W3 hW3
                 have hE4 := (Ext.refl wr).drew.trans hW3.1
                 have HE4 := Lib.hid hE4
                 clear hE4 hW3
                 go_wp2_with fail
                 go_roundw
                 case rel => exact ⟨k + 1, true, by go_num, by omega, rfl, by rw [any_take hk1, ← Bool.or_assoc, ← HMM.out]; rfl, HBB.out.trans HE4.out⟩
                 case measure => simp [intOf] <;> omega
               | false =>
                 obtain ⟨l0, l1, l2, lz⟩ := HB8.out.ext HBB.out
                 have gl0 : ∀ X, (wr.drew.grow X).cell? ⟨g8, 0, none⟩ = some (.int .i64 pf) := fun X => ((Ext.refl wr).drew.trans (ext_grow _ X)).cell l0
                 have gl1 : ∀ X, (wr.drew.grow X).cell? ⟨g8, 1, none⟩ = some (.int .i64 pt) := fun X => ((Ext.refl wr).drew.trans (ext_grow _ X)).cell l1
                 have gl2 : ∀ X, (wr.drew.grow X).cell? ⟨g8, 2, none⟩ = some (.slice p8 pd.length q8) := fun X => ((Ext.refl wr).drew.trans (ext_grow _ X)).cell l2
                 have gz0 : ∀ X, (wr.drew.grow X).cell? ⟨bs, os + k * 3, none⟩ = some (.int .i64 f) := fun X => ((Ext.refl wr).drew.trans (ext_grow _ X)).cell z0
                 have gz1 : ∀ X, (wr.drew.grow X).cell? ⟨bs, os + k * 3 + 1, none⟩ = some (.int .i64 t) := fun X => ((Ext.refl wr).drew.trans (ext_grow _ X)).cell z1
                 have gz2 : ∀ X, (wr.drew.grow X).cell? ⟨bs, os + k * 3 + 2, none⟩ = some (.slice co dd.length cap3) := fun X => ((Ext.refl wr).drew.trans (ext_grow _ X)).cell z2
                 go_wp2_with fail
                 refine wp_region_rel_all (fun j => if j = 7 then some (spV (.bool (samePk sent[k] ⟨pf, pt, pd⟩))) else none) (by kernel_rfl) (by kernel_rfl) ?_
                 repeat (first
                   | (refine wpRel_quick ?_ ?_ ?_ ?_
                      · rfl
                      · rfl
                      · first | exact noEnter rfl | (intro f args W W'; go_simp)
                      intro K hK
                      go_big_quiet_op
                      go_big_quiet_on)
                   | (refine wpRel_skip ?_ ?_
                      · rfl
                      simp only [Act.put, List.setIfInBounds_toArray, List.set_cons_zero, List.set_cons_succ]))
                 refine wpRel_rich _ rfl rfl (fun W hW => ?_) (fun v W8 hW8 hv => ?_)
                 · have hx : Ext wr W := (Ext.refl wr).drew.trans hW.1
                   have hc := samePacket_any sent[k] ⟨pf, pt, pd⟩ _ _ W (HPK.out.ext hx) (HP9.out.ext (HBB.out.trans hx))
                   go_simp
                   refine Calls.mono hc ?_
                   rintro e w8 ⟨rfl, hE8⟩
                   exact ⟨_, rfl, rfl, hE8⟩
                 obtain rfl := hv
                 simp only [Act.put, List.setIfInBounds_toArray, List.set_cons_zero, List.set_cons_succ]
                 repeat (first
                   | (refine wpRel_quick ?_ ?_ ?_ ?_
                      · rfl
                      · rfl
                      · first | exact noEnter rfl | (intro f args W W'; go_simp)
                      intro K hK
                      go_big_quiet_op
                      go_big_quiet_on)
                   | (refine wpRel_skip ?_ ?_
                      · rfl
                      simp only [Act.put, List.setIfInBounds_toArray, List.set_cons_zero, List.set_cons_succ]))
                 refine wpRel_nil ?_
                 intro W3 hW3
                 have hE4 := (Ext.refl wr).drew.trans hW3.1
                 have HE4 := Lib.hid hE4
                 clear hE4 hW3 hW8 gl0 gl1 gl2 gz0 gz1 gz2
                 go_wp2_with fail
                 go_roundw
                 case rel => exact ⟨k + 1, _, by go_num, by omega, rfl, by rw [any_take hk1, ← Bool.or_assoc, ← HMM.out]; rfl, HBB.out.trans HE4.out⟩
                 case measure => simp [intOf] <;> omega
             · have hki : ¬ (k : Int) < (sent.length : Int) := by omega
               have hMt : M = true := by
                 rw [HMM.out, List.take_of_length_le (by omega)]
                 rcases HI.out.2 with h | h
                 · rw [Bool.or_eq_true]; exact .inr (List.any_eq_true.2 ⟨_, h, (samePk_iff _ _).2 rfl⟩)
                 · exact absurd ((samePk_iff _ _).2 h.1) (by rw [HS0.out]; simp)
               subst hMt
               obtain ⟨k0, k1, kz⟩ := HB7.out.ext HBB.out
               obtain ⟨n0, n1, nz⟩ := HNB.out.ext HBB.out
               have HXV := Lib.hid (HX9.out.trans HBB.out)
               have HINV := Lib.hid HI.out.1
               go_wp2_with fail
               refine (check_any r1 _ _ (((HN9.out.ext HBB.out)).setN (HNB.out.ext HBB.out) (.slice a8 r1.q.length c8) (.slice b8 r1.a.length d8))).mono ?_
               rintro e v5 ⟨rfl, hE5⟩
               rw [checkN_zero (Inv.ok HINV.out)]
               have HE5 := Lib.hid hE5
               clear hE5
               go_wp2_with fail
               go_roundw
               case rel => exact ⟨i + 1, cuts, r1, sent, rws, a8, c8, b8, d8, by go_num, rfl, rnd_close (by omega) (by have := HR.out.ci; omega) (by have := HR.out.si; omega) HINV.out (ownsRow_ext HR.out.own HXV.out) (HR.out.spare.ext HXV.out) (HR.out.kept.ext HXV.out) HR.out.sl (HNB.out.ext HBB.out) ((HN9.out.ext HBB.out)) (HR.out.ext.trans HXV.out) HE5.out⟩
               case measure => simp [intOf] <;> omega
        · have hk6 : (m.b0.toNat : Int) % 6 = 2 := by have : m.b0.toNat % 6 = 2 := hk; omega
          have HINV := Lib.hid (HI2.out hk rfl)
          have hcl : (cuts : Int) ≤ 9223372036854775806 := by have := HR.out.ci; omega
          clear hk hb0
          go_wp2_with fail
          refine (check_any r1 _ _ ((HN9.out).setN HNB.out (.slice a8 r1.q.length c8) (.slice b8 r1.a.length d8))).mono ?_
          rintro e v5 ⟨rfl, hE5⟩
          rw [checkN_zero (Inv.ok HINV.out)]
          have HE5 := Lib.hid hE5
          clear hE5
          go_wp2_with fail
          go_roundw
          case rel => exact ⟨i + 1, cuts, r1, sent, rws, a8, c8, b8, d8, by go_num, rfl, rnd_close (by omega) (by have := HR.out.ci; omega) (by have := HR.out.si; omega) HINV.out (ownsRow_ext HR.out.own HX9.out) (HR.out.spare.ext HX9.out) (HR.out.kept.ext HX9.out) HR.out.sl HNB.out (HN9.out) (HR.out.ext.trans HX9.out) HE5.out⟩
          case measure => simp [intOf] <;> omega
        · have hk6 : (m.b0.toNat : Int) % 6 = 3 := by have : m.b0.toNat % 6 = 3 := hk; omega
          have HINV := Lib.hid (HI3.out hk rfl)
          have hcl : (cuts : Int) ≤ 9223372036854775806 := by have := HR.out.ci; omega
          clear hk hb0
          go_wp2_with fail
          refine (check_any r1 _ _ ((HN9.out).setN HNB.out (.slice a8 r1.q.length c8) (.slice b8 r1.a.length d8))).mono ?_
          rintro e v5 ⟨rfl, hE5⟩
          rw [checkN_zero (Inv.ok HINV.out)]
          have HE5 := Lib.hid hE5
          clear hE5
          go_wp2_with fail
          go_roundw
          case rel => exact ⟨i + 1, cuts, r1, sent, rws, a8, c8, b8, d8, by go_num, rfl, rnd_close (by omega) (by have := HR.out.ci; omega) (by have := HR.out.si; omega) HINV.out (ownsRow_ext HR.out.own HX9.out) (HR.out.spare.ext HX9.out) (HR.out.kept.ext HX9.out) HR.out.sl HNB.out (HN9.out) (HR.out.ext.trans HX9.out) HE5.out⟩
          case measure => simp [intOf] <;> omega
        · have hk6 : (m.b0.toNat : Int) % 6 = 4 := by have : m.b0.toNat % 6 = 4 := hk; omega
          have HINV := Lib.hid (HI4.out hk rfl)
          have hcl : (cuts : Int) ≤ 9223372036854775806 := by have := HR.out.ci; omega
          clear hk hb0
          go_wp2_with fail
          refine (check_any r1 _ _ ((HN9.out).setN HNB.out (.slice a8 r1.q.length c8) (.slice b8 r1.a.length d8))).mono ?_
          rintro e v5 ⟨rfl, hE5⟩
          rw [checkN_zero (Inv.ok HINV.out)]
          have HE5 := Lib.hid hE5
          clear hE5
          go_wp2_with fail
          go_roundw
          case rel => exact ⟨i + 1, cuts + 1, r1, sent, rws, a8, c8, b8, d8, by go_num, by go_num, rnd_close (by omega) (by have := HR.out.ci; omega) (by have := HR.out.si; omega) HINV.out (ownsRow_ext HR.out.own HX9.out) (HR.out.spare.ext HX9.out) (HR.out.kept.ext HX9.out) HR.out.sl HNB.out (HN9.out) (HR.out.ext.trans HX9.out) HE5.out⟩
          case measure => simp [intOf] <;> omega
        · have hk6 : (m.b0.toNat : Int) % 6 = 5 := by have : m.b0.toNat % 6 = 5 := hk; omega
          have HINV := Lib.hid (HI5.out hk rfl)
          have hcl : (cuts : Int) ≤ 9223372036854775806 := by have := HR.out.ci; omega
          clear hk hb0
          go_wp2_with fail
          refine (check_any r1 _ _ ((HN9.out).setN HNB.out (.slice a8 r1.q.length c8) (.slice b8 r1.a.length d8))).mono ?_
          rintro e v5 ⟨rfl, hE5⟩
          rw [checkN_zero (Inv.ok HINV.out)]
          have HE5 := Lib.hid hE5
          clear hE5
          go_wp2_with fail
          go_roundw
          case rel => exact ⟨i + 1, cuts, r1, sent, rws, a8, c8, b8, d8, by go_num, rfl, rnd_close (by omega) (by have := HR.out.ci; omega) (by have := HR.out.si; omega) HINV.out (ownsRow_ext HR.out.own HX9.out) (HR.out.spare.ext HX9.out) (HR.out.kept.ext HX9.out) HR.out.sl HNB.out (HN9.out) (HR.out.ext.trans HX9.out) HE5.out⟩
          case measure => simp [intOf] <;> omega
      · have hge : (er != 0) = true := by simpa using he
        obtain rfl := HER.out he
        clear he
        go_wp2_with fail
        refine (check_any n _ _ (HR.out.rep.ext HX9.out)).mono ?_
        rintro e v3 ⟨rfl, hE3⟩
        rw [checkN_zero HR.out.inv.ok]
        obtain ⟨k0, k1, kz⟩ := HB7.out.ext hE3
        go_wp2_with fail
        refine (same_true ⟨[], []⟩ _ _ _ (HN9.out.ext hE3) (RepN.zero' _)).mono ?_
        rintro e v4 ⟨rfl, hE4⟩
        have HX4 := Lib.hid (HX9.out.trans (hE3.trans hE4))
        clear hE3 hE4
        go_wp2_with fail
        go_roundw
        case rel => exact ⟨i + 1, cuts, n, sent, rws, a, c, b, d, by go_num, rfl, HR.out.next (by omega) HX4.out⟩
        case measure => simp [intOf] <;> omega
    · have hji : ¬ (i : Int) < (l.length : Int) := by omega
      go_wp2_with fail
      go_ret
      exact ⟨rfl, HX2.out.trans HR.out.ext⟩
end Go.Proofs.Ytdlahgmbilkdcaa
