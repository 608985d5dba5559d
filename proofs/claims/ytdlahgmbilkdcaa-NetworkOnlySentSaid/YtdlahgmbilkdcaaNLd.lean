/- The law NetworkAll, walked: it answers true. -/
import Derived.Test.YtdlahgmbilkdcaaN8f
namespace Go.Sz
open Go.RowKit
/-- packets that were kept: their rows, and what the rows stand for -/
structure Kept (W : World) (rws : List (List Value)) (want : List Pk) : Prop where
  len : rws.length = want.length
  row : ∀ r ∈ rws, ∃ f t x, r = [.int .i64 f, .int .i64 t, x]
  el : ∀ (i : Nat) (r : List Value) (p : Pk), rws[i]? = some r → want[i]? = some p → RepP W r p
theorem Kept.nil (W : World) : Kept W [] [] := ⟨rfl, by simp, by simp⟩
theorem Kept.wid {W : World} {rws : List (List Value)} {want : List Pk} (h : Kept W rws want) : ∀ r ∈ rws, r.length = 3 := fun r hr => by obtain ⟨f, t, x, rfl⟩ := h.row r hr; rfl
theorem Kept.snoc {W : World} {rws : List (List Value)} {want : List Pk} (h : Kept W rws want) {f t : Int} {x : Value} {p : Pk} (hp : RepP W [.int .i64 f, .int .i64 t, x] p) : Kept W (rws ++ [[.int .i64 f, .int .i64 t, x]]) (want ++ [p]) := by
  refine ⟨by simp [h.len], fun r hr => ?_, fun i r q hr hq => ?_⟩
  · rcases List.mem_append.1 hr with hr | hr
    · exact h.row r hr
    · simp at hr; exact ⟨f, t, x, hr⟩
  · rcases Nat.lt_or_ge i rws.length with hi | hi
    · rw [List.getElem?_append_left hi] at hr
      rw [List.getElem?_append_left (by have := h.len; omega)] at hq
      exact h.el i r q hr hq
    · rw [List.getElem?_append_right hi] at hr
      rw [List.getElem?_append_right (by have := h.len; omega)] at hq
      have h0 : i - rws.length = 0 := by
        rcases Nat.eq_zero_or_pos (i - rws.length) with h | h
        · exact h
        · rw [List.getElem?_eq_none (by simp; omega)] at hr; cases hr
      rw [h0] at hr
      rw [← h.len, h0] at hq
      cases hr; cases hq
      exact hp
theorem Kept.q {v W : World} {ao : Option Addr} {cap : Nat} {rws : List (List Value)} {want : List Pk} (h : Kept v rws want) (hE : Ext v W) (hs : SL W 3 ao cap rws) : RepQ W ao cap rws want :=
  ⟨hs, h.len, fun i r p h1 h2 => (h.el i r p h1 h2).ext hE⟩
/-- a store into a variable that holds two slices lies beside the packets -/
theorem SL.setBox2 {W : World} {ao : Option Addr} {cap : Nat} {rows : List (List Value)} (h : SL W 3 ao cap rows) (hp : ∀ r ∈ rows, ∃ f t x, r = [.int .i64 f, .int .i64 t, x]) {B : Nat} {x0 x1 : Option Addr} {k0 k1 c0 c1 : Nat} (hb : Box2 W B (.slice x0 k0 c0) (.slice x1 k1 c1)) (u0 u1 : Value) :
    SL ((W.setCell ⟨B, 0, none⟩ u0).setCell ⟨B, 1, none⟩ u1) 3 ao cap rows := by
  refine ⟨h.le, h.max, h.nil, h.wid, fun i j r v hr hv => ?_⟩
  obtain ⟨b, o, e, hc⟩ := h.cells i j r v hr hv
  refine ⟨b, o, e, cell_set2 ⟨b, o + i * 3 + j, none⟩ v rfl hc ?_⟩
  by_cases hbB : b = B
  · right
    subst hbB
    obtain ⟨f, t, x, rfl⟩ := hp r (List.mem_of_getElem? hr)
    show 2 ≤ o + i * 3 + j
    by_cases hj : 2 ≤ j
    · omega
    · have hv' : ∃ z, v = .int .i64 z := by
        have : j = 0 ∨ j = 1 := by omega
        rcases this with rfl | rfl
        · simp at hv; exact ⟨f, hv.symm⟩
        · simp at hv; exact ⟨t, hv.symm⟩
      obtain ⟨z, rfl⟩ := hv'
      by_cases h0 : o + i * 3 + j = 0
      · rw [h0, hb.c0] at hc; cases hc
      · by_cases h1 : o + i * 3 + j = 1
        · rw [h1, hb.c1] at hc; cases hc
        · omega
  · exact .inl hbB
def spRetS (D n : Nat) (x : Value) (rows : List (List Value)) : Spec := ⟨fun v W => ∃ ao c, v = .tuple #[.agg #[.slice ao n c, x], .int .i64 0] ∧ SL W 3 ao c rows ∧ (∀ a, ao = some a → D ≤ a.block), fun hE ⟨ao, c, h1, h2, h3⟩ => ⟨ao, c, h1, h2.ext hE, h3⟩⟩
theorem ownsRow_far {W : World} {D e size n : Nat} {v : Value} {xs : List Value} (h : W.ownsRow D e size v n xs) {q : Addr} (u : Value) (hq : q.block < D) : (W.setCell q u).ownsRow D e size v n xs := by
  rcases h.2 with ⟨rfl, h0⟩ | ⟨g, cap, cur, rfl, h1, h2, h3⟩
  · exact ⟨h.1, .inl ⟨rfl, h0⟩⟩
  · exact ⟨h.1, .inr ⟨g, cap, cur, rfl, h1, by rw [heap_setCell_far _ _ _ _ (by omega)]; exact h2, h3⟩⟩
theorem ownsRow_lt {W : World} {D e size n : Nat} {v : Value} {xs : List Value} (h : W.ownsRow D e size v n xs) : ∀ k, v.ownBlock = some k → k < W.heap.size := fun k hk => by
  rcases h.2 with ⟨rfl, _⟩ | ⟨g, cap, cur, rfl, _, h2, _⟩
  · cases hk
  · obtain rfl : g = k := by simpa [Value.ownBlock] using hk
    exact (Array.getElem?_eq_some_iff.1 h2).1
theorem okN_nil : okN ⟨[], []⟩ = true := by decide
end Go.Sz
namespace Go.Proofs.Ytdlahgmbilkdcaa
open Go.RowKit Go.Sz Go.Shelf

set_option maxRecDepth 100000 in
set_option maxHeartbeats 12800000 in
theorem law_all (q0 : List Pk) (ks : List UInt8) (rows : List (List Value)) (ao a2 : Option Addr) (cap cap2 : Nat) (w : World) (hq : RepQ w ao cap rows q0) (hk : SL w 1 a2 cap2 (br ks)) : Calls Try.prog 4 #[.slice ao q0.length cap, .slice a2 ks.length cap2] w fun e w' => e = .returned (.bool true) ∧ Ext w w' := by
  have HQ0 := Lib.hid hq
  have HK0 := Lib.hid hk
  have hs1 : (q0.length : Int) ≤ 9223372036854775807 := by have := hq.sl.max; have := hq.sl.le; have := hq.len; omega
  clear hq hk
  obtain ⟨i0, hi, hz0, hz1, hz2⟩ := info_parts infoPk
  go_enter Try.func4, Try.ntmps4
  go_wp2_with fail
  refine (sane_any _).mono ?_
  rintro e v1 ⟨rfl, hE1⟩
  by_cases hgt : 12 < q0.length
  · have hl12 : (12 : Int) < (q0.length : Int) := by omega
    go_wp2_with fail
    go_ret
    exact ⟨rfl, hE1⟩
  have hl : q0.length ≤ 12 := by omega
  clear hgt
  have hl12 : ¬ (12 : Int) < (q0.length : Int) := by omega
  go_wp2_with fail
  refine (new_any _).mono ?_
  rintro e v2 ⟨rfl, hE2⟩
  have HX2 := Lib.hid (hE1.trans hE2)
  have HQ := Lib.hid (HQ0.out.ext HX2.out)
  have HKS := Lib.hid (HK0.out.ext HX2.out)
  have HL := Lib.hid hl
  clear HQ0 HK0 hE1 hE2 hl hl12
  go_wp2_with fail
  have hbn := Box2.new v2 (.slice none 0 0) (.slice none 0 0) 25
  go_loopw [6, 7] (fun lv jv wr => ∃ (j : Nat) (want : List Pk) (rws : List (List Value)) (a : Option Addr) (c : Nat), jv = .int .i64 j ∧ j ≤ q0.length ∧ want.length ≤ j ∧ okN ⟨want, []⟩ = true ∧ wr.ownsRow (v2.heap.size + 1) 28 3 lv want.length rws.flatten ∧ SL wr 3 a c rws ∧ Kept v2 rws want ∧ Box2 wr v2.heap.size (.slice a want.length c) (.slice none 0 0) ∧ Ext v2 wr) (fun _ jv _ => q0.length - (intOf jv).toNat)
  case atStart => exact ⟨0, [], [], none, 0, rfl, by omega, by simp, okN_nil, by exact World.ownsRow_nil _ _ _ _, SL.empty _ _, Kept.nil _, hbn, (Ext.refl _).alloc _⟩
  case round =>
    clear hbn
    obtain ⟨j, want, rws, a, c, rfl, hj, hwj, hok, ho, hs, hkp, hb, hB⟩ := hrel
    have HOK := Lib.hid hok
    have HO := Lib.hid ho
    have HS := Lib.hid hs
    have HKP := Lib.hid hkp
    have HBX := Lib.hid hb
    have HB := Lib.hid hB
    have HWJ := Lib.hid hwj
    clear hok ho hs hkp hb hB hwj
    by_cases hjl : j < q0.length
    · have hji : (j : Int) < (q0.length : Int) := by omega
      obtain ⟨bq, oq, rfl, _⟩ := HQ.out.sl.at (by omega) j (by rw [HQ.out.len]; exact hjl)
      obtain ⟨f, t, d, co, cap3, hqj, hP, z0, z1, z2⟩ := q_cells HQ.out (Ext.refl _) hjl
      rw [hqj] at hP
      have HP := Lib.hid hP
      clear hP hqj
      obtain ⟨n0, n1, nz⟩ := HBX.out
      have gn0 : ∀ X, (wr.drew.grow X).cell? ⟨v2.heap.size, 0, none⟩ = some (.slice a want.length c) := fun X => ((Ext.refl wr).drew.trans (ext_grow _ X)).cell n0
      have gn1 : ∀ X, (wr.drew.grow X).cell? ⟨v2.heap.size, 1, none⟩ = some (.slice none 0 0) := fun X => ((Ext.refl wr).drew.trans (ext_grow _ X)).cell n1
      have gz0 : ∀ X, (wr.drew.grow X).cell? ⟨bq, oq + j * 3, none⟩ = some (.int .i64 f) := fun X => (HB.out.trans ((Ext.refl wr).drew.trans (ext_grow _ X))).cell z0
      have gz1 : ∀ X, (wr.drew.grow X).cell? ⟨bq, oq + j * 3 + 1, none⟩ = some (.int .i64 t) := fun X => (HB.out.trans ((Ext.refl wr).drew.trans (ext_grow _ X))).cell z1
      have gz2 : ∀ X, (wr.drew.grow X).cell? ⟨bq, oq + j * 3 + 2, none⟩ = some (.slice co d.length cap3) := fun X => (HB.out.trans ((Ext.refl wr).drew.trans (ext_grow _ X))).cell z2
      go_wp2_with fail
      cases hop : okP ⟨f, t, d⟩ with
      | false =>
        have HOP := Lib.hid hop
        clear hop
        refine wp_region_noPanic ?_
        refine wp_region_rel2 (fun i => if i = 5 then some (spRetN (⟨[], []⟩, 480)) else if i = 9 then some (spVar2 wr.heap.size 25) else none) 10 2 [8] (by kernel_rfl) (by kernel_rfl) (fun i hi => by simp at hi; subst hi; rfl) (fun _ _ _ _ _ h => h) ?_
        simp only [List.take_succ_cons, List.take_zero]
        repeat (first
          | (refine wpRel_quick ?_ ?_ ?_ ?_
             · rfl
             · rfl
             · first | exact noEnter rfl | (intro f args W W'; go_simp)
             intro K hK
             go_big_quiet_op
             go_big_quiet_on)
          | (refine wpRel_skip ?_ ?_
             · rfl
             simp only [Act.put, List.setIfInBounds_toArray, List.set_cons_zero, List.set_cons_succ]))
        refine wpRel_rich _ rfl rfl (fun W hW => ?_) (fun v W8 hW8 hv => ?_)
        · have hx : Ext wr W := (Ext.refl wr).drew.trans hW.1
          have hxx := HB.out.trans hx
          have hc := send_any ⟨want, []⟩ ⟨f, t, d⟩ _ _ W (⟨a, c, none, 0, rws, rfl, HKP.out.q hxx (HS.out.ext hx), ⟨SL.empty _ _, by simp⟩⟩ : RepN W [.slice a want.length c, .slice none 0 0] ⟨want, []⟩) (HP.out.ext hxx)
          rw [show sendN ⟨want, []⟩ ⟨f, t, d⟩ = (⟨[], []⟩, 480) by unfold sendN; rw [if_pos HOK.out, if_neg (by rw [HOP.out]; simp)]] at hc
          go_simp
          refine Calls.mono hc ?_
          rintro e w8 ⟨cs8, rfl, hN8, hE8⟩
          exact ⟨_, rfl, ⟨cs8, rfl, hN8⟩, hE8⟩
        obtain ⟨cs8, rfl, hN8⟩ := hv
        obtain ⟨a8, c8, b8, d8, rfl⟩ := hN8.open
        clear hN8
        simp only [Act.put, List.setIfInBounds_toArray, List.set_cons_zero, List.set_cons_succ]
        repeat (first
          | (refine wpRel_quick ?_ ?_ ?_ ?_
             · rfl
             · rfl
             · first | exact noEnter rfl | (intro f args W W'; go_simp)
             intro K hK
             go_big_quiet_op
             go_big_quiet_on)
          | (refine wpRel_skip ?_ ?_
             · rfl
             simp only [Act.put, List.setIfInBounds_toArray, List.set_cons_zero, List.set_cons_succ]))
        refine wpRel_rich _ rfl rfl (fun W hW => ?_) (fun v W9 hW9 hv => ?_)
        · go_simp
          exact ⟨⟨_, rfl, hW.1.size, World.alloc_heap_new W _⟩, (Ext.refl _).alloc _⟩
        obtain ⟨g15, rfl, hg15, _⟩ := hv
        simp only [Act.put, List.setIfInBounds_toArray, List.set_cons_zero, List.set_cons_succ]
        refine wpRel_nil ?_
        intro W8' hW8'
        obtain ⟨g15', hg, _, hbx⟩ := hW8'.2 9 trivial _ _ rfl rfl
        cases hg
        replace hbx : Boxed2 W8' g15 25 (.slice none 0 0) (.slice none 0 0) := hbx
        have hE8 : Ext wr W8' := (Ext.refl wr).drew.trans hW8'.1
        clear hW8' hW8 hW9
        replace hg15 : wr.heap.size ≤ g15 := hg15
        obtain ⟨k0, k1, kz⟩ := hbx.box
        refine wpAny_ready (rs := [10]) (by kernel_rfl) (by simp) ?_
        refine AllReady.cons rfl (fun K hK => ?_) AllReady.nil
        go_simp
        refine hK _ _ ?_
        clear hK K
        refine wpAny_ready (rs := [11]) (by kernel_rfl) (by simp) ?_
        refine AllReady.cons rfl (fun K hK => ?_) AllReady.nil
        go_simp
        refine hK _ _ ?_
        clear hK K
        refine wpAny_done (by kernel_rfl) ?_ _
        refine NoPanic.normal ?_
        have hX8 := (hE8.setCell (p := ⟨g15, 0, none⟩) hg15 (.slice a8 0 c8)).setCell (p := ⟨g15, 1, none⟩) hg15 (.slice b8 0 d8)
        go_wp2_with fail
        have hjs := HL.out
        go_roundw
        case rel => exact ⟨j + 1, want, rws, a, c, by go_num, by omega, by have := HWJ.out; omega, HOK.out, ownsRow_ext HO.out hX8, HS.out.ext hX8, HKP.out, HBX.out.ext hX8, HB.out.trans hX8⟩
        case measure => simp [intOf] <;> omega
      | true =>
        have HOP := Lib.hid hop
        clear hop
        refine wp_region_noPanic ?_
        refine wp_region_rel2 (fun i => if i = 5 then some (spRetS wr.heap.size (want.length + 1) (.slice none 0 0) (rws ++ [[.int .i64 f, .int .i64 t, .slice co d.length cap3]])) else if i = 9 then some (spVar2 wr.heap.size 25) else none) 10 2 [8] (by kernel_rfl) (by kernel_rfl) (fun i hi => by simp at hi; subst hi; rfl) (fun _ _ _ _ _ h => h) ?_
        simp only [List.take_succ_cons, List.take_zero]
        repeat (first
          | (refine wpRel_quick ?_ ?_ ?_ ?_
             · rfl
             · rfl
             · first | exact noEnter rfl | (intro f args W W'; go_simp)
             intro K hK
             go_big_quiet_op
             go_big_quiet_on)
          | (refine wpRel_skip ?_ ?_
             · rfl
             simp only [Act.put, List.setIfInBounds_toArray, List.set_cons_zero, List.set_cons_succ]))
        refine wpRel_rich _ rfl rfl (fun W hW => ?_) (fun v W8 hW8 hv => ?_)
        · have hx : Ext wr W := (Ext.refl wr).drew.trans hW.1
          have hxx := HB.out.trans hx
          have hc := send_far want [] f t d rws a none co c 0 cap3 W (HKP.out.q hxx (HS.out.ext hx)) ⟨SL.empty _ _, by simp⟩ (HP.out.ext hxx) HOK.out HOP.out (by have := HWJ.out; have := HL.out; omega)
          go_simp
          refine Calls.mono hc ?_
          rintro e w8 ⟨a8, c8, rfl, hs8, hf8, hE8⟩
          exact ⟨_, rfl, ⟨a8, c8, rfl, hs8, fun x hx' => Nat.le_trans hx.size (hf8 x hx')⟩, hE8⟩
        obtain ⟨a8, c8, rfl, _, _⟩ := hv
        simp only [Act.put, List.setIfInBounds_toArray, List.set_cons_zero, List.set_cons_succ]
        repeat (first
          | (refine wpRel_quick ?_ ?_ ?_ ?_
             · rfl
             · rfl
             · first | exact noEnter rfl | (intro f args W W'; go_simp)
             intro K hK
             go_big_quiet_op
             go_big_quiet_on)
          | (refine wpRel_skip ?_ ?_
             · rfl
             simp only [Act.put, List.setIfInBounds_toArray, List.set_cons_zero, List.set_cons_succ]))
        refine wpRel_rich _ rfl rfl (fun W hW => ?_) (fun v W9 hW9 hv => ?_)
        · go_simp
          exact ⟨⟨_, rfl, hW.1.size, World.alloc_heap_new W _⟩, (Ext.refl _).alloc _⟩
        obtain ⟨g15, rfl, hg15, _⟩ := hv
        simp only [Act.put, List.setIfInBounds_toArray, List.set_cons_zero, List.set_cons_succ]
        refine wpRel_nil ?_
        intro W8' hW8'
        obtain ⟨a8', c8', hcs, hs8, hf8⟩ := hW8'.2 5 trivial _ _ rfl rfl
        obtain ⟨rfl, rfl⟩ : a8 = a8' ∧ c8 = c8' := by simpa using hcs
        clear hcs
        obtain ⟨g15', hg, _, hbx⟩ := hW8'.2 9 trivial _ _ rfl rfl
        cases hg
        replace hbx : Boxed2 W8' g15 25 (.slice none 0 0) (.slice none 0 0) := hbx
        have hE8 : Ext wr W8' := (Ext.refl wr).drew.trans hW8'.1
        clear hW8' hW8 hW9
        replace hg15 : wr.heap.size ≤ g15 := hg15
        obtain ⟨k0, k1, kz⟩ := hbx.box
        refine wpAny_ready (rs := [10]) (by kernel_rfl) (by simp) ?_
        refine AllReady.cons rfl (fun K hK => ?_) AllReady.nil
        go_simp
        refine hK _ _ ?_
        clear hK K
        refine wpAny_ready (rs := [11]) (by kernel_rfl) (by simp) ?_
        refine AllReady.cons rfl (fun K hK => ?_) AllReady.nil
        go_simp
        refine hK _ _ ?_
        clear hK K
        refine wpAny_done (by kernel_rfl) ?_ _
        refine NoPanic.normal ?_
        have hb8 := ((hbx.set 0 (.slice a8 (want.length + 1) c8)).set 1 (.slice none 0 0)).box
        simp only [if_true, if_false, Nat.one_ne_zero, Nat.zero_ne_one] at hb8
        have hsn := HKP.out.snoc HP.out
        have hS8 := hs8.setBox2 hsn.row hbx.box (.slice a8 (want.length + 1) c8) (.slice none 0 0)
        have hX8 := (hE8.setCell (p := ⟨g15, 0, none⟩) hg15 (.slice a8 (want.length + 1) c8)).setCell (p := ⟨g15, 1, none⟩) hg15 (.slice none 0 0)
        clear k0 k1 kz hbx hs8 hE8 hg15 gn0 gn1 gz0 gz1 gz2 n0 n1 nz
        generalize ((W8'.setCell ⟨g15, 0, none⟩ (.slice a8 (want.length + 1) c8)).setCell ⟨g15, 1, none⟩ (.slice none 0 0)) = x8 at *
        have hbX := HBX.out.ext hX8
        have hbY := (hbX.set0 (.slice a8 (want.length + 1) c8)).set1 (.slice none 0 0)
        have hSY := hS8.setBox2 hsn.row hbX (.slice a8 (want.length + 1) c8) (.slice none 0 0)
        have hXY := ((HB.out.trans hX8).setCell (p := ⟨v2.heap.size, 0, none⟩) (Nat.le_refl _) (.slice a8 (want.length + 1) c8)).setCell (p := ⟨v2.heap.size, 1, none⟩) (Nat.le_refl _) (.slice none 0 0)
        have hOY := ownsRow_far (ownsRow_far (ownsRow_ext HO.out hX8) (q := ⟨v2.heap.size, 0, none⟩) (.slice a8 (want.length + 1) c8) (Nat.lt_succ_self _)) (q := ⟨v2.heap.size, 1, none⟩) (.slice none 0 0) (Nat.lt_succ_self _)
        obtain ⟨m0, m1, _⟩ := hb8
        have hbXl := hbX.lt
        obtain ⟨n0, n1, nz⟩ := hbX
        have yz0 := hXY.cell z0
        have yz1 := hXY.cell z1
        have yz2 := hXY.cell z2
        have hszY : v2.heap.size + 1 ≤ x8.heap.size := hbXl
        have HOW := Lib.hid (show want.length ≤ 12 by have := HWJ.out; have := HL.out; omega)
        have HSN := Lib.hid hsn
        have HBLK := Lib.hid (ownsRow_blocks HO.out)
        have HBLT := Lib.hid (ownsRow_lt HO.out)
        have HSY := Lib.hid hSY
        have HBY := Lib.hid hbY
        have HXY := Lib.hid hXY
        have HOY := Lib.hid hOY
        clear hsn hSY hbY hXY hOY hS8
        have hjs := HL.out
        have hnb := Box3.new' ((x8.setCell ⟨v2.heap.size, 0, none⟩ (.slice a8 (want.length + 1) c8)).setCell ⟨v2.heap.size, 1, none⟩ (.slice none 0 0)) (.int .i64 f) (.int .i64 t) (.slice co d.length cap3) 28 x8.heap.size (by simp)
        have HNB := Lib.hid hnb
        clear hnb
        have hszA : v2.heap.size + 1 ≤ (((x8.setCell ⟨v2.heap.size, 0, none⟩ (.slice a8 (want.length + 1) c8)).setCell ⟨v2.heap.size, 1, none⟩ (.slice none 0 0)).alloc (.cells #[.int .i64 f, .int .i64 t, .slice co d.length cap3] 28)).heap.size := by rw [World.size_alloc]; simp; omega
        go_wp2_with (at_builtin; refine wpList_append_S rfl _ _ 22 22 rfl (v2.heap.size + 1) 28 i0 _ 3 40 Try.underlying22 hi hz0 hz1 hz2 rfl _ _ _ rfl (ownsRow_ext HOY.out ((Ext.refl _).alloc (.cells #[.int .i64 f, .int .i64 t, .slice co d.length cap3] 28))) (.slice (some ⟨x8.heap.size, 0, none⟩) 1 1) 1 [.int .i64 f, .int .i64 t, .slice co d.length cap3] rfl (Src.ofSlice _ Try.underlying22 ⟨x8.heap.size, 0, none⟩ 1 1 _ rfl (three_cells HNB.out.c0 HNB.out.c1 HNB.out.c2) (by simp [Value.oneCell'])) (by have := HOW.out; unfold maxLen; omega) (by have := HOW.out; omega) hszA ?_; intro v6 w6 ho6 hg6)
        have hX6 : Ext v2 w6 := Ext.trans' (HXY.out.alloc (.cells #[.int .i64 f, .int .i64 t, .slice co d.length cap3] 28)) hg6 (fun k hk => by have := HBLK.out k hk; omega)
        have hb6 : Box2 w6 v2.heap.size (.slice a8 (want.length + 1) c8) (.slice none 0 0) := (HBY.out.ext ((Ext.refl _).alloc (.cells #[.int .i64 f, .int .i64 t, .slice co d.length cap3] 28))).keep (hg6.by_.block _ (HBY.out.ext ((Ext.refl _).alloc (.cells #[.int .i64 f, .int .i64 t, .slice co d.length cap3] 28))).lt (fun h => by have := HBLK.out _ h.symm; omega))
        have hs6 : SL w6 3 a8 c8 (rws ++ [[.int .i64 f, .int .i64 t, .slice co d.length cap3]]) := (HSY.out.ext ((Ext.refl _).alloc (.cells #[.int .i64 f, .int .i64 t, .slice co d.length cap3] 28))).keep (fun z hz hne => hg6.by_.block _ ((HSY.out.ext ((Ext.refl _).alloc (.cells #[.int .i64 f, .int .i64 t, .slice co d.length cap3] 28))).blk (by omega) z hz hne) (fun h => by have h1 := HBLT.out _ h.symm; have h2 := hf8 z hz; omega))
        go_roundw
        case rel => exact ⟨j + 1, want ++ [⟨f, t, d⟩], rws ++ [[.int .i64 f, .int .i64 t, .slice co d.length cap3]], a8, c8, by go_num, by omega, by have := HWJ.out; simp; omega, okN_snoc HOK.out HOP.out (by have := HOW.out; simp only; omega), by rw [List.length_append]; simpa using ho6, hs6, HSN.out, by rw [List.length_append]; exact hb6, hX6⟩
        case measure => simp [intOf] <;> omega
    · have hji : ¬ (j : Int) < (q0.length : Int) := by omega
      obtain ⟨ao1, cap1, hlv, hs1', _⟩ := SL.of_own HO.out HKP.out.wid HKP.out.len
      subst hlv
      have hq1 := HKP.out.q HB.out hs1'
      have hn1 : RepN wr [.slice a want.length c, .slice none 0 0] ⟨want, []⟩ := ⟨a, c, none, 0, rws, rfl, HKP.out.q HB.out HS.out, ⟨SL.empty _ _, by simp⟩⟩
      have hwl : want.length ≤ 12 := by have := HWJ.out; have := HL.out; omega
      have HQ1 := Lib.hid hq1
      have HN1 := Lib.hid hn1
      have HWL := Lib.hid hwl
      clear hs1' hq1 hn1 hwl HO HS HKP HWJ hj hjl HL HQ
      go_wp2_with fail
      go_loopw [6, 10] (fun lv iv wr2 => ∃ (i : Nat) (qs : List Pk) (rs : List (List Value)) (ao3 : Option Addr) (c3 : Nat) (a4 : Option Addr) (c4 : Nat) (b4 : Option Addr) (d4 : Nat), iv = .int .i64 i ∧ lv = .slice ao3 qs.length c3 ∧ i + qs.length ≤ 12 ∧ okN ⟨qs, []⟩ = true ∧ RepQ wr2 ao3 c3 rs qs ∧ RepN wr2 [.slice a4 qs.length c4, .slice b4 0 d4] ⟨qs, []⟩ ∧ Box2 wr2 v2.heap.size (.slice a4 qs.length c4) (.slice b4 0 d4) ∧ Ext v2 wr2) (fun _ iv _ => 12 - (intOf iv).toNat)
      case atStart => exact ⟨0, want, rws, ao1, cap1, a, c, none, 0, rfl, rfl, by have := HWL.out; omega, HOK.out, HQ1.out, HN1.out, HBX.out, HB.out⟩
      case round =>
        clear HQ1 HN1 HWL HOK HBX HB hji
        obtain ⟨i, qs, rs, ao3, c3, a4, c4, b4, d4, rfl, rfl, hiq, hok, hq3, hn3, hb3, hB⟩ := hrel
        have HOK := Lib.hid hok
        have HQ3 := Lib.hid hq3
        have HN3 := Lib.hid hn3
        have HB3 := Lib.hid hb3
        have HB := Lib.hid hB
        have HIQ := Lib.hid hiq
        clear hok hq3 hn3 hb3 hB hiq
        by_cases h0 : qs.length = 0
        · have g0 : ¬ (0 : Int) < (qs.length : Int) := by omega
          have g1 : ((qs.length : Int) == 0) = true := by rw [beq_iff_eq]; omega
          obtain ⟨n0, n1, _⟩ := HB3.out
          have H0 := Lib.hid h0
          clear h0
          go_wp2_with fail
          go_ret
          exact ⟨rfl, HX2.out.trans HB.out⟩
        · have g0 : (0 : Int) < (qs.length : Int) := by omega
          have hs3 : (qs.length : Int) ≤ 12 := by have := HIQ.out; omega
          by_cases hik : i < ks.length
          · have g1 : (i : Int) < (ks.length : Int) := by omega
            obtain ⟨bk, ok, rfl, _⟩ := HKS.out.at (by omega) i (by rw [br_length]; exact hik)
            have gk := HB.out.cell (HKS.out.cellAt (i := i) (j := 0) (r := [.int .u8 (ks[i]).toNat]) (v := .int .u8 (ks[i]).toNat) (by simp [br, hik]) rfl)
            simp only [Nat.mul_one, Nat.add_zero] at gk
            obtain ⟨k, hkk⟩ : ∃ k : Nat, ((ks[i]).toNat : Int).tmod (qs.length : Int) = (k : Int) := ⟨((ks[i]).toNat : Int).toNat % qs.length, by rw [Int.tmod_eq_emod_of_nonneg (by omega)]; simp⟩
            have hkl : k < qs.length := by
              have h1 := Int.emod_lt_of_pos (((ks[i]).toNat : Int)) g0
              rw [← Int.tmod_eq_emod_of_nonneg (by omega)] at h1
              omega
            have gw : wrap64 ((ks[i]).toNat : Int) = ((ks[i]).toNat : Int) := by have := (ks[i]).toNat_lt; unfold wrap64; omega
            obtain ⟨n0, n1, _⟩ := HB3.out
            go_wp2_with fail
            have HHK := Lib.hid hkl
            refine (deliver_any ⟨qs, []⟩ k _ _ HN3.out).mono ?_
            rintro e v3 ⟨cp3, cs3, rfl, hP3, hN3, hE3⟩
            have hdl : deliverN ⟨qs, []⟩ k = (qs[k]'HHK.out, cutQ ⟨qs, []⟩ k, 0) := by rw [deliverN_ok HOK.out HHK.out, if_neg (by simp [hasL])]
            rw [hdl] at hP3 hN3 ⊢
            clear hdl
            dsimp only at hP3 hN3
            have HP3 := Lib.hid hP3
            obtain ⟨p3, q3, hcp⟩ := hP3.open
            subst hcp
            clear hP3
            have HN5 := Lib.hid hN3
            obtain ⟨a5, c5, b5, d5, hcs⟩ := hN3.open
            subst hcs
            clear hN3 n0 n1
            generalize hcq : cutQ ⟨qs, []⟩ k = cq at *
            have HCQ := Lib.hid hcq
            clear hcq
            generalize hpk : qs[k]'HHK.out = pk at *
            have HPK := Lib.hid hpk
            clear hpk
            go_wp2_with fail
            have hA3 := ((Ext.refl v3).alloc (.cells #[.int .i64 pk.f, .int .i64 pk.t, .slice p3 pk.d.length q3] 28)).alloc (.cells #[.slice a5 cq.q.length c5, .slice b5 cq.a.length d5] 25)
            have hX3 := (HB.out.trans hE3).trans hA3
            have hbp := ((Box3.new' v3 (.int .i64 pk.f) (.int .i64 pk.t) (.slice p3 pk.d.length q3) 28 (v3.heap.size) (by simp)).ext ((Ext.refl _).alloc (.cells #[.slice a5 cq.q.length c5, .slice b5 cq.a.length d5] 25)))
            have hbm := (Box2.new' (v3.alloc (.cells #[.int .i64 pk.f, .int .i64 pk.t, .slice p3 pk.d.length q3] 28)) (.slice a5 cq.q.length c5) (.slice b5 cq.a.length d5) 25 (v3.heap.size + 1) (by simp))
            have hq4 := HQ3.out.ext (hE3.trans hA3)
            have hb4 := HB3.out.ext (hE3.trans hA3)
            have hp4 := HP3.out.ext hA3
            have hn4 := HN5.out.ext hA3
            generalize ((v3.alloc (.cells #[.int .i64 pk.f, .int .i64 pk.t, .slice p3 pk.d.length q3] 28)).alloc (.cells #[.slice a5 cq.q.length c5, .slice b5 cq.a.length d5] 25)) = x3 at *
            have HX3 := Lib.hid hX3
            have HBP := Lib.hid hbp
            have HBM := Lib.hid hbm
            have HQ4 := Lib.hid hq4
            have HB4 := Lib.hid hb4
            have HP4 := Lib.hid hp4
            have HN4 := Lib.hid hn4
            clear hX3 hbp hbm hq4 hb4 hp4 hn4 hE3 hA3 HP3 HN5 HQ3 HB3 HN3 HB
            have hki : (k : Int) < (qs.length : Int) := by have := HHK.out; omega
            obtain ⟨bw, ow, rfl, _⟩ := HQ4.out.sl.at (by omega) k (by rw [HQ4.out.len]; exact HHK.out)
            obtain ⟨f, t, d, co, cap3, hqk, hPk, z0, z1, z2⟩ := q_cells HQ4.out (Ext.refl _) HHK.out
            rw [HPK.out] at hPk
            have HPk := Lib.hid hPk
            clear hPk hqk
            have HSM := Lib.hid fun (W : World) (hE : Ext x3 W) => samePacket_true pk _ _ W (HP4.out.ext hE) (HPk.out.ext hE)
            obtain ⟨y0, y1, y2, _⟩ := HBP.out
            have gy0 : ∀ X, (x3.drew.grow X).cell? ⟨v3.heap.size, 0, none⟩ = some (.int .i64 pk.f) := fun X => ((Ext.refl x3).drew.trans (ext_grow _ X)).cell y0
            have gy1 : ∀ X, (x3.drew.grow X).cell? ⟨v3.heap.size, 1, none⟩ = some (.int .i64 pk.t) := fun X => ((Ext.refl x3).drew.trans (ext_grow _ X)).cell y1
            have gy2 : ∀ X, (x3.drew.grow X).cell? ⟨v3.heap.size, 2, none⟩ = some (.slice p3 pk.d.length q3) := fun X => ((Ext.refl x3).drew.trans (ext_grow _ X)).cell y2
            have gz0 : ∀ X, (x3.drew.grow X).cell? ⟨bw, ow + k * 3, none⟩ = some (.int .i64 f) := fun X => ((Ext.refl x3).drew.trans (ext_grow _ X)).cell z0
            have gz1 : ∀ X, (x3.drew.grow X).cell? ⟨bw, ow + k * 3 + 1, none⟩ = some (.int .i64 t) := fun X => ((Ext.refl x3).drew.trans (ext_grow _ X)).cell z1
            have gz2 : ∀ X, (x3.drew.grow X).cell? ⟨bw, ow + k * 3 + 2, none⟩ = some (.slice co d.length cap3) := fun X => ((Ext.refl x3).drew.trans (ext_grow _ X)).cell z2
            clear y0 y1 y2 z0 z1 z2
            refine wp_region_rel_all (fun j => if j = 8 then some (spV (.bool true)) else none) (by kernel_rfl) (by kernel_rfl) ?_
            repeat (first
              | (refine wpRel_quick ?_ ?_ ?_ ?_
                 · rfl
                 · rfl
                 · first | exact noEnter rfl | (intro f args W W'; go_simp)
                 intro K hK
                 go_big_quiet_op
                 go_big_quiet_on)
              | (refine wpRel_skip ?_ ?_
                 · rfl
                 simp only [Act.put, List.setIfInBounds_toArray, List.set_cons_zero, List.set_cons_succ]))
            refine wpRel_rich _ rfl rfl (fun W hW => ?_) (fun v W3 hW3 hv => ?_)
            · have hc := HSM.out W ((Ext.refl x3).drew.trans hW.1)
              go_simp
              exact Calls.mono hc fun e w' h => ⟨_, h.1, rfl, h.2⟩
            obtain rfl := hv
            simp only [Act.put, List.setIfInBounds_toArray, List.set_cons_zero, List.set_cons_succ]
            repeat (first
              | (refine wpRel_quick ?_ ?_ ?_ ?_
                 · rfl
                 · rfl
                 · first | exact noEnter rfl | (intro f args W W'; go_simp)
                 intro K hK
                 go_big_quiet_op
                 go_big_quiet_on)
              | (refine wpRel_skip ?_ ?_
                 · rfl
                 simp only [Act.put, List.setIfInBounds_toArray, List.set_cons_zero, List.set_cons_succ]))
            refine wpRel_nil ?_
            intro W3 hW3
            have hE4 : Ext x3 W3 := (Ext.refl x3).drew.trans hW3.1
            clear hW3
            obtain ⟨n0, n1, nz⟩ := HB4.out.ext hE4
            obtain ⟨m0, m1, _⟩ := HBM.out.ext hE4
            clear gy0 gy1 gy2 gz0 gz1 gz2
            go_wp2_with fail
            clear n0 n1 nz m0 m1
            have hX5 := ((HX3.out.trans hE4).setCell (p := ⟨v2.heap.size, 0, none⟩) (Nat.le_refl _) (.slice a5 cq.q.length c5)).setCell (p := ⟨v2.heap.size, 1, none⟩) (Nat.le_refl _) (.slice b5 cq.a.length d5)
            have hb5 := ((HB4.out.ext hE4).set0 (.slice a5 cq.q.length c5)).set1 (.slice b5 cq.a.length d5)
            have hn5 := (HN4.out.ext hE4).setN (HB4.out.ext hE4) (.slice a5 cq.q.length c5) (.slice b5 cq.a.length d5)
            have hr4 : RepN W3 [.slice (some ⟨bw, ow, none⟩) qs.length c3, .slice none 0 0] ⟨qs, []⟩ := ⟨some ⟨bw, ow, none⟩, c3, none, 0, rs, rfl, HQ4.out.ext hE4, ⟨SL.empty _ _, by simp⟩⟩
            have hr5 := RepN.setN hr4 (HB4.out.ext hE4) (.slice a5 cq.q.length c5) (.slice b5 cq.a.length d5)
            clear hr4
            generalize ((W3.setCell ⟨v2.heap.size, 0, none⟩ (.slice a5 cq.q.length c5)).setCell ⟨v2.heap.size, 1, none⟩ (.slice b5 cq.a.length d5)) = x5 at *
            obtain ⟨ao9, cap9, bo9, cap10, rt, he9, hq5, _⟩ := hr5
            cases he9
            replace hq5 : RepQ x5 (some ⟨bw, ow, none⟩) c3 rt qs := hq5
            have HX5 := Lib.hid hX5
            have HB5 := Lib.hid hb5
            have HN5 := Lib.hid hn5
            have HQ := Lib.hid hq5
            clear hX5 hb5 hn5 hq5 hE4 HB4 HN4 HQ4 HX3 HBP HBM HP4 HPk HSM
            have hk1 : (0 : Int) ≤ (k : Int) := by omega
            have hk3 : (k : Int) + 1 ≤ (qs.length : Int) := by omega
            have hqc : qs.length ≤ c3 := by have := HQ.out.sl.le; have := HQ.out.len; omega
            have hk4 : k ≤ c3 := by have := HHK.out; omega
            have hk5 : (k : Int) + 1 ≤ (c3 : Int) := by have := HHK.out; omega
            have hw : IntKind.i64.wrap ((k : Int) + 1) = (k : Int) + 1 := by simp [IntKind.wrap, IntKind.bits, IntKind.signed]; omega
            have HL := Lib.hid HQ.out.len
            refine wp_region_rel (fun j => if j = 0 then some (spE x5.heap.size 28 3) else if j = 4 then some (spOwn x5.heap.size 28 3 k (rt.take k)) else none) 9 2 (by kernel_rfl) (by kernel_rfl) ?_
            simp only [List.take_succ_cons, List.take_zero]
            refine wpRel_rich _ rfl rfl (fun W hW => ?_) (fun v W1 hW1 hv => ?_)
            · go_simp
              exact ⟨⟨_, rfl, own_empty W _ hW.1.size _ _⟩, (Ext.refl _).alloc _⟩
            obtain ⟨g0, rfl, _⟩ := hv
            simp only [Act.put, List.setIfInBounds_toArray, List.set_cons_zero, List.set_cons_succ]
            repeat (first
              | (refine wpRel_quick ?_ ?_ ?_ ?_
                 · rfl
                 · rfl
                 · first | exact noEnter rfl | (intro f args W W'; go_simp)
                 intro K hK
                 go_big_quiet_op
                 go_big_quiet_on)
              | (refine wpRel_skip ?_ ?_
                 · rfl
                 simp only [Act.put, List.setIfInBounds_toArray, List.set_cons_zero, List.set_cons_succ]))
            have hwid : ∀ r ∈ rt.take k, r.length = 3 := fun r hr => HQ.out.sl.wid r (List.mem_of_mem_take hr)
            have hlk : (rt.take k).length = k := by have := HL.out; have := HHK.out; simp; omega
            have HWK := Lib.hid hwid
            have HLK := Lib.hid hlk
            clear hwid hlk
            refine wpRel_rich _ rfl rfl (fun W hW => ?_) (fun v W2 hW2 hv => ?_)
            · obtain ⟨g1, hg1, ho⟩ := hW.2 0 (by unfold Anc; kernel_rfl) _ _ rfl rfl
              have hx : Ext x5 W := (Ext.refl x5).drew.trans hW.1
              refine g_append_fresh _ _ 22 22 rfl 28 i0 _ 3 40 Try.underlying22 hi hz0 hz1 hz2 rfl (by omega) _ hW.1.size g0 rfl ho (.slice (some ⟨bw, ow, none⟩) k c3) k (rt.take k) rfl ?_ HWK.out HLK.out (by have := HHK.out; unfold maxLen; omega) (by have := HHK.out; omega)
              have := ((HQ.out.sl.ext hx).less k).src (P := Try.prog) (by omega) Try.underlying22 (fun r hr => HQ.out.one r (List.mem_of_mem_take hr))
              rwa [HLK.out] at this
            obtain ⟨ac, cc, rfl, _, _⟩ := SL.of_own hv HWK.out HLK.out
            simp only [Act.put, List.setIfInBounds_toArray, List.set_cons_zero, List.set_cons_succ]
            repeat (first
              | (refine wpRel_quick ?_ ?_ ?_ ?_
                 · rfl
                 · rfl
                 · first | exact noEnter rfl | (intro f args W W'; go_simp)
                 intro K hK
                 go_big_quiet_op
                 go_big_quiet_on)
              | (refine wpRel_skip ?_ ?_
                 · rfl
                 simp only [Act.put, List.setIfInBounds_toArray, List.set_cons_zero, List.set_cons_succ]))
            generalize hat : (if c3 = k + 1 then some (⟨bw, ow, none⟩ : Addr) else some (⟨bw, ow + (k + 1) * 3, none⟩ : Addr)) = at0
            have HT : Hid (∀ W, Ext x5 W → SL W 3 at0 (c3 - (k + 1)) (rt.drop (k + 1))) := Lib.hid fun W hE => by
              have hl := HQ.out.len
              have hkk2 := HHK.out
              have h1 := (HQ.out.sl.ext hE).sub (p := k + 1) (u := qs.length - (k + 1)) (by omega)
              rw [List.take_of_length_le (by simp [hl])] at h1
              by_cases hc : c3 = k + 1
              · rw [if_pos hc] at hat
                have h0 : rt.drop (k + 1) = [] := List.drop_eq_nil_of_le (by omega)
                rw [h0, hc, Nat.sub_self, ← hat]
                exact SL.done _
              · rw [if_neg hc] at hat
                rw [← hat]
                exact h1
            clear hat
            refine wpRel_nil ?_
            intro W hW
            have ho3 := hW.2 4 trivial _ _ rfl rfl
            have hEW := (Ext.refl x5).drew.trans hW.1
            have hDW : x5.heap.size ≤ W.heap.size := hW.1.size
            have HRB := Lib.hid (ownsRow_blocks ho3)
            have HT2 := Lib.hid (HT.out W hEW)
            refine wpAny_ready (rs := [9]) (by kernel_rfl) (by simp) ?_
            refine AllReady.cons rfl (fun K hK => ?_) AllReady.nil
            refine step_append_S rfl _ _ 22 22 rfl x5.heap.size 28 i0 _ 3 40 Try.underlying22 hi hz0 hz1 hz2 rfl _ k (rt.take k).flatten rfl ho3 (.slice at0 (qs.length - (k + 1)) (c3 - (k + 1))) (qs.length - (k + 1)) (rt.drop (k + 1)).flatten rfl ?_ (by unfold maxLen; omega) (by omega) hDW ?_
            · have := HT2.out.src (P := Try.prog) (by omega) Try.underlying22 (fun r hr => HQ.out.one r (List.mem_of_mem_drop hr))
              rwa [show (rt.drop (k + 1)).length = qs.length - (k + 1) by have := HL.out; simp; omega] at this
            intro v6 w6 ho6 hg6
            have hX6 : Ext x5 w6 := hEW.trans' hg6 (fun k hk => HRB.out k hk)
            have ho6' : w6.ownsRow x5.heap.size 28 3 v6 (k + (qs.length - (k + 1))) (rt.take k ++ rt.drop (k + 1)).flatten := by simpa using ho6
            obtain ⟨ao6, cap6, rfl, hs6, _⟩ := SL.of_own ho6' (by have := HQ.out.sl.wid; intro r hr; rcases List.mem_append.1 hr with h | h; exact this r (List.mem_of_mem_take h); exact this r (List.mem_of_mem_drop h)) (by have := HL.out; have := HHK.out; simp; omega)
            have HS6 := Lib.hid hs6
            have HX6 := Lib.hid hX6
            clear ho6 ho6' ho3 hs6 hg6 hX6
            refine hK _ _ ?_
            clear hK K
            simp only [Act.put, List.setIfInBounds_toArray]
            refine wpAny_ready (rs := [10]) (by kernel_rfl) (by simp) ?_
            refine AllReady.cons rfl (fun K hK => ?_) AllReady.nil
            go_simp
            refine hK _ _ ?_
            clear hK K
            refine wpAny_done (by kernel_rfl) ?_ _
            have hcl : cq.q.length = k + (qs.length - (k + 1)) := by rw [← HCQ.out]; have := HHK.out; simp [cutQ]; omega
            have hiq := HIQ.out
            have hkk3 := HHK.out
            go_wp2_with fail
            go_roundw
            case rel =>
              obtain rfl : cq = ⟨qs.take k ++ qs.drop (k + 1), []⟩ := HCQ.out.symm
              have hlen2 : (qs.take k ++ qs.drop (k + 1)).length = k + (qs.length - (k + 1)) := hcl
              exact ⟨i + 1, qs.take k ++ qs.drop (k + 1), rt.take k ++ rt.drop (k + 1), ao6, cap6, a5, c5, b5, d5, by go_num, by rw [hlen2], by rw [hlen2]; omega, okN_cut k HOK.out, HQ.out.cut HX6.out HHK.out HS6.out, HN5.out.ext HX6.out, HB5.out.ext HX6.out, HX5.out.trans HX6.out⟩
            case measure => simp [intOf] <;> omega
          · have g1 : ¬ (i : Int) < (ks.length : Int) := by omega
            obtain ⟨k, hk0⟩ : ∃ k : Nat, (0 : Int) = (k : Int) := ⟨0, rfl⟩
            have hkl : k < qs.length := by omega
            obtain ⟨n0, n1, _⟩ := HB3.out
            go_wp2_with fail
            have HHK := Lib.hid hkl
            refine (deliver_any ⟨qs, []⟩ k _ _ HN3.out).mono ?_
            rintro e v3 ⟨cp3, cs3, rfl, hP3, hN3, hE3⟩
            have hdl : deliverN ⟨qs, []⟩ k = (qs[k]'HHK.out, cutQ ⟨qs, []⟩ k, 0) := by rw [deliverN_ok HOK.out HHK.out, if_neg (by simp [hasL])]
            rw [hdl] at hP3 hN3 ⊢
            clear hdl
            dsimp only at hP3 hN3
            have HP3 := Lib.hid hP3
            obtain ⟨p3, q3, hcp⟩ := hP3.open
            subst hcp
            clear hP3
            have HN5 := Lib.hid hN3
            obtain ⟨a5, c5, b5, d5, hcs⟩ := hN3.open
            subst hcs
            clear hN3 n0 n1
            generalize hcq : cutQ ⟨qs, []⟩ k = cq at *
            have HCQ := Lib.hid hcq
            clear hcq
            generalize hpk : qs[k]'HHK.out = pk at *
            have HPK := Lib.hid hpk
            clear hpk
            go_wp2_with fail
            have hA3 := ((Ext.refl v3).alloc (.cells #[.int .i64 pk.f, .int .i64 pk.t, .slice p3 pk.d.length q3] 28)).alloc (.cells #[.slice a5 cq.q.length c5, .slice b5 cq.a.length d5] 25)
            have hX3 := (HB.out.trans hE3).trans hA3
            have hbp := ((Box3.new' v3 (.int .i64 pk.f) (.int .i64 pk.t) (.slice p3 pk.d.length q3) 28 (v3.heap.size) (by simp)).ext ((Ext.refl _).alloc (.cells #[.slice a5 cq.q.length c5, .slice b5 cq.a.length d5] 25)))
            have hbm := (Box2.new' (v3.alloc (.cells #[.int .i64 pk.f, .int .i64 pk.t, .slice p3 pk.d.length q3] 28)) (.slice a5 cq.q.length c5) (.slice b5 cq.a.length d5) 25 (v3.heap.size + 1) (by simp))
            have hq4 := HQ3.out.ext (hE3.trans hA3)
            have hb4 := HB3.out.ext (hE3.trans hA3)
            have hp4 := HP3.out.ext hA3
            have hn4 := HN5.out.ext hA3
            generalize ((v3.alloc (.cells #[.int .i64 pk.f, .int .i64 pk.t, .slice p3 pk.d.length q3] 28)).alloc (.cells #[.slice a5 cq.q.length c5, .slice b5 cq.a.length d5] 25)) = x3 at *
            have HX3 := Lib.hid hX3
            have HBP := Lib.hid hbp
            have HBM := Lib.hid hbm
            have HQ4 := Lib.hid hq4
            have HB4 := Lib.hid hb4
            have HP4 := Lib.hid hp4
            have HN4 := Lib.hid hn4
            clear hX3 hbp hbm hq4 hb4 hp4 hn4 hE3 hA3 HP3 HN5 HQ3 HB3 HN3 HB
            have hki : (k : Int) < (qs.length : Int) := by have := HHK.out; omega
            obtain ⟨bw, ow, rfl, _⟩ := HQ4.out.sl.at (by omega) k (by rw [HQ4.out.len]; exact HHK.out)
            obtain ⟨f, t, d, co, cap3, hqk, hPk, z0, z1, z2⟩ := q_cells HQ4.out (Ext.refl _) HHK.out
            rw [HPK.out] at hPk
            have HPk := Lib.hid hPk
            clear hPk hqk
            have HSM := Lib.hid fun (W : World) (hE : Ext x3 W) => samePacket_true pk _ _ W (HP4.out.ext hE) (HPk.out.ext hE)
            obtain ⟨y0, y1, y2, _⟩ := HBP.out
            have gy0 : ∀ X, (x3.drew.grow X).cell? ⟨v3.heap.size, 0, none⟩ = some (.int .i64 pk.f) := fun X => ((Ext.refl x3).drew.trans (ext_grow _ X)).cell y0
            have gy1 : ∀ X, (x3.drew.grow X).cell? ⟨v3.heap.size, 1, none⟩ = some (.int .i64 pk.t) := fun X => ((Ext.refl x3).drew.trans (ext_grow _ X)).cell y1
            have gy2 : ∀ X, (x3.drew.grow X).cell? ⟨v3.heap.size, 2, none⟩ = some (.slice p3 pk.d.length q3) := fun X => ((Ext.refl x3).drew.trans (ext_grow _ X)).cell y2
            have gz0 : ∀ X, (x3.drew.grow X).cell? ⟨bw, ow + k * 3, none⟩ = some (.int .i64 f) := fun X => ((Ext.refl x3).drew.trans (ext_grow _ X)).cell z0
            have gz1 : ∀ X, (x3.drew.grow X).cell? ⟨bw, ow + k * 3 + 1, none⟩ = some (.int .i64 t) := fun X => ((Ext.refl x3).drew.trans (ext_grow _ X)).cell z1
            have gz2 : ∀ X, (x3.drew.grow X).cell? ⟨bw, ow + k * 3 + 2, none⟩ = some (.slice co d.length cap3) := fun X => ((Ext.refl x3).drew.trans (ext_grow _ X)).cell z2
            clear y0 y1 y2 z0 z1 z2
            refine wp_region_rel_all (fun j => if j = 8 then some (spV (.bool true)) else none) (by kernel_rfl) (by kernel_rfl) ?_
            repeat (first
              | (refine wpRel_quick ?_ ?_ ?_ ?_
                 · rfl
                 · rfl
                 · first | exact noEnter rfl | (intro f args W W'; go_simp)
                 intro K hK
                 go_big_quiet_op
                 go_big_quiet_on)
              | (refine wpRel_skip ?_ ?_
                 · rfl
                 simp only [Act.put, List.setIfInBounds_toArray, List.set_cons_zero, List.set_cons_succ]))
            refine wpRel_rich _ rfl rfl (fun W hW => ?_) (fun v W3 hW3 hv => ?_)
            · have hc := HSM.out W ((Ext.refl x3).drew.trans hW.1)
              go_simp
              exact Calls.mono hc fun e w' h => ⟨_, h.1, rfl, h.2⟩
            obtain rfl := hv
            simp only [Act.put, List.setIfInBounds_toArray, List.set_cons_zero, List.set_cons_succ]
            repeat (first
              | (refine wpRel_quick ?_ ?_ ?_ ?_
                 · rfl
                 · rfl
                 · first | exact noEnter rfl | (intro f args W W'; go_simp)
                 intro K hK
                 go_big_quiet_op
                 go_big_quiet_on)
              | (refine wpRel_skip ?_ ?_
                 · rfl
                 simp only [Act.put, List.setIfInBounds_toArray, List.set_cons_zero, List.set_cons_succ]))
            refine wpRel_nil ?_
            intro W3 hW3
            have hE4 : Ext x3 W3 := (Ext.refl x3).drew.trans hW3.1
            clear hW3
            obtain ⟨n0, n1, nz⟩ := HB4.out.ext hE4
            obtain ⟨m0, m1, _⟩ := HBM.out.ext hE4
            clear gy0 gy1 gy2 gz0 gz1 gz2
            go_wp2_with fail
            clear n0 n1 nz m0 m1
            have hX5 := ((HX3.out.trans hE4).setCell (p := ⟨v2.heap.size, 0, none⟩) (Nat.le_refl _) (.slice a5 cq.q.length c5)).setCell (p := ⟨v2.heap.size, 1, none⟩) (Nat.le_refl _) (.slice b5 cq.a.length d5)
            have hb5 := ((HB4.out.ext hE4).set0 (.slice a5 cq.q.length c5)).set1 (.slice b5 cq.a.length d5)
            have hn5 := (HN4.out.ext hE4).setN (HB4.out.ext hE4) (.slice a5 cq.q.length c5) (.slice b5 cq.a.length d5)
            have hr4 : RepN W3 [.slice (some ⟨bw, ow, none⟩) qs.length c3, .slice none 0 0] ⟨qs, []⟩ := ⟨some ⟨bw, ow, none⟩, c3, none, 0, rs, rfl, HQ4.out.ext hE4, ⟨SL.empty _ _, by simp⟩⟩
            have hr5 := RepN.setN hr4 (HB4.out.ext hE4) (.slice a5 cq.q.length c5) (.slice b5 cq.a.length d5)
            clear hr4
            generalize ((W3.setCell ⟨v2.heap.size, 0, none⟩ (.slice a5 cq.q.length c5)).setCell ⟨v2.heap.size, 1, none⟩ (.slice b5 cq.a.length d5)) = x5 at *
            obtain ⟨ao9, cap9, bo9, cap10, rt, he9, hq5, _⟩ := hr5
            cases he9
            replace hq5 : RepQ x5 (some ⟨bw, ow, none⟩) c3 rt qs := hq5
            have HX5 := Lib.hid hX5
            have HB5 := Lib.hid hb5
            have HN5 := Lib.hid hn5
            have HQ := Lib.hid hq5
            clear hX5 hb5 hn5 hq5 hE4 HB4 HN4 HQ4 HX3 HBP HBM HP4 HPk HSM
            have hk1 : (0 : Int) ≤ (k : Int) := by omega
            have hk3 : (k : Int) + 1 ≤ (qs.length : Int) := by omega
            have hqc : qs.length ≤ c3 := by have := HQ.out.sl.le; have := HQ.out.len; omega
            have hk4 : k ≤ c3 := by have := HHK.out; omega
            have hk5 : (k : Int) + 1 ≤ (c3 : Int) := by have := HHK.out; omega
            have hw : IntKind.i64.wrap ((k : Int) + 1) = (k : Int) + 1 := by simp [IntKind.wrap, IntKind.bits, IntKind.signed]; omega
            have HL := Lib.hid HQ.out.len
            refine wp_region_rel (fun j => if j = 0 then some (spE x5.heap.size 28 3) else if j = 4 then some (spOwn x5.heap.size 28 3 k (rt.take k)) else none) 9 2 (by kernel_rfl) (by kernel_rfl) ?_
            simp only [List.take_succ_cons, List.take_zero]
            refine wpRel_rich _ rfl rfl (fun W hW => ?_) (fun v W1 hW1 hv => ?_)
            · go_simp
              exact ⟨⟨_, rfl, own_empty W _ hW.1.size _ _⟩, (Ext.refl _).alloc _⟩
            obtain ⟨g0, rfl, _⟩ := hv
            simp only [Act.put, List.setIfInBounds_toArray, List.set_cons_zero, List.set_cons_succ]
            repeat (first
              | (refine wpRel_quick ?_ ?_ ?_ ?_
                 · rfl
                 · rfl
                 · first | exact noEnter rfl | (intro f args W W'; go_simp)
                 intro K hK
                 go_big_quiet_op
                 go_big_quiet_on)
              | (refine wpRel_skip ?_ ?_
                 · rfl
                 simp only [Act.put, List.setIfInBounds_toArray, List.set_cons_zero, List.set_cons_succ]))
            have hwid : ∀ r ∈ rt.take k, r.length = 3 := fun r hr => HQ.out.sl.wid r (List.mem_of_mem_take hr)
            have hlk : (rt.take k).length = k := by have := HL.out; have := HHK.out; simp; omega
            have HWK := Lib.hid hwid
            have HLK := Lib.hid hlk
            clear hwid hlk
            refine wpRel_rich _ rfl rfl (fun W hW => ?_) (fun v W2 hW2 hv => ?_)
            · obtain ⟨g1, hg1, ho⟩ := hW.2 0 (by unfold Anc; kernel_rfl) _ _ rfl rfl
              have hx : Ext x5 W := (Ext.refl x5).drew.trans hW.1
              refine g_append_fresh _ _ 22 22 rfl 28 i0 _ 3 40 Try.underlying22 hi hz0 hz1 hz2 rfl (by omega) _ hW.1.size g0 rfl ho (.slice (some ⟨bw, ow, none⟩) k c3) k (rt.take k) rfl ?_ HWK.out HLK.out (by have := HHK.out; unfold maxLen; omega) (by have := HHK.out; omega)
              have := ((HQ.out.sl.ext hx).less k).src (P := Try.prog) (by omega) Try.underlying22 (fun r hr => HQ.out.one r (List.mem_of_mem_take hr))
              rwa [HLK.out] at this
            obtain ⟨ac, cc, rfl, _, _⟩ := SL.of_own hv HWK.out HLK.out
            simp only [Act.put, List.setIfInBounds_toArray, List.set_cons_zero, List.set_cons_succ]
            repeat (first
              | (refine wpRel_quick ?_ ?_ ?_ ?_
                 · rfl
                 · rfl
                 · first | exact noEnter rfl | (intro f args W W'; go_simp)
                 intro K hK
                 go_big_quiet_op
                 go_big_quiet_on)
              | (refine wpRel_skip ?_ ?_
                 · rfl
                 simp only [Act.put, List.setIfInBounds_toArray, List.set_cons_zero, List.set_cons_succ]))
            generalize hat : (if c3 = k + 1 then some (⟨bw, ow, none⟩ : Addr) else some (⟨bw, ow + (k + 1) * 3, none⟩ : Addr)) = at0
            have HT : Hid (∀ W, Ext x5 W → SL W 3 at0 (c3 - (k + 1)) (rt.drop (k + 1))) := Lib.hid fun W hE => by
              have hl := HQ.out.len
              have hkk2 := HHK.out
              have h1 := (HQ.out.sl.ext hE).sub (p := k + 1) (u := qs.length - (k + 1)) (by omega)
              rw [List.take_of_length_le (by simp [hl])] at h1
              by_cases hc : c3 = k + 1
              · rw [if_pos hc] at hat
                have h0 : rt.drop (k + 1) = [] := List.drop_eq_nil_of_le (by omega)
                rw [h0, hc, Nat.sub_self, ← hat]
                exact SL.done _
              · rw [if_neg hc] at hat
                rw [← hat]
                exact h1
            clear hat
            refine wpRel_nil ?_
            intro W hW
            have ho3 := hW.2 4 trivial _ _ rfl rfl
            have hEW := (Ext.refl x5).drew.trans hW.1
            have hDW : x5.heap.size ≤ W.heap.size := hW.1.size
            have HRB := Lib.hid (ownsRow_blocks ho3)
            have HT2 := Lib.hid (HT.out W hEW)
            refine wpAny_ready (rs := [9]) (by kernel_rfl) (by simp) ?_
            refine AllReady.cons rfl (fun K hK => ?_) AllReady.nil
            refine step_append_S rfl _ _ 22 22 rfl x5.heap.size 28 i0 _ 3 40 Try.underlying22 hi hz0 hz1 hz2 rfl _ k (rt.take k).flatten rfl ho3 (.slice at0 (qs.length - (k + 1)) (c3 - (k + 1))) (qs.length - (k + 1)) (rt.drop (k + 1)).flatten rfl ?_ (by unfold maxLen; omega) (by omega) hDW ?_
            · have := HT2.out.src (P := Try.prog) (by omega) Try.underlying22 (fun r hr => HQ.out.one r (List.mem_of_mem_drop hr))
              rwa [show (rt.drop (k + 1)).length = qs.length - (k + 1) by have := HL.out; simp; omega] at this
            intro v6 w6 ho6 hg6
            have hX6 : Ext x5 w6 := hEW.trans' hg6 (fun k hk => HRB.out k hk)
            have ho6' : w6.ownsRow x5.heap.size 28 3 v6 (k + (qs.length - (k + 1))) (rt.take k ++ rt.drop (k + 1)).flatten := by simpa using ho6
            obtain ⟨ao6, cap6, rfl, hs6, _⟩ := SL.of_own ho6' (by have := HQ.out.sl.wid; intro r hr; rcases List.mem_append.1 hr with h | h; exact this r (List.mem_of_mem_take h); exact this r (List.mem_of_mem_drop h)) (by have := HL.out; have := HHK.out; simp; omega)
            have HS6 := Lib.hid hs6
            have HX6 := Lib.hid hX6
            clear ho6 ho6' ho3 hs6 hg6 hX6
            refine hK _ _ ?_
            clear hK K
            simp only [Act.put, List.setIfInBounds_toArray]
            refine wpAny_ready (rs := [10]) (by kernel_rfl) (by simp) ?_
            refine AllReady.cons rfl (fun K hK => ?_) AllReady.nil
            go_simp
            refine hK _ _ ?_
            clear hK K
            refine wpAny_done (by kernel_rfl) ?_ _
            have hcl : cq.q.length = k + (qs.length - (k + 1)) := by rw [← HCQ.out]; have := HHK.out; simp [cutQ]; omega
            have hiq := HIQ.out
            have hkk3 := HHK.out
            go_wp2_with fail
            go_roundw
            case rel =>
              obtain rfl : cq = ⟨qs.take k ++ qs.drop (k + 1), []⟩ := HCQ.out.symm
              have hlen2 : (qs.take k ++ qs.drop (k + 1)).length = k + (qs.length - (k + 1)) := hcl
              exact ⟨i + 1, qs.take k ++ qs.drop (k + 1), rt.take k ++ rt.drop (k + 1), ao6, cap6, a5, c5, b5, d5, by go_num, by rw [hlen2], by rw [hlen2]; omega, okN_cut k HOK.out, HQ.out.cut HX6.out HHK.out HS6.out, HN5.out.ext HX6.out, HB5.out.ext HX6.out, HX5.out.trans HX6.out⟩
            case measure => simp [intOf] <;> omega

end Go.Proofs.Ytdlahgmbilkdcaa

