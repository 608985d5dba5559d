import Derived.Test.YtahaplioegeloaaDoorC8
namespace Go.Sz
open Go.RowKit
/-- an owned row, as what is appended -/
theorem Src.ofOwn {P : Program} {w : World} {base e size n : Nat} {v : Value} {xs : List Value} (h : w.ownsRow base e size v n xs) {tx e' : TypeId} (hk : P.underlying tx = some (.slice e')) (h1 : ∀ u ∈ xs, u.oneCell' = true) : Src P size tx v n xs w := by
  rcases h.2 with ⟨rfl, rfl⟩ | ⟨g, cap, cur, rfl, hb, hg, rest⟩
  · have hx : xs = [] := List.eq_nil_of_length_eq_zero (by simpa using h.1)
    subst hx
    exact Src.ofNil w hk 0
  · exact Src.ofSlice w hk ⟨g, 0, none⟩ n cap xs h.1 (h.cells rfl) h1

theorem own_one {w : World} {x : Value} {e : TypeId} {base g : Nat} (hg : g = w.heap.size) (hb : base ≤ g) : (w.alloc (.cells #[x] e)).ownsRow base e 1 (.slice (some ⟨g, 0, none⟩) 1 1) 1 [x] := by
  subst hg
  exact World.ownsRow_lit w #[x] 1 hb (by unfold maxLen; omega) rfl

theorem Ext.own_step {w w1 w2 : World} {v v2 : Value} {e size n : Nat} {xs : List Value} (h : Ext w w1) (g : Grows w1 v w2 v2) (ho : w1.ownsRow w.heap.size e size v n xs) : Ext w w2 :=
  Below.trans h (g.below h.size (ownsRow_blocks ho))
end Go.Sz
namespace Go.Proofs.YtahaplioegeloaaDoor
open Go.RowKit Go.Sz

set_option maxRecDepth 100000 in
set_option maxHeartbeats 1600000 in
theorem refNumeral_any (u : Nat) : ∀ (w : World), u ≤ 18446744073709551615 →
    Calls Tryd.prog 72 #[.int .u64 u] w fun e w' => ∃ v', e = .returned v' ∧ OwnB w' w.heap.size v' (digits u) ∧ Ext w w' := by
  induction u using Nat.strongRecOn with
  | ind u ih =>
    intro w hu
    obtain ⟨i0, hi, hz0, hz1, hz2⟩ := info_parts info5
    have IH := Lib.hid ih
    have HU := Lib.hid hu
    clear ih
    rcases Nat.lt_or_ge u 128 with hlt | hlt
    · have HB := Lib.hid (digits_small hlt)
      have h1 : decide ((u : Int) < 128) = true := by simp; omega
      go_enter Tryd.func72, Tryd.ntmps72
      go_wp2_with fail
      go_ret
      refine ⟨_, rfl, OwnB.of (xs := [.int .u8 (u : Int)]) (World.ownsRow_lit _ #[.int .u8 (u : Int)] 1 (Nat.le_refl _) (by unfold maxLen; omega) rfl) ?_, (Ext.refl _).alloc _⟩
      rw [HB.out]
      simp only [bv, List.map_cons, List.map_nil]
      rw [← u8_cell u (by omega)]
    · have HB := Lib.hid (digits_big hlt)
      have IH2 : Hid (∀ w : World, Calls Tryd.prog 72 #[.int .u64 ((u : Int) / 128)] w fun e w' => ∃ v', e = .returned v' ∧ OwnB w' w.heap.size v' (digits (u / 128)) ∧ Ext w w') := fun w => IH.out (u / 128) (by omega) w (by omega)
      have hdl := digits_len64 (u / 128) (by omega)
      go_enter Tryd.func72, Tryd.ntmps72
      go_wp2_with (first
        | (go_at_call 72; refine (IH2.out _).mono ?_; rintro e w2 ⟨v2, rfl, ho2, hE2⟩)
        | (at_builtin; refine wpList_append_S rfl _ _ 29 29 rfl w.heap.size 5 i0 (.int .u8 0) 1 1 Tryd.underlying29 hi hz0 hz1 hz2 rfl _ 1 [_] rfl (ownsRow_ext (own_one rfl (Nat.le_refl _)) hE2) _ (digits (u / 128)).length (bv (digits (u / 128))) rfl (Src.ofOwn ho2 Tryd.underlying29 (bv_one _)) (by unfold maxLen; omega) (by omega) (by have := hE2.size; simp at this; omega) ?_; intro v' w' ho' hg'))
      go_ret
      refine ⟨v', rfl, OwnB.of ho' ?_, (((Ext.refl _).alloc _).trans hE2).own_step hg' (ownsRow_ext (World.ownsRow_lit (e := 5) (size := 1) _ #[_] 1 (Nat.le_refl _) (by unfold maxLen; omega) rfl) hE2)⟩
      rw [HB.out]
      have h3 : Value.int .u8 ((u : Int) % 128 + 128) = .int .u8 ((UInt8.ofNat (u % 128 + 128)).toNat : Int) := u8_cell (u % 128 + 128) (by omega)
      simp only [h3]
      rfl


set_option maxRecDepth 100000 in
theorem refEnc1_any (n : Int) (s : ByteArray) (c3 : Value) (w : World) (hn : inI64 n) :
    Calls Tryd.prog 53 #[.agg #[.int .i64 1, .int .i64 n, .string s, c3]] w fun e w' => ∃ v', e = .returned v' ∧ OwnB w' w.heap.size v' (1 :: digits (zig n).toNat) ∧ Ext w w' := by
  obtain ⟨i0, hi, hz0, hz1, hz2⟩ := info_parts info5
  have hz : 0 ≤ zig n ∧ zig n ≤ 18446744073709551615 := by
    have h1 := hn.1
    have h2 := hn.2
    unfold zig
    split <;> omega
  obtain ⟨u, hu⟩ : ∃ u : Nat, zig n = u := ⟨(zig n).toNat, by omega⟩
  have hu2 : u ≤ 18446744073709551615 := by omega
  have HZ := Lib.hid hu
  have HN := Lib.hid hn
  have HU := Lib.hid hu2
  have HT := Lib.hid (show (zig n).toNat = u by omega)
  have HD := Lib.hid (digits_len64 u (by omega))
  clear hz hu hn hu2
  go_enter Tryd.func53, Tryd.ntmps53
  go_wp2_with (first
    | (go_at_call 73; refine (refUnsigned_any n _ HN.out.1 HN.out.2).mono ?_; rintro e w' ⟨rfl, rfl⟩; rw [HZ.out])
    | (go_at_call 72; refine (refNumeral_any u _ HU.out).mono ?_; rintro e w2 ⟨v2, rfl, ho2, hE2⟩)
    | (at_builtin; refine wpList_append_S rfl _ _ 29 29 rfl w.heap.size 5 i0 (.int .u8 0) 1 1 Tryd.underlying29 hi hz0 hz1 hz2 rfl _ 1 [_] rfl (ownsRow_ext (own_one (by simp) (by omega)) hE2) _ (digits u).length (bv (digits u)) rfl (Src.ofOwn ho2 Tryd.underlying29 (bv_one _)) (by have := HD.out; unfold maxLen; omega) (by have := HD.out; omega) (by have := hE2.size; simp at this; omega) ?_; intro v' w' ho' hg'))
  go_ret
  refine ⟨v', rfl, OwnB.of ho' ?_, (((Ext.refl _).alloc _).alloc _ |>.trans hE2).own_step hg' (ownsRow_ext (own_one (by simp) (by omega)) hE2)⟩
  rw [HT.out]
  rfl


set_option maxRecDepth 100000 in
set_option maxHeartbeats 1600000 in
theorem refEnc2_any (s : ByteArray) (c1 c3 : Value) (w : World) (hb : (2 :: (digits s.size ++ bytesOf s)).length ≤ 1000000) :
    Calls Tryd.prog 53 #[.agg #[.int .i64 2, c1, .string s, c3]] w fun e w' => ∃ v', e = .returned v' ∧ OwnB w' w.heap.size v' (2 :: (digits s.size ++ bytesOf s)) ∧ Ext w w' := by
  obtain ⟨i0, hi, hz0, hz1, hz2⟩ := info_parts info5
  replace hb : (digits s.size).length + s.size + 1 ≤ 1000000 := by simp [bytesOf_length] at hb; omega
  have HB := Lib.hid hb
  have hs0 : (0 : Int) ≤ (s.size : Int) := by omega
  have hs1 : (s.size : Int) ≤ 9223372036854775807 := by omega
  have hw : IntKind.u64.wrap (s.size : Int) = (s.size : Int) := u64_small _ (by omega) (by omega)
  clear hb
  go_enter Tryd.func53, Tryd.ntmps53
  go_wp2_with fail
  have hE0 : Ext w (w.alloc (Obj.cells #[Value.int IntKind.i64 2, c1, Value.string s, c3] 59)) := (Ext.refl w).alloc _
  have b2 : (w.alloc (Obj.cells #[Value.int IntKind.i64 2, c1, Value.string s, c3] 59)).cell? ⟨w.heap.size, 2, none⟩ = some (.string s) := by simp
  have hsz : w.heap.size < (w.alloc (Obj.cells #[Value.int IntKind.i64 2, c1, Value.string s, c3] 59)).heap.size := by simp
  generalize (w.alloc (Obj.cells #[Value.int IntKind.i64 2, c1, Value.string s, c3] 59)) = W1 at *
  go_region_held3 (fun w' => w'.cell? ⟨w.heap.size, 2, none⟩ = some (.string s)) (first | go_keep | exact hE4.cell b2 | exact hE3.cell b2 | exact hE2'.cell b2 | exact (hE2'.alloc _).cell b2)
    (first
      | (go_at_call 72; refine (refNumeral_any s.size _ (by omega)).mono ?_; rintro e w2 ⟨v2, rfl, ho2, hE2⟩; have hE2' : Ext W1 w2 := (by first | exact (((Ext.refl W1).alloc _).drew.trans hE2) | exact ((Ext.refl W1).drew.trans hE2)))
      | (refine step_append_S rfl _ _ 29 29 rfl W1.heap.size 5 i0 (.int .u8 0) 1 1 Tryd.underlying29 hi hz0 hz1 hz2 rfl _ 1 [.int .u8 2] rfl (ownsRow_ext (own_one (w := W1) (x := .int .u8 2) rfl (Nat.le_refl _)) ((Ext.refl (W1.alloc _)).drew.trans hE2)) _ (digits s.size).length (bv (digits s.size)) rfl (Src.ofOwn ho2 Tryd.underlying29 (bv_one _)) (by have := HB.out; simp [maxLen]; omega) (by have := HB.out; simp; omega) hE2'.size ?_; intro v3 w3 ho3 hg3; have hE3 : Ext W1 w3 := hE2'.own_step hg3 (ownsRow_ext (own_one (w := W1) (x := .int .u8 2) rfl (Nat.le_refl _)) ((Ext.refl (W1.alloc _)).drew.trans hE2)); replace ho3 : OwnB w3 W1.heap.size v3 (2 :: digits s.size) := OwnB.of ho3 rfl)
      | (refine step_append_S rfl _ _ 29 29 rfl W1.heap.size 5 i0 (.int .u8 0) 1 1 Tryd.underlying29 hi hz0 hz1 hz2 rfl _ 1 [.int .u8 2] rfl (own_one (w := w2) (x := .int .u8 2) rfl hE2'.size) _ (digits s.size).length (bv (digits s.size)) rfl (Src.ofOwn (ownsRow_ext ho2 ((Ext.refl _).alloc _)) Tryd.underlying29 (bv_one _)) (by have := HB.out; simp [maxLen]; omega) (by have := HB.out; simp; omega) (hE2'.alloc _).size ?_; intro v3 w3 ho3 hg3; have hE3 : Ext W1 w3 := (hE2'.alloc _).own_step hg3 (own_one (w := w2) (x := .int .u8 2) rfl hE2'.size); replace ho3 : OwnB w3 W1.heap.size v3 (2 :: digits s.size) := OwnB.of ho3 rfl)
      | (refine step_append_S rfl _ _ 29 9 rfl W1.heap.size 5 i0 (.int .u8 0) 1 1 Tryd.underlying29 hi hz0 hz1 hz2 rfl v3 _ _ rfl ho3 _ s.size (byteCells s) rfl (Src.ofString _ Tryd.underlying9 s) (by have := HB.out; simp [maxLen]; omega) (by have := HB.out; simp; omega) hE3.size ?_; intro v4 w4 ho4 hg4; have hE4 : Ext W1 w4 := hE3.own_step hg4 ho3))
  all_goals
    go_wp2_with fail
    go_ret
    exact ⟨v4, rfl, ownsRow_base (OwnB.of (bs := 2 :: (digits s.size ++ bytesOf s)) ho4 (by simp [bv, byteCells, bytesOf])) hE0.size, hE0.trans hE4⟩

set_option maxRecDepth 100000 in
set_option maxHeartbeats 3200000 in
theorem refEnc3_any : ∀ (N : Nat) (l : List V) (ao : Option Addr) (cap : Nat) (rows : List (List Value)) (F : Nat → Prop) (c1 c2 : Value) (w : World),
    V.htL l ≤ N → V.wfL l = true → SL w 4 ao cap rows → rows.length = l.length → (∀ (i : Nat) (r : List Value) (x : V), rows[i]? = some r → l[i]? = some x → RepV w F r x) →
    (3 :: (digits l.length ++ V.encL l)).length ≤ 1000000 →
    Calls Tryd.prog 53 #[.agg #[.int .i64 3, c1, c2, .slice ao l.length cap]] w fun e w' => ∃ v', e = .returned v' ∧ OwnB w' w.heap.size v' (3 :: (digits l.length ++ V.encL l)) ∧ Ext w w' := by
  intro N
  induction N using Nat.strongRecOn with
  | ind N ih =>
    intro l ao cap rows F c1 c2 w hht hwf hsl hlen hel hb
    obtain ⟨i0, hi, hz0, hz1, hz2⟩ := info_parts info5
    replace hb : (digits l.length).length + (V.encL l).length + 1 ≤ 1000000 := by simp at hb; omega
    have HB := Lib.hid hb
    have hs0 : (0 : Int) ≤ (l.length : Int) := by omega
    have hs1 : (l.length : Int) ≤ 9223372036854775807 := by have := hsl.max; have := hsl.le; omega
    have hw : IntKind.u64.wrap (l.length : Int) = (l.length : Int) := u64_small _ (by omega) (by omega)
    have HS := Lib.hid hsl
    have HEL := Lib.hid hel
    have HIH := Lib.hid ih
    have HWF := Lib.hid hwf
    clear hb hsl hel ih hwf
    go_enter Tryd.func53, Tryd.ntmps53
    go_wp2_with (first
      | (go_at_call 72; refine (refNumeral_any l.length _ (by omega)).mono ?_; rintro e w2 ⟨v2, rfl, ho2, hE2⟩)
      | (at_builtin; refine wpList_append_S rfl _ _ 29 29 rfl (w.heap.size + 1) 5 i0 (.int .u8 0) 1 1 Tryd.underlying29 hi hz0 hz1 hz2 rfl _ 1 [.int .u8 3] rfl (ownsRow_ext (own_one (by simp) (by omega)) hE2) _ (digits l.length).length (bv (digits l.length)) rfl (Src.ofOwn ho2 Tryd.underlying29 (bv_one _)) (by have := HB.out; simp [maxLen]; omega) (by have := HB.out; simp; omega) (by have := hE2.size; simp at this; omega) ?_; intro v3 w3 ho3 hg3))
    have hE0 : Ext w (w.alloc (Obj.cells #[Value.int IntKind.i64 3, c1, c2, Value.slice ao l.length cap] 59)) := (Ext.refl w).alloc _
    have b3 : (w.alloc (Obj.cells #[Value.int IntKind.i64 3, c1, c2, Value.slice ao l.length cap] 59)).cell? ⟨w.heap.size, 3, none⟩ = some (.slice ao l.length cap) := by simp
    have hsz : (w.alloc (Obj.cells #[Value.int IntKind.i64 3, c1, c2, Value.slice ao l.length cap] 59)).heap.size = w.heap.size + 1 := by simp
    generalize (w.alloc (Obj.cells #[Value.int IntKind.i64 3, c1, c2, Value.slice ao l.length cap] 59)) = W1 at *
    have hE3 : Ext W1 w3 := (((Ext.refl W1).alloc _).trans hE2).own_step hg3 (ownsRow_ext (own_one (x := .int .u8 3) hsz.symm (Nat.le_of_eq hsz)) hE2)
    replace ho3 : OwnB w3 W1.heap.size v3 (3 :: digits l.length) := by rw [hsz]; exact OwnB.of ho3 rfl
    have HO3 := Lib.hid ho3
    clear ho3 hg3 ho2 hE2
    go_loopw [3, 4] (fun v1 i wr => ∃ (k : Nat), i = .int .i64 k ∧ k ≤ l.length ∧ OwnB wr W1.heap.size v1 (3 :: (digits l.length ++ V.encL (l.take k))) ∧ Ext W1 wr) (fun _ i _ => l.length - (intOf i).toNat)
    case atStart => exact ⟨0, rfl, by omega, by simpa [V.encL] using HO3.out, hE3⟩
    case round =>
      obtain ⟨k, rfl, hk, ho, hB⟩ := hrel
      have HO := Lib.hid ho
      clear ho
      have hbox : wr.cell? ⟨w.heap.size, 3, none⟩ = some (.slice ao l.length cap) := hB.cell b3
      by_cases hlt : k < l.length
      · obtain ⟨b, o, rfl, bl⟩ := HS.out.at (by omega) k (by omega)
        obtain ⟨kk, n, s, l', ao', cap', hlk, hR, c0, c1', c2', c3⟩ := rep_cells HS.out hlen HEL.out (hE0.trans hB) hlt
        have hwfk : V.wf (.mk kk n s l') = true := hlk ▸ V.wfL_get HWF.out hlt
        have hEL := V.encL_get_le hlt
        rw [hlk] at hEL
        have hETS := V.encL_take_succ hlt
        rw [hlk] at hETS
        have hHT := V.htL_get hlt
        rw [hlk] at hHT
        have hcall : Calls Tryd.prog 53 #[.agg #[.int .i64 kk, .int .i64 n, .string s, .slice ao' l'.length cap']] wr fun e w' => ∃ v', e = .returned v' ∧ OwnB w' wr.heap.size v' (V.enc (.mk kk n s l')) ∧ Ext wr w' := by
          obtain ⟨ao2, cap2, rows2, hcs, _, hn, hs, hsl2, hF2, hlen2, hel2⟩ := hR.open
          obtain ⟨rfl, rfl⟩ : ao' = ao2 ∧ cap' = cap2 := by simpa using hcs
          have hb := HB.out
          rcases V.wf_kind hwfk with rfl | rfl | ⟨rfl, hwl⟩
          · simpa [V.enc] using refEnc1_any n s _ wr hn
          · simpa [V.enc] using refEnc2_any s _ _ wr (by simp only [V.enc] at hEL; simp at hEL ⊢; omega)
          · simpa [V.enc] using HIH.out (V.htL l') (by simp only [V.ht] at hHT; omega) l' _ _ rows2 F _ _ wr (Nat.le_refl _) hwl hsl2 hlen2 hel2 (by simp only [V.enc] at hEL; simp at hEL ⊢; omega)
        obtain ⟨en, hen⟩ : ∃ en, en = V.enc (.mk kk n s l') := ⟨_, rfl⟩
        rw [← hen] at hcall hEL hETS
        have HC := Lib.hid hcall
        have HEL2 := Lib.hid hEL
        have HETS := Lib.hid hETS
        clear hcall hEL hETS hHT hwfk hR hlk hen
        go_wp2_with (first
          | (go_at_call 53; refine HC.out.mono ?_; rintro e w4 ⟨v4, rfl, ho4, hE4⟩)
          | (at_builtin; refine wpList_append_S rfl _ _ 29 29 rfl W1.heap.size 5 i0 (.int .u8 0) 1 1 Tryd.underlying29 hi hz0 hz1 hz2 rfl u3 _ _ rfl (ownsRow_ext HO.out hE4) _ en.length (bv en) rfl (Src.ofOwn ho4 Tryd.underlying29 (bv_one _)) (by have := HB.out; have := HEL2.out; simp [maxLen]; omega) (by have := HB.out; have := HEL2.out; simp; omega) (hB.trans hE4).size ?_; intro v5 w5 ho5 hg5))
        go_roundw
        case rel => exact ⟨k + 1, by go_num, by omega, OwnB.of ho5 (by rw [HETS.out]; simp [bv]), (hB.trans hE4).own_step hg5 (ownsRow_ext HO.out hE4)⟩
        case measure => simp [intOf]; omega
      · have hk2 : k = l.length := by omega
        subst hk2
        go_wp2_with fail
        go_ret
        exact ⟨u3, rfl, by have := HO.out; rw [List.take_length] at this; exact ownsRow_base this hE0.size, hE0.trans hB⟩

end Go.Proofs.YtahaplioegeloaaDoor
