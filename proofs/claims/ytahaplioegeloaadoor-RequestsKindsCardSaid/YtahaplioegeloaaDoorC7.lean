import Derived.Test.YtahaplioegeloaaDoorC6
namespace Go.Sz
open Go.RowKit
theorem Grows.low {w w' : World} {v v' : Value} {base : Nat} (h : Grows w v w' v') (hv : ∀ k, v.ownBlock = some k → base ≤ k) (hb : base ≤ w.heap.size) {b : Nat} (hlt : b < base) : w'.heap[b]? = w.heap[b]? :=
  h.by_.block b (by omega) fun e => by have := hv b e.symm; omega

/-- the writer's table, and the variable that the closure reads -/
structure Tab (w : World) (h f1 f2 f3 : Nat) : Prop where
  c1 : w.cell? ⟨h, 1, none⟩ = some (.func (.func f1) #[] #[])
  c2 : w.cell? ⟨h, 2, none⟩ = some (.func (.func f2) #[] #[])
  c3 : w.cell? ⟨h, 3, none⟩ = some (.func (.func f3) #[] #[.pointer (some ⟨h + 1, 0, none⟩)])
  c : w.cell? ⟨h + 1, 0, none⟩ = some (.pointer (some ⟨h, 0, none⟩))

theorem Tab.keep {w w' : World} {h f1 f2 f3 : Nat} (H : Tab w h f1 f2 f3) (h1 : w'.heap[h]? = w.heap[h]?) (h2 : w'.heap[h + 1]? = w.heap[h + 1]?) : Tab w' h f1 f2 f3 :=
  ⟨(World.cell?_of_block (w := w) (a := ⟨h, 1, none⟩) h1).trans H.c1, (World.cell?_of_block (w := w) (a := ⟨h, 2, none⟩) h1).trans H.c2, (World.cell?_of_block (w := w) (a := ⟨h, 3, none⟩) h1).trans H.c3, (World.cell?_of_block (w := w) (a := ⟨h + 1, 0, none⟩) h2).trans H.c⟩

theorem V.wf_kind {k n : Int} {s : ByteArray} {l : List V} (h : V.wf (.mk k n s l) = true) : k = 1 ∨ k = 2 ∨ (k = 3 ∧ V.wfL l = true) := by
  unfold V.wf at h
  split at h
  · exact .inl ‹_›
  · split at h
    · exact .inr (.inl ‹_›)
    · split at h
      · simp at h; exact .inr (.inr ⟨‹_›, h.2⟩)
      · cases h
theorem V.wfL_get {l : List V} (h : V.wfL l = true) {k : Nat} (hk : k < l.length) : l[k].wf = true := by
  rw [V.wfL_all, List.all_eq_true] at h
  exact h _ (List.getElem_mem hk)
theorem V.encL_get_le {l : List V} {k : Nat} (hk : k < l.length) : (V.encL (l.take k)).length + (l[k].enc).length ≤ (V.encL l).length := by
  have := V.encL_take_le (l := l) (k + 1)
  rw [V.encL_take_succ hk, List.length_append] at this
  exact this
theorem V.htL_get {l : List V} {k : Nat} (hk : k < l.length) : l[k].ht ≤ V.htL l := V.htL_mem (List.getElem_mem hk)
end Go.Sz

namespace Go.Proofs.YtahaplioegeloaaDoor
open Go.RowKit Go.Sz

set_option maxRecDepth 100000 in
set_option maxHeartbeats 3200000 in
theorem writer3_any : ∀ (N : Nat) (l : List V) (ao : Option Addr) (cap : Nat) (rows : List (List Value)) (F : Nat → Prop) (c1 c2 : Value) (v : Value) (bs : List UInt8) (w : World) (base h : Nat),
    V.htL l ≤ N → V.wfL l = true → SL w 4 ao cap rows → (∀ a, ao = some a → rows ≠ [] → F a.block) → rows.length = l.length → (∀ (i : Nat) (r : List Value) (x : V), rows[i]? = some r → l[i]? = some x → RepV w F r x) →
    (∀ b, F b → b < base) → h + 1 < base → Tab w h 65 68 69 → OwnB w base v bs → base ≤ w.heap.size → bs.length + (3 :: (digits l.length ++ V.encL l)).length ≤ 1000000 →
    Calls Tryd.prog 69 #[v, .agg #[.int .i64 3, c1, c2, .slice ao l.length cap], .pointer (some ⟨h + 1, 0, none⟩)] w fun e w' => ∃ v', e = .returned v' ∧ OwnB w' base v' (bs ++ (3 :: (digits l.length ++ V.encL l))) ∧ Grows w v w' v' := by
  intro N
  induction N using Nat.strongRecOn with
  | ind N ih =>
    intro l ao cap rows F c1 c2 v bs w base h hht hwf hsl hF hlen hel hFb hhb htab hown hbase hb
    obtain ⟨i0, hi, hz0, hz1, hz2⟩ := info_parts info5
    replace hb : bs.length + (digits l.length).length + (V.encL l).length + 1 ≤ 1000000 := by simp at hb; omega
    have HB := Lib.hid hb
    have hs0 : (0 : Int) ≤ (l.length : Int) := by omega
    have hs1 : (l.length : Int) ≤ 9223372036854775807 := by have := hsl.max; have := hsl.le; omega
    have hw : IntKind.u64.wrap (l.length : Int) = (l.length : Int) := u64_small _ (by omega) (by omega)
    have hnb := NotBlk.fresh hown
    have HO := Lib.hid hown
    have HD := Lib.hid (digits_len64 l.length (by omega))
    have HT := Lib.hid htab
    have HS := Lib.hid hsl
    clear hb hown htab hsl
    go_enter Tryd.func69, Tryd.ntmps69
    go_wp2_with fail
    go_region_held3 (fun w' => w'.cell? ⟨w.heap.size, 3, none⟩ = some (.slice ao l.length cap)) (first | go_keep | (refine Grows.cell (by assumption) ?_ (by assumption); assumption))
      (first
        | (go_at_call 66; refine (numeral_any l.length _ (bs ++ [3]) _ base (by omega) (by assumption) (Nat.le_trans (by simp; omega) hg'.by_.size) (by have := HB.out; simp; omega)).mono ?_; rintro e w2 ⟨v2, rfl, ho2, hg2⟩; have hnb2 : NotBlk v2 w.heap.size := hg2.notBlk (Nat.lt_of_lt_of_le (by simp; omega) hg'.by_.size) hnb')
        | (refine step_append_S rfl _ _ 29 29 rfl base 5 i0 (.int .u8 0) 1 1 Tryd.underlying29 hi hz0 hz1 hz2 rfl v bs.length (bv bs) rfl (ownsRow_ext HO.out (((Ext.refl _).alloc _).alloc _).drew) _ 1 [.int .u8 3] rfl (Src.ofSlice _ Tryd.underlying29 ⟨_, 0, none⟩ 1 1 _ rfl (one_cell (by simp)) (by simp [Value.oneCell'])) (by have := HB.out; unfold maxLen; omega) (by have := HB.out; omega) (by simp; omega) ?_; intro v' w' ho' hg'; replace ho' : OwnB w' base v' (bs ++ [3]) := OwnB.of ho' (by simp [bv]); have hnb' : NotBlk v' w.heap.size := hg'.notBlk (by simp; omega) hnb))
    go_wp2_with fail
    go_loopw [0, 19] (fun v1 i wr => ∃ (k : Nat), i = .int .i64 k ∧ k ≤ l.length ∧ OwnB wr base v1 (bs ++ (3 :: (digits l.length ++ V.encL (l.take k)))) ∧ Grows w v wr v1 ∧ NotBlk v1 w.heap.size ∧ wr.cell? ⟨w.heap.size, 3, none⟩ = some (.slice ao l.length cap)) (fun _ i _ => l.length - (intOf i).toNat)
    case atStart => exact ⟨0, rfl, by omega, by simpa [V.encL] using ho2, (hg'.trans hg2).ext_left (((Ext.refl _).alloc _).alloc _).drew, hnb2, by assumption⟩
    case round =>
      obtain ⟨k, rfl, hk, ho, hG, hnk, hbox⟩ := hrel
      have hown := HO.out
      have hlow : ∀ b, b < base → wr.heap[b]? = w.heap[b]? := fun b hb => hG.low (ownsRow_blocks hown) hbase hb
      by_cases hlt : k < l.length
      · have helW : ∀ (i : Nat) (r : List Value) (x : V), rows[i]? = some r → l[i]? = some x → RepV wr F r x := fun i r x h1 h2 => (hel i r x h1 h2).keep fun b hb => hlow b (hFb b hb)
        have hslW : SL wr 4 ao cap rows := HS.out.keep fun a ha hr => hlow _ (hFb _ (hF a ha hr))
        obtain ⟨b, o, rfl, bl⟩ := hslW.at (by omega) k (by omega)
        have htW := HT.out.keep (hlow h (by omega)) (hlow (h + 1) (by omega))
        obtain ⟨kk, n, s, l', ao', cap', hlk, hR, c0, c1', c2', c3⟩ := rep_cells hslW hlen helW (Ext.refl _) hlt
        have hwfk : V.wf (.mk kk n s l') = true := hlk ▸ V.wfL_get hwf hlt
        have hEL := V.encL_get_le hlt
        rw [hlk] at hEL
        have hETS := V.encL_take_succ hlt
        rw [hlk] at hETS
        have hHT := V.htL_get hlt
        rw [hlk] at hHT
        obtain ⟨t1, t2, t3, t4⟩ := htW
        obtain ⟨ao2, cap2, rows2, hcs, _, hn, hs, hsl2, hF2, hlen2, hel2⟩ := hR.open
        obtain ⟨rfl, rfl⟩ : ao' = ao2 ∧ cap' = cap2 := by simpa using hcs
        have hrb : base ≤ wr.heap.size := Nat.le_trans hbase hG.by_.size
        have n1 : NotBlk u0 h := fun k hk he => by have := ownsRow_blocks ho k hk; omega
        have n2 : NotBlk u0 (h + 1) := fun k hk he => by have := ownsRow_blocks ho k hk; omega
        have n3 : NotBlk u0 wr.heap.size := NotBlk.fresh ho
        have HEL := Lib.hid hEL
        have HETS := Lib.hid hETS
        have HHT := Lib.hid hHT
        have HOW := Lib.hid ho
        have HG := Lib.hid hG
        have HLOW := Lib.hid hlow
        have HLK := Lib.hid hlk
        have HN := Lib.hid hn
        have HSL := Lib.hid hsl2
        have HWF := Lib.hid hwf
        have HIH := Lib.hid ih
        have HS2 := Lib.hid hs
        clear hEL hETS hHT ho hG hlow hlk hn hcs hR hsl2 helW hslW hel hwf ih hs hg' hg2 ho' ho2 hown
        rcases V.wf_kind hwfk with rfl | rfl | ⟨rfl, hwl⟩
        · have hsz : (bs ++ (3 :: (digits l.length ++ V.encL (l.take k)))).length + (1 :: digits (zig n).toNat).length ≤ 1000000 := by
            have h1 := HEL.out
            have h2 := HB.out
            have h3 := HD.out
            have h4 := V.encL_take_le (l := l) k
            simp [V.enc] at h1 ⊢
            omega
          go_wp2_with fail
          have hE1 : Ext wr (wr.alloc (Obj.cells #[Value.int IntKind.i64 1, Value.int IntKind.i64 n, Value.string s, Value.slice ao' l'.length cap'] 59)) := (Ext.refl _).alloc _
          have a0 := hE1.cell t4
          have a1 := hE1.cell t1
          have b0 : (wr.alloc (Obj.cells #[Value.int IntKind.i64 1, Value.int IntKind.i64 n, Value.string s, Value.slice ao' l'.length cap'] 59)).cell? ⟨wr.heap.size, 0, none⟩ = some (.int .i64 1) := by simp
          have b1 : (wr.alloc (Obj.cells #[Value.int IntKind.i64 1, Value.int IntKind.i64 n, Value.string s, Value.slice ao' l'.length cap'] 59)).cell? ⟨wr.heap.size, 1, none⟩ = some (.int .i64 n) := by simp
          have b2 : (wr.alloc (Obj.cells #[Value.int IntKind.i64 1, Value.int IntKind.i64 n, Value.string s, Value.slice ao' l'.length cap'] 59)).cell? ⟨wr.heap.size, 2, none⟩ = some (.string s) := by simp
          have b3 : (wr.alloc (Obj.cells #[Value.int IntKind.i64 1, Value.int IntKind.i64 n, Value.string s, Value.slice ao' l'.length cap'] 59)).cell? ⟨wr.heap.size, 3, none⟩ = some (.slice ao' l'.length cap') := by simp
          generalize (wr.alloc (Obj.cells #[Value.int IntKind.i64 1, Value.int IntKind.i64 n, Value.string s, Value.slice ao' l'.length cap'] 59)) = W1 at *
          clear c0 c1' c2' c3 t1 t2 t3 t4
          replace hE1 : Ext wr W1.drew := hE1.drew
          go_region_held3 (fun w' => w'.cell? ⟨h + 1, 0, none⟩ = some (.pointer (some ⟨h, 0, none⟩)) ∧ w'.cell? ⟨h, 1, none⟩ = some (.func (.func 65) #[] #[]) ∧ w'.cell? ⟨wr.heap.size, 0, none⟩ = some (.int .i64 1) ∧ w'.cell? ⟨wr.heap.size, 1, none⟩ = some (.int .i64 n) ∧ w'.cell? ⟨wr.heap.size, 2, none⟩ = some (.string s) ∧ w'.cell? ⟨wr.heap.size, 3, none⟩ = some (.slice ao' l'.length cap'))
            (first | go_keep | exact ⟨hgx.cell n2 a0, hgx.cell n1 a1, hgx.cell n3 b0, hgx.cell n3 b1, hgx.cell n3 b2, hgx.cell n3 b3⟩)
            (first
              | (go_at_call 65; refine (writer1_any n s _ _ _ _ base HN.out (ownsRow_ext HOW.out hE1) (Nat.le_trans hrb hE1.size) hsz).mono ?_; rintro e wx ⟨vx, rfl, hox, hgx⟩))
          go_wp2_with fail
          go_roundw
          case rel =>
            refine ⟨k + 1, by go_num, by omega, ?_, HG.out.trans (hgx.ext_left hE1), hgx.notBlk (Nat.lt_of_lt_of_le (HG.out.by_.size |> fun h => by have := World.block_lt_of_cell? _ _ hbox; exact this) hE1.size) hnk, hgx.cell hnk (hE1.cell hbox)⟩
            rw [HETS.out]
            simpa [V.enc] using hox
          case measure => simp [intOf]; omega
        · have hsz : (bs ++ (3 :: (digits l.length ++ V.encL (l.take k)))).length + (2 :: (digits s.size ++ bytesOf s)).length ≤ 1000000 := by
            have h1 := HEL.out
            have h2 := HB.out
            have h3 := HD.out
            have h4 := V.encL_take_le (l := l) k
            simp [V.enc] at h1 ⊢
            omega
          go_wp2_with fail
          have hE1 : Ext wr (wr.alloc (Obj.cells #[Value.int IntKind.i64 2, Value.int IntKind.i64 n, Value.string s, Value.slice ao' l'.length cap'] 59)) := (Ext.refl _).alloc _
          have a0 := hE1.cell t4
          have a1 := hE1.cell t2
          have b0 : (wr.alloc (Obj.cells #[Value.int IntKind.i64 2, Value.int IntKind.i64 n, Value.string s, Value.slice ao' l'.length cap'] 59)).cell? ⟨wr.heap.size, 0, none⟩ = some (.int .i64 2) := by simp
          have b1 : (wr.alloc (Obj.cells #[Value.int IntKind.i64 2, Value.int IntKind.i64 n, Value.string s, Value.slice ao' l'.length cap'] 59)).cell? ⟨wr.heap.size, 1, none⟩ = some (.int .i64 n) := by simp
          have b2 : (wr.alloc (Obj.cells #[Value.int IntKind.i64 2, Value.int IntKind.i64 n, Value.string s, Value.slice ao' l'.length cap'] 59)).cell? ⟨wr.heap.size, 2, none⟩ = some (.string s) := by simp
          have b3 : (wr.alloc (Obj.cells #[Value.int IntKind.i64 2, Value.int IntKind.i64 n, Value.string s, Value.slice ao' l'.length cap'] 59)).cell? ⟨wr.heap.size, 3, none⟩ = some (.slice ao' l'.length cap') := by simp
          generalize (wr.alloc (Obj.cells #[Value.int IntKind.i64 2, Value.int IntKind.i64 n, Value.string s, Value.slice ao' l'.length cap'] 59)) = W1 at *
          clear c0 c1' c2' c3 t1 t2 t3 t4
          replace hE1 : Ext wr W1.drew := hE1.drew
          go_region_held3 (fun w' => w'.cell? ⟨h + 1, 0, none⟩ = some (.pointer (some ⟨h, 0, none⟩)) ∧ w'.cell? ⟨h, 2, none⟩ = some (.func (.func 68) #[] #[]) ∧ w'.cell? ⟨wr.heap.size, 0, none⟩ = some (.int .i64 2) ∧ w'.cell? ⟨wr.heap.size, 1, none⟩ = some (.int .i64 n) ∧ w'.cell? ⟨wr.heap.size, 2, none⟩ = some (.string s) ∧ w'.cell? ⟨wr.heap.size, 3, none⟩ = some (.slice ao' l'.length cap'))
            (first | go_keep | exact ⟨hgx.cell n2 a0, hgx.cell n1 a1, hgx.cell n3 b0, hgx.cell n3 b1, hgx.cell n3 b2, hgx.cell n3 b3⟩)
            (first
              | (go_at_call 68; refine (writer2_any s _ _ _ _ _ base (ownsRow_ext HOW.out hE1) (Nat.le_trans hrb hE1.size) hsz).mono ?_; rintro e wx ⟨vx, rfl, hox, hgx⟩))
          go_wp2_with fail
          go_roundw
          case rel =>
            refine ⟨k + 1, by go_num, by omega, ?_, HG.out.trans (hgx.ext_left hE1), hgx.notBlk (Nat.lt_of_lt_of_le (HG.out.by_.size |> fun h => by have := World.block_lt_of_cell? _ _ hbox; exact this) hE1.size) hnk, hgx.cell hnk (hE1.cell hbox)⟩
            rw [HETS.out]
            simpa [V.enc] using hox
          case measure => simp [intOf]; omega
        · have hsz : (bs ++ (3 :: (digits l.length ++ V.encL (l.take k)))).length + (3 :: (digits l'.length ++ V.encL l')).length ≤ 1000000 := by
            have h1 := HEL.out
            have h2 := HB.out
            have h3 := HD.out
            have h4 := V.encL_take_le (l := l) k
            simp [V.enc] at h1 ⊢
            omega
          have hN2 : V.htL l' < N := by have h1 := HHT.out; simp only [V.ht] at h1; omega
          have HTW := Lib.hid (HT.out.keep (HLOW.out h (by omega)) (HLOW.out (h + 1) (by omega)))
          go_wp2_with fail
          have hE1 : Ext wr (wr.alloc (Obj.cells #[Value.int IntKind.i64 3, Value.int IntKind.i64 n, Value.string s, Value.slice ao' l'.length cap'] 59)) := (Ext.refl _).alloc _
          have a0 := hE1.cell t4
          have a1 := hE1.cell t3
          have b0 : (wr.alloc (Obj.cells #[Value.int IntKind.i64 3, Value.int IntKind.i64 n, Value.string s, Value.slice ao' l'.length cap'] 59)).cell? ⟨wr.heap.size, 0, none⟩ = some (.int .i64 3) := by simp
          have b1 : (wr.alloc (Obj.cells #[Value.int IntKind.i64 3, Value.int IntKind.i64 n, Value.string s, Value.slice ao' l'.length cap'] 59)).cell? ⟨wr.heap.size, 1, none⟩ = some (.int .i64 n) := by simp
          have b2 : (wr.alloc (Obj.cells #[Value.int IntKind.i64 3, Value.int IntKind.i64 n, Value.string s, Value.slice ao' l'.length cap'] 59)).cell? ⟨wr.heap.size, 2, none⟩ = some (.string s) := by simp
          have b3 : (wr.alloc (Obj.cells #[Value.int IntKind.i64 3, Value.int IntKind.i64 n, Value.string s, Value.slice ao' l'.length cap'] 59)).cell? ⟨wr.heap.size, 3, none⟩ = some (.slice ao' l'.length cap') := by simp
          generalize (wr.alloc (Obj.cells #[Value.int IntKind.i64 3, Value.int IntKind.i64 n, Value.string s, Value.slice ao' l'.length cap'] 59)) = W1 at *
          clear c0 c1' c2' c3 t1 t2 t3 t4
          replace hE1 : Ext wr W1.drew := hE1.drew
          go_region_held3 (fun w' => w'.cell? ⟨h + 1, 0, none⟩ = some (.pointer (some ⟨h, 0, none⟩)) ∧ w'.cell? ⟨h, 3, none⟩ = some (.func (.func 69) #[] #[.pointer (some ⟨h + 1, 0, none⟩)]) ∧ w'.cell? ⟨wr.heap.size, 0, none⟩ = some (.int .i64 3) ∧ w'.cell? ⟨wr.heap.size, 1, none⟩ = some (.int .i64 n) ∧ w'.cell? ⟨wr.heap.size, 2, none⟩ = some (.string s) ∧ w'.cell? ⟨wr.heap.size, 3, none⟩ = some (.slice ao' l'.length cap'))
            (first | go_keep | exact ⟨hgx.cell n2 a0, hgx.cell n1 a1, hgx.cell n3 b0, hgx.cell n3 b1, hgx.cell n3 b2, hgx.cell n3 b3⟩)
            (first
              | (go_at_call 69; refine (HIH.out (V.htL l') hN2 l' _ _ rows2 F _ _ _ _ _ base h (Nat.le_refl _) hwl (HSL.out.ext hE1) hF2 hlen2 (fun i r x h1 h2 => (hel2 i r x h1 h2).ext hE1) hFb hhb (HTW.out.keep (hE1.block h (by omega)) (hE1.block (h+1) (by omega))) (ownsRow_ext HOW.out hE1) (Nat.le_trans hrb hE1.size) hsz).mono ?_; rintro e wx ⟨vx, rfl, hox, hgx⟩))
          go_wp2_with fail
          go_roundw
          case rel =>
            refine ⟨k + 1, by go_num, by omega, ?_, HG.out.trans (hgx.ext_left hE1), hgx.notBlk (Nat.lt_of_lt_of_le (HG.out.by_.size |> fun h => by have := World.block_lt_of_cell? _ _ hbox; exact this) hE1.size) hnk, hgx.cell hnk (hE1.cell hbox)⟩
            rw [HETS.out]
            simpa [V.enc] using hox
          case measure => simp [intOf]; omega
      · have hk2 : k = l.length := by omega
        subst hk2
        have HOW := Lib.hid ho
        clear ho
        go_wp2_with fail
        go_ret
        exact ⟨u0, rfl, by simpa using HOW.out, hG⟩

end Go.Proofs.YtahaplioegeloaaDoor
