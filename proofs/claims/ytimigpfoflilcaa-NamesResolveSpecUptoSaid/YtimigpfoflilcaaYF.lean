/- Names: listed. -/
import Derived.Test.YtimigpfoflilcaaYE
namespace Go.Sz
open Go.RowKit
theorem listN_step {l : List Cr} {o : List Nat} {is : List Bool} {i f : Nat} (h : firstN l is = some i) : listN l (f + 1) o is = listN l f (o ++ [i]) (is.set i true) := by
  rw [listN, h]
theorem listN_stop {l : List Cr} {o : List Nat} {is : List Bool} {f : Nat} (h : firstN l is = none) : listN l f o is = (o, is) := by
  cases f with
  | zero => rfl
  | succ f => rw [listN, h]
theorem firstN_some {l : List Cr} {is : List Bool} {i : Nat} (hi : i < l.length) (hr : readyN l is i = true) (hb : ∀ j, j < i → readyN l is j = false) : firstN l is = some i := by
  unfold firstN
  rw [List.find?_range_eq_some]
  exact ⟨hr, List.mem_range.2 hi, fun j hj => by rw [hb j hj]; rfl⟩
theorem firstN_none {l : List Cr} {is : List Bool} (hb : ∀ j, j < l.length → readyN l is j = false) : firstN l is = none := by
  unfold firstN
  rw [List.find?_eq_none]
  intro j hj
  rw [hb j (List.mem_range.1 hj)]
  simp
theorem readyN_not {l : List Cr} {is : List Bool} {i : Nat} (hl : is.length = l.length) (hi : i < l.length) (h : readyN l is i = true) : is[i]? = some false := by
  have h1 : is[i]? = some is[i] := List.getElem?_eq_getElem (by omega)
  unfold readyN at h
  rw [List.getD_eq_getElem?_getD, h1] at h
  rw [h1]
  cases hb : is[i] with
  | false => rfl
  | true => rw [hb] at h; simp at h
theorem count_set : ∀ {is : List Bool} {i : Nat}, is[i]? = some false → (is.set i true).count false + 1 = is.count false := by
  intro is
  induction is with
  | nil => intro i h; simp at h
  | cons b is ih =>
    intro i h
    cases i with
    | zero => simp at h; subst h; simp
    | succ i =>
      have := ih (i := i) (by simpa using h)
      simp only [List.set_cons_succ, List.count_cons]
      omega
def lenV : Value → Nat
  | .slice _ n _ => n
  | _ => 0
theorem lenV_own {w : World} {D e size n : Nat} {v : Value} {xs : List Value} (h : w.ownsRow D e size v n xs) : lenV v = n := by
  rcases h.2 with ⟨rfl, rfl⟩ | ⟨g, cap, cur, rfl, _⟩ <;> rfl
def ints (o : List Nat) : List Int := o.map fun (i : Nat) => (i : Int)
theorem ints_length (o : List Nat) : (ints o).length = o.length := List.length_map _
theorem ints_snoc (o : List Nat) (i : Nat) : ints (o ++ [i]) = ints o ++ [(i : Int)] := by unfold ints; rw [List.map_append]; rfl
theorem irows_app (l l' : List Int) : irows (l ++ l') = irows l ++ irows l' := List.map_append
theorem irows_flat (l : List Int) : (irows l).flatten.length = l.length := by
  induction l with
  | nil => rfl
  | cons x xs ih => simp only [irows, List.map_cons, List.flatten_cons, List.length_append, List.length_cons, List.length_nil] at ih ⊢; omega
theorem irows_wid (l : List Int) : ∀ r ∈ irows l, r.length = 1 := by
  intro r hr
  simp only [irows, List.mem_map] at hr
  obtain ⟨x, _, rfl⟩ := hr
  rfl
/-- a row of truths of one's own -/
def IsB (W : World) (B : Nat) (t : TypeId) (is : List Bool) : Prop := W.heap[B]? = some (.cells (is.map Value.bool).toArray t (0, 0))
theorem IsB.sl {W : World} {B : Nat} {t : TypeId} {is : List Bool} (h : IsB W B t is) (hm : is.length ≤ 9223372036854775807) : SL W 1 (some ⟨B, 0, none⟩) is.length (brows is) := by
  refine ⟨by rw [brows_length]; exact Nat.le_refl _, hm, fun e => (by cases e), fun r hr => ?_, fun i j r v hr hv => ?_⟩
  · obtain ⟨x, -, rfl⟩ := List.mem_map.1 hr; rfl
  · refine ⟨B, 0, rfl, ?_⟩
    unfold brows at hr
    rw [List.getElem?_map] at hr
    cases hx : is[i]? with
    | none => rw [hx] at hr; cases hr
    | some b =>
      rw [hx] at hr
      obtain rfl : r = [.bool b] := by simpa using hr.symm
      cases j with
      | succ j => simp at hv
      | zero =>
        obtain rfl : v = .bool b := by simpa using hv.symm
        have := cells_at h i (.bool b) (by rw [List.getElem?_map, hx]; rfl)
        simpa using this
theorem IsB.cell {W : World} {B : Nat} {t : TypeId} {is : List Bool} (h : IsB W B t is) {i : Nat} {b : Bool} (hi : is[i]? = some b) : W.cell? ⟨B, i, none⟩ = some (.bool b) := cells_at h i (.bool b) (by rw [List.getElem?_map, hi]; rfl)
theorem IsB.froz {W : World} {B : Nat} {t : TypeId} {is : List Bool} (h : IsB W B t is) (i : Nat) : W.frozen? ⟨B, i, none⟩ = false := by
  unfold IsB at h
  simp [World.frozen?, h]
theorem IsB.set {W : World} {B : Nat} {t : TypeId} {is : List Bool} (h : IsB W B t is) (i : Nat) (b : Bool) : IsB (W.setCell ⟨B, i, none⟩ (.bool b)) B t (is.set i b) := by
  unfold IsB at h ⊢
  simp only [World.setCell, Array.getElem?_modify, h]
  simp
theorem IsB.keep {A W : World} {B : Nat} {t : TypeId} {is : List Bool} (h : IsB A B t is) (hE : KpC A W) : IsB W B t is := hE.2 _ _ h rfl
theorem IsB.of_own {w : World} {D t n B : Nat} {is : List Bool} (h : w.ownsRow D t 1 (.slice (some ⟨B, 0, none⟩) n n) n (is.map Value.bool)) : IsB w B t is := by
  rcases h.2 with ⟨h1, _⟩ | ⟨g, cap, cur, h1, -, h2, h3, h4, h5, h6⟩
  · cases h1
  · cases h1
    unfold IsB
    rw [h2, ← h6, List.take_of_length_le (by simp; omega)]
/-- one's own row is another row's no block -/
theorem own_blk {w W : World} {v v' : Value} {D k : Nat} {e size n : Nat} {xs : List Value} (ho : w.ownsRow D e size v n xs) (hg : Grows w v W v') (hk : k < D) (hw : D ≤ w.heap.size) : W.heap[k]? = w.heap[k]? :=
  hg.by_.block k (by omega) (fun e => by have := ownsRow_blocks ho k e.symm; omega)
theorem madeB (n : Nat) : (madeCells (Value.cells (.bool false)) (n * 1)).toList = (List.replicate n false).map Value.bool := by
  simp [madeCells, Value.cells, List.map_replicate, Nat.mod_one, List.map_const']
theorem own_far {w : World} {v : Value} {D : Nat} {e size n : Nat} {xs : List Value} {q : Addr} {u : Value} (ho : w.ownsRow D e size v n xs) (hq : q.block < D) : (w.setCell q u).ownsRow D e size v n xs := by
  refine ⟨ho.1, ?_⟩
  rcases ho.2 with h | ⟨g, cap, cur, h1, h2, h3, h4⟩
  · exact .inl h
  · exact .inr ⟨g, cap, cur, h1, h2, (heap_setCell_far _ _ _ _ (by omega)).trans h3, h4⟩
/-- what listed answers -/
def RetLs (r : List Nat × List Bool) (w : World) : Ending → World → Prop := fun e w' => ∃ ao cap bo bc, e = .returned (.tuple #[.slice ao r.1.length cap, .slice bo r.2.length bc]) ∧ SL w' 1 ao cap (irows (ints r.1)) ∧ SL w' 1 bo bc (brows r.2) ∧ Ext w w'
end Go.Sz
namespace Go.Proofs.Ytimigpfoflilcaa
open Go.RowKit Go.Sz
theorem infoB : (Try.prog.info? 4).map (fun i => (i.zero, i.size, i.bytes)) = some (some (.bool false), 1, 1) := by kernel_rfl
set_option maxRecDepth 100000 in
set_option maxHeartbeats 6400000 in
theorem listed_any (l : List Cr) (hl8 : l.length ≤ 100000) (ao : Option Addr) (cap : Nat) (v1 v2 v3 v4 v5 v6 : Value) (w : World) (hR : RepC w ao cap l) :
    Calls Try.prog 68 #[.agg #[.slice ao l.length cap, v1, v2, v3, v4, v5, v6]] w (RetLs (listedN l) w) := by
  obtain ⟨ib, hb0, hb1, hb2, hb3⟩ := info_parts infoB
  obtain ⟨ii, hi0, hi1, hi2, hi3⟩ := info_parts infoI
  have hX : Ext w ((w.alloc (.cells #[.slice ao l.length cap, v1, v2, v3, v4, v5, v6] 29)).alloc (.cells #[.slice none 0 0] 112)) := ((Ext.refl w).alloc _).alloc _
  have hg0 : ((w.alloc (.cells #[.slice ao l.length cap, v1, v2, v3, v4, v5, v6] 29)).alloc (.cells #[.slice none 0 0] 112)).heap[w.heap.size]? = some (.cells #[.slice ao l.length cap, v1, v2, v3, v4, v5, v6] 29 (0, 0)) := by
    simp only [heap_al, World.size_alloc]
    all_goals (repeat rw [if_neg (by omega)])
    all_goals rfl
  have hg1 : ((w.alloc (.cells #[.slice ao l.length cap, v1, v2, v3, v4, v5, v6] 29)).alloc (.cells #[.slice none 0 0] 112)).heap[w.heap.size + 1]? = some (.cells #[.slice none 0 0] 112 (0, 0)) := by
    simp only [heap_al, World.size_alloc]
    all_goals (repeat rw [if_neg (by omega)])
    all_goals rfl
  have HG := Lib.hid (And.intro hg0 hg1)
  have HR := Lib.hid hR
  have HX := Lib.hid hX
  have HL8 := Lib.hid hl8
  have HIB := Lib.hid (And.intro hb0 (And.intro hb1 (And.intro hb2 hb3)))
  have HII := Lib.hid (And.intro hi0 (And.intro hi1 (And.intro hi2 hi3)))
  have HSA : Hid (((w.alloc (.cells #[.slice ao l.length cap, v1, v2, v3, v4, v5, v6] 29)).alloc (.cells #[.slice none 0 0] 112)).heap.size = w.heap.size + 2) := Lib.hid (by simp)
  have hs1 := hR.max
  clear hg0 hg1 hR hX hb0 hb1 hb2 hb3 hi0 hi1 hi2 hi3 hl8
  go_enter Try.func68, Try.ntmps68
  go_wp2_with (at_make; refine wpList_make_full _ rfl _ _ 112 rfl (w.heap.size + 2) 4 ib _ 1 Try.underlying112 HIB.out.1 HIB.out.2.1 HIB.out.2.2.1 .i64 .i64 _ _ l.length rfl rfl rfl rfl (by rw [HIB.out.2.2.2]; have := HL8.out; omega) (by unfold maxLen; have := HL8.out; omega) (by simp) ?_; intro wm hom hgm; have HOM := Lib.hid hom; have hem : Ext ((w.alloc (.cells #[.slice ao l.length cap, v1, v2, v3, v4, v5, v6] 29)).alloc (.cells #[.slice none 0 0] 112)) wm := ⟨hgm.os, hgm.tape, hgm.output, hgm.size, fun k hk => hgm.block k hk (by simp)⟩; have hk1 := hem.kpC.2 _ _ HG.out.2 rfl; have t0 : wm.cell? ⟨w.heap.size + 1, 0, none⟩ = some (.slice none 0 0) := (by simp [World.cell?, hk1]); have tz : wm.frozen? ⟨w.heap.size + 1, 0, none⟩ = false := (by simp [World.frozen?, hk1]); have HEM := Lib.hid hem; clear hom hgm hk1 hem)
  have h2 : IsB wm (w.heap.size + 2) 4 (List.replicate l.length false) := by
    have h1 := HOM.out
    rw [HSA.out, madeB] at h1
    exact IsB.of_own h1
  have HS := Lib.hid (show IsB (wm.setCell ⟨w.heap.size + 1, 0, none⟩ (.slice (some ⟨w.heap.size + 2, 0, none⟩) l.length l.length)) (w.heap.size + 2) 4 (List.replicate l.length false) ∧ (wm.setCell ⟨w.heap.size + 1, 0, none⟩ (.slice (some ⟨w.heap.size + 2, 0, none⟩) l.length l.length)).heap[w.heap.size]? = some (.cells #[.slice ao l.length cap, v1, v2, v3, v4, v5, v6] 29 (0, 0)) ∧ (wm.setCell ⟨w.heap.size + 1, 0, none⟩ (.slice (some ⟨w.heap.size + 2, 0, none⟩) l.length l.length)).heap[w.heap.size + 1]? = some (.cells #[.slice (some ⟨w.heap.size + 2, 0, none⟩) l.length l.length] 112 (0, 0)) ∧ Ext w (wm.setCell ⟨w.heap.size + 1, 0, none⟩ (.slice (some ⟨w.heap.size + 2, 0, none⟩) l.length l.length)) by
    refine ⟨(heap_setCell_far _ _ _ _ (by show w.heap.size + 2 ≠ w.heap.size + 1; omega)).trans h2, (heap_setCell_far _ _ _ _ (by show w.heap.size ≠ w.heap.size + 1; omega)).trans (HEM.out.kpC.2 _ _ HG.out.1 rfl), ?_, (HX.out.trans HEM.out).setCell (by show w.heap.size ≤ w.heap.size + 1; omega) _⟩
    have h3 := HEM.out.kpC.2 _ _ HG.out.2 rfl
    simp only [World.setCell, Array.getElem?_modify, h3]
    simp)
  clear h2 HOM HEM t0 tz HX HG HSA HIB
  generalize (wm.setCell ⟨w.heap.size + 1, 0, none⟩ (.slice (some ⟨w.heap.size + 2, 0, none⟩) l.length l.length)) = W0 at *
  go_loopw [2, 5] (fun v iv wr => ∃ (o : List Nat) (is : List Bool) (i f : Nat), iv = .int .i64 i ∧ i ≤ l.length ∧ wr.ownsRow (w.heap.size + 3) 3 1 v (ints o).length (irows (ints o)).flatten ∧ (IsB wr (w.heap.size + 2) 4 is ∧ wr.heap[w.heap.size]? = some (.cells #[.slice ao l.length cap, v1, v2, v3, v4, v5, v6] 29 (0, 0)) ∧ wr.heap[w.heap.size + 1]? = some (.cells #[.slice (some ⟨w.heap.size + 2, 0, none⟩) l.length l.length] 112 (0, 0)) ∧ Ext w wr) ∧
      (is.length = l.length ∧ o.length + is.count false = l.length ∧ is.count false < f ∧ listN l f o is = listedN l ∧ ∀ j, j < i → readyN l is j = false)) (fun v iv _ => (l.length - lenV v) * (l.length + 1) + (l.length - (intOf iv).toNat))
  case atStart => exact ⟨[], List.replicate l.length false, 0, l.length + 1, rfl, by omega, World.ownsRow_nil _ _ _ _, HS.out, by simp, by simp, by simp, rfl, fun j hj => by omega⟩
  case round =>
    obtain ⟨o, is, i, f, rfl, hi, ho, hH, hP⟩ := hrel
    have HO := Lib.hid ho
    have HH := Lib.hid hH
    have HP := Lib.hid hP
    have hc1 : wr.cell? ⟨w.heap.size + 1, 0, none⟩ = some (.slice (some ⟨w.heap.size + 2, 0, none⟩) l.length l.length) := by simp [World.cell?, hH.2.2.1]
    clear ho hH hP HS
    by_cases hlt : i < l.length
    · have hki : (i : Int) < (l.length : Int) := by omega
      have HRY := Lib.hid (ready_any HP.out.1 hlt w.heap.size (w.heap.size + 1) ao (some ⟨w.heap.size + 2, 0, none⟩) cap l.length v1 v2 v3 v4 v5 v6 wr (CatBox.of HH.out.2.1) (by rw [HP.out.1]; exact hc1) (HR.out.ext HH.out.2.2.2) (by rw [← HP.out.1]; exact HH.out.1.sl (by rw [HP.out.1]; exact hs1)))
      cases hr : readyN l is i with
      | true =>
        rw [hr] at HRY
        have HRR := Lib.hid hr
        clear hr
        go_wp2_with (go_at_call 83; refine HRY.out.mono ?_; rintro e w2 ⟨rfl, hE2⟩; have c2 := hE2.cell hc1; have HE2 := Lib.hid hE2; clear hE2 hc1)
        have HO2 := Lib.hid (ownsRow_ext HO.out HE2.out)
        have HB2 := Lib.hid (HH.out.1.keep HE2.out.kpC)
        have HG2 := Lib.hid (And.intro (HE2.out.kpC.2 _ _ HH.out.2.1 rfl) (And.intro (HE2.out.kpC.2 _ _ HH.out.2.2.1 rfl) (HH.out.2.2.2.trans HE2.out)))
        have HSZ : Hid (w.heap.size + 3 ≤ w2.heap.size) := Lib.hid (by have := (Array.getElem?_eq_some_iff.1 HB2.out).1; omega)
        have HNF := Lib.hid (readyN_not HP.out.1 hlt HRR.out)
        have HLO : Hid ((ints o).length ≤ 100000) := Lib.hid (by rw [ints_length]; have := HP.out.2.1; have := HL8.out; omega)
        have hkw : (i : Int) < (l.length : Int) := hki
        have c2a : ∀ o, (w2.alloc o).cell? ⟨w.heap.size + 1, 0, none⟩ = some (.slice (some ⟨w.heap.size + 2, 0, none⟩) l.length l.length) := fun o => ((Ext.refl w2).alloc o).cell c2
        have HEE : Hid (Ext w2 (w2.alloc (.cells #[.int .i64 i] 3)).drew) := Lib.hid ((Ext.refl w2).alloc _).drew
        clear HE2 HRY
        go_region_law
          (first
            | (refine step_append_S rfl _ _ 45 45 rfl (w.heap.size + 3) 3 ii _ 1 8 Try.underlying45 HII.out.1 HII.out.2.1 HII.out.2.2.1 HII.out.2.2.2 rfl u2 (ints o).length (irows (ints o)).flatten rfl (ownsRow_ext HO2.out HEE.out) _ 1 [.int .i64 i] rfl (Src.ofSlice _ Try.underlying45 ⟨_, 0, none⟩ 1 1 _ rfl (one_cell (by simp)) (by simp [Value.oneCell'])) (by have := HLO.out; unfold maxLen; omega) (by have := HLO.out; omega) (by have := HSZ.out; simp; omega) ?_; intro vo w5 ho5 hg5; have HO5 := Lib.hid ho5; have HG5 := Lib.hid hg5; have b5 : IsB w5 (w.heap.size + 2) 4 is := (own_blk (ownsRow_ext HO2.out HEE.out) hg5 (by omega) (by have := HSZ.out; simp; omega)).trans (HEE.out.kpC.2 _ _ HB2.out rfl); have k5 := (own_blk (k := w.heap.size + 1) (ownsRow_ext HO2.out HEE.out) hg5 (by omega) (by have := HSZ.out; simp; omega)).trans (HEE.out.kpC.2 _ _ HG2.out.2.1 rfl); have k5' := (own_blk (k := w.heap.size) (ownsRow_ext HO2.out HEE.out) hg5 (by omega) (by have := HSZ.out; simp; omega)).trans (HEE.out.kpC.2 _ _ HG2.out.1 rfl); have c5 : w5.cell? ⟨w.heap.size + 1, 0, none⟩ = some (.slice (some ⟨w.heap.size + 2, 0, none⟩) l.length l.length) := (by simp [World.cell?, k5]); have d5 := b5.cell HNF.out; have z5 := b5.froz i; have HB5 := Lib.hid b5; have HK5 := Lib.hid (And.intro k5 k5'); clear ho5 hg5 b5 k5 k5'))
        all_goals
          have HW6 := Lib.hid (And.intro (HB5.out.set i true) (And.intro ((heap_setCell_far _ _ (.bool true) _ (show w.heap.size ≠ (⟨w.heap.size + 2, i, none⟩ : Addr).block by show w.heap.size ≠ w.heap.size + 2; omega)).trans HK5.out.2) (And.intro ((heap_setCell_far _ _ (.bool true) _ (show w.heap.size + 1 ≠ (⟨w.heap.size + 2, i, none⟩ : Addr).block by show w.heap.size + 1 ≠ w.heap.size + 2; omega)).trans HK5.out.1)
            ((Ext.trans' (HG2.out.2.2.trans HEE.out) HG5.out (fun k e => by have := ownsRow_blocks HO2.out k e; omega)).setCell (p := ⟨w.heap.size + 2, i, none⟩) (show w.heap.size ≤ w.heap.size + 2 by omega) (.bool true)))))
          have HO6 := Lib.hid (own_far (q := ⟨w.heap.size + 2, i, none⟩) (u := .bool true) HO5.out (show w.heap.size + 2 < w.heap.size + 3 by omega))
          clear c5 d5 z5 HB5 HK5 HG5 HO5 HEE
          generalize w5.setCell ⟨w.heap.size + 2, i, none⟩ (.bool true) = w6 at *
          go_wp2_with fail
          obtain ⟨f', rfl⟩ : ∃ f', f = f' + 1 := ⟨f - 1, by have := HP.out.2.2.1; omega⟩
          have HCS := Lib.hid (count_set HNF.out)
          have HLV := Lib.hid (And.intro (lenV_own HO.out) (lenV_own HO6.out))
          go_roundw
          case rel =>
            refine ⟨o ++ [i], is.set i true, 0, f', by go_num, by omega, ?_, HW6.out, by rw [List.length_set]; exact HP.out.1, ?_, ?_, ?_, fun j hj => by omega⟩
            · have := HO6.out
              rw [ints_snoc, irows_app, List.flatten_append, List.length_append]
              simpa [irows] using this
            · have h1 := HP.out.2.1
              have h2 := HCS.out
              rw [List.length_append, List.length_singleton]
              omega
            · have h1 := HP.out.2.2.1
              have h2 := HCS.out
              omega
            · rw [← HP.out.2.2.2.1]
              exact (listN_step (firstN_some hlt HRR.out HP.out.2.2.2.2)).symm
          case measure =>
            have h1 := HLV.out.1
            have h2 := HLV.out.2
            have h3 := HP.out.2.1
            have h4 := HCS.out
            rw [ints_length] at h1 h2
            rw [h1, h2]
            simp only [intOf]
            rw [show l.length - o.length = (l.length - (o.length + 1)) + 1 by omega, Nat.succ_mul]
            omega
      | false =>
        rw [hr] at HRY
        have HRR := Lib.hid hr
        clear hr
        go_wp2_with (go_at_call 83; refine HRY.out.mono ?_; rintro e w2 ⟨rfl, hE2⟩; have HE2 := Lib.hid hE2; clear hE2 hc1)
        go_roundw
        case rel =>
          exact ⟨o, is, i + 1, f, by go_num, by omega, ownsRow_ext HO.out HE2.out, ⟨HH.out.1.keep HE2.out.kpC, HE2.out.kpC.2 _ _ HH.out.2.1 rfl, HE2.out.kpC.2 _ _ HH.out.2.2.1 rfl, HH.out.2.2.2.trans HE2.out⟩, HP.out.1, HP.out.2.1, HP.out.2.2.1, HP.out.2.2.2.1, fun j hj => by
            by_cases e : j = i
            · subst e; exact HRR.out
            · exact HP.out.2.2.2.2 j (by omega)⟩
        case measure => simp [intOf] <;> omega
    · have hki : ¬ (i : Int) < (l.length : Int) := by omega
      obtain rfl : i = l.length := by omega
      have HEND : Hid (listedN l = (o, is)) := Lib.hid (by
        rw [← HP.out.2.2.2.1]
        exact listN_stop (firstN_none HP.out.2.2.2.2))
      obtain ⟨ao2, cap2, rfl, hs2, -⟩ := SL.of_own HO.out (irows_wid _) (by simp [irows])
      have HS2 := Lib.hid hs2
      have hz1 : wr.frozen? ⟨w.heap.size + 1, 0, none⟩ = false := by simp [World.frozen?, HH.out.2.2.1]
      clear hs2
      go_wp2_with fail
      go_region
      go_wp2_with fail
      rw [setCell_id hc1]
      have hE : Ext wr wr.drew := (Ext.refl wr).drew
      have hc2 := hE.cell hc1
      refine ⟨rfl, .tuple #[.slice ao2 (ints o).length cap2, .slice (some ⟨w.heap.size + 2, 0, none⟩) l.length l.length], ?_, ?_⟩
      · simp [results, Try.results68, go_sem, hc2]
      · have h1 := HS2.out.ext hE
        have h2 := (HH.out.1.keep hE.kpC).sl (by rw [HP.out.1]; exact hs1)
        unfold RetLs
        rw [HEND.out]
        refine ⟨ao2, cap2, some ⟨w.heap.size + 2, 0, none⟩, is.length, by rw [ints_length, HP.out.1], ?_, h2, HH.out.2.2.2.trans hE⟩
        exact h1
end Go.Proofs.Ytimigpfoflilcaa
