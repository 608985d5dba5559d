/- Petitions: of, Held and Groups of the reference. -/
import Derived.Test.YtbniicobkhiniaaFK
namespace Go.Sz
open Go.RowKit
def L8 : List Int := [0, 1, 2, 3, 4, 5, 6, 7]
theorem L8_next {m : Nat} (h : m < 8) : L8.take (m + 1) = L8.take m ++ [(m : Int)] := by
  match m, h with
  | 0, _ => rfl
  | 1, _ => rfl
  | 2, _ => rfl
  | 3, _ => rfl
  | 4, _ => rfl
  | 5, _ => rfl
  | 6, _ => rfl
  | 7, _ => rfl
def rdsF (kd st t : Int) : List Rd := L8.map fun n => rdOf ⟨kd, st, n⟩ t
def kdM (l : List Ft) (kd st t kn : Int) (m : Nat) : List Int := (L8.take m).filter fun n => decide (lookF l ⟨kd, st, n⟩ t kn = 1)
def rdM (kd st t : Int) (m : Nat) : List Rd := (L8.take m).map fun n => rdOf ⟨kd, st, n⟩ t
theorem kdM_len (l : List Ft) (kd st t kn : Int) (m : Nat) : (kdM l kd st t kn m).length ≤ 8 := by
  unfold kdM
  refine Nat.le_trans (List.length_filter_le _ _) ?_
  rw [List.length_take]
  exact Nat.min_le_right _ _
theorem rdM_len (kd st t : Int) {m : Nat} (h : m ≤ 8) : (rdM kd st t m).length = m := by
  unfold rdM
  rw [List.length_map, List.length_take]
  show min m 8 = m
  omega
theorem kdM_next (l : List Ft) (kd st t kn : Int) {m : Nat} (h : m < 8) : kdM l kd st t kn (m + 1) = kdM l kd st t kn m ++ (if lookF l ⟨kd, st, (m : Int)⟩ t kn = 1 then [(m : Int)] else []) := by
  unfold kdM
  rw [L8_next h, List.filter_append]
  congr 1
  by_cases hv : lookF l ⟨kd, st, (m : Int)⟩ t kn = 1
  · rw [if_pos hv]; simp [hv]
  · rw [if_neg hv]; simp [hv]
theorem rdM_next (kd st t : Int) {m : Nat} (h : m < 8) : rdM kd st t (m + 1) = rdM kd st t m ++ [rdOf ⟨kd, st, (m : Int)⟩ t] := by
  unfold rdM
  rw [L8_next h, List.map_append]
  rfl
theorem kdM_end (l : List Ft) (kd st t kn : Int) : kdM l kd st t kn 8 = ofF l kd st t kn := rfl
theorem rdM_end (kd st t : Int) : rdM kd st t 8 = rdsF kd st t := rfl
theorem cells_new (W : World) (c : List Value) (t : TypeId) (g : Nat) (hg : g = W.heap.size) : ∀ (j : Nat) (u : Value), c[j]? = some u → (W.alloc (.cells c.toArray t)).cell? ((⟨g, 0, none⟩ : Addr).add j) = some u := by
  intro j u hu
  subst hg
  rw [Addr.add_lit, Nat.zero_add]
  exact (cb_new W c t).at_ j u hu
theorem rd_one (r : Rd) : ∀ u ∈ r.enc, u.oneCell' = true := fun u hu => by
  simp only [Rd.enc, List.mem_cons, List.not_mem_nil, or_false] at hu
  rcases hu with rfl | rfl | rfl | rfl | rfl <;> rfl
theorem irows_append' (l l' : List Int) : irows (l ++ l') = irows l ++ irows l' := List.map_append
theorem irows_wid (l : List Int) : ∀ r ∈ irows l, r.length = 1 := by
  intro r hr
  simp only [irows, List.mem_map] at hr
  obtain ⟨x, _, rfl⟩ := hr
  rfl
theorem RepI.of_own {w : World} {D e n : Nat} {v : Value} {l : List Int} (h : w.ownsRow D e 1 v n (irows l).flatten) (hn : l.length = n) : ∃ ao cap, v = .slice ao l.length cap ∧ SL w 1 ao cap (irows l) := by
  obtain ⟨ao, cap, h1, h2, _⟩ := SL.of_own h (irows_wid l) (by rw [irows_length]; exact hn)
  exact ⟨ao, cap, by rw [h1, hn], h2⟩
/-- numbers and reads -/
def RetOf (ns : List Int) (rs : List Rd) (w : World) (e : Ending) (w' : World) : Prop := ∃ no nc ro rc, e = .returned (.tuple #[.slice no ns.length nc, .slice ro rs.length rc]) ∧ SL w' 1 no nc (irows ns) ∧ RepR w' ro rc rs ∧ Ext w w'
end Go.Sz
namespace Go.Proofs.Ytbniicobkhiniaa
open Go.RowKit Go.Sz
theorem infoRd : (Try.prog.info? 70).map (fun i => (i.zero, i.size, i.bytes)) = some (some (.agg #[.int .i64 0, .int .i64 0, .int .i64 0, .int .i64 0, .int .i64 0]), 5, 40) := by kernel_rfl
theorem infoIn : (Try.prog.info? 3).map (fun i => (i.zero, i.size, i.bytes)) = some (some (.int .i64 0), 1, 8) := by kernel_rfl
set_option maxRecDepth 100000 in
set_option maxHeartbeats 6400000 in
theorem refOf_any (l : List Ft) (kd st t kn : Int) (ht : inI64 t) (ao : Option Addr) (cap : Nat) (w : World) (h : RepF w ao cap l) : Calls Try.prog 32 #[.agg #[.slice none 0 0, .slice none 0 0, .slice none 0 0, .slice ao l.length cap], .int .i64 kd, .int .i64 st, .int .i64 t, .int .i64 kn] w (RetOf (ofF l kd st t kn) (rdsF kd st t) w) := by
  obtain ⟨ir, hr0, hr1, hr2, hr3⟩ := info_parts infoRd
  obtain ⟨ii, hi0, hi1, hi2, hi3⟩ := info_parts infoIn
  have HII := Lib.hid (And.intro hr0 (And.intro hr1 (And.intro hr2 (And.intro hr3 (And.intro hi0 (And.intro hi1 (And.intro hi2 hi3)))))))
  have HX0 : Hid (Ext w (w.alloc (.cells #[.slice none 0 0, .slice none 0 0, .slice none 0 0, .slice ao l.length cap] 41))) := Lib.hid ((Ext.refl w).alloc _)
  have HL := Lib.hid h
  have HT := Lib.hid ht
  obtain ⟨t1, ht1⟩ : ∃ t1, sucT t = t1 := ⟨_, rfl⟩
  have HT1 := Lib.hid ht1
  have ho1 : (((w.alloc (.cells #[.slice none 0 0, .slice none 0 0, .slice none 0 0, .slice ao l.length cap] 41)).alloc (.cells #[] 3)).alloc (.cells #[] 70)).ownsRow (w.alloc (.cells #[.slice none 0 0, .slice none 0 0, .slice none 0 0, .slice ao l.length cap] 41)).heap.size 3 1 (.slice (some ⟨w.heap.size + 1, 0, none⟩) 0 0) 0 [] := by
    have := ownsRow_ext (own_empty (w.alloc (.cells #[.slice none 0 0, .slice none 0 0, .slice none 0 0, .slice ao l.length cap] 41)) (w.alloc (.cells #[.slice none 0 0, .slice none 0 0, .slice none 0 0, .slice ao l.length cap] 41)).heap.size (Nat.le_refl _) 3 1) ((Ext.refl _).alloc (.cells #[] 70))
    rwa [World.size_alloc] at *
  have ho2 : (((w.alloc (.cells #[.slice none 0 0, .slice none 0 0, .slice none 0 0, .slice ao l.length cap] 41)).alloc (.cells #[] 3)).alloc (.cells #[] 70)).ownsRow (w.alloc (.cells #[.slice none 0 0, .slice none 0 0, .slice none 0 0, .slice ao l.length cap] 41)).heap.size 70 5 (.slice (some ⟨w.heap.size + 1 + 1, 0, none⟩) 0 0) 0 [] := by
    have := own_empty ((w.alloc (.cells #[.slice none 0 0, .slice none 0 0, .slice none 0 0, .slice ao l.length cap] 41)).alloc (.cells #[] 3)) (w.alloc (.cells #[.slice none 0 0, .slice none 0 0, .slice none 0 0, .slice ao l.length cap] 41)).heap.size (by simp) 70 5
    simp only [World.size_alloc] at this ⊢
    exact this
  have HO12 := Lib.hid (And.intro ho1 (And.intro ho2 (show Ext (w.alloc (.cells #[.slice none 0 0, .slice none 0 0, .slice none 0 0, .slice ao l.length cap] 41)) (((w.alloc (.cells #[.slice none 0 0, .slice none 0 0, .slice none 0 0, .slice ao l.length cap] 41)).alloc (.cells #[] 3)).alloc (.cells #[] 70)) from ((Ext.refl _).alloc _).alloc _)))
  have HBX : Hid ((w.alloc (.cells #[.slice none 0 0, .slice none 0 0, .slice none 0 0, .slice ao l.length cap] 41)).cell? ⟨w.heap.size, 0, none⟩ = some (.slice none 0 0) ∧ (w.alloc (.cells #[.slice none 0 0, .slice none 0 0, .slice none 0 0, .slice ao l.length cap] 41)).cell? ⟨w.heap.size, 1, none⟩ = some (.slice none 0 0) ∧ (w.alloc (.cells #[.slice none 0 0, .slice none 0 0, .slice none 0 0, .slice ao l.length cap] 41)).cell? ⟨w.heap.size, 2, none⟩ = some (.slice none 0 0) ∧ (w.alloc (.cells #[.slice none 0 0, .slice none 0 0, .slice none 0 0, .slice ao l.length cap] 41)).cell? ⟨w.heap.size, 3, none⟩ = some (.slice ao l.length cap)) := Lib.hid ⟨by simp, by simp, by simp, by simp⟩
  clear hr0 hr1 hr2 hr3 hi0 hi1 hi2 hi3 h ht ht1 ho1 ho2
  go_enter Try.func32, Try.ntmps32
  go_wp2_with fail
  go_loopw [12, 13, 14] (fun u v iv wr => ∃ m : Nat, iv = .int .i64 m ∧ m ≤ 8 ∧ wr.ownsRow (w.alloc (.cells #[.slice none 0 0, .slice none 0 0, .slice none 0 0, .slice ao l.length cap] 41)).heap.size 3 1 u (kdM l kd st t kn m).length (irows (kdM l kd st t kn m)).flatten ∧ wr.ownsRow (w.alloc (.cells #[.slice none 0 0, .slice none 0 0, .slice none 0 0, .slice ao l.length cap] 41)).heap.size 70 5 v (rdM kd st t m).length (rrows (rdM kd st t m)).flatten ∧ Apart2 u v ∧ Ext (w.alloc (.cells #[.slice none 0 0, .slice none 0 0, .slice none 0 0, .slice ao l.length cap] 41)) wr) (fun _ _ iv _ => 8 - (intOf iv).toNat)
  case atStart => exact ⟨0, rfl, by omega, HO12.out.1, HO12.out.2.1, fun k h1 h2 => by have e1 : some (w.heap.size + 1) = some k := h1; have e2 : some (w.heap.size + 1 + 1) = some k := h2; injection e1 with e1; injection e2 with e2; omega, HO12.out.2.2⟩
  case round =>
    obtain ⟨m, rfl, hm, h3, h4, hap, hE⟩ := hrel
    have HKW := Lib.hid h3
    have HRW := Lib.hid h4
    have HAP := Lib.hid hap
    have HE := Lib.hid hE
    have HKN := Lib.hid (kdM_len l kd st t kn m)
    clear h3 h4 hap hE
    by_cases hlt : m < 8
    · have hl1 : (m : Int) < 8 := by omega
      have HRN : Hid ((rdM kd st t m).length = m ∧ m < 8) := Lib.hid ⟨rdM_len kd st t hm, hlt⟩
      have b0 := HE.out.cell HBX.out.1
      have b1 := HE.out.cell HBX.out.2.1
      have b2 := HE.out.cell HBX.out.2.2.1
      have b3 := HE.out.cell HBX.out.2.2.2
      have HKX := Lib.hid (kdM_next l kd st t kn hlt)
      have HRX := Lib.hid (rdM_next kd st t hlt)
      have HCL := Lib.hid (refLook_any l ⟨kd, st, (m : Int)⟩ t kn HT.out ao cap wr (HL.out.ext (HX0.out.trans HE.out)))
      obtain ⟨vv, hvv⟩ : ∃ v, lookF l ⟨kd, st, (m : Int)⟩ t kn = v := ⟨_, rfl⟩
      have HRC : Hid (Calls Try.prog 30 #[.agg #[.slice none 0 0, .slice none 0 0, .slice none 0 0, .slice ao l.length cap], .agg #[.int .i64 kd, .int .i64 st, .int .i64 m], .int .i64 t, .int .i64 kn] wr fun e w' => ∃ ok : Bool, e = .returned (.tuple #[.int .i64 vv, .bool ok, .agg #[.int .i64 kd, .int .i64 st, .int .i64 m, .int .i64 t, .int .i64 t1]]) ∧ (ok = false → vv = 0) ∧ Ext wr w') := Lib.hid (by
        have := HCL.out
        unfold RetLook rdOf at this
        rw [hvv, HT1.out] at this
        exact this)
      rw [hvv] at HKX
      have HRD : Hid (rdOf ⟨kd, st, (m : Int)⟩ t = (⟨kd, st, (m : Int), t, t1⟩ : Rd)) := Lib.hid (by unfold rdOf; rw [HT1.out])
      rw [HRD.out] at HRX
      clear HCL hvv HRD
      obtain ⟨hr0, hr1, hr2, hr3, hi0, hi1, hi2, hi3⟩ := HII.out
      by_cases hv : vv = 1
      · subst hv
        rw [if_pos rfl] at HKX
        go_wp2_with (first | (go_at_call 30; refine HRC.out.mono ?_; rintro e w1 ⟨ok, rfl, hok, hE1⟩; have HE1 := Lib.hid hE1; have HOKK := Lib.hid hok; have HX2 := Lib.hid (hE1.alloc (.cells #[.int .i64 kd, .int .i64 st, .int .i64 m, .int .i64 t, .int .i64 t1] 70)); have HRA := Lib.hid (ownsRow_ext HRW.out (HX2.out.alloc (.cells (⟨kd, st, (m : Int), t, t1⟩ : Rd).enc.toArray 70))); have HSZ : Hid ((w.alloc (.cells #[.slice none 0 0, .slice none 0 0, .slice none 0 0, .slice ao l.length cap] 41)).heap.size ≤ ((w1.alloc (.cells #[.int .i64 kd, .int .i64 st, .int .i64 m, .int .i64 t, .int .i64 t1] 70)).alloc (.cells (⟨kd, st, (m : Int), t, t1⟩ : Rd).enc.toArray 70)).heap.size) := Lib.hid ((HE.out.trans HX2.out).alloc _).size; clear hE1 hok; obtain rfl : ok = true := (by cases ok <;> first | rfl | (have := HOKK.out rfl; omega))) | (at_builtin; refine wpList_append_S rfl _ _ 42 42 rfl (w.alloc (.cells #[.slice none 0 0, .slice none 0 0, .slice none 0 0, .slice ao l.length cap] 41)).heap.size 70 ir _ 5 40 Try.underlying42 hr0 hr1 hr2 hr3 rfl _ _ _ rfl HRA.out (.slice (some ⟨w1.heap.size + 1, 0, none⟩) 1 1) 1 (⟨kd, st, (m : Int), t, t1⟩ : Rd).enc rfl (Src.ofSlice _ Try.underlying42 ⟨w1.heap.size + 1, 0, none⟩ 1 1 _ rfl (cells_new (w1.alloc (.cells #[.int .i64 kd, .int .i64 st, .int .i64 m, .int .i64 t, .int .i64 t1] 70)) (⟨kd, st, (m : Int), t, t1⟩ : Rd).enc 70 _ (by simp)) (rd_one _)) (by have := HRN.out; unfold maxLen; omega) (by have := HRN.out; omega) HSZ.out ?_; intro v6 w6 ho6 hg6; have HO6 := Lib.hid ho6; have HG6 := Lib.hid hg6; have HTW := Lib.hid (two_rows (ownsRow_ext HKW.out HX2.out) HAP.out.symm hg6); have HKA := Lib.hid (ownsRow_ext HTW.out.1 ((Ext.refl w6).alloc (.cells #[.int .i64 m] 3))); have HSZ6 := Lib.hid (hg6.by_.size); clear ho6 hg6) | (at_builtin; refine wpList_append_S rfl _ _ 47 47 rfl (w.alloc (.cells #[.slice none 0 0, .slice none 0 0, .slice none 0 0, .slice ao l.length cap] 41)).heap.size 3 ii _ 1 8 Try.underlying47 hi0 hi1 hi2 hi3 rfl _ _ _ rfl HKA.out (.slice (some ⟨w6.heap.size, 0, none⟩) 1 1) 1 [.int .i64 m] rfl (Src.ofSlice _ Try.underlying47 ⟨w6.heap.size, 0, none⟩ 1 1 _ rfl (one_cell (by simp)) (by simp [Value.oneCell'])) (by have := HKN.out; unfold maxLen; omega) (by have := HKN.out; omega) (by have h1 := HSZ.out; have h2 := HSZ6.out; simp only [World.size_alloc] at *; omega) ?_; intro v7 w7 ho7 hg7; have HO7 := Lib.hid ho7; have HG7 := Lib.hid hg7; have HTV := Lib.hid (two_rows HO6.out HTW.out.2.symm hg7); clear ho7 hg7))
        go_roundw
        case rel => exact ⟨m + 1, by go_num, by omega, by rw [HKX.out]; simp only [irows_append', List.flatten_append, List.length_append]; exact HO7.out, by rw [HRX.out]; simp only [rrows_append, List.flatten_append, List.length_append]; exact HTV.out.1, HTV.out.2, Ext.trans' ((Ext.trans' ((HE.out.trans HX2.out).alloc (.cells (⟨kd, st, (m : Int), t, t1⟩ : Rd).enc.toArray 70)) HG6.out (ownsRow_blocks HRA.out)).alloc (.cells #[.int .i64 m] 3)) HG7.out (ownsRow_blocks HKA.out)⟩
        case measure => simp [intOf] <;> omega
      · have hvn : (vv == 1) = false := by simp [hv]
        rw [if_neg hv, List.append_nil] at HKX
        go_wp2_with (first | (go_at_call 30; refine HRC.out.mono ?_; rintro e w1 ⟨ok, rfl, hok, hE1⟩; have HE1 := Lib.hid hE1; have HOKK := Lib.hid hok; have HX2 := Lib.hid (hE1.alloc (.cells #[.int .i64 kd, .int .i64 st, .int .i64 m, .int .i64 t, .int .i64 t1] 70)); have HRA := Lib.hid (ownsRow_ext HRW.out (HX2.out.alloc (.cells (⟨kd, st, (m : Int), t, t1⟩ : Rd).enc.toArray 70))); have HSZ : Hid ((w.alloc (.cells #[.slice none 0 0, .slice none 0 0, .slice none 0 0, .slice ao l.length cap] 41)).heap.size ≤ ((w1.alloc (.cells #[.int .i64 kd, .int .i64 st, .int .i64 m, .int .i64 t, .int .i64 t1] 70)).alloc (.cells (⟨kd, st, (m : Int), t, t1⟩ : Rd).enc.toArray 70)).heap.size) := Lib.hid ((HE.out.trans HX2.out).alloc _).size; clear hE1 hok; cases ok) | (at_builtin; refine wpList_append_S rfl _ _ 42 42 rfl (w.alloc (.cells #[.slice none 0 0, .slice none 0 0, .slice none 0 0, .slice ao l.length cap] 41)).heap.size 70 ir _ 5 40 Try.underlying42 hr0 hr1 hr2 hr3 rfl _ _ _ rfl HRA.out (.slice (some ⟨w1.heap.size + 1, 0, none⟩) 1 1) 1 (⟨kd, st, (m : Int), t, t1⟩ : Rd).enc rfl (Src.ofSlice _ Try.underlying42 ⟨w1.heap.size + 1, 0, none⟩ 1 1 _ rfl (cells_new (w1.alloc (.cells #[.int .i64 kd, .int .i64 st, .int .i64 m, .int .i64 t, .int .i64 t1] 70)) (⟨kd, st, (m : Int), t, t1⟩ : Rd).enc 70 _ (by simp)) (rd_one _)) (by have := HRN.out; unfold maxLen; omega) (by have := HRN.out; omega) HSZ.out ?_; intro v6 w6 ho6 hg6; have HO6 := Lib.hid ho6; have HG6 := Lib.hid hg6; have HTW := Lib.hid (two_rows (ownsRow_ext HKW.out HX2.out) HAP.out.symm hg6); have HKA := Lib.hid (ownsRow_ext HTW.out.1 ((Ext.refl w6).alloc (.cells #[.int .i64 m] 3))); have HSZ6 := Lib.hid (hg6.by_.size); clear ho6 hg6))
        all_goals
          go_roundw
          case rel => exact ⟨m + 1, by go_num, by omega, by rw [HKX.out]; exact HTW.out.1, by rw [HRX.out]; simp only [rrows_append, List.flatten_append, List.length_append]; exact HO6.out, HTW.out.2.symm, (Ext.trans' ((HE.out.trans HX2.out).alloc (.cells (⟨kd, st, (m : Int), t, t1⟩ : Rd).enc.toArray 70)) HG6.out (ownsRow_blocks HRA.out))⟩
          case measure => simp [intOf] <;> omega
    · have hl1 : ¬ (m : Int) < 8 := by omega
      obtain rfl : m = 8 := by omega
      obtain ⟨a3, c3, rfl, hR3⟩ := RepI.of_own HKW.out rfl
      obtain ⟨a4, c4, rfl, hR4⟩ := RepR.of_own HRW.out rfl
      have HR3 := Lib.hid hR3
      have HR4 := Lib.hid hR4
      clear hR3 hR4
      go_wp2_with fail
      go_ret2
      exact ⟨a3, c3, a4, c4, rfl, HR3.out, HR4.out, HX0.out.trans HE.out⟩
set_option maxRecDepth 100000 in
set_option maxHeartbeats 6400000 in
theorem refHeld_any (l : List Ft) (st t kn : Int) (ht : inI64 t) (ao : Option Addr) (cap : Nat) (w : World) (h : RepF w ao cap l) : Calls Try.prog 18 #[.agg #[.slice none 0 0, .slice none 0 0, .slice none 0 0, .slice ao l.length cap], .int .i64 st, .int .i64 t, .int .i64 kn] w (RetOf (ofF l 6 st t kn) (rdsF 6 st t) w) := by
  have HX0 : Hid (Ext w (w.alloc (.cells #[.slice none 0 0, .slice none 0 0, .slice none 0 0, .slice ao l.length cap] 41))) := Lib.hid ((Ext.refl w).alloc _)
  have HC := Lib.hid (refOf_any l 6 st t kn ht ao cap _ (h.ext HX0.out))
  clear h ht
  go_enter Try.func18, Try.ntmps18
  go_wp2_with (go_at_call 32; refine HC.out.mono ?_; rintro e w1 ⟨no, nc, ro, rc, rfl, h1, h2, h3⟩; have HH := Lib.hid (And.intro h1 (And.intro h2 h3)); clear h1 h2 h3)
  go_ret2
  exact ⟨no, nc, ro, rc, rfl, HH.out.1, HH.out.2.1, HX0.out.trans HH.out.2.2⟩
set_option maxRecDepth 100000 in
set_option maxHeartbeats 6400000 in
theorem refGroups_any (l : List Ft) (st t kn : Int) (ht : inI64 t) (ao : Option Addr) (cap : Nat) (w : World) (h : RepF w ao cap l) : Calls Try.prog 20 #[.agg #[.slice none 0 0, .slice none 0 0, .slice none 0 0, .slice ao l.length cap], .int .i64 st, .int .i64 t, .int .i64 kn] w (RetOf (ofF l 11 st t kn) (rdsF 11 st t) w) := by
  have HX0 : Hid (Ext w (w.alloc (.cells #[.slice none 0 0, .slice none 0 0, .slice none 0 0, .slice ao l.length cap] 41))) := Lib.hid ((Ext.refl w).alloc _)
  have HC := Lib.hid (refOf_any l 11 st t kn ht ao cap _ (h.ext HX0.out))
  clear h ht
  go_enter Try.func20, Try.ntmps20
  go_wp2_with (go_at_call 32; refine HC.out.mono ?_; rintro e w1 ⟨no, nc, ro, rc, rfl, h1, h2, h3⟩; have HH := Lib.hid (And.intro h1 (And.intro h2 h3)); clear h1 h2 h3)
  go_ret2
  exact ⟨no, nc, ro, rc, rfl, HH.out.1, HH.out.2.1, HX0.out.trans HH.out.2.2⟩
end Go.Proofs.Ytbniicobkhiniaa
