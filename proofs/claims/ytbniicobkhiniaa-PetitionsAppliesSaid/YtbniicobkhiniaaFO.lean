/- Petitions: of, Held and Groups. -/
import Derived.Test.YtbniicobkhiniaaFN
namespace Go.Sz
open Go.RowKit
def keysF (kd st : Int) : List Ky := L8.map fun n => ⟨kd, st, n⟩
def keysM (kd st : Int) (m : Nat) : List Ky := (L8.take m).map fun n => ⟨kd, st, n⟩
theorem keysM_len (kd st : Int) {m : Nat} (h : m ≤ 8) : (keysM kd st m).length = m := by
  unfold keysM
  rw [List.length_map, List.length_take]
  show min m 8 = m
  omega
theorem keysM_next (kd st : Int) {m : Nat} (h : m < 8) : keysM kd st (m + 1) = keysM kd st m ++ [⟨kd, st, (m : Int)⟩] := by
  unfold keysM
  rw [L8_next h, List.map_append]
  rfl
theorem keysM_end (kd st : Int) : keysM kd st 8 = keysF kd st := rfl
theorem krows_append (l l' : List Ky) : krows (l ++ l') = krows l ++ krows l' := List.map_append
theorem krows_wid (l : List Ky) : ∀ r ∈ krows l, r.length = 3 := by
  intro r hr
  simp only [krows, List.mem_map] at hr
  obtain ⟨x, _, rfl⟩ := hr
  rfl
theorem RepK.of_own {w : World} {D e n : Nat} {v : Value} {l : List Ky} (h : w.ownsRow D e 3 v n (krows l).flatten) (hn : l.length = n) : ∃ ao cap, v = .slice ao l.length cap ∧ RepK w ao cap l ∧ (∀ a, ao = some a → D ≤ a.block) := by
  obtain ⟨ao, cap, h1, h2, h3⟩ := SL.of_own h (krows_wid l) (by rw [krows_length]; exact hn)
  exact ⟨ao, cap, by rw [h1, hn], h2, h3⟩
def kds (pre : List Lk) : List Int := (pre.filter fun x => decide (x.v = 1)).map fun x => (x.i : Int)
def rds (t : Int) (pre : List Lk) : List Rd := pre.map fun x => rdOf x.k t
theorem kds_len (pre : List Lk) : (kds pre).length ≤ pre.length := by unfold kds; rw [List.length_map]; exact List.length_filter_le _ _
theorem rds_len (t : Int) (pre : List Lk) : (rds t pre).length = pre.length := List.length_map _
theorem kds_snoc (pre : List Lk) (x : Lk) : kds (pre ++ [x]) = kds pre ++ (if x.v = 1 then [(x.i : Int)] else []) := by
  unfold kds
  rw [List.filter_append, List.map_append]
  congr 1
  by_cases h : x.v = 1
  · rw [if_pos h]; simp [h]
  · rw [if_neg h]; simp [h]
theorem rds_snoc (t : Int) (pre : List Lk) (x : Lk) : rds t (pre ++ [x]) = rds t pre ++ [rdOf x.k t] := by unfold rds; rw [List.map_append]; rfl
def N8 : List Nat := [0, 1, 2, 3, 4, 5, 6, 7]
theorem lks_all (l : List Ft) (kd st t kn : Int) : lksF l (keysF kd st) t kn = N8.map fun n => lkOf l t kn n ⟨kd, st, (n : Int)⟩ := rfl
theorem kds_all (l : List Ft) (kd st t kn : Int) : kds (lksF l (keysF kd st) t kn) = ofF l kd st t kn := by
  rw [lks_all]
  unfold kds ofF
  rw [show ([0, 1, 2, 3, 4, 5, 6, 7] : List Int) = N8.map (fun (n : Nat) => (n : Int)) from rfl, List.filter_map, List.filter_map, List.map_map]
  rfl
theorem rds_all (l : List Ft) (kd st t kn : Int) : rds t (lksF l (keysF kd st) t kn) = rdsF kd st t := rfl
theorem ext_grown {A W w1 : World} {v : Value} (h : Ext A W) (hg : W.grownBy w1 v.ownBlock) (hv : ∀ k, v.ownBlock = some k → A.heap.size ≤ k) : Ext A w1 :=
  Below.trans h ⟨hg.os, hg.tape, hg.output, hg.size, fun b hb => hg.block b (Nat.lt_of_lt_of_le hb h.size) (fun e => by have := hv b e.symm; omega)⟩
theorem own_ne {W : World} {D e size n : Nat} {v : Value} {xs : List Value} (h : W.ownsRow D e size v n xs) {B : Nat} {cs : Array Value} {t : TypeId} {fr : Nat × Nat} (hb : W.heap[B]? = some (.cells cs t fr)) (hne : t ≠ e) : some B ≠ v.ownBlock := by
  rcases h.2 with ⟨rfl, _⟩ | ⟨g, cap, cur, rfl, _, h2, _⟩
  · intro hc; cases hc
  · intro hc
    obtain rfl : B = g := by simpa [Value.ownBlock] using hc
    rw [h2] at hb
    cases hb
    exact hne rfl
/-- what holds behind each round -/
def OfI (w W0 : World) (ti tis tr trs : TypeId) (t : Int) (pre : List Lk) (W : World) : Prop := ∃ vk vr, Boxed1 W (w.heap.size + 1) tis vk ∧ Boxed1 W (w.heap.size + 2) trs vr ∧ W.ownsRow W0.heap.size ti 1 vk (kds pre).length (irows (kds pre)).flatten ∧ W.ownsRow W0.heap.size tr 5 vr (rds t pre).length (rrows (rds t pre)).flatten ∧ Apart2 vk vr ∧ KpY W0.heap.size (w.heap.size + 1) (w.heap.size + 2) W0 W ∧ Ext w W
theorem ky_one (k : Ky) : ∀ u ∈ [Value.int .i64 k.k, .int .i64 k.s, .int .i64 k.o], u.oneCell' = true := fun u hu => by
  simp only [List.mem_cons, List.not_mem_nil, or_false] at hu
  rcases hu with rfl | rfl | rfl <;> rfl
end Go.Sz
namespace Go.Proofs.Ytbniicobkhiniaa
open Go.RowKit Go.Sz Go.Shelf
attribute [local go_sem] Oper.semAt_some
theorem infoKy : (Try.prog.info? 26).map (fun i => (i.zero, i.size, i.bytes)) = some (some (.agg #[.int .i64 0, .int .i64 0, .int .i64 0]), 3, 24) := by kernel_rfl
set_option maxRecDepth 100000 in
set_option maxHeartbeats 6400000 in
theorem of_in (l : List Ft) (kd st t kn : Int) (ht : inI64 t) (ao : Option Addr) (cap : Nat) (w : World) (h : RepF w ao cap l) : Calls Try.prog 31 #[.agg #[.slice none 0 0, .slice none 0 0, .slice none 0 0, .slice ao l.length cap], .int .i64 kd, .int .i64 st, .int .i64 t, .int .i64 kn] w (RetOf (ofF l kd st t kn) (rdsF kd st t) w) := by
  obtain ⟨ik, hk0, hk1, hk2, hk3⟩ := info_parts infoKy
  obtain ⟨ir, hr0, hr1, hr2, hr3⟩ := info_parts infoRd
  obtain ⟨ii, hi0, hi1, hi2, hi3⟩ := info_parts infoIn
  have HIK := Lib.hid (And.intro hk0 (And.intro hk1 (And.intro hk2 hk3)))
  have HII := Lib.hid (And.intro hr0 (And.intro hr1 (And.intro hr2 (And.intro hr3 (And.intro hi0 (And.intro hi1 (And.intro hi2 hi3)))))))
  clear hk0 hk1 hk2 hk3 hr0 hr1 hr2 hr3 hi0 hi1 hi2 hi3
  have HXA : Hid (Ext w (((w.alloc (.cells #[.slice none 0 0, .slice none 0 0, .slice none 0 0, .slice ao l.length cap] 41)).alloc (.cells #[.slice none 0 0] 47)).alloc (.cells #[.slice none 0 0] 42))) := Lib.hid ((((Ext.refl w).alloc _).alloc _).alloc _)
  have HL := Lib.hid h
  have HT := Lib.hid ht
  have HBK : Hid (Boxed1 (((w.alloc (.cells #[.slice none 0 0, .slice none 0 0, .slice none 0 0, .slice ao l.length cap] 41)).alloc (.cells #[.slice none 0 0] 47)).alloc (.cells #[.slice none 0 0] 42)) (w.heap.size + 1) 47 (.slice none 0 0)) := Lib.hid (by (unfold Boxed1; simp only [heap_al, World.size_alloc]; all_goals (repeat rw [if_neg (by omega)]); all_goals rfl))
  have HBR : Hid (Boxed1 (((w.alloc (.cells #[.slice none 0 0, .slice none 0 0, .slice none 0 0, .slice ao l.length cap] 41)).alloc (.cells #[.slice none 0 0] 47)).alloc (.cells #[.slice none 0 0] 42)) (w.heap.size + 2) 42 (.slice none 0 0)) := Lib.hid (by (unfold Boxed1; simp only [heap_al, World.size_alloc]; all_goals (repeat rw [if_neg (by omega)]); all_goals rfl))
  have HBW : Hid ((((w.alloc (.cells #[.slice none 0 0, .slice none 0 0, .slice none 0 0, .slice ao l.length cap] 41)).alloc (.cells #[.slice none 0 0] 47)).alloc (.cells #[.slice none 0 0] 42)).cell? ⟨w.heap.size, 0, none⟩ = some (.slice none 0 0) ∧ (((w.alloc (.cells #[.slice none 0 0, .slice none 0 0, .slice none 0 0, .slice ao l.length cap] 41)).alloc (.cells #[.slice none 0 0] 47)).alloc (.cells #[.slice none 0 0] 42)).cell? ⟨w.heap.size, 1, none⟩ = some (.slice none 0 0) ∧ (((w.alloc (.cells #[.slice none 0 0, .slice none 0 0, .slice none 0 0, .slice ao l.length cap] 41)).alloc (.cells #[.slice none 0 0] 47)).alloc (.cells #[.slice none 0 0] 42)).cell? ⟨w.heap.size, 2, none⟩ = some (.slice none 0 0) ∧ (((w.alloc (.cells #[.slice none 0 0, .slice none 0 0, .slice none 0 0, .slice ao l.length cap] 41)).alloc (.cells #[.slice none 0 0] 47)).alloc (.cells #[.slice none 0 0] 42)).cell? ⟨w.heap.size, 3, none⟩ = some (.slice ao l.length cap)) := Lib.hid ⟨by (simp only [World.cell?, heap_al, World.size_alloc]; all_goals (repeat rw [if_neg (by omega)]); all_goals rfl), by (simp only [World.cell?, heap_al, World.size_alloc]; all_goals (repeat rw [if_neg (by omega)]); all_goals rfl), by (simp only [World.cell?, heap_al, World.size_alloc]; all_goals (repeat rw [if_neg (by omega)]); all_goals rfl), by (simp only [World.cell?, heap_al, World.size_alloc]; all_goals (repeat rw [if_neg (by omega)]); all_goals rfl)⟩
  have HSA : Hid ((((w.alloc (.cells #[.slice none 0 0, .slice none 0 0, .slice none 0 0, .slice ao l.length cap] 41)).alloc (.cells #[.slice none 0 0] 47)).alloc (.cells #[.slice none 0 0] 42)).heap.size = w.heap.size + 3) := Lib.hid (by simp)
  have h4 : ∀ x, ao = some x → l ≠ [] → x.block < w.heap.size := fun z hz hne => by
    obtain ⟨b, o, e, hlt⟩ := SL.at h (by omega) 0 (by rw [frows_length]; exact List.length_pos_iff.2 hne)
    rw [e] at hz; cases hz; exact hlt
  have H4 := Lib.hid h4
  have hwf : Fence.wide.fn 29 := trivial
  clear h ht h4
  refine (callsIn_wide (n := 6)).1 ?_
  refine callsIn_of_wp_marks Try.func31 rfl trivial ?_ rfl
  simp only [Try.ntmps31, List.size_toArray, List.length_cons, List.length_nil, Nat.reduceAdd, Nat.reduceSub, Array.replicate_succ, Array.replicate_zero, List.push_toArray, List.append_toArray, List.nil_append, List.cons_append]
  gi_wp2
  gi_loopw [12, 16] (fun u iv wr => ∃ m : Nat, iv = .int .i64 m ∧ m ≤ 8 ∧ wr.ownsRow (((w.alloc (.cells #[.slice none 0 0, .slice none 0 0, .slice none 0 0, .slice ao l.length cap] 41)).alloc (.cells #[.slice none 0 0] 47)).alloc (.cells #[.slice none 0 0] 42)).heap.size 26 3 u (keysM kd st m).length (krows (keysM kd st m)).flatten ∧ Ext (((w.alloc (.cells #[.slice none 0 0, .slice none 0 0, .slice none 0 0, .slice ao l.length cap] 41)).alloc (.cells #[.slice none 0 0] 47)).alloc (.cells #[.slice none 0 0] 42)) wr) (fun _ iv _ => 8 - (intOf iv).toNat)
  case atStart => exact ⟨0, rfl, by omega, World.ownsRow_nil _ _ _ _, Ext.refl _⟩
  case round =>
    obtain ⟨m, rfl, hm, ho, hE⟩ := hrel
    have HO := Lib.hid ho
    have HE := Lib.hid hE
    clear ho hE
    by_cases hlt : m < 8
    · have hl1 : (m : Int) < 8 := by omega
      have HKN : Hid ((keysM kd st m).length = m ∧ m < 8) := Lib.hid ⟨keysM_len kd st hm, hlt⟩
      have HNX := Lib.hid (keysM_next kd st hlt)
      have HSZ := Lib.hid (HE.out.alloc (.cells #[.int .i64 kd, .int .i64 st, .int .i64 m] 26)).size
      obtain ⟨hk0, hk1, hk2, hk3⟩ := HIK.out
      gi_wp2_with (gi_at_builtin; refine wpListIn_append_own_at _ rfl _ _ 68 rfl (((w.alloc (.cells #[.slice none 0 0, .slice none 0 0, .slice none 0 0, .slice ao l.length cap] 41)).alloc (.cells #[.slice none 0 0] 47)).alloc (.cells #[.slice none 0 0] 42)).heap.size 26 ik _ 3 24 Try.underlying68 hk0 hk1 hk2 hk3 rfl (by decide) _ _ _ rfl (HO.out.alloc _) ⟨wr.heap.size, 0, none⟩ 1 1 [.int .i64 kd, .int .i64 st, .int .i64 m] rfl rfl (three_cells (by simp) (by simp) (by simp)) (ky_one ⟨kd, st, (m : Int)⟩) (by have := HKN.out; unfold maxLen; omega) (by have := HKN.out; omega) HSZ.out ?_; intro v' w1 hown' hgrow _ _; have HO1 := Lib.hid hown'; have HE1 := Lib.hid (ext_grown (HE.out.alloc (.cells #[.int .i64 kd, .int .i64 st, .int .i64 m] 26)) hgrow (ownsRow_blocks HO.out)); clear hown' hgrow)
      go_roundw
      case rel => exact ⟨m + 1, by go_num, by omega, by rw [HNX.out]; simp only [krows_append, List.flatten_append, List.length_append]; exact HO1.out, HE1.out⟩
      case measure => simp [intOf] <;> omega
    · have hl1 : ¬ (m : Int) < 8 := by omega
      obtain rfl : m = 8 := by omega
      obtain ⟨ko, kc, rfl, hRK, hfar⟩ := RepK.of_own HO.out rfl
      have HRK := Lib.hid hRK
      have HFAR := Lib.hid hfar
      have b0 := HE.out.cell HBW.out.1
      have b1 := HE.out.cell HBW.out.2.1
      have b2 := HE.out.cell HBW.out.2.2.1
      have b3 := HE.out.cell HBW.out.2.2.2
      clear hRK hfar hm hlt
      gi_wp2_with (gi_at_call 29; refine (callsIn_wide.2 (look_any _ _ _ _ _ _ _ _ _ _)).mono ?_; rintro e w5 ⟨rfl, hw5⟩; subst hw5)
      have hX5 : Ext wr ((((wr.alloc (.cells #[.slice none 0 0, .slice none 0 0, .slice none 0 0, .slice ao l.length cap] 41)).alloc (.cells #[.slice ko (keysM kd st 8).length kc] 68)).alloc (.cells #[.int .i64 t] 3)).alloc (.cells #[.int .i64 kn] 3)) := ((((Ext.refl wr).alloc _).alloc _).alloc _).alloc _
      have hH5 : LkH ((((wr.alloc (.cells #[.slice none 0 0, .slice none 0 0, .slice none 0 0, .slice ao l.length cap] 41)).alloc (.cells #[.slice ko (keysM kd st 8).length kc] 68)).alloc (.cells #[.int .i64 t] 3)).alloc (.cells #[.int .i64 kn] 3)) (wr.heap.size + 1) (wr.heap.size + 2) wr.heap.size (wr.heap.size + 3) t kn ko kc (keysM kd st 8) ao cap l :=
        ⟨by (simp only [World.cell?, heap_al, World.size_alloc]; all_goals (repeat rw [if_neg (by omega)]); all_goals rfl), by (simp only [World.cell?, heap_al, World.size_alloc]; all_goals (repeat rw [if_neg (by omega)]); all_goals rfl), by (simp only [World.cell?, heap_al, World.size_alloc]; all_goals (repeat rw [if_neg (by omega)]); all_goals rfl), by (simp only [World.cell?, heap_al, World.size_alloc]; all_goals (repeat rw [if_neg (by omega)]); all_goals rfl), SL.ext HRK.out hX5, HL.out.ext ((HXA.out.trans HE.out).trans hX5)⟩
      have hb4 := HBK.out.ext (HE.out.trans hX5)
      have hb5 := HBR.out.ext (HE.out.trans hX5)
      have hxw : Ext w ((((wr.alloc (.cells #[.slice none 0 0, .slice none 0 0, .slice none 0 0, .slice ao l.length cap] 41)).alloc (.cells #[.slice ko (keysM kd st 8).length kc] 68)).alloc (.cells #[.int .i64 t] 3)).alloc (.cells #[.int .i64 kn] 3)) := (HXA.out.trans HE.out).trans hX5
      have hws : w.heap.size + 3 ≤ wr.heap.size := by have h1 := HE.out.size; have h2 := HSA.out; omega
      have hsz5 : ((((wr.alloc (.cells #[.slice none 0 0, .slice none 0 0, .slice none 0 0, .slice ao l.length cap] 41)).alloc (.cells #[.slice ko (keysM kd st 8).length kc] 68)).alloc (.cells #[.int .i64 t] 3)).alloc (.cells #[.int .i64 kn] 3)).heap.size = wr.heap.size + 4 := by simp
      have hko : ∀ x, ko = some x → (keysM kd st 8) ≠ [] → x.block < wr.heap.size ∧ w.heap.size + 3 ≤ x.block := fun z hz hne => by
        obtain ⟨b, o, e, hlt⟩ := SL.at HRK.out (by omega) 0 (by rw [krows_length]; exact List.length_pos_iff.2 hne)
        have h2 := HFAR.out z hz
        rw [HSA.out] at h2
        rw [e] at hz; cases hz; exact ⟨hlt, h2⟩
      clear b0 b1 b2 b3
      generalize ((((wr.alloc (.cells #[.slice none 0 0, .slice none 0 0, .slice none 0 0, .slice ao l.length cap] 41)).alloc (.cells #[.slice ko (keysM kd st 8).length kc] 68)).alloc (.cells #[.int .i64 t] 3)).alloc (.cells #[.int .i64 kn] 3)) = W0 at *
      have HS0 := Lib.hid (And.intro hsz5 hws)
      clear hsz5 hws
      have hseq : SeqStopsK Fence.wide 5 Try.prog 42 #[.pointer (some ⟨wr.heap.size + 1, 0, none⟩), .pointer (some ⟨wr.heap.size + 2, 0, none⟩), .pointer (some ⟨wr.heap.size, 0, none⟩), .pointer (some ⟨wr.heap.size + 3, 0, none⟩)] (fun x : Lk => #[.int .i64 x.i, .agg #[.int .i64 x.k.k, .int .i64 x.k.s, .int .i64 x.k.o, .int .i64 t, .int .i64 (sucT t), .int .i64 x.v]]) (KpY W0.heap.size (w.heap.size + 1) (w.heap.size + 2)) (fun xs => xs = lksF l (keysM kd st 8) t kn) (fun _ => True) 8 W0 := fun yl J Jx W hW hJ hJx hY h0 =>
        look1_in 5 (by omega) yl (wr.heap.size + 1) (wr.heap.size + 2) wr.heap.size (wr.heap.size + 3) W0.heap.size (w.heap.size + 1) (w.heap.size + 2) t kn HT.out ko kc (keysM kd st 8) ao cap l J Jx (fun pre A B hA hE => hJ pre A B none hA ⟨hE.os, hE.tape, hE.output, hE.size, fun k hk _ => hE.block k hk⟩ (fun r hr => by cases hr)) hY
          (fun b hb => by have := HS0.out; omega) (fun z hz hne => by have := hko z hz hne; have := HS0.out; omega) (fun z hz hne => by have := H4.out z hz hne; have := HS0.out; omega) W (hH5.ext hW) h0
      refine wpIn_rangeFunc_ownH rfl (by omega) (gf := 42) (lb := #[.pointer (some ⟨wr.heap.size + 1, 0, none⟩), .pointer (some ⟨wr.heap.size + 2, 0, none⟩), .pointer (some ⟨wr.heap.size, 0, none⟩), .pointer (some ⟨wr.heap.size + 3, 0, none⟩)]) rfl trivial (enters_of Try.func42 (by kernel_rfl) rfl)
        hseq KpY.trans (fun W l o o' hl _ _ _ => kpY_put W l o' hl) (Below.refl _ _) (fun _ => rfl)
        (OfI w W0 3 47 70 42 t)
        (fun _ _ _ => False)
        (fun pre X Y row hs hg hr => by
          obtain ⟨v4, v5, h1, h2, h3, h4, h5, h6, h7⟩ := hs
          exact ⟨v4, v5, Boxed1.own _ W0.heap.size _ (fun (_ : Unit) => _) () X Y row h1 hg hr, Boxed1.own _ W0.heap.size _ (fun (_ : Unit) => _) () X Y row h2 hg hr, ownsRow_own W0.heap.size _ _ _ _ _ _ () X Y row h3 hg hr, ownsRow_own W0.heap.size _ _ _ _ _ _ () X Y row h4 hg hr, h5, ⟨Nat.le_trans h6.1 hg.size, fun b hb hne hne2 => (hg.block b (by have := h6.1; omega) (fun e => by have := (hr b e.symm).1; omega)).trans (h6.2 b hb hne hne2)⟩, ownFrom_below (Nat.le_refl _) hxw.size () X Y row h7 hg hr⟩)
        (fun _ _ _ _ _ hs _ _ => hs)
        ⟨_, _, hb4, hb5, World.ownsRow_nil _ _ _ _, World.ownsRow_nil _ _ _ _, fun k hk => (by cases hk), ⟨Nat.le_refl _, fun _ _ _ _ => rfl⟩, hxw⟩
        (fun x a' W => ∃ Bx, W0.heap.size ≤ Bx ∧ W.heap[Bx]? = some (.cells #[.int .i64 x.k.k, .int .i64 x.k.s, .int .i64 x.k.o, .int .i64 t, .int .i64 (sucT t), .int .i64 x.v] 72 (0, 0)) ∧ a' = { tmps := #[.agg #[.slice none 0 0, .slice none 0 0, .slice none 0 0, .slice ao l.length cap], .int .i64 kd, .int .i64 st, .int .i64 t, .int .i64 kn, .pointer (some ⟨w.heap.size, 0, none⟩), undef, undef, undef, undef, .pointer (some ⟨w.heap.size + 1, 0, none⟩), .pointer (some ⟨w.heap.size + 1 + 1, 0, none⟩), .slice ko (keysM kd st 8).length kc, u13, .int .i64 x.i, .pointer (some ⟨Bx, 0, none⟩), .int .i64 8, .bool false, u18, u19, u20, u21, u22, u23, u24, u25, u26, .agg #[.slice none 0 0, .slice none 0 0, .slice none 0 0, .slice ao l.length cap], .slice ko (keysM kd st 8).length kc, .int .i64 t, .int .i64 kn, .func (.func 42) #[] #[.pointer (some ⟨wr.heap.size + 1, 0, none⟩), .pointer (some ⟨wr.heap.size + 2, 0, none⟩), .pointer (some ⟨wr.heap.size, 0, none⟩), .pointer (some ⟨wr.heap.size + 3, 0, none⟩)], .int .i64 x.i, .agg #[.int .i64 x.k.k, .int .i64 x.k.s, .int .i64 x.k.o, .int .i64 t, .int .i64 (sucT t), .int .i64 x.v], undef, undef, undef, undef, undef, undef, undef, undef, undef, undef, undef, undef, undef, undef], defers := [] })
        (fun p a' _ X Y row hs hg hr => by
          obtain ⟨Bx, h1, h2, h3⟩ := hs
          exact ⟨Bx, h1, (hg.block Bx (Array.getElem?_eq_some_iff.1 h2).1 (fun e' => by obtain ⟨_, o, ho, hc⟩ := hr Bx e'.symm; rw [h2] at ho; cases ho; cases hc)).trans h2, h3⟩)
        ?assign ?body ?done ?stop
      case assign =>
        rintro yl pre x W K ⟨v4, v5, h1, h2, h3, h4, h5, h6, h7⟩ hK
        gi_wp2
        have hA := (Ext.refl W).alloc (.cells #[.int .i64 x.k.k, .int .i64 x.k.s, .int .i64 x.k.o, .int .i64 t, .int .i64 (sucT t), .int .i64 x.v] 72)
        exact hK _ _ ((KeepsOthers.alloc _ _).from _) (hA.kpY h6.1) ⟨v4, v5, h1.ext hA, h2.ext hA, ownsRow_ext h3 hA, ownsRow_ext h4 hA, h5, h6.trans (hA.kpY h6.1), h7.trans hA⟩ ⟨W.heap.size, h6.1, heap_alloc_new W _, rfl⟩
      case body =>
        rintro yl pre x a' W hl ⟨r, hr⟩ ⟨v4, v5, h1, h2, h3, h4, hap, h6, h7⟩ ⟨Bx, hBx, hbx, rfl⟩ hlt
        obtain ⟨hr0, hr1, hr2, hr3, hi0, hi1, hi2, hi3⟩ := HII.out
        obtain ⟨t1, ht1⟩ : ∃ t1, sucT t = t1 := ⟨_, rfl⟩
        rw [ht1] at hbx
        rw [ht1]
        have HRD : Hid (rdOf x.k t = (⟨x.k.k, x.k.s, x.k.o, t, t1⟩ : Rd)) := Lib.hid (by unfold rdOf; rw [ht1])
        have HLN := Lib.hid (And.intro (kds_len pre) (And.intro (rds_len t pre) hlt))
        have HW0 := Lib.hid h6.1
        have HBX := Lib.hid hbx
        have HBB := Lib.hid hBx
        have f0 : W.cell? ⟨Bx, 0, none⟩ = some (.int .i64 x.k.k) := by simp [World.cell?, hbx]
        have f1 : W.cell? ⟨Bx, 1, none⟩ = some (.int .i64 x.k.s) := by simp [World.cell?, hbx]
        have f2 : W.cell? ⟨Bx, 2, none⟩ = some (.int .i64 x.k.o) := by simp [World.cell?, hbx]
        have f3 : W.cell? ⟨Bx, 3, none⟩ = some (.int .i64 t) := by simp [World.cell?, hbx]
        have f4 : W.cell? ⟨Bx, 4, none⟩ = some (.int .i64 t1) := by simp [World.cell?, hbx]
        have f5 : W.cell? ⟨Bx, 5, none⟩ = some (.int .i64 x.v) := by simp [World.cell?, hbx]
        have hno := own_ne h4 hbx (by decide)
        have HNO := Lib.hid hno
        have HNK := Lib.hid (own_ne h3 hbx (by decide))
        have q0 := h2.cell
        have qz := h2.froz
        clear hbx hlt ht1 hno
        by_cases hv : x.v = 1
        · gi_wp2_with (first | (gi_at_builtin; refine wpListIn_append_own_at _ rfl _ _ 42 rfl W0.heap.size 70 ir _ 5 40 Try.underlying42 hr0 hr1 hr2 hr3 rfl (by decide) _ _ _ rfl (h4.alloc _) ⟨W.heap.size, 0, none⟩ 1 1 (⟨x.k.k, x.k.s, x.k.o, t, t1⟩ : Rd).enc rfl rfl (cells_new W (⟨x.k.k, x.k.s, x.k.o, t, t1⟩ : Rd).enc 70 _ rfl) (rd_one _) (by have := HLN.out; unfold maxLen; omega) (by have := HLN.out; omega) (by have := HW0.out; simp only [World.size_alloc]; omega) ?_; intro v' w1 hown' hgrow _ hat; obtain ⟨g', cap8, rfl⟩ := ownsRow_succ hown'; obtain ⟨a1, a2, a3, a4, a5, a6, a7, a8, a9, a10⟩ := h2.appended h1 h4 h3 hap.symm h6.1 (by have := HS0.out; omega) (by have := HS0.out; omega) (by omega) hown' hgrow hat; have HBY : Hid ((w1.setCell ⟨w.heap.size + 2, 0, none⟩ (.slice (some ⟨g', 0, none⟩) ((rds t pre).length + 1) cap8)).heap[Bx]? = some (.cells #[.int .i64 x.k.k, .int .i64 x.k.s, .int .i64 x.k.o, .int .i64 t, .int .i64 t1, .int .i64 x.v] 72 (0, 0))) := Lib.hid ((heap_far (show Bx ≠ w.heap.size + 2 by have := HBB.out; have := HS0.out; omega)).trans ((hgrow.block Bx (by have := (Array.getElem?_eq_some_iff.1 HBX.out).1; simp only [World.size_alloc]; omega) HNO.out).trans ((Below.heap_alloc W _ Bx (Array.getElem?_eq_some_iff.1 HBX.out).1).trans HBX.out))); clear q0 qz; have q0 := a1.cell; have qz := a1.froz; have q1 := a3.cell; have HN1 := Lib.hid (cell_new (w1.setCell ⟨w.heap.size + 2, 0, none⟩ (.slice (some ⟨g', 0, none⟩) ((rds t pre).length + 1) cap8)) (.int .i64 x.i) 3 w1.heap.size (by simp)); have f5' : (w1.setCell ⟨w.heap.size + 2, 0, none⟩ (.slice (some ⟨g', 0, none⟩) ((rds t pre).length + 1) cap8)).cell? ⟨Bx, 5, none⟩ = some (.int .i64 x.v) := by simp [World.cell?, HBY.out]) | (gi_at_builtin; refine wpListIn_append_own_at _ rfl _ _ 47 rfl W0.heap.size 3 ii _ 1 8 Try.underlying47 hi0 hi1 hi2 hi3 rfl (by decide) _ _ _ rfl (a5.alloc _) ⟨w1.heap.size, 0, none⟩ 1 1 [.int .i64 x.i] rfl rfl (one_cell HN1.out) (by simp [Value.oneCell']) (by have := HLN.out; unfold maxLen; omega) (by have := HLN.out; omega) (Nat.le_trans (Nat.le_trans HW0.out a9) ((Ext.refl _).alloc _).size) ?_; intro v2 w2 hown2 hgrow2 _ hat2; obtain ⟨g2, cap2, rfl⟩ := ownsRow_succ hown2; obtain ⟨c1, c2, c3, c4, c5, c6, c7, c8, c9, c10⟩ := a3.appended a2 a5 a4 a6.symm (Nat.le_trans HW0.out a9) (by have := HS0.out; omega) (by have := HS0.out; omega) (by omega) hown2 hgrow2 hat2; clear q0 qz q1; have q0 := c1.cell; have qz := c1.froz))
          refine ⟨(a7.trans c7).from _, ⟨Nat.le_trans a9 c9, fun b hb hb4 hb5 => (c8 b hb hb4).trans (a8 b hb hb5)⟩, _, _, c2, c3, ?_, ?_, c6, h6.trans ⟨Nat.le_trans a9 c9, fun b hb hb4 hb5 => (c8 b hb hb4).trans (a8 b hb hb5)⟩, Below.trans (Below.trans h7 (a10.mono (by omega))) (c10.mono (by omega))⟩
          · rw [kds_snoc, if_pos hv, irows_append', List.flatten_append, List.length_append]; exact c4
          · rw [rds_snoc, HRD.out, rrows_append, List.flatten_append, List.length_append]; exact c5
        · have hvn : (x.v == 1) = false := by simp [hv]
          gi_wp2_with (gi_at_builtin; refine wpListIn_append_own_at _ rfl _ _ 42 rfl W0.heap.size 70 ir _ 5 40 Try.underlying42 hr0 hr1 hr2 hr3 rfl (by decide) _ _ _ rfl (h4.alloc _) ⟨W.heap.size, 0, none⟩ 1 1 (⟨x.k.k, x.k.s, x.k.o, t, t1⟩ : Rd).enc rfl rfl (cells_new W (⟨x.k.k, x.k.s, x.k.o, t, t1⟩ : Rd).enc 70 _ rfl) (rd_one _) (by have := HLN.out; unfold maxLen; omega) (by have := HLN.out; omega) (by have := HW0.out; simp only [World.size_alloc]; omega) ?_; intro v' w1 hown' hgrow _ hat; obtain ⟨g', cap8, rfl⟩ := ownsRow_succ hown'; obtain ⟨a1, a2, a3, a4, a5, a6, a7, a8, a9, a10⟩ := h2.appended h1 h4 h3 hap.symm h6.1 (by have := HS0.out; omega) (by have := HS0.out; omega) (by omega) hown' hgrow hat; have HBY : Hid ((w1.setCell ⟨w.heap.size + 2, 0, none⟩ (.slice (some ⟨g', 0, none⟩) ((rds t pre).length + 1) cap8)).heap[Bx]? = some (.cells #[.int .i64 x.k.k, .int .i64 x.k.s, .int .i64 x.k.o, .int .i64 t, .int .i64 t1, .int .i64 x.v] 72 (0, 0))) := Lib.hid ((heap_far (show Bx ≠ w.heap.size + 2 by have := HBB.out; have := HS0.out; omega)).trans ((hgrow.block Bx (by have := (Array.getElem?_eq_some_iff.1 HBX.out).1; simp only [World.size_alloc]; omega) HNO.out).trans ((Below.heap_alloc W _ Bx (Array.getElem?_eq_some_iff.1 HBX.out).1).trans HBX.out))); clear q0 qz; have q0 := a1.cell; have qz := a1.froz; have q1 := a3.cell; have HN1 := Lib.hid (cell_new (w1.setCell ⟨w.heap.size + 2, 0, none⟩ (.slice (some ⟨g', 0, none⟩) ((rds t pre).length + 1) cap8)) (.int .i64 x.i) 3 w1.heap.size (by simp)); have f5' : (w1.setCell ⟨w.heap.size + 2, 0, none⟩ (.slice (some ⟨g', 0, none⟩) ((rds t pre).length + 1) cap8)).cell? ⟨Bx, 5, none⟩ = some (.int .i64 x.v) := by simp [World.cell?, HBY.out])
          refine ⟨a7.from _, ⟨a9, fun b hb hb4 hb5 => a8 b hb hb5⟩, v4, _, a3, a2, ?_, ?_, a6.symm, h6.trans ⟨a9, fun b hb hb4 hb5 => a8 b hb hb5⟩, Below.trans h7 (a10.mono (by omega))⟩
          · rw [kds_snoc, if_neg hv, List.append_nil]; exact a5
          · rw [rds_snoc, HRD.out, rrows_append, List.flatten_append, List.length_append]; exact a4
      case done =>
        rintro D xs W hD rfl ⟨v4, v5, h1, h2, h3, h4, hap, h6, h7⟩ hK
        rw [show kds (lksF l (keysM kd st 8) t kn) = ofF l kd st t kn from kds_all l kd st t kn] at h3
        rw [show rds t (lksF l (keysM kd st 8) t kn) = rdsF kd st t from rds_all l kd st t kn] at h4
        obtain ⟨ao3, cap3, rfl, hs3⟩ := RepI.of_own h3 rfl
        obtain ⟨ao4, cap4, rfl, hs4⟩ := RepR.of_own h4 rfl
        have q4 := h1.cell
        have z4 := h1.froz
        have q5 := h2.cell
        have z5 := h2.froz
        clear hseq hH5 hX5 hb4 hb5 hko hap h6 hs3 hs4
        gi_wp2
        gi_region
        gi_wp2
        rw [setCell_id h1.cell, setCell_id h2.cell]
        have hKd : W.drew.heap[D]? = some (.deferred (some [])) := hK
        have hEd : Ext W W.drew := (Ext.refl W).drew
        refine ⟨by simp, .inl ⟨_, _, rfl, run_takeDeferred hKd, ?_⟩⟩
        have hF : Ext w (W.drew.putObj D (.deferred none)) := Below.trans (h7.trans hEd) (belowK_b (w := w) (Nat.le_refl _) W.drew D _ _ (by have := HS0.out; omega) hKd rfl rfl)
        have hk := grownBy_putObj' W.drew D (.deferred none)
        have hrow : ∀ r, some D = some r → ∃ o : Obj, W.drew.heap[r]? = some o ∧ o.isCells = false := fun r e => by cases e; exact ⟨_, hKd, rfl⟩
        have k0 := cell_kept (h1.ext hEd).cell hk hrow
        have k1 := cell_kept (h2.ext hEd).cell hk hrow
        have hr3 := ownsRow_putObj (ownsRow_ext h3 hEd) (.deferred none) hKd rfl
        have hr4 := ownsRow_putObj (ownsRow_ext h4 hEd) (.deferred none) hKd rfl
        obtain ⟨a3, c3, e3, hR3⟩ := RepI.of_own hr3 rfl
        obtain ⟨a4, c4, e4, hR4⟩ := RepR.of_own hr4 rfl
        cases e3
        cases e4
        refine ⟨.tuple #[.slice ao3 (ofF l kd st t kn).length cap3, .slice ao4 (rdsF kd st t).length cap4], ?_, ⟨ao3, cap3, ao4, cap4, rfl, hR3, hR4, hF⟩⟩
        simp [results, Try.results31, go_sem, k0, k1]
      case stop =>
        rintro D c pre W _ _ h _
        exact h.elim
set_option maxRecDepth 100000 in
set_option maxHeartbeats 6400000 in
theorem held_any (l : List Ft) (st t kn : Int) (ht : inI64 t) (ao : Option Addr) (cap : Nat) (w : World) (h : RepF w ao cap l) : Calls Try.prog 17 #[.agg #[.slice none 0 0, .slice none 0 0, .slice none 0 0, .slice ao l.length cap], .int .i64 st, .int .i64 t, .int .i64 kn] w (RetOf (ofF l 6 st t kn) (rdsF 6 st t) w) := by
  have HX0 : Hid (Ext w (w.alloc (.cells #[.slice none 0 0, .slice none 0 0, .slice none 0 0, .slice ao l.length cap] 41))) := Lib.hid ((Ext.refl w).alloc _)
  have HC := Lib.hid (of_in l 6 st t kn ht ao cap _ (h.ext HX0.out))
  clear h ht
  go_enter Try.func17, Try.ntmps17
  go_wp2_with (go_at_call 31; refine HC.out.mono ?_; rintro e w1 ⟨no, nc, ro, rc, rfl, h1, h2, h3⟩; have HH := Lib.hid (And.intro h1 (And.intro h2 h3)); clear h1 h2 h3)
  go_ret2
  exact ⟨no, nc, ro, rc, rfl, HH.out.1, HH.out.2.1, HX0.out.trans HH.out.2.2⟩
set_option maxRecDepth 100000 in
set_option maxHeartbeats 6400000 in
theorem groups_any (l : List Ft) (st t kn : Int) (ht : inI64 t) (ao : Option Addr) (cap : Nat) (w : World) (h : RepF w ao cap l) : Calls Try.prog 19 #[.agg #[.slice none 0 0, .slice none 0 0, .slice none 0 0, .slice ao l.length cap], .int .i64 st, .int .i64 t, .int .i64 kn] w (RetOf (ofF l 11 st t kn) (rdsF 11 st t) w) := by
  have HX0 : Hid (Ext w (w.alloc (.cells #[.slice none 0 0, .slice none 0 0, .slice none 0 0, .slice ao l.length cap] 41))) := Lib.hid ((Ext.refl w).alloc _)
  have HC := Lib.hid (of_in l 11 st t kn ht ao cap _ (h.ext HX0.out))
  clear h ht
  go_enter Try.func19, Try.ntmps19
  go_wp2_with (go_at_call 31; refine HC.out.mono ?_; rintro e w1 ⟨no, nc, ro, rc, rfl, h1, h2, h3⟩; have HH := Lib.hid (And.intro h1 (And.intro h2 h3)); clear h1 h2 h3)
  go_ret2
  exact ⟨no, nc, ro, rc, rfl, HH.out.1, HH.out.2.1, HX0.out.trans HH.out.2.2⟩
end Go.Proofs.Ytbniicobkhiniaa
