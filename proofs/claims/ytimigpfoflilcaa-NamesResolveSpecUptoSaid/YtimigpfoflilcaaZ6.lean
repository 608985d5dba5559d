/- Names: Order and Cycle of the reference. -/
import Derived.Test.YtimigpfoflilcaaZ5
namespace Go.Sz
open Go.RowKit
theorem listN_fin {l : List Cr} : ∀ (f : Nat) (o : List Nat) (is : List Bool), is.length = l.length → is.count false < f → firstN l (listN l f o is).2 = none := by
  intro f
  induction f with
  | zero => intro o is _ h; omega
  | succ f ih =>
    intro o is h1 h2
    rw [listN]
    cases e : firstN l is with
    | none => exact e
    | some i =>
      have h3 := firstN_lt e
      have h4 : readyN l is i = true := List.find?_some e
      have h5 := count_set (readyN_not h1 h3 h4)
      exact ih _ _ (by rw [List.length_set]; exact h1) (by omega)
theorem listed_fin (l : List Cr) : firstN l (listedN l).2 = none := listN_fin _ _ _ (by simp) (by simp)
theorem listN_is {l : List Cr} : ∀ (f : Nat) (o : List Nat) (is : List Bool), is.length = l.length → (∀ j, j < l.length → is[j]? = some (decide (j ∈ o))) → ∀ j, j < l.length → (listN l f o is).2[j]? = some (decide (j ∈ (listN l f o is).1)) := by
  intro f
  induction f with
  | zero => intro o is _ h; exact h
  | succ f ih =>
    intro o is h1 h2
    rw [listN]
    cases e : firstN l is with
    | none => exact h2
    | some i => exact ih _ _ (by rw [List.length_set]; exact h1) (is_set (firstN_lt e) h1 h2)
theorem listed_is (l : List Cr) : ∀ j, j < l.length → (listedN l).2[j]? = some (decide (j ∈ (listedN l).1)) := listN_is _ _ _ (by simp) (fun j hj => by simp [hj])
theorem find_congr' {α : Type} {p q : α → Bool} {l : List α} (h : ∀ x ∈ l, p x = q x) : l.find? p = l.find? q := by
  induction l with
  | nil => rfl
  | cons x l ih => rw [List.find?_cons, List.find?_cons, h x (by simp), ih fun y hy => h y (by simp [hy])]
/-- a course that is not listed needs one that is not listed -/
theorem next_ex {l : List Cr} {i : Nat} {c : Cr} (hc : l[i]? = some c) (hi : i ∉ (listedN l).1) : ∃ (kx n : Nat), (needsN l c)[kx]? = some n ∧ n ∉ (listedN l).1 ∧ (∀ (j m : Nat), j < kx → (needsN l c)[j]? = some m → m ∈ (listedN l).1) ∧ nextN l (listedN l).2 i = some n := by
  have hil := (List.getElem?_eq_some_iff.1 hc).1
  have h1 : readyN l (listedN l).2 i = false := by
    have h := listed_fin l
    unfold firstN at h
    simpa using List.find?_eq_none.1 h i (List.mem_range.2 hil)
  rw [readyN_mem hc (listed_is l), show (!decide (i ∈ (listedN l).1)) = true from by simp [hi], Bool.true_and] at h1
  have h2 : ∃ n, (needsN l c).find? (fun n => !decide (n ∈ (listedN l).1)) = some n := by
    cases e : (needsN l c).find? (fun n => !decide (n ∈ (listedN l).1)) with
    | some n => exact ⟨n, rfl⟩
    | none =>
      have : (needsN l c).all (fun n => decide (n ∈ (listedN l).1)) = true := by
        rw [List.all_eq_true]
        intro n hn
        simpa using List.find?_eq_none.1 e n hn
      rw [this] at h1
      cases h1
  obtain ⟨n, hn⟩ := h2
  have hnx : nextN l (listedN l).2 i = some n := by
    rw [nextN_at hc, ← hn]
    apply find_congr'
    intro m hm
    rw [List.getD_eq_getElem?_getD, listed_is l m (needsN_lt hm)]
    rfl
  obtain ⟨hp, kx, hk, e, hb⟩ := List.find?_eq_some_iff_getElem.1 hn
  refine ⟨kx, n, by rw [List.getElem?_eq_getElem hk, e], by simpa using hp, fun j m hj hm => ?_, hnx⟩
  have := hb j hj
  obtain ⟨hjl, rfl⟩ := List.getElem?_eq_some_iff.1 hm
  simpa using this
theorem find_first_is {l : List Cr} {m : Nat} (hm : m < l.length) (hb : ∀ j, j < m → j ∈ (listedN l).1) (h : m ∉ (listedN l).1) : (listedN l).2.findIdx? (fun b => b == false) = some m := by
  have hl : (listedN l).2.length = l.length := (listedN_len l).1
  rw [List.findIdx?_eq_some_iff_getElem]
  have hv : ∀ j (hj : j < l.length), (listedN l).2[j]'(by omega) = decide (j ∈ (listedN l).1) := fun j hj => (List.getElem?_eq_some_iff.1 (listed_is l j hj)).2
  refine ⟨by omega, by rw [hv m hm]; simp [h], fun j hj => by rw [hv j (by omega)]; simp [hb j hj]⟩
theorem find_none_is {l : List Cr} (hb : ∀ j, j < l.length → j ∈ (listedN l).1) : (listedN l).2.findIdx? (fun b => b == false) = none := by
  have hl : (listedN l).2.length = l.length := (listedN_len l).1
  rw [List.findIdx?_eq_none_iff]
  intro b hb'
  obtain ⟨j, hj, rfl⟩ := List.mem_iff_getElem.1 hb'
  rw [(List.getElem?_eq_some_iff.1 (listed_is l j (by omega))).2]
  simp [hb j (by omega)]
end Go.Sz
namespace Go.Proofs.Ytimigpfoflilcaa
open Go.RowKit Go.Sz
set_option maxRecDepth 100000 in
set_option maxHeartbeats 6400000 in
theorem refOrder_any (l : List Cr) (h8 : l.length ≤ 100000) (hb : ∀ c ∈ l, c.need.parts.length ≤ 1048576) (ao : Option Addr) (cap : Nat) (v1 v2 v3 v4 v5 v6 : Value) (w : World) (h : RepC w ao cap l) : Calls Try.prog 18 #[.agg #[.slice ao l.length cap, v1, v2, v3, v4, v5, v6]] w (RetIE (ordL l) (ordE l) w) := by
  obtain ⟨ii, hi0, hi1, hi2, hi3⟩ := info_parts infoI
  have HII := Lib.hid (And.intro hi0 (And.intro hi1 (And.intro hi2 hi3)))
  have hX : Ext w (w.alloc (.cells #[.slice ao l.length cap, v1, v2, v3, v4, v5, v6] 29)) := (Ext.refl w).alloc _
  have hct : (w.alloc (.cells #[.slice ao l.length cap, v1, v2, v3, v4, v5, v6] 29)).heap[w.heap.size]? = some (.cells #[.slice ao l.length cap, v1, v2, v3, v4, v5, v6] 29 (0, 0)) := by rw [heap_al, if_pos rfl]
  have hcb : CatBox (w.alloc (.cells #[.slice ao l.length cap, v1, v2, v3, v4, v5, v6] 29)) w.heap.size ao l.length cap v1 v2 v3 v4 v5 v6 := CatBox.of hct
  have HCB := Lib.hid hcb
  have HXA := Lib.hid hX
  have HL := Lib.hid h
  have HL8 := Lib.hid h8
  have HLI := Lib.hid (refListed_any l h8 hb ao cap v1 v2 v3 v4 v5 v6 (w.alloc (.cells #[.slice ao l.length cap, v1, v2, v3, v4, v5, v6] 29)) (h.ext hX))
  have HBB := Lib.hid hb
  have hs1 := h.max
  have k0 := hcb.c0
  have k1 := hcb.c1
  have k2 := hcb.c2
  have k3 := hcb.c3
  have k4 := hcb.c4
  have k5 := hcb.c5
  have k6 := hcb.c6
  obtain ⟨o, hol⟩ : ∃ o, (listedN l).1 = o := ⟨_, rfl⟩
  have HOL := Lib.hid hol
  have HLT : Hid (∀ i, i ∈ o → i < l.length) := Lib.hid fun i h => listedN_lt (by rw [hol]; exact h)
  have HLE : Hid (o.length ≤ l.length) := Lib.hid (by have := (listedN_len l).2; rw [hol] at this; omega)
  rw [hol] at HLI
  clear hX hct h hb h8 hcb hol hi0 hi1 hi2 hi3
  have HE1 : Hid (ordL l = if o.length < l.length then [] else o.map (nuAt l)) := Lib.hid (by unfold ordL; rw [HOL.out])
  have HE2 : Hid (ordE l = if o.length < l.length then 112 else 0) := Lib.hid (by unfold ordE; rw [HOL.out])
  go_enter Try.func18, Try.ntmps18
  go_wp2_with fail
  generalize (w.alloc (.cells #[.slice ao l.length cap, v1, v2, v3, v4, v5, v6] 29)) = w1 at *
  refine HLI.out.mono ?_
  rintro e w2 ⟨oa, oc, rfl, h1, hE⟩
  have HO := Lib.hid h1
  have HE := Lib.hid hE
  have c0 := hE.cell k0
  have hom : ((((ints o).length : Nat)) : Int) ≤ 9223372036854775807 := irows_max h1
  rw [ints_length] at hom
  clear h1 hE HLI k0 k1 k2 k3 k4 k5 k6
  rw [ints_length]
  by_cases hc : o.length < l.length
  · have hci : (o.length : Int) < (l.length : Int) := by omega
    rw [if_pos hc] at HE1 HE2
    clear hc
    go_wp2_with fail
    go_ret2
    rw [HE1.out, HE2.out]
    exact ⟨none, 0, rfl, SL.empty _ _, HXA.out.trans HE.out⟩
  · have hci : ¬ (o.length : Int) < (l.length : Int) := by omega
    rw [if_neg hc] at HE1 HE2
    clear hc
    have HO0 := Lib.hid (own_empty w2 w2.heap.size (Nat.le_refl _) 3 1)
    go_wp2_with fail
    rw [show decide (o.length < l.length) = false from decide_eq_false (by omega)]
    go_loopw [5, 6] (fun v iv wr => ∃ m : Nat, iv = .int .i64 m ∧ m ≤ o.length ∧ wr.ownsRow w2.heap.size 3 1 v ((o.take m).map (nuAt l)).length (irows ((o.take m).map (nuAt l))).flatten ∧ Ext w2 wr) (fun _ iv _ => o.length - (intOf iv).toNat)
    case atStart => exact ⟨0, rfl, by omega, HO0.out, (Ext.refl w2).alloc _⟩
    case round =>
      obtain ⟨m, rfl, hm, hO, hE⟩ := hrel
      have HO3 := Lib.hid hO
      have HE3 := Lib.hid hE
      have c3 := hE.cell c0
      clear hO hE c0
      by_cases hlt : m < o.length
      · have hmi : (m : Int) < (o.length : Int) := by omega
        obtain ⟨i, hi⟩ : ∃ i, o[m]? = some i := ⟨_, List.getElem?_eq_getElem hlt⟩
        have hil : i < l.length := HLT.out i (List.mem_of_getElem? hi)
        have hili : (i : Int) < (l.length : Int) := by omega
        obtain ⟨c, hcl⟩ : ∃ c, l[i]? = some c := ⟨_, List.getElem?_eq_getElem hil⟩
        obtain ⟨B, q, a, n, b, mm, rfl, -, -, -, -, -, hcells⟩ := (HL.out.ext (HXA.out.trans (HE.out.trans HE3.out))).at hcl
        have d1 : wr.cell? ⟨B, q + i * 16 + 1, none⟩ = some (.int .i64 c.nu) := hcells 1 _ rfl
        obtain ⟨ob, oo, rfl, e0⟩ := i_at HO.out HE3.out (ints_all hi)
        have HSN := Lib.hid (map_take_snoc (f := nuAt l) hi)
        have HNU := Lib.hid (nuAt_of hcl)
        have HLN : Hid (((o.take m).map (nuAt l)).length ≤ 100000) := Lib.hid (by rw [List.length_map, List.length_take]; have := HLE.out; have := HL8.out; omega)
        have d1a := fun (o : Obj) => ((Ext.refl wr).alloc o).cell d1
        have e0a := fun (o : Obj) => ((Ext.refl wr).alloc o).cell e0
        have c3a := fun (o : Obj) => ((Ext.refl wr).alloc o).cell c3
        clear hcells hcl hi
        go_wp2_with fail
        go_region_law
          (first | (refine step_append_S rfl _ _ 45 45 rfl w2.heap.size 3 ii _ 1 8 Try.underlying45 HII.out.1 HII.out.2.1 HII.out.2.2.1 HII.out.2.2.2 rfl u5 _ _ rfl (ownsRow_ext HO3.out ((Ext.refl wr).alloc _).drew) _ 1 [.int .i64 c.nu] rfl (Src.ofSlice _ Try.underlying45 ⟨_, 0, none⟩ 1 1 _ rfl (one_cell (by simp)) (by simp [Value.oneCell'])) (by have := HLN.out; unfold maxLen; omega) (by have := HLN.out; omega) (by have := HE3.out.size; simp; omega) ?_; intro vo w5 ho5 hg5; have HO5 := Lib.hid ho5; have HE5 := Lib.hid (Ext.own_step (HE3.out.alloc _).drew hg5 (ownsRow_ext HO3.out ((Ext.refl wr).alloc _).drew)); clear ho5 hg5))
        all_goals
          go_wp2_with fail
          go_roundw
          case rel =>
            refine ⟨m + 1, by go_num, by omega, ?_, HE5.out⟩
            rw [HSN.out, HNU.out, irows_app, List.flatten_append, List.length_append]
            exact HO5.out
          case measure => simp [intOf] <;> omega
      · have hmi : ¬ (m : Int) < (o.length : Int) := by omega
        obtain rfl : m = o.length := by omega
        rw [List.take_length] at HO3
        obtain ⟨ra, rc, rfl, hrs, -⟩ := SL.of_own HO3.out (irows_wid _) (by simp [irows])
        have HRS := Lib.hid hrs
        clear hrs
        go_wp2_with fail
        go_ret2
        rw [HE1.out, HE2.out]
        exact ⟨ra, rc, by rw [List.length_map]; rfl, HRS.out, HXA.out.trans (HE.out.trans HE3.out)⟩
end Go.Proofs.Ytimigpfoflilcaa
