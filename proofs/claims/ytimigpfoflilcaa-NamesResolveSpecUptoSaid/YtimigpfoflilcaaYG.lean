/- Names: Order. -/
import Derived.Test.YtimigpfoflilcaaYF
namespace Go.Sz
open Go.RowKit
theorem firstN_lt {l : List Cr} {is : List Bool} {i : Nat} (h : firstN l is = some i) : i < l.length := by
  unfold firstN at h
  exact List.mem_range.1 (List.mem_of_find?_eq_some h)
theorem listN_mem {l : List Cr} : ∀ (f : Nat) (o : List Nat) (is : List Bool), (∀ i ∈ o, i < l.length) → ∀ i ∈ (listN l f o is).1, i < l.length := by
  intro f
  induction f with
  | zero => intro o is h; exact h
  | succ f ih =>
    intro o is h
    rw [listN]
    cases e : firstN l is with
    | none => exact h
    | some i =>
      refine ih _ _ fun j hj => ?_
      rcases List.mem_append.1 hj with hj | hj
      · exact h j hj
      · obtain rfl := List.mem_singleton.1 hj
        exact firstN_lt e
theorem listedN_lt {l : List Cr} {i : Nat} (h : i ∈ (listedN l).1) : i < l.length := listN_mem _ _ _ (fun _ h => by cases h) i h
theorem listN_len {l : List Cr} : ∀ (f : Nat) (o : List Nat) (is : List Bool), is.length = l.length → o.length + is.count false = l.length → (listN l f o is).2.length = l.length ∧ (listN l f o is).1.length + (listN l f o is).2.count false = l.length := by
  intro f
  induction f with
  | zero => intro o is h1 h2; exact ⟨h1, h2⟩
  | succ f ih =>
    intro o is h1 h2
    rw [listN]
    cases e : firstN l is with
    | none => exact ⟨h1, h2⟩
    | some i =>
      refine ih _ _ (by rw [List.length_set]; exact h1) ?_
      have h3 := firstN_lt e
      have h4 : readyN l is i = true := List.find?_some e
      have h5 := count_set (readyN_not h1 h3 h4)
      rw [List.length_append, List.length_singleton]
      omega
theorem listedN_len (l : List Cr) : (listedN l).2.length = l.length ∧ (listedN l).1.length + (listedN l).2.count false = l.length := listN_len _ _ _ (by simp) (by simp)
def nuAt (l : List Cr) (i : Nat) : Int := (l[i]?.map Cr.nu).getD 0
theorem nuAt_of {l : List Cr} {i : Nat} {c : Cr} (h : l[i]? = some c) : nuAt l i = c.nu := by unfold nuAt; rw [h]; rfl
def ordE (l : List Cr) : Int := if (listedN l).1.length < l.length then 112 else 0
def ordL (l : List Cr) : List Int := if (listedN l).1.length < l.length then [] else (listedN l).1.map (nuAt l)
/-- a row of ints and an error -/
def RetIE (r : List Int) (n : Int) (w : World) : Ending → World → Prop := fun e w' => ∃ ao cap, e = .returned (.tuple #[.slice ao r.length cap, .int .i64 n]) ∧ SL w' 1 ao cap (irows r) ∧ Ext w w'
def RetIs (r : List Int) (w : World) : Ending → World → Prop := fun e w' => ∃ ao cap, e = .returned (.slice ao r.length cap) ∧ SL w' 1 ao cap (irows r) ∧ Ext w w'
theorem map_take_snoc {α β : Type} {f : α → β} {o : List α} {m : Nat} {x : α} (h : o[m]? = some x) : (o.take (m + 1)).map f = (o.take m).map f ++ [f x] := by
  rw [List.take_add_one, h, List.map_append]; rfl
end Go.Sz
namespace Go.Proofs.Ytimigpfoflilcaa
open Go.RowKit Go.Sz
set_option maxRecDepth 100000 in
set_option maxHeartbeats 6400000 in
theorem order_any (l : List Cr) (hl8 : l.length ≤ 100000) (ao : Option Addr) (cap : Nat) (v1 v2 v3 v4 v5 v6 : Value) (w : World) (hR : RepC w ao cap l) :
    Calls Try.prog 17 #[.agg #[.slice ao l.length cap, v1, v2, v3, v4, v5, v6]] w (RetIE (ordL l) (ordE l) w) := by
  obtain ⟨ii, hi0, hi1, hi2, hi3⟩ := info_parts infoI
  have hX : Ext w (w.alloc (.cells #[.slice ao l.length cap, v1, v2, v3, v4, v5, v6] 29)) := (Ext.refl w).alloc _
  have hc0 : (w.alloc (.cells #[.slice ao l.length cap, v1, v2, v3, v4, v5, v6] 29)).cell? ⟨w.heap.size, 0, none⟩ = some (.slice ao l.length cap) := by simp
  have HC := Lib.hid (listed_any l hl8 ao cap v1 v2 v3 v4 v5 v6 _ (hR.ext hX))
  have HR := Lib.hid hR
  have HX := Lib.hid hX
  have HII := Lib.hid (And.intro hi0 (And.intro hi1 (And.intro hi2 hi3)))
  have HL8 := Lib.hid hl8
  have HG := Lib.hid hc0
  have hs1 := hR.max
  clear hX hc0 hR hi0 hi1 hi2 hi3 hl8
  go_enter Try.func17, Try.ntmps17
  go_wp2_with fail
  generalize (w.alloc (.cells #[.slice ao l.length cap, v1, v2, v3, v4, v5, v6] 29)) = w1 at *
  refine HC.out.mono ?_
  rintro e w2 ⟨oa, oc, ba, bc, rfl, h1, h2, hE⟩
  have HO := Lib.hid h1
  have HE := Lib.hid hE
  have c0 := hE.cell HG.out
  have HLT : Hid (∀ i, i ∈ (listedN l).1 → i < l.length) := Lib.hid fun i h => listedN_lt h
  obtain ⟨o, ho⟩ : ∃ o, (listedN l).1 = o := ⟨_, rfl⟩
  have HE1 : Hid (ordL l = if o.length < l.length then [] else o.map (nuAt l)) := Lib.hid (by unfold ordL; rw [ho])
  have HE2 : Hid (ordE l = if o.length < l.length then 112 else 0) := Lib.hid (by unfold ordE; rw [ho])
  rw [ho] at HO HLT
  rw [ho]
  have ho8 := h1.max
  have ho9 := h1.le
  rw [ho] at ho9
  have HOL : Hid ((o.length : Int) ≤ 9223372036854775807) := Lib.hid (by have : (irows (ints o)).length = o.length := (List.length_map _).trans (ints_length o); omega)
  have HOL9 : Hid (o.length ≤ l.length) := Lib.hid (by have := (listedN_len l).2; rw [ho] at this; omega)
  clear h1 h2 hE ho ho8 ho9
  have hom := HOL.out
  by_cases hc : o.length < l.length
  · have hci : (o.length : Int) < (l.length : Int) := by omega
    rw [if_pos hc] at HE1 HE2
    clear hc
    go_wp2_with fail
    go_ret2
    rw [HE1.out, HE2.out]
    exact ⟨none, 0, rfl, SL.empty _ _, HX.out.trans HE.out⟩
  · have hci : ¬ (o.length : Int) < (l.length : Int) := by omega
    rw [if_neg hc] at HE1 HE2
    clear hc
    go_wp2_with fail
    rw [show decide (o.length < l.length) = false from decide_eq_false (by omega)]
    go_loopw [2, 21] (fun v iv wr => ∃ m : Nat, iv = .int .i64 m ∧ m ≤ o.length ∧ wr.ownsRow w2.heap.size 3 1 v ((o.take m).map (nuAt l)).length (irows ((o.take m).map (nuAt l))).flatten ∧ Ext w2 wr) (fun _ iv _ => o.length - (intOf iv).toNat)
    case atStart => exact ⟨0, rfl, by omega, World.ownsRow_nil _ _ _ _, Ext.refl _⟩
    case round =>
      obtain ⟨m, rfl, hm, hO, hE⟩ := hrel
      have HO3 := Lib.hid hO
      have HE3 := Lib.hid hE
      have c3 := hE.cell c0
      clear hO hE c0
      by_cases hlt : m < o.length
      · have hmi : (m : Int) < (o.length : Int) := by omega
        obtain ⟨i, hi⟩ : ∃ i, o[m]? = some i := ⟨_, List.getElem?_eq_getElem hlt⟩
        have hil : i < l.length := HLT.out i (List.mem_of_getElem? hi)
        have hili : (i : Int) < (l.length : Int) := by omega
        obtain ⟨c, hcl⟩ : ∃ c, l[i]? = some c := ⟨_, List.getElem?_eq_getElem hil⟩
        obtain ⟨B, q, a, n, b, mm, rfl, -, -, -, -, -, hcells⟩ := (HR.out.ext (HX.out.trans (HE.out.trans HE3.out))).at hcl
        have d1 : wr.cell? ⟨B, q + i * 16 + 1, none⟩ = some (.int .i64 c.nu) := hcells 1 _ rfl
        obtain ⟨ob, oo, rfl, e0⟩ := irows_cell (i := m) HO.out HE3.out (by rw [ints_length]; exact hlt)
        have hei : (ints o)[m]'(by rw [ints_length]; exact hlt) = (i : Int) := by
          have : (ints o)[m]? = some (i : Int) := by unfold ints; rw [List.getElem?_map, hi]; rfl
          exact (List.getElem?_eq_some_iff.1 this).2
        rw [hei] at e0
        have HSN := Lib.hid (map_take_snoc (f := nuAt l) hi)
        have HNU := Lib.hid (nuAt_of hcl)
        have HLN : Hid (((o.take m).map (nuAt l)).length ≤ 100000) := Lib.hid (by rw [List.length_map, List.length_take]; have := HOL9.out; have := HL8.out; omega)
        clear hcells hcl hi hei
        go_wp2_with (at_builtin; refine wpList_append_S rfl _ _ 45 45 rfl w2.heap.size 3 ii _ 1 8 Try.underlying45 HII.out.1 HII.out.2.1 HII.out.2.2.1 HII.out.2.2.2 rfl u2 _ _ rfl (ownsRow_ext HO3.out ((Ext.refl wr).alloc _)) _ 1 [.int .i64 c.nu] rfl (Src.ofSlice _ Try.underlying45 ⟨_, 0, none⟩ 1 1 _ rfl (one_cell (by simp)) (by simp [Value.oneCell'])) (by have := HLN.out; unfold maxLen; omega) (by have := HLN.out; omega) (by have := HE3.out.size; simp; omega) ?_; intro vo w5 ho5 hg5; have HO5 := Lib.hid ho5; have HE5 := Lib.hid (Ext.own_step (HE3.out.alloc _) hg5 (ownsRow_ext HO3.out ((Ext.refl wr).alloc _))); clear ho5 hg5)
        go_roundw
        case rel =>
          refine ⟨m + 1, by go_num, by omega, ?_, HE5.out⟩
          rw [HSN.out, HNU.out, irows_app, List.flatten_append, List.length_append]
          exact HO5.out
        case measure => simp [intOf] <;> omega
      · have hmi : ¬ (m : Int) < (o.length : Int) := by omega
        obtain rfl : m = o.length := by omega
        rw [List.take_length] at HO3
        obtain ⟨ra, rc, rfl, hrs, -⟩ := SL.of_own HO3.out (irows_wid _) (by simp [irows])
        have HRS := Lib.hid hrs
        clear hrs
        go_wp2_with fail
        go_ret2
        rw [HE1.out, HE2.out]
        exact ⟨ra, rc, by rw [List.length_map]; rfl, HRS.out, HX.out.trans (HE.out.trans HE3.out)⟩
end Go.Proofs.Ytimigpfoflilcaa
