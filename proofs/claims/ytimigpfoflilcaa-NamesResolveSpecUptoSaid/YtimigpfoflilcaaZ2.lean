/- Names: parts of the reference. -/
import Derived.Test.YtimigpfoflilcaaZ1
import Derived.Test.YtimigpfoflilcaaYK
namespace Go.Sz
open Go.RowKit
/-- the parts behind m kids -/
def partsM (r : Rt) (m : Nat) : List Rt := r :: partsL (r.kids.take m)
theorem partsL_app (a b : List Rt) : partsL (a ++ b) = partsL a ++ partsL b := by rw [partsL_eq, partsL_eq, partsL_eq, List.map_append, List.flatten_append]
theorem partsM_next {r k : Rt} {m : Nat} (h : r.kids[m]? = some k) : partsM r (m + 1) = partsM r m ++ k.parts := by
  unfold partsM
  rw [List.take_add_one, h, partsL_app, List.cons_append]
  show _ = r :: (partsL (r.kids.take m) ++ k.parts)
  rw [show partsL (some k).toList = k.parts from by show partsL [k] = _; rw [partsL, partsL, List.append_nil]]
theorem partsM_end (r : Rt) : partsM r r.kids.length = r.parts := by unfold partsM; rw [List.take_length, Rt.parts_eq]
theorem partsM_le (r : Rt) (m : Nat) : (partsM r m).length ≤ r.parts.length := by
  rw [Rt.parts_eq]
  unfold partsM
  have : partsL r.kids = partsL (r.kids.take m) ++ partsL (r.kids.drop m) := by rw [← partsL_app, List.take_append_drop]
  rw [this]
  simp
/-- a block of one's own, of one row -/
theorem own_row {w : World} {cs : List Value} {e : TypeId} {base g n : Nat} (hg : g = w.heap.size) (hb : base ≤ g) (hl : cs.length = n) : (w.alloc (.cells cs.toArray e)).ownsRow base e n (.slice (some ⟨g, 0, none⟩) 1 1) 1 cs := by
  subst hg
  have hr : Row (w.alloc (.cells cs.toArray e)) w.heap.size e ([cs].flatten ++ []) := by
    unfold Row
    rw [List.append_nil, heap_al, if_pos rfl]
    simp
  have := Row.own (D := base) (size := n) (cap := 1) (n := 1) (rows := [cs]) hr (fun r hr => by rw [List.mem_singleton.1 hr]; exact hl) rfl (Nat.le_refl _) (by decide) (by simp; omega) hb
  simpa using this
end Go.Sz
namespace Go.Proofs.Ytimigpfoflilcaa
open Go.RowKit Go.Sz
/-- rules in a row whose kids lie where they lay -/
def RetRu (w0 : World) (l : List Rt) (w : World) : Ending → World → Prop := fun e w' => ∃ ao cap rows, e = .returned (.slice ao l.length cap) ∧ SL w' 6 ao cap rows ∧ rows.length = l.length ∧ (∀ (i : Nat) (k : Rt) (q : List Value), l[i]? = some k → rows[i]? = some q → RepU w0 k q) ∧ (∀ a, ao = some a → w.heap.size ≤ a.block) ∧ Ext w w'
set_option maxRecDepth 100000 in
set_option maxHeartbeats 6400000 in
theorem refParts_any {w0 : World} {r : Rt} {c : List Value} (h : RepU w0 r c) : ∀ (w : World), Ext w0 w → r.parts.length ≤ 1048576 → Calls Try.prog 26 #[.agg c.toArray] w (RetRu w0 r.parts w) := by
  obtain ⟨ir, hi0, hi1, hi2, hi3⟩ := info_parts infoR
  induction h with
  | mk r ka kc krows hs hl hk ho ih =>
    intro w hw hb
    have HII := Lib.hid (And.intro hi0 (And.intro hi1 (And.intro hi2 hi3)))
    have hX : Ext w (w.alloc (.cells #[.int .i64 r.op, .int .i64 r.co, .string r.nm, .int .i64 r.n, .int .i64 r.d, .slice ka r.kids.length kc] 39)) := (Ext.refl w).alloc _
    have hX2 : Ext (w.alloc (.cells #[.int .i64 r.op, .int .i64 r.co, .string r.nm, .int .i64 r.n, .int .i64 r.d, .slice ka r.kids.length kc] 39)) ((w.alloc (.cells #[.int .i64 r.op, .int .i64 r.co, .string r.nm, .int .i64 r.n, .int .i64 r.d, .slice ka r.kids.length kc] 39)).alloc (.cells #[.int .i64 r.op, .int .i64 r.co, .string r.nm, .int .i64 r.n, .int .i64 r.d, .slice ka r.kids.length kc] 39)) := (Ext.refl _).alloc _
    have hO : ((w.alloc (.cells #[.int .i64 r.op, .int .i64 r.co, .string r.nm, .int .i64 r.n, .int .i64 r.d, .slice ka r.kids.length kc] 39)).alloc (.cells #[.int .i64 r.op, .int .i64 r.co, .string r.nm, .int .i64 r.n, .int .i64 r.d, .slice ka r.kids.length kc] 39)).ownsRow (w.alloc (.cells #[.int .i64 r.op, .int .i64 r.co, .string r.nm, .int .i64 r.n, .int .i64 r.d, .slice ka r.kids.length kc] 39)).heap.size 39 6 (.slice (some ⟨w.heap.size + 1, 0, none⟩) 1 1) 1 (r.cells ka kc) := own_row (cs := r.cells ka kc) (by simp) (by simp) rfl
    have hc5 : (w.alloc (.cells #[.int .i64 r.op, .int .i64 r.co, .string r.nm, .int .i64 r.n, .int .i64 r.d, .slice ka r.kids.length kc] 39)).cell? ⟨w.heap.size, 5, none⟩ = some (.slice ka r.kids.length kc) := cells_at (cs := r.cells ka kc) (t := 39) (fr := (0, 0)) (by rw [heap_al, if_pos rfl]; rfl) 5 _ rfl
    have c0 : (w.alloc (.cells #[.int .i64 r.op, .int .i64 r.co, .string r.nm, .int .i64 r.n, .int .i64 r.d, .slice ka r.kids.length kc] 39)).cell? ⟨w.heap.size, 0, none⟩ = some (.int .i64 r.op) := cells_at (cs := r.cells ka kc) (t := 39) (fr := (0, 0)) (by rw [heap_al, if_pos rfl]; rfl) 0 _ rfl
    have hks : (r.kids.length : Int) ≤ 9223372036854775807 := by have := hs.max; have := hs.le; rw [hl] at this; omega
    have HX := Lib.hid hX
    have HX2 := Lib.hid hX2
    have HO := Lib.hid hO
    have HC5 := Lib.hid hc5
    have HW := Lib.hid hw
    have HB := Lib.hid hb
    have HIH := Lib.hid ih
    have HK := Lib.hid hk
    have HS := Lib.hid hs
    have HL := Lib.hid hl
    have HME : Hid (RepU w0 r (r.cells ka kc)) := Lib.hid (.mk r ka kc krows hs hl hk ho)
    clear hX hX2 hO hc5 c0 hw hb ih hk hs hl ho hi0 hi1 hi2 hi3
    unfold Rt.cells
    go_enter Try.func26, Try.ntmps26
    go_wp2_with fail
    generalize ((w.alloc (.cells #[.int .i64 r.op, .int .i64 r.co, .string r.nm, .int .i64 r.n, .int .i64 r.d, .slice ka r.kids.length kc] 39)).alloc (.cells #[.int .i64 r.op, .int .i64 r.co, .string r.nm, .int .i64 r.n, .int .i64 r.d, .slice ka r.kids.length kc] 39)) = w2 at *
    generalize (w.alloc (.cells #[.int .i64 r.op, .int .i64 r.co, .string r.nm, .int .i64 r.n, .int .i64 r.d, .slice ka r.kids.length kc] 39)) = w1 at *
    go_loopw [3, 4] (fun v iv wr => ∃ (m : Nat) (rows : List (List Value)), iv = .int .i64 m ∧ m ≤ r.kids.length ∧ wr.ownsRow w1.heap.size 39 6 v (partsM r m).length rows.flatten ∧ rows.length = (partsM r m).length ∧ (∀ (i : Nat) (k : Rt) (q : List Value), (partsM r m)[i]? = some k → rows[i]? = some q → RepU w0 k q) ∧ Ext w1 wr) (fun _ iv _ => r.kids.length - (intOf iv).toNat)
    case atStart =>
      refine ⟨0, [r.cells ka kc], rfl, by omega, by simpa [partsM, partsL] using HO.out, by simp [partsM, partsL], fun i k q h1 h2 => ?_, HX2.out⟩
      match i, h1, h2 with
      | 0, h1, h2 =>
        cases h1
        cases h2
        exact HME.out
      | i + 1, h1, h2 => simp at h2
    case round =>
      obtain ⟨m, rows, rfl, hm, hO, hlen, hrep, hE⟩ := hrel
      have HO3 := Lib.hid hO
      have HLN := Lib.hid hlen
      have HRP := Lib.hid hrep
      have HE := Lib.hid hE
      have c5 := hE.cell HC5.out
      clear hO hlen hrep hE
      have hwd : ∀ q ∈ rows, q.length = 6 := fun q hq => by
        obtain ⟨i, hi⟩ := List.getElem?_of_mem hq
        have hil := (List.getElem?_eq_some_iff.1 hi).1
        obtain ⟨k, hk⟩ : ∃ k, (partsM r m)[i]? = some k := ⟨_, List.getElem?_eq_getElem (by rw [← HLN.out]; exact hil)⟩
        exact (HRP.out i k q hk hi).len
      have HWD := Lib.hid hwd
      clear hwd
      by_cases hlt : m < r.kids.length
      · have hki : (m : Int) < (r.kids.length : Int) := by omega
        obtain ⟨k, hk⟩ : ∃ k, r.kids[m]? = some k := ⟨_, List.getElem?_eq_getElem hlt⟩
        obtain ⟨cc, hcc⟩ : ∃ cc, krows[m]? = some cc := ⟨_, List.getElem?_eq_getElem (by rw [HL.out]; exact hlt)⟩
        have hrow := HK.out m k cc hk hcc
        obtain ⟨qa, qc, rfl, -, -⟩ := hrow.out
        have hPL : (partsM r (m + 1)).length = (partsM r m).length + k.parts.length := by rw [partsM_next hk, List.length_append]
        have hPB : (partsM r (m + 1)).length ≤ 1048576 := Nat.le_trans (partsM_le r (m + 1)) HB.out
        have hcall := HIH.out m k _ hk hcc wr (HW.out.trans (HX.out.trans HE.out)) (by omega)
        have HCALL : Hid (Calls Try.prog 26 #[.agg #[.int .i64 k.op, .int .i64 k.co, .string k.nm, .int .i64 k.n, .int .i64 k.d, .slice qa k.kids.length qc]] wr (RetRu w0 k.parts wr)) := Lib.hid hcall
        have HNX := Lib.hid (partsM_next hk)
        have HPL := Lib.hid hPL
        have HPB := Lib.hid hPB
        have hsw := HS.out.ext (HW.out.trans (HX.out.trans HE.out))
        obtain ⟨B, q, rfl, -⟩ := hsw.cells m 0 _ _ hcc rfl
        have hcellsAt : ∀ (j : Nat) (v : Value), (k.cells qa qc)[j]? = some v → wr.cell? ⟨B, q + m * 6 + j, none⟩ = some v := fun j v hj => by
          obtain ⟨b', o', e2, hw2⟩ := hsw.cells m j _ _ hcc hj
          cases e2
          exact hw2
        have d0 : wr.cell? ⟨B, q + m * 6, none⟩ = some (.int .i64 k.op) := hcellsAt 0 _ rfl
        have d1 : wr.cell? ⟨B, q + m * 6 + 1, none⟩ = some (.int .i64 k.co) := hcellsAt 1 _ rfl
        have d2 : wr.cell? ⟨B, q + m * 6 + 2, none⟩ = some (.string k.nm) := hcellsAt 2 _ rfl
        have d3 : wr.cell? ⟨B, q + m * 6 + 3, none⟩ = some (.int .i64 k.n) := hcellsAt 3 _ rfl
        have d4 : wr.cell? ⟨B, q + m * 6 + 4, none⟩ = some (.int .i64 k.d) := hcellsAt 4 _ rfl
        have d5 : wr.cell? ⟨B, q + m * 6 + 5, none⟩ = some (.slice qa k.kids.length qc) := hcellsAt 5 _ rfl
        clear hcall hPL hPB hk hcc hrow hsw hcellsAt
        go_wp2_with fail
        refine HCALL.out.mono ?_
        rintro e w5 ⟨sa, sc, srows, rfl, hsl, hsn, hsr, -, hE5⟩
        have HSL := Lib.hid hsl
        have HSN := Lib.hid hsn
        have HSR := Lib.hid hsr
        have HE5 := Lib.hid hE5
        have hsrc : Src Try.prog 6 37 (.slice sa k.parts.length sc) k.parts.length srows.flatten w5 := by
          have := hsl.src (by omega) (tx := 37) Try.underlying37 (fun q hq => by
            obtain ⟨i, hi⟩ := List.getElem?_of_mem hq
            have hil := (List.getElem?_eq_some_iff.1 hi).1
            obtain ⟨x, hx⟩ : ∃ x, k.parts[i]? = some x := ⟨_, List.getElem?_eq_getElem (by rw [← hsn]; exact hil)⟩
            exact (hsr i x q hx hi).one)
          rwa [hsn] at this
        have HSRC := Lib.hid hsrc
        clear hsl hsn hsr hE5 hsrc c5 d0 d1 d2 d3 d4 d5
        go_wp2_with (at_builtin; refine wpList_append_S rfl _ _ 37 37 rfl w1.heap.size 39 ir _ 6 72 Try.underlying37 HII.out.1 HII.out.2.1 HII.out.2.2.1 HII.out.2.2.2 rfl u3 _ _ rfl (ownsRow_ext HO3.out HE5.out) _ _ _ rfl HSRC.out (by have := HPL.out; have := HPB.out; unfold maxLen; omega) (by have := HPL.out; have := HPB.out; omega) (by have := (HE.out.trans HE5.out).size; omega) ?_; intro vo w6 ho6 hg6; have HO6 := Lib.hid ho6; have HE6 := Lib.hid (Ext.own_step (HE.out.trans HE5.out) hg6 (ownsRow_ext HO3.out HE5.out)); clear ho6 hg6)
        go_roundw
        case rel =>
          refine ⟨m + 1, rows ++ srows, by go_num, by omega, ?_, ?_, ?_, HE6.out⟩
          · rw [HNX.out, List.length_append, List.flatten_append]
            exact HO6.out
          · rw [HNX.out, List.length_append, List.length_append, HLN.out, HSN.out]
          · intro i x qq h1 h2
            rw [HNX.out] at h1
            by_cases hi : i < (partsM r m).length
            · rw [List.getElem?_append_left hi] at h1
              rw [List.getElem?_append_left (by rw [HLN.out]; exact hi)] at h2
              exact HRP.out i x qq h1 h2
            · rw [List.getElem?_append_right (by omega)] at h1
              rw [List.getElem?_append_right (by rw [HLN.out]; omega), HLN.out] at h2
              exact HSR.out _ x qq h1 h2
        case measure => simp [intOf] <;> omega
      · have hki : ¬ (m : Int) < (r.kids.length : Int) := by omega
        obtain rfl : m = r.kids.length := by omega
        rw [partsM_end] at HO3 HLN HRP
        obtain ⟨ra, rc, rfl, hrs, -⟩ := SL.of_own HO3.out HWD.out HLN.out
        have HRS := Lib.hid hrs
        clear hrs
        go_wp2_with fail
        go_ret
        exact ⟨ra, rc, rows, rfl, HRS.out, HLN.out, HRP.out, fun a ha => by subst ha; exact Nat.le_trans HX.out.size (ownsRow_blocks HO3.out a.block rfl), HX.out.trans HE.out⟩
end Go.Proofs.Ytimigpfoflilcaa
