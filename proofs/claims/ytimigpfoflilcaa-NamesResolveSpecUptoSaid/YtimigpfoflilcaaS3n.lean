/- Names: Same of the syntax. -/
import Derived.Test.YtimigpfoflilcaaS2n
namespace Go.Proofs.Ytimigpfoflilcaa
open Go.RowKit Go.Sz
theorem fresh_row {W : World} {cs z : List Value} (t : TypeId) (hl : cs.length = 16) (hz : z.length = 16) : Row ((W.alloc (.cells z.toArray t)).setCells W.heap.size 0 cs.toArray.toList) W.heap.size t cs ∧ Ext W ((W.alloc (.cells z.toArray t)).setCells W.heap.size 0 cs.toArray.toList) := by
  have hr : Row (W.alloc (.cells z.toArray t)) W.heap.size t z := by unfold Row; rw [heap_al, if_pos rfl]
  have h1 := hr.set (vs := cs) (o := 0) (by omega)
  rw [List.take_zero, List.nil_append, List.drop_of_length_le (by omega), List.append_nil] at h1
  have e : cs.toArray.toList = cs := List.toList_toArray
  rw [e]
  exact ⟨h1, Below.grown ((Ext.refl W).alloc _) (setCells_grown _ _ _ _) ((Ext.refl W).alloc _).size (fun x hx => by cases hx; exact Nat.le_refl _)⟩
theorem fresh_there {W : World} {cs z : List Value} (t : TypeId) (hl : cs.length = 16) (hz : z.length = 16) : (W.alloc (.cells z.toArray t)).there W.heap.size 0 cs.toArray.size := by
  have hr : Row (W.alloc (.cells z.toArray t)) W.heap.size t z := by unfold Row; rw [heap_al, if_pos rfl]
  exact hr.there (by simp; omega)
set_option maxRecDepth 100000 in
set_option maxHeartbeats 6400000 in
theorem eqfC_any (l l' : List Cr) (rows rows' : List (List Value)) (hrl : rows.length = l.length) (hrl' : rows'.length = l'.length) (hc : ∀ r ∈ rows, ∀ u ∈ r, u.oneCell' = true) (hc' : ∀ r ∈ rows', ∀ u ∈ r, u.oneCell' = true)
    (ao ao' : Option Addr) (cap cap' : Nat) (w : World) (h : SL w 16 ao cap rows) (h' : SL w 16 ao' cap' rows')
    (hf : ∀ (i : Nat) x y q q', l[i]? = some x → l'[i]? = some y → rows[i]? = some q → rows'[i]? = some q' → ∀ W, Ext w W → Calls Try.prog 53 #[.agg q.toArray, .agg q'.toArray] W (RetEq (x = y) W)) :
    Calls Try.prog 60 #[.slice ao l.length cap, .slice ao' l'.length cap', .func (Fn.func 53) #[] #[]] w (RetEq (l = l') w) := by
  have HL := Lib.hid h
  have HL' := Lib.hid h'
  have HF := Lib.hid hf
  have HRL := Lib.hid (And.intro hrl hrl')
  have HC := Lib.hid (And.intro hc hc')
  have hs1 : (l.length : Int) ≤ 9223372036854775807 := by have := h.max; have := h.le; omega
  have hs2 : (l'.length : Int) ≤ 9223372036854775807 := by have := h'.max; have := h'.le; omega
  have HSZ : Hid ((Try.prog.info? 41).map (·.size) = some 16) := Lib.hid (by kernel_rfl)
  clear h h' hf hrl hrl' hc hc'
  by_cases hl : l.length = l'.length
  · have g1 : ((l.length : Int) != (l'.length : Int)) = false := by simp; omega
    have HLE := Lib.hid hl
    clear hl
    go_enter Try.func60, Try.ntmps60
    go_wp2_with fail
    go_loopw [17] (fun iv wr => ∃ k : Nat, iv = .int .i64 k ∧ k ≤ l.length ∧ l.take k = l'.take k ∧ Ext w wr) (fun iv _ => l.length - (intOf iv).toNat)
    case atStart => exact ⟨0, rfl, by omega, by simp, Ext.refl _⟩
    case round =>
      obtain ⟨k, rfl, hk, ht, hB⟩ := hrel
      have HT := Lib.hid ht
      have HB := Lib.hid hB
      clear ht hB
      by_cases hlt : k < l.length
      · have hki : (k : Int) < (l.length : Int) := by omega
        have hk' : k < l'.length := by have := HLE.out; omega
        have hki' : (k : Int) < (l'.length : Int) := by omega
        obtain ⟨x, hx⟩ : ∃ x, l[k]? = some x := ⟨_, List.getElem?_eq_getElem hlt⟩
        obtain ⟨y, hy⟩ : ∃ y, l'[k]? = some y := ⟨_, List.getElem?_eq_getElem hk'⟩
        obtain ⟨q, hq⟩ : ∃ q, rows[k]? = some q := ⟨_, List.getElem?_eq_getElem (by rw [HRL.out.1]; exact hlt)⟩
        obtain ⟨q', hq'⟩ : ∃ q', rows'[k]? = some q' := ⟨_, List.getElem?_eq_getElem (by rw [HRL.out.2]; exact hk')⟩
        have HCALL := Lib.hid (fun W hW => HF.out k x y q q' hx hy hq hq' W hW)
        have HLQ : Hid (q.length = 16) := Lib.hid (SL.wid HL.out q (List.mem_of_getElem? hq))
        have HLQ' : Hid (q'.length = 16) := Lib.hid (SL.wid HL'.out q' (List.mem_of_getElem? hq'))
        have HSQ : Hid ((Try.prog.info? 41).map (·.size) = some q.length) := Lib.hid (by rw [HLQ.out]; exact HSZ.out)
        have HSQ' : Hid ((Try.prog.info? 41).map (·.size) = some q'.length) := Lib.hid (by rw [HLQ'.out]; exact HSZ.out)
        have HSA : Hid ((Try.prog.info? 41).map (·.size) = some q.toArray.size) := Lib.hid (by rw [List.size_toArray, HLQ.out]; exact HSZ.out)
        have HSA' : Hid ((Try.prog.info? 41).map (·.size) = some q'.toArray.size) := Lib.hid (by rw [List.size_toArray, HLQ'.out]; exact HSZ.out)
        have ONE : Hid (q.toArray.all (·.oneCell') = true) := Lib.hid (all_oneCell_toArray (HC.out.1 q (List.mem_of_getElem? hq)))
        have ONE' : Hid (q'.toArray.all (·.oneCell') = true) := Lib.hid (all_oneCell_toArray (HC.out.2 q' (List.mem_of_getElem? hq')))
        obtain ⟨b, o, rfl, hc⟩ := (HL.out.ext HB.out).rowAt' hq (by rintro rfl; cases HLQ.out)
        obtain ⟨b', o', rfl, hd⟩ := (HL'.out.ext HB.out).rowAt' hq' (by rintro rfl; cases HLQ'.out)
        have RX := Lib.hid hc
        have RY := Lib.hid hd
        have HNX := Lib.hid (take_eq_next hx hy HT.out)
        have HNE := Lib.hid (ne_at hx hy)
        have TH1 : Hid ((wr.alloc (.cells #[.string ⟨#[]⟩, .int .i64 0, .int .i64 0, .int .i64 0, .int .i64 0, .int .i64 0, .string ⟨#[]⟩, .int .i64 0, .int .i64 0, .slice none 0 0, .int .i64 0, .int .i64 0, .string ⟨#[]⟩, .int .i64 0, .int .i64 0, .slice none 0 0] 41)).there wr.heap.size 0 q.toArray.size) := Lib.hid (fresh_there 41 HLQ.out rfl)
        clear hx hy hc hd hq hq'
        go_wp2_with (first
          | (refine wpList_load_mid rfl _ _ rfl b (o + k * 16) rfl q _ RX.out Try.underlying41 rfl HSQ.out ?_)
          | (refine wpList_load_mid rfl _ _ rfl b' (o' + k * 16) rfl q' _ (fun j v hj => HV1.out.2.cell (RY.out j v hj)) Try.underlying41 rfl HSQ'.out ?_)
          | (refine wpList_store_mid rfl _ _ _ rfl wr.heap.size 0 q.toArray rfl rfl TH1.out HSA.out ONE.out ?_; have HV1 : Hid (Row ((wr.alloc (.cells #[.string ⟨#[]⟩, .int .i64 0, .int .i64 0, .int .i64 0, .int .i64 0, .int .i64 0, .string ⟨#[]⟩, .int .i64 0, .int .i64 0, .slice none 0 0, .int .i64 0, .int .i64 0, .string ⟨#[]⟩, .int .i64 0, .int .i64 0, .slice none 0 0] 41)).setCells wr.heap.size 0 q.toArray.toList) wr.heap.size 41 q ∧ Ext wr ((wr.alloc (.cells #[.string ⟨#[]⟩, .int .i64 0, .int .i64 0, .int .i64 0, .int .i64 0, .int .i64 0, .string ⟨#[]⟩, .int .i64 0, .int .i64 0, .slice none 0 0, .int .i64 0, .int .i64 0, .string ⟨#[]⟩, .int .i64 0, .int .i64 0, .slice none 0 0] 41)).setCells wr.heap.size 0 q.toArray.toList)) := Lib.hid (fresh_row 41 HLQ.out rfl); generalize (wr.alloc (.cells #[.string ⟨#[]⟩, .int .i64 0, .int .i64 0, .int .i64 0, .int .i64 0, .int .i64 0, .string ⟨#[]⟩, .int .i64 0, .int .i64 0, .slice none 0 0, .int .i64 0, .int .i64 0, .string ⟨#[]⟩, .int .i64 0, .int .i64 0, .slice none 0 0] 41)).setCells wr.heap.size 0 q.toArray.toList = V1 at *; have TH2 : Hid ((V1.alloc (.cells #[.string ⟨#[]⟩, .int .i64 0, .int .i64 0, .int .i64 0, .int .i64 0, .int .i64 0, .string ⟨#[]⟩, .int .i64 0, .int .i64 0, .slice none 0 0, .int .i64 0, .int .i64 0, .string ⟨#[]⟩, .int .i64 0, .int .i64 0, .slice none 0 0] 41)).there V1.heap.size 0 q'.toArray.size) := Lib.hid (fresh_there 41 HLQ'.out rfl))
          | (refine wpList_store_mid rfl _ _ _ rfl V1.heap.size 0 q'.toArray rfl rfl TH2.out HSA'.out ONE'.out ?_; have HV2 : Hid (Row ((V1.alloc (.cells #[.string ⟨#[]⟩, .int .i64 0, .int .i64 0, .int .i64 0, .int .i64 0, .int .i64 0, .string ⟨#[]⟩, .int .i64 0, .int .i64 0, .slice none 0 0, .int .i64 0, .int .i64 0, .string ⟨#[]⟩, .int .i64 0, .int .i64 0, .slice none 0 0] 41)).setCells V1.heap.size 0 q'.toArray.toList) V1.heap.size 41 q' ∧ Ext V1 ((V1.alloc (.cells #[.string ⟨#[]⟩, .int .i64 0, .int .i64 0, .int .i64 0, .int .i64 0, .int .i64 0, .string ⟨#[]⟩, .int .i64 0, .int .i64 0, .slice none 0 0, .int .i64 0, .int .i64 0, .string ⟨#[]⟩, .int .i64 0, .int .i64 0, .slice none 0 0] 41)).setCells V1.heap.size 0 q'.toArray.toList)) := Lib.hid (fresh_row 41 HLQ'.out rfl); generalize (V1.alloc (.cells #[.string ⟨#[]⟩, .int .i64 0, .int .i64 0, .int .i64 0, .int .i64 0, .int .i64 0, .string ⟨#[]⟩, .int .i64 0, .int .i64 0, .slice none 0 0, .int .i64 0, .int .i64 0, .string ⟨#[]⟩, .int .i64 0, .int .i64 0, .slice none 0 0] 41)).setCells V1.heap.size 0 q'.toArray.toList = V2 at *)
          | (refine wpList_load_mid rfl _ _ rfl wr.heap.size 0 rfl q _ (fun j v hj => by rw [Nat.zero_add]; exact (HV1.out.1.kpC HV2.out.2.kpC).cell hj) Try.underlying41 rfl HSQ.out ?_)
          | (refine wpList_load_mid rfl _ _ rfl V1.heap.size 0 rfl q' _ (fun j v hj => by rw [Nat.zero_add]; exact HV2.out.1.cell hj) Try.underlying41 rfl HSQ'.out ?_))
        refine (HCALL.out V2 (HB.out.trans (HV1.out.2.trans HV2.out.2))).mono ?_
        rintro e w5 ⟨bb, rfl, hiff, hE5⟩
        have HIFF := Lib.hid hiff
        have HE5 := Lib.hid (HB.out.trans (HV1.out.2.trans (HV2.out.2.trans hE5)))
        clear hiff hE5
        cases bb with
        | true =>
          go_wp2_with fail
          go_roundw
          case rel => exact ⟨k + 1, by go_num, by omega, HNX.out (HIFF.out.1 (by simp)), HE5.out⟩
          case measure => simp [intOf] <;> omega
        | false =>
          go_wp2_with fail
          go_ret
          exact ⟨false, rfl, ⟨fun h => (by cases h), fun h => absurd h (HNE.out (fun e => by have := HIFF.out.2 e; cases this))⟩, HE5.out⟩
      · have hki : ¬ (k : Int) < (l.length : Int) := by omega
        have HEQ : Hid (l = l') := Lib.hid (by
          have h1 := HT.out
          rw [List.take_of_length_le (by omega), List.take_of_length_le (by have := HLE.out; omega)] at h1
          exact h1)
        go_wp2_with fail
        go_ret
        exact ⟨true, rfl, ⟨fun _ => HEQ.out, fun _ => rfl⟩, HB.out⟩
  · have g1 : ((l.length : Int) != (l'.length : Int)) = true := by simp; omega
    have HLE : Hid (l ≠ l') := Lib.hid fun e => hl (by rw [e])
    clear hl
    go_enter Try.func60, Try.ntmps60
    go_wp2_with fail
    go_ret
    exact ⟨false, rfl, ⟨fun h => (by cases h), fun h => absurd h HLE.out⟩, Ext.refl _⟩
set_option maxRecDepth 100000 in
set_option maxHeartbeats 6400000 in
theorem same1_any (x y : Cr) (a1 b1 a2 b2 : Option Addr) (n1 m1 n2 m2 : Nat) (w0 w : World) (hw : Ext w0 w) (h1 : RepU w0 x.need (x.need.cells a1 n1)) (h2 : RepU w0 x.bar (x.bar.cells b1 m1)) (h3 : RepU w0 y.need (y.need.cells a2 n2)) (h4 : RepU w0 y.bar (y.bar.cells b2 m2)) : Calls Try.prog 53 #[.agg (x.cells a1 n1 b1 m1).toArray, .agg (y.cells a2 n2 b2 m2).toArray] w (RetEq (x = y) w) := by
  have hX : Ext w ((w.alloc (.cells #[.string x.nm, .int .i64 x.nu, .int .i64 x.cr, .int .i64 x.rp, .int .i64 x.need.op, .int .i64 x.need.co, .string x.need.nm, .int .i64 x.need.n, .int .i64 x.need.d, .slice a1 x.need.kids.length n1, .int .i64 x.bar.op, .int .i64 x.bar.co, .string x.bar.nm, .int .i64 x.bar.n, .int .i64 x.bar.d, .slice b1 x.bar.kids.length m1] 41)).alloc (.cells #[.string y.nm, .int .i64 y.nu, .int .i64 y.cr, .int .i64 y.rp, .int .i64 y.need.op, .int .i64 y.need.co, .string y.need.nm, .int .i64 y.need.n, .int .i64 y.need.d, .slice a2 y.need.kids.length n2, .int .i64 y.bar.op, .int .i64 y.bar.co, .string y.bar.nm, .int .i64 y.bar.n, .int .i64 y.bar.d, .slice b2 y.bar.kids.length m2] 41)) := ((Ext.refl w).alloc _).alloc _
  have HC1 := Lib.hid (sameRule_any h1 h3 ((w.alloc (.cells #[.string x.nm, .int .i64 x.nu, .int .i64 x.cr, .int .i64 x.rp, .int .i64 x.need.op, .int .i64 x.need.co, .string x.need.nm, .int .i64 x.need.n, .int .i64 x.need.d, .slice a1 x.need.kids.length n1, .int .i64 x.bar.op, .int .i64 x.bar.co, .string x.bar.nm, .int .i64 x.bar.n, .int .i64 x.bar.d, .slice b1 x.bar.kids.length m1] 41)).alloc (.cells #[.string y.nm, .int .i64 y.nu, .int .i64 y.cr, .int .i64 y.rp, .int .i64 y.need.op, .int .i64 y.need.co, .string y.need.nm, .int .i64 y.need.n, .int .i64 y.need.d, .slice a2 y.need.kids.length n2, .int .i64 y.bar.op, .int .i64 y.bar.co, .string y.bar.nm, .int .i64 y.bar.n, .int .i64 y.bar.d, .slice b2 y.bar.kids.length m2] 41)) (hw.trans hX))
  have HC2 := Lib.hid (fun V (hV : Ext ((w.alloc (.cells #[.string x.nm, .int .i64 x.nu, .int .i64 x.cr, .int .i64 x.rp, .int .i64 x.need.op, .int .i64 x.need.co, .string x.need.nm, .int .i64 x.need.n, .int .i64 x.need.d, .slice a1 x.need.kids.length n1, .int .i64 x.bar.op, .int .i64 x.bar.co, .string x.bar.nm, .int .i64 x.bar.n, .int .i64 x.bar.d, .slice b1 x.bar.kids.length m1] 41)).alloc (.cells #[.string y.nm, .int .i64 y.nu, .int .i64 y.cr, .int .i64 y.rp, .int .i64 y.need.op, .int .i64 y.need.co, .string y.need.nm, .int .i64 y.need.n, .int .i64 y.need.d, .slice a2 y.need.kids.length n2, .int .i64 y.bar.op, .int .i64 y.bar.co, .string y.bar.nm, .int .i64 y.bar.n, .int .i64 y.bar.d, .slice b2 y.bar.kids.length m2] 41)) V) => sameRule_any h2 h4 V (hw.trans (hX.trans hV)))
  have HX := Lib.hid hX
  have HR1 : Hid (Row ((w.alloc (.cells #[.string x.nm, .int .i64 x.nu, .int .i64 x.cr, .int .i64 x.rp, .int .i64 x.need.op, .int .i64 x.need.co, .string x.need.nm, .int .i64 x.need.n, .int .i64 x.need.d, .slice a1 x.need.kids.length n1, .int .i64 x.bar.op, .int .i64 x.bar.co, .string x.bar.nm, .int .i64 x.bar.n, .int .i64 x.bar.d, .slice b1 x.bar.kids.length m1] 41)).alloc (.cells #[.string y.nm, .int .i64 y.nu, .int .i64 y.cr, .int .i64 y.rp, .int .i64 y.need.op, .int .i64 y.need.co, .string y.need.nm, .int .i64 y.need.n, .int .i64 y.need.d, .slice a2 y.need.kids.length n2, .int .i64 y.bar.op, .int .i64 y.bar.co, .string y.bar.nm, .int .i64 y.bar.n, .int .i64 y.bar.d, .slice b2 y.bar.kids.length m2] 41)) w.heap.size 41 [.string x.nm, .int .i64 x.nu, .int .i64 x.cr, .int .i64 x.rp, .int .i64 x.need.op, .int .i64 x.need.co, .string x.need.nm, .int .i64 x.need.n, .int .i64 x.need.d, .slice a1 x.need.kids.length n1, .int .i64 x.bar.op, .int .i64 x.bar.co, .string x.bar.nm, .int .i64 x.bar.n, .int .i64 x.bar.d, .slice b1 x.bar.kids.length m1]) := Lib.hid (by
    unfold Row
    simp only [heap_al, World.size_alloc]
    all_goals (repeat rw [if_neg (by omega)])
    all_goals rfl)
  have HR2 : Hid (Row ((w.alloc (.cells #[.string x.nm, .int .i64 x.nu, .int .i64 x.cr, .int .i64 x.rp, .int .i64 x.need.op, .int .i64 x.need.co, .string x.need.nm, .int .i64 x.need.n, .int .i64 x.need.d, .slice a1 x.need.kids.length n1, .int .i64 x.bar.op, .int .i64 x.bar.co, .string x.bar.nm, .int .i64 x.bar.n, .int .i64 x.bar.d, .slice b1 x.bar.kids.length m1] 41)).alloc (.cells #[.string y.nm, .int .i64 y.nu, .int .i64 y.cr, .int .i64 y.rp, .int .i64 y.need.op, .int .i64 y.need.co, .string y.need.nm, .int .i64 y.need.n, .int .i64 y.need.d, .slice a2 y.need.kids.length n2, .int .i64 y.bar.op, .int .i64 y.bar.co, .string y.bar.nm, .int .i64 y.bar.n, .int .i64 y.bar.d, .slice b2 y.bar.kids.length m2] 41)) (w.heap.size + 1) 41 [.string y.nm, .int .i64 y.nu, .int .i64 y.cr, .int .i64 y.rp, .int .i64 y.need.op, .int .i64 y.need.co, .string y.need.nm, .int .i64 y.need.n, .int .i64 y.need.d, .slice a2 y.need.kids.length n2, .int .i64 y.bar.op, .int .i64 y.bar.co, .string y.bar.nm, .int .i64 y.bar.n, .int .i64 y.bar.d, .slice b2 y.bar.kids.length m2]) := Lib.hid (by
    unfold Row
    simp only [heap_al, World.size_alloc]
    all_goals (repeat rw [if_neg (by omega)])
    all_goals rfl)
  clear hX h1 h2 h3 h4 hw
  unfold Rt.cells at HC1 HC2
  unfold Cr.cells
  cases hp0 : (x.nm.toList == y.nm.toList) with
  | false =>
    have HN0 := Lib.hid hp0
    go_enter Try.func53, Try.ntmps53
    go_wp2_with fail
    go_ret
    exact ⟨false, rfl, ⟨fun h => (by cases h), fun h => by have h1 := HN0.out; subst h; simp at h1⟩, HX.out⟩
  | true =>
    have HN0 := Lib.hid hp0
    cases hp1 : (x.nu == y.nu) with
    | false =>
      have HN1 := Lib.hid hp1
      go_enter Try.func53, Try.ntmps53
      go_wp2_with fail
      go_ret
      exact ⟨false, rfl, ⟨fun h => (by cases h), fun h => by have h1 := HN1.out; subst h; simp at h1⟩, HX.out⟩
    | true =>
      have HN1 := Lib.hid hp1
      cases hp2 : (x.cr == y.cr) with
      | false =>
        have HN2 := Lib.hid hp2
        go_enter Try.func53, Try.ntmps53
        go_wp2_with fail
        go_ret
        exact ⟨false, rfl, ⟨fun h => (by cases h), fun h => by have h1 := HN2.out; subst h; simp at h1⟩, HX.out⟩
      | true =>
        have HN2 := Lib.hid hp2
        cases hp3 : (x.rp == y.rp) with
        | false =>
          have HN3 := Lib.hid hp3
          go_enter Try.func53, Try.ntmps53
          go_wp2_with fail
          go_ret
          exact ⟨false, rfl, ⟨fun h => (by cases h), fun h => by have h1 := HN3.out; subst h; simp at h1⟩, HX.out⟩
        | true =>
          have HN3 := Lib.hid hp3
          go_enter Try.func53, Try.ntmps53
          go_wp2_with fail
          refine (HC1.out).mono ?_
          rintro e w5 ⟨bb, rfl, hiff, hE⟩
          have HI0 := Lib.hid hiff
          have HB0 := Lib.hid hE
          have HE0 := Lib.hid (HX.out.trans hE)
          clear hiff hE
          cases bb with
          | false =>
            go_wp2_with fail
            go_ret
            exact ⟨false, rfl, ⟨fun h => (by cases h), fun h => by have h1 := HI0.out.2 (by subst h; rfl); cases h1⟩, HE0.out⟩
          | true =>
            have e10 := (HR1.out.kpC HB0.out.kpC).cell (j := 10) rfl
            have e11 := (HR1.out.kpC HB0.out.kpC).cell (j := 11) rfl
            have e12 := (HR1.out.kpC HB0.out.kpC).cell (j := 12) rfl
            have e13 := (HR1.out.kpC HB0.out.kpC).cell (j := 13) rfl
            have e14 := (HR1.out.kpC HB0.out.kpC).cell (j := 14) rfl
            have e15 := (HR1.out.kpC HB0.out.kpC).cell (j := 15) rfl
            have f10 := (HR2.out.kpC HB0.out.kpC).cell (j := 10) rfl
            have f11 := (HR2.out.kpC HB0.out.kpC).cell (j := 11) rfl
            have f12 := (HR2.out.kpC HB0.out.kpC).cell (j := 12) rfl
            have f13 := (HR2.out.kpC HB0.out.kpC).cell (j := 13) rfl
            have f14 := (HR2.out.kpC HB0.out.kpC).cell (j := 14) rfl
            have f15 := (HR2.out.kpC HB0.out.kpC).cell (j := 15) rfl
            go_wp2_with fail
            refine (HC2.out _ HB0.out).mono ?_
            rintro e w6 ⟨bb, rfl, hiff, hE⟩
            have HI1 := Lib.hid hiff
            have HB1 := Lib.hid (HB0.out.trans hE)
            have HE1 := Lib.hid (HE0.out.trans hE)
            clear hiff hE
            cases bb with
            | false =>
              go_wp2_with fail
              go_ret
              exact ⟨false, rfl, ⟨fun h => (by cases h), fun h => by have h1 := HI1.out.2 (by subst h; rfl); cases h1⟩, HE1.out⟩
            | true =>
              go_wp2_with fail
              go_ret
              exact ⟨true, rfl, ⟨fun _ => Cr.ext_iff'.2 ⟨toList_inj' (eq_of_beq HN0.out), eq_of_beq HN1.out, eq_of_beq HN2.out, eq_of_beq HN3.out, HI0.out.1 (by simp), HI1.out.1 (by simp)⟩, fun _ => rfl⟩, HE1.out⟩
set_option maxRecDepth 100000 in
set_option maxHeartbeats 6400000 in
theorem eqfG_any (l l' : List Pg) (rows rows' : List (List Value)) (bt : Nat) (hrl : rows.length = l.length) (hrl' : rows'.length = l'.length) (hc : ∀ (i : Nat) x q, l[i]? = some x → rows[i]? = some q → ∃ a n, q = Pg.cells x a n) (hc' : ∀ (i : Nat) x q, l'[i]? = some x → rows'[i]? = some q → ∃ a n, q = Pg.cells x a n)
    (ao ao' : Option Addr) (cap cap' : Nat) (w : World) (h : SL w 7 ao cap rows) (h' : SL w 7 ao' cap' rows')
    (hf : ∀ (i : Nat) x y q q', l[i]? = some x → l'[i]? = some y → rows[i]? = some q → rows'[i]? = some q' → ∀ W, Ext w W → Calls Try.prog 58 #[.agg q.toArray, .agg q'.toArray, .pointer (some ⟨bt, 0, none⟩)] W (RetEq (x = y) W)) :
    Calls Try.prog 62 #[.slice ao l.length cap, .slice ao' l'.length cap', .func (Fn.func 58) #[] #[.pointer (some ⟨bt, 0, none⟩)]] w (RetEq (l = l') w) := by
  have HL := Lib.hid h
  have HL' := Lib.hid h'
  have HF := Lib.hid hf
  have HRL := Lib.hid (And.intro hrl hrl')
  have HC := Lib.hid (And.intro hc hc')
  have hs1 : (l.length : Int) ≤ 9223372036854775807 := by have := h.max; have := h.le; omega
  have hs2 : (l'.length : Int) ≤ 9223372036854775807 := by have := h'.max; have := h'.le; omega
  clear h h' hf hrl hrl' hc hc'
  by_cases hl : l.length = l'.length
  · have g1 : ((l.length : Int) != (l'.length : Int)) = false := by simp; omega
    have HLE := Lib.hid hl
    clear hl
    go_enter Try.func62, Try.ntmps62
    go_wp2_with fail
    go_loopw [17] (fun iv wr => ∃ k : Nat, iv = .int .i64 k ∧ k ≤ l.length ∧ l.take k = l'.take k ∧ Ext w wr) (fun iv _ => l.length - (intOf iv).toNat)
    case atStart => exact ⟨0, rfl, by omega, by simp, Ext.refl _⟩
    case round =>
      obtain ⟨k, rfl, hk, ht, hB⟩ := hrel
      have HT := Lib.hid ht
      have HB := Lib.hid hB
      clear ht hB
      by_cases hlt : k < l.length
      · have hki : (k : Int) < (l.length : Int) := by omega
        have hk' : k < l'.length := by have := HLE.out; omega
        have hki' : (k : Int) < (l'.length : Int) := by omega
        obtain ⟨x, hx⟩ : ∃ x, l[k]? = some x := ⟨_, List.getElem?_eq_getElem hlt⟩
        obtain ⟨y, hy⟩ : ∃ y, l'[k]? = some y := ⟨_, List.getElem?_eq_getElem hk'⟩
        obtain ⟨q, hq⟩ : ∃ q, rows[k]? = some q := ⟨_, List.getElem?_eq_getElem (by rw [HRL.out.1]; exact hlt)⟩
        obtain ⟨q', hq'⟩ : ∃ q', rows'[k]? = some q' := ⟨_, List.getElem?_eq_getElem (by rw [HRL.out.2]; exact hk')⟩
        have hcall := fun W hW => HF.out k x y q q' hx hy hq hq' W hW
        obtain ⟨a1, n1, rfl⟩ := HC.out.1 k x q hx hq
        obtain ⟨a2, n2, rfl⟩ := HC.out.2 k y q' hy hq'
        obtain ⟨b, o, rfl, hc⟩ := (HL.out.ext HB.out).rowAt' hq (by simp [Pg.cells])
        obtain ⟨b', o', rfl, hd⟩ := (HL'.out.ext HB.out).rowAt' hq' (by simp [Pg.cells])
        have c0 : wr.cell? ⟨b, o + k * 7, none⟩ = some (.string x.nm) := hc 0 _ rfl
        have c1 : wr.cell? ⟨b, o + k * 7 + 1, none⟩ = some (.int .i64 x.nu) := hc 1 _ rfl
        have c2 : wr.cell? ⟨b, o + k * 7 + 2, none⟩ = some (.int .i64 x.us) := hc 2 _ rfl
        have c3 : wr.cell? ⟨b, o + k * 7 + 3, none⟩ = some (.int .i64 x.ea) := hc 3 _ rfl
        have c4 : wr.cell? ⟨b, o + k * 7 + 4, none⟩ = some (.int .i64 x.mn) := hc 4 _ rfl
        have c5 : wr.cell? ⟨b, o + k * 7 + 5, none⟩ = some (.int .i64 x.md) := hc 5 _ rfl
        have c6 : wr.cell? ⟨b, o + k * 7 + 6, none⟩ = some (.slice a1 x.rq.length n1) := hc 6 _ rfl
        have d0 : (wr.alloc (.cells #[.string x.nm, .int .i64 x.nu, .int .i64 x.us, .int .i64 x.ea, .int .i64 x.mn, .int .i64 x.md, .slice a1 x.rq.length n1] 62)).cell? ⟨b', o' + k * 7, none⟩ = some (.string y.nm) := ((Ext.refl wr).alloc _).cell (hd 0 _ rfl)
        have d1 : (wr.alloc (.cells #[.string x.nm, .int .i64 x.nu, .int .i64 x.us, .int .i64 x.ea, .int .i64 x.mn, .int .i64 x.md, .slice a1 x.rq.length n1] 62)).cell? ⟨b', o' + k * 7 + 1, none⟩ = some (.int .i64 y.nu) := ((Ext.refl wr).alloc _).cell (hd 1 _ rfl)
        have d2 : (wr.alloc (.cells #[.string x.nm, .int .i64 x.nu, .int .i64 x.us, .int .i64 x.ea, .int .i64 x.mn, .int .i64 x.md, .slice a1 x.rq.length n1] 62)).cell? ⟨b', o' + k * 7 + 2, none⟩ = some (.int .i64 y.us) := ((Ext.refl wr).alloc _).cell (hd 2 _ rfl)
        have d3 : (wr.alloc (.cells #[.string x.nm, .int .i64 x.nu, .int .i64 x.us, .int .i64 x.ea, .int .i64 x.mn, .int .i64 x.md, .slice a1 x.rq.length n1] 62)).cell? ⟨b', o' + k * 7 + 3, none⟩ = some (.int .i64 y.ea) := ((Ext.refl wr).alloc _).cell (hd 3 _ rfl)
        have d4 : (wr.alloc (.cells #[.string x.nm, .int .i64 x.nu, .int .i64 x.us, .int .i64 x.ea, .int .i64 x.mn, .int .i64 x.md, .slice a1 x.rq.length n1] 62)).cell? ⟨b', o' + k * 7 + 4, none⟩ = some (.int .i64 y.mn) := ((Ext.refl wr).alloc _).cell (hd 4 _ rfl)
        have d5 : (wr.alloc (.cells #[.string x.nm, .int .i64 x.nu, .int .i64 x.us, .int .i64 x.ea, .int .i64 x.mn, .int .i64 x.md, .slice a1 x.rq.length n1] 62)).cell? ⟨b', o' + k * 7 + 5, none⟩ = some (.int .i64 y.md) := ((Ext.refl wr).alloc _).cell (hd 5 _ rfl)
        have d6 : (wr.alloc (.cells #[.string x.nm, .int .i64 x.nu, .int .i64 x.us, .int .i64 x.ea, .int .i64 x.mn, .int .i64 x.md, .slice a1 x.rq.length n1] 62)).cell? ⟨b', o' + k * 7 + 6, none⟩ = some (.slice a2 y.rq.length n2) := ((Ext.refl wr).alloc _).cell (hd 6 _ rfl)
        have HNX := Lib.hid (take_eq_next hx hy HT.out)
        have HNE := Lib.hid (ne_at hx hy)
        have HCALL : Hid (Calls Try.prog 58 #[.agg #[.string x.nm, .int .i64 x.nu, .int .i64 x.us, .int .i64 x.ea, .int .i64 x.mn, .int .i64 x.md, .slice a1 x.rq.length n1], .agg #[.string y.nm, .int .i64 y.nu, .int .i64 y.us, .int .i64 y.ea, .int .i64 y.mn, .int .i64 y.md, .slice a2 y.rq.length n2], .pointer (some ⟨bt, 0, none⟩)] ((wr.alloc (.cells #[.string x.nm, .int .i64 x.nu, .int .i64 x.us, .int .i64 x.ea, .int .i64 x.mn, .int .i64 x.md, .slice a1 x.rq.length n1] 62)).alloc (.cells #[.string y.nm, .int .i64 y.nu, .int .i64 y.us, .int .i64 y.ea, .int .i64 y.mn, .int .i64 y.md, .slice a2 y.rq.length n2] 62)) (RetEq (x = y) ((wr.alloc (.cells #[.string x.nm, .int .i64 x.nu, .int .i64 x.us, .int .i64 x.ea, .int .i64 x.mn, .int .i64 x.md, .slice a1 x.rq.length n1] 62)).alloc (.cells #[.string y.nm, .int .i64 y.nu, .int .i64 y.us, .int .i64 y.ea, .int .i64 y.mn, .int .i64 y.md, .slice a2 y.rq.length n2] 62)))) := Lib.hid (hcall _ ((HB.out.alloc _).alloc _))
        clear hx hy hc hd hcall hq hq'
        go_wp2_with fail
        refine HCALL.out.mono ?_
        rintro e w5 ⟨bb, rfl, hiff, hE5⟩
        have HIFF := Lib.hid hiff
        have HE5 := Lib.hid (((HB.out.alloc _).alloc _).trans hE5)
        clear hiff hE5 c0 d0 c1 d1 c2 d2 c3 d3 c4 d4 c5 d5 c6 d6
        cases bb with
        | true =>
          go_wp2_with fail
          go_roundw
          case rel => exact ⟨k + 1, by go_num, by omega, HNX.out (HIFF.out.1 (by simp)), HE5.out⟩
          case measure => simp [intOf] <;> omega
        | false =>
          go_wp2_with fail
          go_ret
          exact ⟨false, rfl, ⟨fun h => (by cases h), fun h => absurd h (HNE.out (fun e => by have := HIFF.out.2 e; cases this))⟩, HE5.out⟩
      · have hki : ¬ (k : Int) < (l.length : Int) := by omega
        have HEQ : Hid (l = l') := Lib.hid (by
          have h1 := HT.out
          rw [List.take_of_length_le (by omega), List.take_of_length_le (by have := HLE.out; omega)] at h1
          exact h1)
        go_wp2_with fail
        go_ret
        exact ⟨true, rfl, ⟨fun _ => HEQ.out, fun _ => rfl⟩, HB.out⟩
  · have g1 : ((l.length : Int) != (l'.length : Int)) = true := by simp; omega
    have HLE : Hid (l ≠ l') := Lib.hid fun e => hl (by rw [e])
    clear hl
    go_enter Try.func62, Try.ntmps62
    go_wp2_with fail
    go_ret
    exact ⟨false, rfl, ⟨fun h => (by cases h), fun h => absurd h HLE.out⟩, Ext.refl _⟩
set_option maxRecDepth 100000 in
set_option maxHeartbeats 6400000 in
theorem same3_any (x y : Pg) (a1 a2 : Option Addr) (n1 n2 bt : Nat) (w0 w : World) (hw : Ext w0 w) (h1 : RepQ w0 a1 n1 x.rq) (h2 : RepQ w0 a2 n2 y.rq) (ht : w.cell? ⟨bt, 0, none⟩ = some (.func (Fn.func 55) #[] #[])) : Calls Try.prog 58 #[.agg (x.cells a1 n1).toArray, .agg (y.cells a2 n2).toArray, .pointer (some ⟨bt, 0, none⟩)] w (RetEq (x = y) w) := by
  have hX : Ext w ((w.alloc (.cells #[.string x.nm, .int .i64 x.nu, .int .i64 x.us, .int .i64 x.ea, .int .i64 x.mn, .int .i64 x.md, .slice a1 x.rq.length n1] 62)).alloc (.cells #[.string y.nm, .int .i64 y.nu, .int .i64 y.us, .int .i64 y.ea, .int .i64 y.mn, .int .i64 y.md, .slice a2 y.rq.length n2] 62)) := ((Ext.refl w).alloc _).alloc _
  have t0 := hX.cell ht
  obtain ⟨rows, hs, hl, hr⟩ := h1
  obtain ⟨rows', hs', hl', hr'⟩ := h2
  have HC1 := Lib.hid (eqfQ_any x.rq y.rq rows rows' hl hl' (fun i p c h1 h2 => by obtain ⟨na, nc, fa, fc, e, -⟩ := hr i p c h1 h2; exact ⟨na, nc, fa, fc, e⟩) (fun i p c h1 h2 => by obtain ⟨na, nc, fa, fc, e, -⟩ := hr' i p c h1 h2; exact ⟨na, nc, fa, fc, e⟩) a1 a2 n1 n2 ((w.alloc (.cells #[.string x.nm, .int .i64 x.nu, .int .i64 x.us, .int .i64 x.ea, .int .i64 x.mn, .int .i64 x.md, .slice a1 x.rq.length n1] 62)).alloc (.cells #[.string y.nm, .int .i64 y.nu, .int .i64 y.us, .int .i64 y.ea, .int .i64 y.mn, .int .i64 y.md, .slice a2 y.rq.length n2] 62)) (hs.ext (hw.trans hX)) (hs'.ext (hw.trans hX))
    (fun i p p2 c c2 e1 e2 e3 e4 V hV => by
      obtain ⟨na, nc, fa, fc, rfl, g1, g2⟩ := hr i p c e1 e3
      obtain ⟨na2, nc2, fa2, fc2, rfl, g3, g4⟩ := hr' i p2 c2 e2 e4
      have hx := hw.trans (hX.trans hV)
      exact same2_any p p2 _ _ _ _ _ _ _ _ V (g1.ext hx) (g2.ext hx) (g3.ext hx) (g4.ext hx)))
  have HX := Lib.hid hX
  clear hX hw ht hs hl hr hs' hl' hr'
  unfold Pg.cells
  cases hp0 : (x.nm.toList == y.nm.toList) with
  | false =>
    have HN0 := Lib.hid hp0
    go_enter Try.func58, Try.ntmps58
    go_wp2_with fail
    go_ret
    exact ⟨false, rfl, ⟨fun h => (by cases h), fun h => by have h1 := HN0.out; subst h; simp at h1⟩, HX.out⟩
  | true =>
    have HN0 := Lib.hid hp0
    cases hp1 : (x.nu == y.nu) with
    | false =>
      have HN1 := Lib.hid hp1
      go_enter Try.func58, Try.ntmps58
      go_wp2_with fail
      go_ret
      exact ⟨false, rfl, ⟨fun h => (by cases h), fun h => by have h1 := HN1.out; subst h; simp at h1⟩, HX.out⟩
    | true =>
      have HN1 := Lib.hid hp1
      cases hp2 : (x.us == y.us) with
      | false =>
        have HN2 := Lib.hid hp2
        go_enter Try.func58, Try.ntmps58
        go_wp2_with fail
        go_ret
        exact ⟨false, rfl, ⟨fun h => (by cases h), fun h => by have h1 := HN2.out; subst h; simp at h1⟩, HX.out⟩
      | true =>
        have HN2 := Lib.hid hp2
        cases hp3 : (x.ea == y.ea) with
        | false =>
          have HN3 := Lib.hid hp3
          go_enter Try.func58, Try.ntmps58
          go_wp2_with fail
          go_ret
          exact ⟨false, rfl, ⟨fun h => (by cases h), fun h => by have h1 := HN3.out; subst h; simp at h1⟩, HX.out⟩
        | true =>
          have HN3 := Lib.hid hp3
          cases hp4 : ((x.mn == y.mn) && (x.md == y.md)) with
          | false =>
            have he := fun w => (eqMn 9998 x.mn x.md y.mn y.md w).trans (by rw [hp4])
            have HN4 := Lib.hid hp4
            go_enter Try.func58, Try.ntmps58
            go_wp2_with fail
            go_ret
            exact ⟨false, rfl, ⟨fun h => (by cases h), fun h => by have h1 := HN4.out; subst h; simp at h1⟩, HX.out⟩
          | true =>
            have he := fun w => (eqMn 9998 x.mn x.md y.mn y.md w).trans (by rw [hp4])
            have HN4 := Lib.hid hp4
            go_enter Try.func58, Try.ntmps58
            go_wp2_with fail
            refine (HC1.out).mono ?_
            rintro e w5 ⟨bb, rfl, hiff, hE⟩
            have HI0 := Lib.hid hiff
            have HB0 := Lib.hid hE
            have HE0 := Lib.hid (HX.out.trans hE)
            clear hiff hE
            cases bb with
            | false =>
              go_wp2_with fail
              go_ret
              exact ⟨false, rfl, ⟨fun h => (by cases h), fun h => by have h1 := HI0.out.2 (by subst h; rfl); cases h1⟩, HE0.out⟩
            | true =>
              go_wp2_with fail
              go_ret
              exact ⟨true, rfl, ⟨fun _ => Pg.ext_iff'.2 ⟨toList_inj' (eq_of_beq HN0.out), eq_of_beq HN1.out, eq_of_beq HN2.out, eq_of_beq HN3.out, eq_of_beq (Bool.and_eq_true_iff.1 HN4.out).1, eq_of_beq (Bool.and_eq_true_iff.1 HN4.out).2, HI0.out.1 (by simp)⟩, fun _ => rfl⟩, HE0.out⟩
end Go.Proofs.Ytimigpfoflilcaa
