/- Names: rule, the rule with numbers. -/
import Derived.Test.YtimigpfoflilcaaYK
namespace Go.Sz
open Go.RowKit
/-- the three variables of rule -/
def RuleV (W : World) (b : Nat) (t1 t2 : TypeId) (cat rc zr : List Value) : Prop := Row W b t1 cat ∧ Row W (b + 1) t2 rc ∧ Row W (b + 2) t2 zr
theorem RuleV.kpC {A B : World} {b : Nat} {t1 t2 : TypeId} {cat rc zr : List Value} (h : RuleV A b t1 t2 cat rc zr) (hk : KpC A B) : RuleV B b t1 t2 cat rc zr := ⟨h.1.kpC hk, h.2.1.kpC hk, h.2.2.kpC hk⟩
theorem RuleV.kpE {A B : World} {b g : Nat} {t1 t2 : TypeId} {cat rc zr : List Value} (h : RuleV A b t1 t2 cat rc zr) (hk : KpE g A B) (hg : b + 2 < g) : RuleV B b t1 t2 cat rc zr := ⟨h.1.kpE hk (by omega), h.2.1.kpE hk (by omega), h.2.2.kpE hk (by omega)⟩
theorem RuleV.put {A : World} {b : Nat} {t1 t2 : TypeId} {cat rc zr : List Value} (h : RuleV A b t1 t2 cat rc zr) (o : Nat) (v : Value) : RuleV (A.setCell ⟨b + 1, o, none⟩ v) b t1 t2 cat (rc.set o v) zr :=
  ⟨(heap_setCell_far _ _ _ _ (by show b ≠ b + 1; omega)).trans h.1, h.2.1.set1 o v, (heap_setCell_far _ _ _ _ (by show b + 2 ≠ b + 1; omega)).trans h.2.2⟩
theorem grown_kpE {A B : World} {g : Nat} (h : A.grownBy B (some g)) : KpE g A B := ⟨h.size, fun b o hb h1 _ => (h.block b (Array.getElem?_eq_some_iff.1 h1).1 (fun e => hb (by cases e; rfl))).trans h1⟩
theorem take_snoc' {α : Type} {l : List α} {m : Nat} {x : α} (h : l[m]? = some x) : l.take (m + 1) = l.take m ++ [x] := by rw [List.take_add_one, h]; rfl
theorem drop_at {α : Type} {l : List α} {m : Nat} {x : α} (h : l[m]? = some x) : l.drop m = x :: l.drop (m + 1) := by
  obtain ⟨hm, e⟩ := List.getElem?_eq_some_iff.1 h
  rw [List.drop_eq_getElem_cons hm, e]
theorem split_at {α : Type} {l : List α} {m : Nat} {x : α} (h : l[m]? = some x) : l = l.take m ++ x :: l.drop (m + 1) := by rw [← drop_at h, List.take_append_drop]
theorem RepC.oks {w : World} {ao : Option Addr} {cap : Nat} {l : List Cr} (h : RepC w ao cap l) : ∀ c ∈ l, c.ok := fun c hc => by
  obtain ⟨i, hi⟩ := List.getElem?_of_mem hc
  obtain ⟨-, -, -, -, -, -, -, -, -, -, -, h3, -⟩ := h.at hi
  exact h3
end Go.Sz
namespace Go.Proofs.Ytimigpfoflilcaa
open Go.RowKit Go.Sz
set_option maxRecDepth 100000 in
set_option maxHeartbeats 6400000 in
theorem rule_any {l : List Cr} {w0 : World} {r : Rt} {c : List Value} (h : RepU w0 r c) : ∀ (ao : Option Addr) (cap : Nat) (v1 v2 v3 v4 v5 v6 : Value) (w : World), Ext w0 w → RepC w ao cap l → r.parts.length ≤ 100000 →
    Calls Try.prog 47 #[.agg #[.slice ao l.length cap, v1, v2, v3, v4, v5, v6], .agg c.toArray] w (rulePost (r.res l) w) := by
  induction h with
  | mk r ka kc rows hs hl hk ho ih =>
    intro ao cap v1 v2 v3 v4 v5 v6 w hw hR hb
    have hX : Ext w (((w.alloc (.cells #[.slice ao l.length cap, v1, v2, v3, v4, v5, v6] 29)).alloc (.cells #[.int .i64 r.op, .int .i64 r.co, .string r.nm, .int .i64 r.n, .int .i64 r.d, .slice ka r.kids.length kc] 39)).alloc (.cells #[.int .i64 0, .int .i64 0, .string ⟨#[]⟩, .int .i64 0, .int .i64 0, .slice none 0 0] 39)) := (((Ext.refl w).alloc _).alloc _).alloc _
    have hV : RuleV (((w.alloc (.cells #[.slice ao l.length cap, v1, v2, v3, v4, v5, v6] 29)).alloc (.cells #[.int .i64 r.op, .int .i64 r.co, .string r.nm, .int .i64 r.n, .int .i64 r.d, .slice ka r.kids.length kc] 39)).alloc (.cells #[.int .i64 0, .int .i64 0, .string ⟨#[]⟩, .int .i64 0, .int .i64 0, .slice none 0 0] 39)) w.heap.size 29 39 [.slice ao l.length cap, v1, v2, v3, v4, v5, v6] [.int .i64 r.op, .int .i64 r.co, .string r.nm, .int .i64 r.n, .int .i64 r.d, .slice ka r.kids.length kc] [.int .i64 0, .int .i64 0, .string ⟨#[]⟩, .int .i64 0, .int .i64 0, .slice none 0 0] := by
      refine ⟨?_, ?_, ?_⟩
      all_goals
        unfold Row
        simp only [heap_al, World.size_alloc]
        all_goals (repeat rw [if_neg (by omega)])
        all_goals rfl
    have HV := Lib.hid hV
    have HX := Lib.hid hX
    have HW := Lib.hid hw
    have HR := Lib.hid hR
    have HB := Lib.hid hb
    have HIH := Lib.hid ih
    have HK := Lib.hid hk
    have HS := Lib.hid hs
    have HL := Lib.hid hl
    have HO := Lib.hid ho
    have HRE := Lib.hid (Rt.res_eq l r)
    have HNA := Lib.hid (number_any l r.nm r.co ao cap v1 v2 v3 v4 v5 v6 (((w.alloc (.cells #[.slice ao l.length cap, v1, v2, v3, v4, v5, v6] 29)).alloc (.cells #[.int .i64 r.op, .int .i64 r.co, .string r.nm, .int .i64 r.n, .int .i64 r.d, .slice ka r.kids.length kc] 39)).alloc (.cells #[.int .i64 0, .int .i64 0, .string ⟨#[]⟩, .int .i64 0, .int .i64 0, .slice none 0 0] 39)) (hR.ext hX))
    have x0 : (((w.alloc (.cells #[.slice ao l.length cap, v1, v2, v3, v4, v5, v6] 29)).alloc (.cells #[.int .i64 r.op, .int .i64 r.co, .string r.nm, .int .i64 r.n, .int .i64 r.d, .slice ka r.kids.length kc] 39)).alloc (.cells #[.int .i64 0, .int .i64 0, .string ⟨#[]⟩, .int .i64 0, .int .i64 0, .slice none 0 0] 39)).cell? ⟨w.heap.size + 1, 0, none⟩ = some (.int .i64 r.op) := hV.2.1.cell rfl
    have x1 : (((w.alloc (.cells #[.slice ao l.length cap, v1, v2, v3, v4, v5, v6] 29)).alloc (.cells #[.int .i64 r.op, .int .i64 r.co, .string r.nm, .int .i64 r.n, .int .i64 r.d, .slice ka r.kids.length kc] 39)).alloc (.cells #[.int .i64 0, .int .i64 0, .string ⟨#[]⟩, .int .i64 0, .int .i64 0, .slice none 0 0] 39)).cell? ⟨w.heap.size + 1, 1, none⟩ = some (.int .i64 r.co) := hV.2.1.cell rfl
    have x2 : (((w.alloc (.cells #[.slice ao l.length cap, v1, v2, v3, v4, v5, v6] 29)).alloc (.cells #[.int .i64 r.op, .int .i64 r.co, .string r.nm, .int .i64 r.n, .int .i64 r.d, .slice ka r.kids.length kc] 39)).alloc (.cells #[.int .i64 0, .int .i64 0, .string ⟨#[]⟩, .int .i64 0, .int .i64 0, .slice none 0 0] 39)).cell? ⟨w.heap.size + 1, 2, none⟩ = some (.string r.nm) := hV.2.1.cell rfl
    have x5 : (((w.alloc (.cells #[.slice ao l.length cap, v1, v2, v3, v4, v5, v6] 29)).alloc (.cells #[.int .i64 r.op, .int .i64 r.co, .string r.nm, .int .i64 r.n, .int .i64 r.d, .slice ka r.kids.length kc] 39)).alloc (.cells #[.int .i64 0, .int .i64 0, .string ⟨#[]⟩, .int .i64 0, .int .i64 0, .slice none 0 0] 39)).cell? ⟨w.heap.size + 1, 5, none⟩ = some (.slice ka r.kids.length kc) := hV.2.1.cell rfl
    have hks : (r.kids.length : Int) ≤ 9223372036854775807 := by have := hs.max; have := hs.le; rw [hl] at this; omega
    clear hX hV hw hR hb ih hk hs hl ho
    rcases (show ((r.op == 5) = true) ∨ ((r.op == 5) = false ∧ (r.op == 6) = true) ∨ ((r.op == 5) = false ∧ (r.op == 6) = false ∧ (r.op == 9) = true) ∨ ((r.op == 5) = false ∧ (r.op == 6) = false ∧ (r.op == 9) = false) by cases (r.op == 5) <;> cases (r.op == 6) <;> cases (r.op == 9) <;> simp) with h5 | ⟨h5, h6⟩ | ⟨h5, h6, h9⟩ | ⟨h5, h6, h9⟩
    · have HN : Hid (r.num l = numR l r.nm r.co) := Lib.hid (by unfold Rt.num; simp [h5])
      unfold Rt.cells
      go_enter Try.func47, Try.ntmps47
      cases hnr : numR l r.nm r.co with
      | none =>
        rw [hnr] at HNA HN
        go_wp2_with fail
        refine HNA.out.mono ?_
        rintro e w2 ⟨rfl, hE2⟩
        exact ⟨rfl, by rw [HRE.out, HN.out]; exact ⟨rfl, HX.out.trans hE2⟩⟩
      | some c0 =>
        rw [hnr] at HNA HN
        clear hnr
        go_wp2_with fail
        refine HNA.out.mono ?_
        rintro e w2 ⟨rfl, hE2⟩
        have hv2 := HV.out.kpC hE2.kpC
        have y1 := hv2.2.1.cell (j := 1) rfl
        have z1 := hv2.2.1.froz 1
        have y5 := hv2.2.1.cell (j := 5) rfl
        have HV2 := Lib.hid hv2
        have HE2 := Lib.hid hE2
        clear hv2 hE2 x0 x1 x2 x5
        go_wp2_with fail
        clear y1 z1 y5
        have HV5 : Hid (RuleV (w2.setCell ⟨w.heap.size + 1, 1, none⟩ (.int .i64 c0)) w.heap.size 29 39 [.slice ao l.length cap, v1, v2, v3, v4, v5, v6] [.int .i64 r.op, .int .i64 c0, .string r.nm, .int .i64 r.n, .int .i64 r.d, .slice ka r.kids.length kc] [.int .i64 0, .int .i64 0, .string ⟨#[]⟩, .int .i64 0, .int .i64 0, .slice none 0 0]) := Lib.hid (HV2.out.put 1 (.int .i64 c0))
        have HE5 := Lib.hid ((HX.out.trans HE2.out).setCell (p := ⟨w.heap.size + 1, 1, none⟩) (by show w.heap.size ≤ w.heap.size + 1; omega) (.int .i64 c0))
        clear HV2 HE2 HV HX HNA
        generalize w2.setCell ⟨w.heap.size + 1, 1, none⟩ (.int .i64 c0) = W5 at *
        have hE05 := HW.out.trans HE5.out
        have hones : ∀ q ∈ rows, ∀ u ∈ q, u.oneCell' = true := fun q hq => by
          obtain ⟨i, hi⟩ := List.getElem?_of_mem hq
          have hlt := (List.getElem?_eq_some_iff.1 hi).1
          exact (HK.out i r.kids[i] q (List.getElem?_eq_getElem (by rw [← HL.out]; exact hlt)) hi).one
        have hcl := cloneR_any rows ka kc W5 (HS.out.ext hE05) hones (by rw [HL.out]; exact Nat.le_trans (kids_len r) HB.out)
        rw [HL.out] at hcl
        clear hones hE05
        refine hcl.mono ?_
        clear hcl
        rintro e w6 ⟨v, rfl, ho6, hE6⟩
        obtain ⟨a2, c2, rfl⟩ := ownsRow_slice ho6
        have hv6 := HV5.out.kpC hE6.kpC
        have y5 := hv6.2.1.cell (j := 5) rfl
        have z5 := hv6.2.1.froz 5
        have HSZ : Hid (w.heap.size + 3 ≤ W5.heap.size) := Lib.hid (by have := (Array.getElem?_eq_some_iff.1 HV5.out.2.2).1; omega)
        have HO6 := Lib.hid ho6
        have HE6 := Lib.hid hE6
        have HE6s := Lib.hid hE6.size
        have HV7 := Lib.hid (hv6.put 5 (.slice a2 r.kids.length c2))
        have HO7 := Lib.hid (own_far (q := ⟨w.heap.size + 1, 5, none⟩) (u := .slice a2 r.kids.length c2) ho6 (by have := HSZ.out; show w.heap.size + 1 < W5.heap.size; omega))
        have HE7 := Lib.hid ((HE5.out.trans hE6).setCell (p := ⟨w.heap.size + 1, 5, none⟩) (by show w.heap.size ≤ w.heap.size + 1; omega) (.slice a2 r.kids.length c2))
        clear hv6 ho6 hE6
        go_wp2_with fail
        clear y5 z5 HO6 HE6
        replace HV7 : Hid (RuleV (w6.setCell ⟨w.heap.size + 1, 5, none⟩ (.slice a2 r.kids.length c2)) w.heap.size 29 39 [.slice ao l.length cap, v1, v2, v3, v4, v5, v6] [.int .i64 r.op, .int .i64 c0, .string r.nm, .int .i64 r.n, .int .i64 r.d, .slice a2 r.kids.length c2] [.int .i64 0, .int .i64 0, .string ⟨#[]⟩, .int .i64 0, .int .i64 0, .slice none 0 0]) := HV7
        have HW57 : Hid (W5.heap.size ≤ (w6.setCell ⟨w.heap.size + 1, 5, none⟩ (.slice a2 r.kids.length c2)).heap.size) := Lib.hid (by simpa using HE6s.out)
        generalize w6.setCell ⟨w.heap.size + 1, 5, none⟩ (.slice a2 r.kids.length c2) = W7 at *
        go_loopw [27] (fun iv wr => ∃ (m : Nat) (xs : List Rt) (cs : List (List Value)), iv = .int .i64 m ∧ m ≤ r.kids.length ∧ RuleV wr w.heap.size 29 39 [.slice ao l.length cap, v1, v2, v3, v4, v5, v6] [.int .i64 r.op, .int .i64 c0, .string r.nm, .int .i64 r.n, .int .i64 r.d, .slice a2 r.kids.length c2] [.int .i64 0, .int .i64 0, .string ⟨#[]⟩, .int .i64 0, .int .i64 0, .slice none 0 0] ∧ wr.ownsRow W5.heap.size 39 6 (.slice a2 r.kids.length c2) r.kids.length (cs ++ rows.drop m).flatten ∧ Ext w wr ∧ W7.heap.size ≤ wr.heap.size ∧ (resL l (r.kids.take m) = some xs ∧ xs.length = m ∧ cs.length = m ∧ ∀ (i : Nat) x c, xs[i]? = some x → cs[i]? = some c → RepN W7.heap.size wr x c)) (fun iv _ => r.kids.length - (intOf iv).toNat)
        case atStart => exact ⟨0, [], [], rfl, by omega, HV7.out, by simpa using HO7.out, HE7.out, Nat.le_refl _, by rw [List.take_zero, resL], rfl, rfl, fun i x c h => by simp at h⟩
        case round =>
          obtain ⟨m, xs, cs, rfl, hm, hV, hO, hE, hS, hP⟩ := hrel
          have HV8 := Lib.hid hV
          have HO8 := Lib.hid hO
          have HE8 := Lib.hid hE
          have HS8 := Lib.hid hS
          have HP8 := Lib.hid hP
          clear hV hO hE hS hP
          by_cases hlt : m < r.kids.length
          · have hki : (m : Int) < (r.kids.length : Int) := by omega
            obtain ⟨k, hk⟩ : ∃ k, r.kids[m]? = some k := ⟨_, List.getElem?_eq_getElem hlt⟩
            obtain ⟨cc, hcc⟩ : ∃ cc, rows[m]? = some cc := ⟨_, List.getElem?_eq_getElem (by rw [HL.out]; exact hlt)⟩
            obtain ⟨ka', kc', rfl, -, -⟩ := (HK.out m k cc hk hcc).out
            obtain ⟨g, cap', rest, ev, hgD, hrw, hgc, hgm, hgl⟩ := Row.of_own HO8.out (by omega)
            cases ev
            have HG7 : Hid (g < W7.heap.size) := Lib.hid (by
              obtain ⟨g2, cap2, rest2, ev2, -, hrw2, -⟩ := Row.of_own HO7.out (by omega)
              cases ev2
              exact (Array.getElem?_eq_some_iff.1 hrw2).1)
            have hwd : ∀ q ∈ cs ++ rows.drop m, q.length = 6 := fun q hq => by
              rcases List.mem_append.1 hq with hq | hq
              · obtain ⟨i, hi⟩ := List.getElem?_of_mem hq
                have hil := (List.getElem?_eq_some_iff.1 hi).1
                obtain ⟨x, hx⟩ : ∃ x, xs[i]? = some x := ⟨_, List.getElem?_eq_getElem (by rw [HP8.out.2.1, ← HP8.out.2.2.1]; exact hil)⟩
                exact (HP8.out.2.2.2 i x q hx hi).len
              · exact SL.wid HS.out q (List.mem_of_mem_drop hq)
            have hmid : (cs ++ rows.drop m)[m]? = some (k.cells ka' kc') := by
              rw [List.getElem?_append_right (by rw [HP8.out.2.2.1]; exact Nat.le_refl _), HP8.out.2.2.1, Nat.sub_self, List.getElem?_drop]
              exact hcc
            have hsl := hrw.sl hwd (by rw [List.length_append, HP8.out.2.2.1, List.length_drop, HL.out]; omega) hgm hgl
            have hcell : ∀ (j : Nat) (v : Value), (k.cells ka' kc')[j]? = some v → wr.cell? ⟨g, m * 6 + j, none⟩ = some v := fun j v hj => by
              obtain ⟨b', o', e, hw⟩ := hsl.cells m j _ _ hmid hj
              cases e
              simpa using hw
            have d0 : wr.cell? ⟨g, m * 6, none⟩ = some (.int .i64 k.op) := hcell 0 _ rfl
            have d1 : wr.cell? ⟨g, m * 6 + 1, none⟩ = some (.int .i64 k.co) := hcell 1 _ rfl
            have d2 : wr.cell? ⟨g, m * 6 + 2, none⟩ = some (.string k.nm) := hcell 2 _ rfl
            have d3 : wr.cell? ⟨g, m * 6 + 3, none⟩ = some (.int .i64 k.n) := hcell 3 _ rfl
            have d4 : wr.cell? ⟨g, m * 6 + 4, none⟩ = some (.int .i64 k.d) := hcell 4 _ rfl
            have d5 : wr.cell? ⟨g, m * 6 + 5, none⟩ = some (.slice ka' k.kids.length kc') := hcell 5 _ rfl
            have HKI := Lib.hid (HIH.out m k _ hk hcc)
            have HKB := Lib.hid (Nat.le_trans (kid_parts (List.mem_of_getElem? hk)) HB.out)
            have HRW := Lib.hid hrw
            have HWD := Lib.hid hwd
            have HMD := Lib.hid hmid
            have HGD := Lib.hid (And.intro hgD (And.intro hgl (And.intro hgc hgm)))
            have HTS := Lib.hid (take_snoc' hk)
            have HCC := Lib.hid hcc
            have HSP := Lib.hid (split_at hk)
            clear hrw hwd hmid hsl hcell hgD hgl hgm hgc hk hcc
            go_wp2_with fail
            clear d0 d1 d2 d3 d4 d5
            have hxb : Ext wr (wr.alloc (.cells #[.int .i64 k.op, .int .i64 k.co, .string k.nm, .int .i64 k.n, .int .i64 k.d, .slice ka' k.kids.length kc'] 39)) := (Ext.refl wr).alloc _
            have HXB := Lib.hid hxb
            have HNB := Lib.hid (show Row (wr.alloc (.cells #[.int .i64 k.op, .int .i64 k.co, .string k.nm, .int .i64 k.n, .int .i64 k.d, .slice ka' k.kids.length kc'] 39)) wr.heap.size 39 [.int .i64 k.op, .int .i64 k.co, .string k.nm, .int .i64 k.n, .int .i64 k.d, .slice ka' k.kids.length kc'] from World.alloc_heap_new wr _)
            clear hxb
            have HCELL : Hid (∀ W, (RuleV W w.heap.size 29 39 [.slice ao l.length cap, v1, v2, v3, v4, v5, v6] [.int .i64 r.op, .int .i64 c0, .string r.nm, .int .i64 r.n, .int .i64 r.d, .slice (some ⟨g, 0, none⟩) r.kids.length c2] [.int .i64 0, .int .i64 0, .string ⟨#[]⟩, .int .i64 0, .int .i64 0, .slice none 0 0] ∧ Row W wr.heap.size 39 [.int .i64 k.op, .int .i64 k.co, .string k.nm, .int .i64 k.n, .int .i64 k.d, .slice ka' k.kids.length kc']) → W.cell? ⟨w.heap.size, 0, none⟩ = some (.slice ao l.length cap) ∧ W.cell? ⟨w.heap.size, 1, none⟩ = some v1 ∧ W.cell? ⟨w.heap.size, 2, none⟩ = some v2 ∧ W.cell? ⟨w.heap.size, 3, none⟩ = some v3 ∧ W.cell? ⟨w.heap.size, 4, none⟩ = some v4 ∧ W.cell? ⟨w.heap.size, 5, none⟩ = some v5 ∧ W.cell? ⟨w.heap.size, 6, none⟩ = some v6 ∧ W.cell? ⟨w.heap.size + 1, 5, none⟩ = some (.slice (some ⟨g, 0, none⟩) r.kids.length c2) ∧
                W.cell? ⟨wr.heap.size, 0, none⟩ = some (.int .i64 k.op) ∧ W.cell? ⟨wr.heap.size, 1, none⟩ = some (.int .i64 k.co) ∧ W.cell? ⟨wr.heap.size, 2, none⟩ = some (.string k.nm) ∧ W.cell? ⟨wr.heap.size, 3, none⟩ = some (.int .i64 k.n) ∧ W.cell? ⟨wr.heap.size, 4, none⟩ = some (.int .i64 k.d) ∧ W.cell? ⟨wr.heap.size, 5, none⟩ = some (.slice ka' k.kids.length kc')) := Lib.hid fun W h => ⟨h.1.1.cell rfl, h.1.1.cell rfl, h.1.1.cell rfl, h.1.1.cell rfl, h.1.1.cell rfl, h.1.1.cell rfl, h.1.1.cell rfl, h.1.2.1.cell rfl, h.2.cell rfl, h.2.cell rfl, h.2.cell rfl, h.2.cell rfl, h.2.cell rfl, h.2.cell rfl⟩
            refine wp_region_held_drew (S := fun W => RuleV W w.heap.size 29 39 [.slice ao l.length cap, v1, v2, v3, v4, v5, v6] [.int .i64 r.op, .int .i64 c0, .string r.nm, .int .i64 r.n, .int .i64 r.d, .slice (some ⟨g, 0, none⟩) r.kids.length c2] [.int .i64 0, .int .i64 0, .string ⟨#[]⟩, .int .i64 0, .int .i64 0, .slice none 0 0] ∧ Row W wr.heap.size 39 [.int .i64 k.op, .int .i64 k.co, .string k.nm, .int .i64 k.n, .int .i64 k.d, .slice ka' k.kids.length kc']) (by kernel_rfl) ⟨HV8.out.kpC (HXB.out.trans (Ext.refl _).drew).kpC, HNB.out.kpC (Ext.refl _).drew.kpC⟩ (fun hHeld => ?_)
            refine wpAnyH_take (i := 0) (oi := ?oi1) (v := ?v1) ?hi1 (by kernel_rfl) (by kernel_rfl) (by kernel_rfl) ?hQ1 (Or.inl ⟨?hw1, ?hy1⟩) hHeld ?rest1
            case hi1 =>
              simp only [List.getElem?_toArray, List.getElem?_cons_zero] <;> rfl
            case hQ1 => exact fun _ _ _ h => h
            case hw1 => rfl
            case hy1 =>
              intro wS hSw
              obtain ⟨k0, k1, k2, k3, k4, k5, k6, y5, e0, e1, e2, e3, e4, e5⟩ := HCELL.out wS hSw
              go_simp
              first | done | with_reducible rfl | rfl
            simp only [Act.put, List.setIfInBounds_toArray, List.set_cons_zero, List.set_cons_succ]
            refine wpAnyH_take (i := 1) (oi := ?oi2) (v := ?v2) ?hi2 (by kernel_rfl) (by kernel_rfl) (by kernel_rfl) ?hQ2 (Or.inl ⟨?hw2, ?hy2⟩) hHeld ?rest2
            case hi2 =>
              simp only [List.getElem?_toArray, List.getElem?_cons_succ, List.getElem?_cons_zero] <;> rfl
            case hQ2 => exact fun _ _ _ h => h
            case hw2 => rfl
            case hy2 =>
              intro wS hSw
              obtain ⟨k0, k1, k2, k3, k4, k5, k6, y5, e0, e1, e2, e3, e4, e5⟩ := HCELL.out wS hSw
              go_simp
              first | done | with_reducible rfl | rfl
            simp only [Act.put, List.setIfInBounds_toArray, List.set_cons_zero, List.set_cons_succ]
            refine wpAnyH_take (i := 2) (oi := ?oi3) (v := ?v3) ?hi3 (by kernel_rfl) (by kernel_rfl) (by kernel_rfl) ?hQ3 (Or.inl ⟨?hw3, ?hy3⟩) hHeld ?rest3
            case hi3 =>
              simp only [List.getElem?_toArray, List.getElem?_cons_succ, List.getElem?_cons_zero] <;> rfl
            case hQ3 => exact fun _ _ _ h => h
            case hw3 => rfl
            case hy3 =>
              intro wS hSw
              obtain ⟨k0, k1, k2, k3, k4, k5, k6, y5, e0, e1, e2, e3, e4, e5⟩ := HCELL.out wS hSw
              go_simp
              first | done | with_reducible rfl | rfl
            simp only [Act.put, List.setIfInBounds_toArray, List.set_cons_zero, List.set_cons_succ]
            refine wpAnyH_take (i := 3) (oi := ?oi4) (v := ?v4) ?hi4 (by kernel_rfl) (by kernel_rfl) (by kernel_rfl) ?hQ4 (Or.inl ⟨?hw4, ?hy4⟩) hHeld ?rest4
            case hi4 =>
              simp only [List.getElem?_toArray, List.getElem?_cons_succ, List.getElem?_cons_zero] <;> rfl
            case hQ4 => exact fun _ _ _ h => h
            case hw4 => rfl
            case hy4 =>
              intro wS hSw
              obtain ⟨k0, k1, k2, k3, k4, k5, k6, y5, e0, e1, e2, e3, e4, e5⟩ := HCELL.out wS hSw
              go_simp
              first | done | with_reducible rfl | rfl
            simp only [Act.put, List.setIfInBounds_toArray, List.set_cons_zero, List.set_cons_succ]
            refine wpAnyH_take (i := 4) (oi := ?oi5) (v := ?v5) ?hi5 (by kernel_rfl) (by kernel_rfl) (by kernel_rfl) ?hQ5 (Or.inl ⟨?hw5, ?hy5⟩) hHeld ?rest5
            case hi5 =>
              simp only [List.getElem?_toArray, List.getElem?_cons_succ, List.getElem?_cons_zero] <;> rfl
            case hQ5 => exact fun _ _ _ h => h
            case hw5 => rfl
            case hy5 =>
              intro wS hSw
              obtain ⟨k0, k1, k2, k3, k4, k5, k6, y5, e0, e1, e2, e3, e4, e5⟩ := HCELL.out wS hSw
              go_simp
              first | done | with_reducible rfl | rfl
            simp only [Act.put, List.setIfInBounds_toArray, List.set_cons_zero, List.set_cons_succ]
            cases hkr : k.res l with
            | none =>
              refine wpAnyH_ready (rs := [5]) (by kernel_rfl) (by simp) ?_
              refine AllReadyH.cons rfl (fun K hK => ?_) AllReadyH.nil
              go_simp
              go_at_call 47
              refine (HKI.out ao cap v1 v2 v3 v4 v5 v6 _ (HW.out.trans (HE8.out.trans (HXB.out.trans (Ext.refl _).drew))) (HR.out.ext (HE8.out.trans (HXB.out.trans (Ext.refl _).drew))) HKB.out).mono ?_
              rw [hkr]
              rintro e w9 ⟨rfl, hE9⟩
              refine ⟨rfl, ?_⟩
              rw [HRE.out, HN.out]
              have hbad : resL l r.kids = none := by rw [HSP.out]; exact resL_bad hkr
              simp only [Option.bind_some, hbad, Option.map_none]
              exact ⟨rfl, HE8.out.trans (HXB.out.trans ((Ext.refl _).drew.trans hE9))⟩
            | some k' =>
              refine wpAnyH_ready (rs := [5]) (by kernel_rfl) (by simp) ?_
              refine AllReadyH.cons rfl (fun K hK => ?_) AllReadyH.nil
              go_simp
              go_at_call 47
              refine (HKI.out ao cap v1 v2 v3 v4 v5 v6 _ (HW.out.trans (HE8.out.trans (HXB.out.trans (Ext.refl _).drew))) (HR.out.ext (HE8.out.trans (HXB.out.trans (Ext.refl _).drew))) HKB.out).mono ?_
              rw [hkr]
              have HKR := Lib.hid hkr
              clear hkr
              rintro e w9 ⟨⟨a3, c3, rfl, hN9⟩, hE9⟩
              refine hK.out _ _ ⟨hHeld.1.kpC hE9.kpC, hHeld.2.kpC hE9.kpC⟩ (fun hHeld => ?_)
              clear hK K
              have HN9 := Lib.hid hN9
              have HE99 := Lib.hid hE9
              have HE9 := Lib.hid (HXB.out.trans ((Ext.refl _).drew.trans hE9))
              have HRW9 := Lib.hid (HRW.out.kpC HE9.out.kpC)
              clear hN9 hE9
              unfold Rt.cells
              try simp only [Act.put, List.setIfInBounds_toArray, List.set_cons_zero, List.set_cons_succ]
              refine wpAnyH_take (i := 6) (oi := ?oi6) (v := ?v6) ?hi6 (by kernel_rfl) (by kernel_rfl) (by kernel_rfl) ?hQ6 (Or.inl ⟨?hw6, ?hy6⟩) hHeld ?rest6
              case hi6 =>
                simp only [List.getElem?_toArray, List.getElem?_cons_succ, List.getElem?_cons_zero] <;> rfl
              case hQ6 => exact fun _ _ _ h => h
              case hw6 => rfl
              case hy6 =>
                intro wS hSw
                obtain ⟨k0, k1, k2, k3, k4, k5, k6, y5, e0, e1, e2, e3, e4, e5⟩ := HCELL.out wS hSw
                go_simp
                first | done | with_reducible rfl | rfl
              simp only [Act.put, List.setIfInBounds_toArray, List.set_cons_zero, List.set_cons_succ]
              refine wpAnyH_ready (rs := [7]) (by kernel_rfl) (by simp) ?_
              refine AllReadyH.cons rfl (fun K hK => ?_) AllReadyH.nil
              rw [if_pos (by rfl)]
              refine wp_store_mid _ _ _ rfl g (m * 6) _ rfl rfl (HRW9.out.there (by have h1 := HGD.out.2.1; have h2 := HGD.out.2.2.1; rw [h1]; show m * 6 + 6 ≤ c2 * 6; omega)) (by kernel_rfl) (by simp [Value.oneCell']) ?_
              have hgr := setCells_grown g [Value.int .i64 k'.op, Value.int .i64 k'.co, Value.string k'.nm, Value.int .i64 k'.n, Value.int .i64 k'.d, Value.slice a3 k'.kids.length c3] w9 (m * 6)
              have hke := grown_kpE hgr
              have hgw : g < wr.heap.size := (Array.getElem?_eq_some_iff.1 HRW.out).1
              have hg3 : w.heap.size + 2 < g := by have h1 := HGD.out.1; have h2 := HSZ.out; omega
              have HRW10 := HRW9.out.set (vs := [Value.int .i64 k'.op, Value.int .i64 k'.co, Value.string k'.nm, Value.int .i64 k'.n, Value.int .i64 k'.d, Value.slice a3 k'.kids.length c3]) (o := m * 6) (by have h1 := HGD.out.2.1; have h2 := HGD.out.2.2.1; rw [h1]; show m * 6 + 6 ≤ c2 * 6; omega)
              have hrow10 : Row (w9.setCells g (m * 6) [Value.int .i64 k'.op, Value.int .i64 k'.co, Value.string k'.nm, Value.int .i64 k'.n, Value.int .i64 k'.d, Value.slice a3 k'.kids.length c3]) g 39 (((cs ++ [[Value.int .i64 k'.op, Value.int .i64 k'.co, Value.string k'.nm, Value.int .i64 k'.n, Value.int .i64 k'.d, Value.slice a3 k'.kids.length c3]]) ++ rows.drop (m + 1)).flatten ++ rest) := by
                have h1 := flat_set (k := 6) (rest := rest) (vs := [Value.int .i64 k'.op, Value.int .i64 k'.co, Value.string k'.nm, Value.int .i64 k'.n, Value.int .i64 k'.d, Value.slice a3 k'.kids.length c3]) (j := 0) (by simp) (cs ++ rows.drop m) m _ HMD.out HWD.out
                rw [Nat.add_zero] at h1
                rw [h1, drop_at HCC.out, set_mid HP8.out.2.2.1] at HRW10
                have e : (k.cells ka' kc').take 0 ++ [Value.int .i64 k'.op, Value.int .i64 k'.co, Value.string k'.nm, Value.int .i64 k'.n, Value.int .i64 k'.d, Value.slice a3 k'.kids.length c3] ++ (k.cells ka' kc').drop (0 + [Value.int .i64 k'.op, Value.int .i64 k'.co, Value.string k'.nm, Value.int .i64 k'.n, Value.int .i64 k'.d, Value.slice a3 k'.kids.length c3].length) = [Value.int .i64 k'.op, Value.int .i64 k'.co, Value.string k'.nm, Value.int .i64 k'.n, Value.int .i64 k'.d, Value.slice a3 k'.kids.length c3] := rfl
                rw [e] at HRW10
                exact HRW10
              have hN10 : RepN W7.heap.size (w9.setCells g (m * 6) [Value.int .i64 k'.op, Value.int .i64 k'.co, Value.string k'.nm, Value.int .i64 k'.n, Value.int .i64 k'.d, Value.slice a3 k'.kids.length c3]) k' [Value.int .i64 k'.op, Value.int .i64 k'.co, Value.string k'.nm, Value.int .i64 k'.n, Value.int .i64 k'.d, Value.slice a3 k'.kids.length c3] := (HN9.out.mono (by have h1 := HS8.out; have h2 := (HXB.out.trans (Ext.refl _).drew).size; omega)).kpE hke (by have h1 := HGD.out.1; have h2 := HG7.out; omega)
              have hP10 : ∀ (i : Nat) x c, (xs ++ [k'])[i]? = some x → (cs ++ [[Value.int .i64 k'.op, Value.int .i64 k'.co, Value.string k'.nm, Value.int .i64 k'.n, Value.int .i64 k'.d, Value.slice a3 k'.kids.length c3]])[i]? = some c → RepN W7.heap.size (w9.setCells g (m * 6) [Value.int .i64 k'.op, Value.int .i64 k'.co, Value.string k'.nm, Value.int .i64 k'.n, Value.int .i64 k'.d, Value.slice a3 k'.kids.length c3]) x c := fun i x c hx hc => by
                by_cases hi : i < m
                · rw [List.getElem?_append_left (by rw [HP8.out.2.1]; exact hi)] at hx
                  rw [List.getElem?_append_left (by rw [HP8.out.2.2.1]; exact hi)] at hc
                  exact ((HP8.out.2.2.2 i x c hx hc).kpC HE9.out.kpC).kpE hke (by have h1 := HGD.out.1; have h2 := HG7.out; omega)
                · rw [List.getElem?_append_right (by rw [HP8.out.2.1]; omega), HP8.out.2.1] at hx
                  rw [List.getElem?_append_right (by rw [HP8.out.2.2.1]; omega), HP8.out.2.2.1] at hc
                  have hi0 : i - m = 0 := by
                    have := (List.getElem?_eq_some_iff.1 hx).1
                    rw [List.length_singleton] at this
                    omega
                  rw [hi0] at hx hc
                  cases hx
                  cases hc
                  exact hN10
              have hV10 := (HV8.out.kpC HE9.out.kpC).kpE hke hg3
              have hown10 := hrow10.own (D := W5.heap.size) (n := r.kids.length) (cap := c2) (fun q hq => by
                rcases List.mem_append.1 hq with hq | hq
                · rcases List.mem_append.1 hq with hq | hq
                  · exact HWD.out q (List.mem_append_left _ hq)
                  · obtain rfl := List.mem_singleton.1 hq; rfl
                · exact SL.wid HS.out q (List.mem_of_mem_drop hq)) (by rw [List.length_append, List.length_append, HP8.out.2.2.1, List.length_drop, HL.out, List.length_singleton]; omega) HGD.out.2.2.1 HGD.out.2.2.2 (by
                have h1 := HGD.out.2.1
                have h3 := congrArg List.length (flat_set (k := 6) (rest := rest) (vs := [Value.int .i64 k'.op, Value.int .i64 k'.co, Value.string k'.nm, Value.int .i64 k'.n, Value.int .i64 k'.d, Value.slice a3 k'.kids.length c3]) (j := 0) (by simp) (cs ++ rows.drop m) m _ HMD.out HWD.out)
                rw [drop_at HCC.out, set_mid HP8.out.2.2.1] at h3
                have e : (k.cells ka' kc').take 0 ++ [Value.int .i64 k'.op, Value.int .i64 k'.co, Value.string k'.nm, Value.int .i64 k'.n, Value.int .i64 k'.d, Value.slice a3 k'.kids.length c3] ++ (k.cells ka' kc').drop (0 + [Value.int .i64 k'.op, Value.int .i64 k'.co, Value.string k'.nm, Value.int .i64 k'.n, Value.int .i64 k'.d, Value.slice a3 k'.kids.length c3].length) = [Value.int .i64 k'.op, Value.int .i64 k'.co, Value.string k'.nm, Value.int .i64 k'.n, Value.int .i64 k'.d, Value.slice a3 k'.kids.length c3] := rfl
                rw [e] at h3
                rw [← h3]
                rw [drop_at HCC.out] at h1
                simp only [List.length_append, List.length_take, List.length_drop] at h1 ⊢
                rw [h1]
                show min (m * 6 + 0) (c2 * 6) + 6 + (c2 * 6 - (m * 6 + 0 + 6)) = c2 * 6
                have h2 := HGD.out.2.2.1
                omega) HGD.out.1
              have hE10 : Ext w (w9.setCells g (m * 6) [Value.int .i64 k'.op, Value.int .i64 k'.co, Value.string k'.nm, Value.int .i64 k'.n, Value.int .i64 k'.d, Value.slice a3 k'.kids.length c3]) := Below.grown (HE8.out.trans HE9.out) hgr (HE8.out.trans HE9.out).size (fun x hx => by cases hx; omega)
              have hS10 : W7.heap.size ≤ (w9.setCells g (m * 6) [Value.int .i64 k'.op, Value.int .i64 k'.co, Value.string k'.nm, Value.int .i64 k'.n, Value.int .i64 k'.d, Value.slice a3 k'.kids.length c3]).heap.size := by have h1 := HS8.out; have h2 := HE9.out.size; have h3 := hgr.size; omega
              refine hK.out _ _ ⟨hV10, (HNB.out.kpC ((Ext.refl _).drew.trans HE99.out).kpC).kpE hke (by omega)⟩ (fun hHeld => ?_)
              clear hK K
              have HI10 := Lib.hid (And.intro hV10 (And.intro hown10 (And.intro hE10 (And.intro hS10 hP10))))
              clear hV10 hown10 hE10 hS10 hP10 hN10 hrow10 HRW10 hke hgr hHeld
              try simp only [Act.put, List.setIfInBounds_toArray]
              refine wpAnyH_done (by kernel_rfl) ?_ _
              generalize w9.setCells g (m * 6) [Value.int .i64 k'.op, Value.int .i64 k'.co, Value.string k'.nm, Value.int .i64 k'.n, Value.int .i64 k'.d, Value.slice a3 k'.kids.length c3] = w10 at *
              go_wp2_with fail
              go_roundw
              case rel =>
                refine ⟨m + 1, xs ++ [k'], cs ++ [[Value.int .i64 k'.op, Value.int .i64 k'.co, Value.string k'.nm, Value.int .i64 k'.n, Value.int .i64 k'.d, Value.slice a3 k'.kids.length c3]], by go_num, by omega, HI10.out.1, HI10.out.2.1, HI10.out.2.2.1, HI10.out.2.2.2.1, ?_, ?_, ?_, HI10.out.2.2.2.2⟩
                · rw [HTS.out]
                  exact resL_snoc HP8.out.1 HKR.out
                · rw [List.length_append, HP8.out.2.1]; rfl
                · rw [List.length_append, HP8.out.2.2.1]; rfl
              case measure => simp [intOf] <;> omega
          · have hki : ¬ (m : Int) < (r.kids.length : Int) := by omega
            obtain rfl : m = r.kids.length := by omega
            have hxs : resL l r.kids = some xs := by have := HP8.out.1; rwa [List.take_length] at this
            have HRES : Hid (r.res l = some (r.with c0 xs)) := Lib.hid (by rw [HRE.out, HN.out]; simp only [Option.bind_some, hxs, Option.map_some])
            rw [List.drop_of_length_le (by rw [HL.out]; exact Nat.le_refl _), List.append_nil] at HO8
            have y0 := HV8.out.2.1.cell (j := 0) rfl
            have q0 := HV8.out.2.2.cell (j := 0) rfl
            have f0 := HV8.out.2.2.froz 0
            have y1 := HV8.out.2.1.cell (j := 1) rfl
            have q1 := HV8.out.2.2.cell (j := 1) rfl
            have f1 := HV8.out.2.2.froz 1
            have y2 := HV8.out.2.1.cell (j := 2) rfl
            have q2 := HV8.out.2.2.cell (j := 2) rfl
            have f2 := HV8.out.2.2.froz 2
            have y3 := HV8.out.2.1.cell (j := 3) rfl
            have q3 := HV8.out.2.2.cell (j := 3) rfl
            have f3 := HV8.out.2.2.froz 3
            have y4 := HV8.out.2.1.cell (j := 4) rfl
            have q4 := HV8.out.2.2.cell (j := 4) rfl
            have f4 := HV8.out.2.2.froz 4
            have y5 := HV8.out.2.1.cell (j := 5) rfl
            have q5 := HV8.out.2.2.cell (j := 5) rfl
            have f5 := HV8.out.2.2.froz 5
            clear hxs
            go_wp2_with fail
            obtain ⟨Wf, hWf⟩ : ∃ Wf, wr.setCells (w.heap.size + 2) 0 [Value.int .i64 r.op, Value.int .i64 c0, Value.string r.nm, Value.int .i64 r.n, Value.int .i64 r.d, Value.slice a2 r.kids.length c2] = Wf := ⟨_, rfl⟩
            have hgr := setCells_grown (w.heap.size + 2) [Value.int .i64 r.op, Value.int .i64 c0, Value.string r.nm, Value.int .i64 r.n, Value.int .i64 r.d, Value.slice a2 r.kids.length c2] wr 0
            have hrow : Row (wr.setCells (w.heap.size + 2) 0 [Value.int .i64 r.op, Value.int .i64 c0, Value.string r.nm, Value.int .i64 r.n, Value.int .i64 r.d, Value.slice a2 r.kids.length c2]) (w.heap.size + 2) 39 [Value.int .i64 r.op, Value.int .i64 c0, Value.string r.nm, Value.int .i64 r.n, Value.int .i64 r.d, Value.slice a2 r.kids.length c2] := HV8.out.2.2.set (vs := [Value.int .i64 r.op, Value.int .i64 c0, Value.string r.nm, Value.int .i64 r.n, Value.int .i64 r.d, Value.slice a2 r.kids.length c2]) (o := 0) (Nat.le_refl _)
            rw [hWf] at hgr hrow
            rw [show ((((((wr.setCell ⟨w.heap.size + 1 + 1, 0, none⟩ (.int .i64 r.op)).setCell ⟨w.heap.size + 1 + 1, 1, none⟩ (.int .i64 c0)).setCell ⟨w.heap.size + 1 + 1, 2, none⟩ (.string r.nm)).setCell ⟨w.heap.size + 1 + 1, 3, none⟩ (.int .i64 r.n)).setCell ⟨w.heap.size + 1 + 1, 4, none⟩ (.int .i64 r.d)).setCell ⟨w.heap.size + 1 + 1, 5, none⟩ (.slice a2 r.kids.length c2)) = Wf from hWf]
            have hke := grown_kpE hgr
            have hE : Ext w Wf := Below.grown HE8.out hgr HE8.out.size (fun x hx => by cases hx; omega)
            have e0 := hrow.cell (j := 0) rfl
            have e1 := hrow.cell (j := 1) rfl
            have e2 := hrow.cell (j := 2) rfl
            have e3 := hrow.cell (j := 3) rfl
            have e4 := hrow.cell (j := 4) rfl
            have e5 := hrow.cell (j := 5) rfl
            have hlx := HP8.out.2.1
            have hcx : (r.with c0 xs).cells a2 c2 = [Value.int .i64 r.op, Value.int .i64 c0, Value.string r.nm, Value.int .i64 r.n, Value.int .i64 r.d, Value.slice a2 r.kids.length c2] := by
              show [Value.int .i64 r.op, Value.int .i64 c0, Value.string r.nm, Value.int .i64 r.n, Value.int .i64 r.d, Value.slice a2 xs.length c2] = _
              rw [hlx]
            obtain ⟨ax, cx, ex, hsl, hfar⟩ := SL.of_own (own_kpE HO8.out hke (by have := HSZ.out; omega)) (fun q hq => by
              obtain ⟨i, hi⟩ := List.getElem?_of_mem hq
              have hil := (List.getElem?_eq_some_iff.1 hi).1
              obtain ⟨x, hx⟩ : ∃ x, xs[i]? = some x := ⟨_, List.getElem?_eq_getElem (by rw [HP8.out.2.1, ← HP8.out.2.2.1]; exact hil)⟩
              exact (HP8.out.2.2.2 i x q hx hi).len) HP8.out.2.2.1
            cases ex
            have hrep : RepN w.heap.size Wf (r.with c0 xs) ((r.with c0 xs).cells a2 c2) := RepN.mk (r.with c0 xs) a2 c2 cs hsl (by rw [HP8.out.2.2.1]; exact hlx.symm) (fun i x q hx hq => ((HP8.out.2.2.2 i x q hx hq).kpE hke (by have h1 := HE7.out.size; have h2 := HSZ.out; have h3 := HW57.out; omega)).mono (by have h1 := HE7.out.size; omega)) ⟨HO.out.1, num_ok HN.out HO.out HR.out.oks, HO.out.2.2.1, HO.out.2.2.2⟩ (fun a ha _ => by
              have h1 : W5.heap.size ≤ a.block := by
                rw [ha] at HO8
                exact ownsRow_blocks HO8.out a.block rfl
              have h2 := HSZ.out
              omega)
            rw [HRES.out]
            refine ⟨rfl, .agg #[Value.int .i64 r.op, Value.int .i64 c0, Value.string r.nm, Value.int .i64 r.n, Value.int .i64 r.d, Value.slice a2 r.kids.length c2], by simp [results, Try.results47, go_sem, e0, e1, e2, e3, e4, e5], ⟨⟨a2, c2, by rw [hcx], hrep⟩, hE⟩⟩
    · have HN : Hid (r.num l = numR l r.nm r.co) := Lib.hid (by unfold Rt.num; simp [h6])
      unfold Rt.cells
      go_enter Try.func47, Try.ntmps47
      cases hnr : numR l r.nm r.co with
      | none =>
        rw [hnr] at HNA HN
        go_wp2_with fail
        refine HNA.out.mono ?_
        rintro e w2 ⟨rfl, hE2⟩
        exact ⟨rfl, by rw [HRE.out, HN.out]; exact ⟨rfl, HX.out.trans hE2⟩⟩
      | some c0 =>
        rw [hnr] at HNA HN
        clear hnr
        go_wp2_with fail
        refine HNA.out.mono ?_
        rintro e w2 ⟨rfl, hE2⟩
        have hv2 := HV.out.kpC hE2.kpC
        have y1 := hv2.2.1.cell (j := 1) rfl
        have z1 := hv2.2.1.froz 1
        have y5 := hv2.2.1.cell (j := 5) rfl
        have HV2 := Lib.hid hv2
        have HE2 := Lib.hid hE2
        clear hv2 hE2 x0 x1 x2 x5
        go_wp2_with fail
        clear y1 z1 y5
        have HV5 : Hid (RuleV (w2.setCell ⟨w.heap.size + 1, 1, none⟩ (.int .i64 c0)) w.heap.size 29 39 [.slice ao l.length cap, v1, v2, v3, v4, v5, v6] [.int .i64 r.op, .int .i64 c0, .string r.nm, .int .i64 r.n, .int .i64 r.d, .slice ka r.kids.length kc] [.int .i64 0, .int .i64 0, .string ⟨#[]⟩, .int .i64 0, .int .i64 0, .slice none 0 0]) := Lib.hid (HV2.out.put 1 (.int .i64 c0))
        have HE5 := Lib.hid ((HX.out.trans HE2.out).setCell (p := ⟨w.heap.size + 1, 1, none⟩) (by show w.heap.size ≤ w.heap.size + 1; omega) (.int .i64 c0))
        clear HV2 HE2 HV HX HNA
        generalize w2.setCell ⟨w.heap.size + 1, 1, none⟩ (.int .i64 c0) = W5 at *
        have hE05 := HW.out.trans HE5.out
        have hones : ∀ q ∈ rows, ∀ u ∈ q, u.oneCell' = true := fun q hq => by
          obtain ⟨i, hi⟩ := List.getElem?_of_mem hq
          have hlt := (List.getElem?_eq_some_iff.1 hi).1
          exact (HK.out i r.kids[i] q (List.getElem?_eq_getElem (by rw [← HL.out]; exact hlt)) hi).one
        have hcl := cloneR_any rows ka kc W5 (HS.out.ext hE05) hones (by rw [HL.out]; exact Nat.le_trans (kids_len r) HB.out)
        rw [HL.out] at hcl
        clear hones hE05
        refine hcl.mono ?_
        clear hcl
        rintro e w6 ⟨v, rfl, ho6, hE6⟩
        obtain ⟨a2, c2, rfl⟩ := ownsRow_slice ho6
        have hv6 := HV5.out.kpC hE6.kpC
        have y5 := hv6.2.1.cell (j := 5) rfl
        have z5 := hv6.2.1.froz 5
        have HSZ : Hid (w.heap.size + 3 ≤ W5.heap.size) := Lib.hid (by have := (Array.getElem?_eq_some_iff.1 HV5.out.2.2).1; omega)
        have HO6 := Lib.hid ho6
        have HE6 := Lib.hid hE6
        have HE6s := Lib.hid hE6.size
        have HV7 := Lib.hid (hv6.put 5 (.slice a2 r.kids.length c2))
        have HO7 := Lib.hid (own_far (q := ⟨w.heap.size + 1, 5, none⟩) (u := .slice a2 r.kids.length c2) ho6 (by have := HSZ.out; show w.heap.size + 1 < W5.heap.size; omega))
        have HE7 := Lib.hid ((HE5.out.trans hE6).setCell (p := ⟨w.heap.size + 1, 5, none⟩) (by show w.heap.size ≤ w.heap.size + 1; omega) (.slice a2 r.kids.length c2))
        clear hv6 ho6 hE6
        go_wp2_with fail
        clear y5 z5 HO6 HE6
        replace HV7 : Hid (RuleV (w6.setCell ⟨w.heap.size + 1, 5, none⟩ (.slice a2 r.kids.length c2)) w.heap.size 29 39 [.slice ao l.length cap, v1, v2, v3, v4, v5, v6] [.int .i64 r.op, .int .i64 c0, .string r.nm, .int .i64 r.n, .int .i64 r.d, .slice a2 r.kids.length c2] [.int .i64 0, .int .i64 0, .string ⟨#[]⟩, .int .i64 0, .int .i64 0, .slice none 0 0]) := HV7
        have HW57 : Hid (W5.heap.size ≤ (w6.setCell ⟨w.heap.size + 1, 5, none⟩ (.slice a2 r.kids.length c2)).heap.size) := Lib.hid (by simpa using HE6s.out)
        generalize w6.setCell ⟨w.heap.size + 1, 5, none⟩ (.slice a2 r.kids.length c2) = W7 at *
        go_loopw [27] (fun iv wr => ∃ (m : Nat) (xs : List Rt) (cs : List (List Value)), iv = .int .i64 m ∧ m ≤ r.kids.length ∧ RuleV wr w.heap.size 29 39 [.slice ao l.length cap, v1, v2, v3, v4, v5, v6] [.int .i64 r.op, .int .i64 c0, .string r.nm, .int .i64 r.n, .int .i64 r.d, .slice a2 r.kids.length c2] [.int .i64 0, .int .i64 0, .string ⟨#[]⟩, .int .i64 0, .int .i64 0, .slice none 0 0] ∧ wr.ownsRow W5.heap.size 39 6 (.slice a2 r.kids.length c2) r.kids.length (cs ++ rows.drop m).flatten ∧ Ext w wr ∧ W7.heap.size ≤ wr.heap.size ∧ (resL l (r.kids.take m) = some xs ∧ xs.length = m ∧ cs.length = m ∧ ∀ (i : Nat) x c, xs[i]? = some x → cs[i]? = some c → RepN W7.heap.size wr x c)) (fun iv _ => r.kids.length - (intOf iv).toNat)
        case atStart => exact ⟨0, [], [], rfl, by omega, HV7.out, by simpa using HO7.out, HE7.out, Nat.le_refl _, by rw [List.take_zero, resL], rfl, rfl, fun i x c h => by simp at h⟩
        case round =>
          obtain ⟨m, xs, cs, rfl, hm, hV, hO, hE, hS, hP⟩ := hrel
          have HV8 := Lib.hid hV
          have HO8 := Lib.hid hO
          have HE8 := Lib.hid hE
          have HS8 := Lib.hid hS
          have HP8 := Lib.hid hP
          clear hV hO hE hS hP
          by_cases hlt : m < r.kids.length
          · have hki : (m : Int) < (r.kids.length : Int) := by omega
            obtain ⟨k, hk⟩ : ∃ k, r.kids[m]? = some k := ⟨_, List.getElem?_eq_getElem hlt⟩
            obtain ⟨cc, hcc⟩ : ∃ cc, rows[m]? = some cc := ⟨_, List.getElem?_eq_getElem (by rw [HL.out]; exact hlt)⟩
            obtain ⟨ka', kc', rfl, -, -⟩ := (HK.out m k cc hk hcc).out
            obtain ⟨g, cap', rest, ev, hgD, hrw, hgc, hgm, hgl⟩ := Row.of_own HO8.out (by omega)
            cases ev
            have HG7 : Hid (g < W7.heap.size) := Lib.hid (by
              obtain ⟨g2, cap2, rest2, ev2, -, hrw2, -⟩ := Row.of_own HO7.out (by omega)
              cases ev2
              exact (Array.getElem?_eq_some_iff.1 hrw2).1)
            have hwd : ∀ q ∈ cs ++ rows.drop m, q.length = 6 := fun q hq => by
              rcases List.mem_append.1 hq with hq | hq
              · obtain ⟨i, hi⟩ := List.getElem?_of_mem hq
                have hil := (List.getElem?_eq_some_iff.1 hi).1
                obtain ⟨x, hx⟩ : ∃ x, xs[i]? = some x := ⟨_, List.getElem?_eq_getElem (by rw [HP8.out.2.1, ← HP8.out.2.2.1]; exact hil)⟩
                exact (HP8.out.2.2.2 i x q hx hi).len
              · exact SL.wid HS.out q (List.mem_of_mem_drop hq)
            have hmid : (cs ++ rows.drop m)[m]? = some (k.cells ka' kc') := by
              rw [List.getElem?_append_right (by rw [HP8.out.2.2.1]; exact Nat.le_refl _), HP8.out.2.2.1, Nat.sub_self, List.getElem?_drop]
              exact hcc
            have hsl := hrw.sl hwd (by rw [List.length_append, HP8.out.2.2.1, List.length_drop, HL.out]; omega) hgm hgl
            have hcell : ∀ (j : Nat) (v : Value), (k.cells ka' kc')[j]? = some v → wr.cell? ⟨g, m * 6 + j, none⟩ = some v := fun j v hj => by
              obtain ⟨b', o', e, hw⟩ := hsl.cells m j _ _ hmid hj
              cases e
              simpa using hw
            have d0 : wr.cell? ⟨g, m * 6, none⟩ = some (.int .i64 k.op) := hcell 0 _ rfl
            have d1 : wr.cell? ⟨g, m * 6 + 1, none⟩ = some (.int .i64 k.co) := hcell 1 _ rfl
            have d2 : wr.cell? ⟨g, m * 6 + 2, none⟩ = some (.string k.nm) := hcell 2 _ rfl
            have d3 : wr.cell? ⟨g, m * 6 + 3, none⟩ = some (.int .i64 k.n) := hcell 3 _ rfl
            have d4 : wr.cell? ⟨g, m * 6 + 4, none⟩ = some (.int .i64 k.d) := hcell 4 _ rfl
            have d5 : wr.cell? ⟨g, m * 6 + 5, none⟩ = some (.slice ka' k.kids.length kc') := hcell 5 _ rfl
            have HKI := Lib.hid (HIH.out m k _ hk hcc)
            have HKB := Lib.hid (Nat.le_trans (kid_parts (List.mem_of_getElem? hk)) HB.out)
            have HRW := Lib.hid hrw
            have HWD := Lib.hid hwd
            have HMD := Lib.hid hmid
            have HGD := Lib.hid (And.intro hgD (And.intro hgl (And.intro hgc hgm)))
            have HTS := Lib.hid (take_snoc' hk)
            have HCC := Lib.hid hcc
            have HSP := Lib.hid (split_at hk)
            clear hrw hwd hmid hsl hcell hgD hgl hgm hgc hk hcc
            go_wp2_with fail
            clear d0 d1 d2 d3 d4 d5
            have hxb : Ext wr (wr.alloc (.cells #[.int .i64 k.op, .int .i64 k.co, .string k.nm, .int .i64 k.n, .int .i64 k.d, .slice ka' k.kids.length kc'] 39)) := (Ext.refl wr).alloc _
            have HXB := Lib.hid hxb
            have HNB := Lib.hid (show Row (wr.alloc (.cells #[.int .i64 k.op, .int .i64 k.co, .string k.nm, .int .i64 k.n, .int .i64 k.d, .slice ka' k.kids.length kc'] 39)) wr.heap.size 39 [.int .i64 k.op, .int .i64 k.co, .string k.nm, .int .i64 k.n, .int .i64 k.d, .slice ka' k.kids.length kc'] from World.alloc_heap_new wr _)
            clear hxb
            have HCELL : Hid (∀ W, (RuleV W w.heap.size 29 39 [.slice ao l.length cap, v1, v2, v3, v4, v5, v6] [.int .i64 r.op, .int .i64 c0, .string r.nm, .int .i64 r.n, .int .i64 r.d, .slice (some ⟨g, 0, none⟩) r.kids.length c2] [.int .i64 0, .int .i64 0, .string ⟨#[]⟩, .int .i64 0, .int .i64 0, .slice none 0 0] ∧ Row W wr.heap.size 39 [.int .i64 k.op, .int .i64 k.co, .string k.nm, .int .i64 k.n, .int .i64 k.d, .slice ka' k.kids.length kc']) → W.cell? ⟨w.heap.size, 0, none⟩ = some (.slice ao l.length cap) ∧ W.cell? ⟨w.heap.size, 1, none⟩ = some v1 ∧ W.cell? ⟨w.heap.size, 2, none⟩ = some v2 ∧ W.cell? ⟨w.heap.size, 3, none⟩ = some v3 ∧ W.cell? ⟨w.heap.size, 4, none⟩ = some v4 ∧ W.cell? ⟨w.heap.size, 5, none⟩ = some v5 ∧ W.cell? ⟨w.heap.size, 6, none⟩ = some v6 ∧ W.cell? ⟨w.heap.size + 1, 5, none⟩ = some (.slice (some ⟨g, 0, none⟩) r.kids.length c2) ∧
                W.cell? ⟨wr.heap.size, 0, none⟩ = some (.int .i64 k.op) ∧ W.cell? ⟨wr.heap.size, 1, none⟩ = some (.int .i64 k.co) ∧ W.cell? ⟨wr.heap.size, 2, none⟩ = some (.string k.nm) ∧ W.cell? ⟨wr.heap.size, 3, none⟩ = some (.int .i64 k.n) ∧ W.cell? ⟨wr.heap.size, 4, none⟩ = some (.int .i64 k.d) ∧ W.cell? ⟨wr.heap.size, 5, none⟩ = some (.slice ka' k.kids.length kc')) := Lib.hid fun W h => ⟨h.1.1.cell rfl, h.1.1.cell rfl, h.1.1.cell rfl, h.1.1.cell rfl, h.1.1.cell rfl, h.1.1.cell rfl, h.1.1.cell rfl, h.1.2.1.cell rfl, h.2.cell rfl, h.2.cell rfl, h.2.cell rfl, h.2.cell rfl, h.2.cell rfl, h.2.cell rfl⟩
            refine wp_region_held_drew (S := fun W => RuleV W w.heap.size 29 39 [.slice ao l.length cap, v1, v2, v3, v4, v5, v6] [.int .i64 r.op, .int .i64 c0, .string r.nm, .int .i64 r.n, .int .i64 r.d, .slice (some ⟨g, 0, none⟩) r.kids.length c2] [.int .i64 0, .int .i64 0, .string ⟨#[]⟩, .int .i64 0, .int .i64 0, .slice none 0 0] ∧ Row W wr.heap.size 39 [.int .i64 k.op, .int .i64 k.co, .string k.nm, .int .i64 k.n, .int .i64 k.d, .slice ka' k.kids.length kc']) (by kernel_rfl) ⟨HV8.out.kpC (HXB.out.trans (Ext.refl _).drew).kpC, HNB.out.kpC (Ext.refl _).drew.kpC⟩ (fun hHeld => ?_)
            refine wpAnyH_take (i := 0) (oi := ?oi7) (v := ?v7) ?hi7 (by kernel_rfl) (by kernel_rfl) (by kernel_rfl) ?hQ7 (Or.inl ⟨?hw7, ?hy7⟩) hHeld ?rest7
            case hi7 =>
              simp only [List.getElem?_toArray, List.getElem?_cons_zero] <;> rfl
            case hQ7 => exact fun _ _ _ h => h
            case hw7 => rfl
            case hy7 =>
              intro wS hSw
              obtain ⟨k0, k1, k2, k3, k4, k5, k6, y5, e0, e1, e2, e3, e4, e5⟩ := HCELL.out wS hSw
              go_simp
              first | done | with_reducible rfl | rfl
            simp only [Act.put, List.setIfInBounds_toArray, List.set_cons_zero, List.set_cons_succ]
            refine wpAnyH_take (i := 1) (oi := ?oi8) (v := ?v8) ?hi8 (by kernel_rfl) (by kernel_rfl) (by kernel_rfl) ?hQ8 (Or.inl ⟨?hw8, ?hy8⟩) hHeld ?rest8
            case hi8 =>
              simp only [List.getElem?_toArray, List.getElem?_cons_succ, List.getElem?_cons_zero] <;> rfl
            case hQ8 => exact fun _ _ _ h => h
            case hw8 => rfl
            case hy8 =>
              intro wS hSw
              obtain ⟨k0, k1, k2, k3, k4, k5, k6, y5, e0, e1, e2, e3, e4, e5⟩ := HCELL.out wS hSw
              go_simp
              first | done | with_reducible rfl | rfl
            simp only [Act.put, List.setIfInBounds_toArray, List.set_cons_zero, List.set_cons_succ]
            refine wpAnyH_take (i := 2) (oi := ?oi9) (v := ?v9) ?hi9 (by kernel_rfl) (by kernel_rfl) (by kernel_rfl) ?hQ9 (Or.inl ⟨?hw9, ?hy9⟩) hHeld ?rest9
            case hi9 =>
              simp only [List.getElem?_toArray, List.getElem?_cons_succ, List.getElem?_cons_zero] <;> rfl
            case hQ9 => exact fun _ _ _ h => h
            case hw9 => rfl
            case hy9 =>
              intro wS hSw
              obtain ⟨k0, k1, k2, k3, k4, k5, k6, y5, e0, e1, e2, e3, e4, e5⟩ := HCELL.out wS hSw
              go_simp
              first | done | with_reducible rfl | rfl
            simp only [Act.put, List.setIfInBounds_toArray, List.set_cons_zero, List.set_cons_succ]
            refine wpAnyH_take (i := 3) (oi := ?oi10) (v := ?v10) ?hi10 (by kernel_rfl) (by kernel_rfl) (by kernel_rfl) ?hQ10 (Or.inl ⟨?hw10, ?hy10⟩) hHeld ?rest10
            case hi10 =>
              simp only [List.getElem?_toArray, List.getElem?_cons_succ, List.getElem?_cons_zero] <;> rfl
            case hQ10 => exact fun _ _ _ h => h
            case hw10 => rfl
            case hy10 =>
              intro wS hSw
              obtain ⟨k0, k1, k2, k3, k4, k5, k6, y5, e0, e1, e2, e3, e4, e5⟩ := HCELL.out wS hSw
              go_simp
              first | done | with_reducible rfl | rfl
            simp only [Act.put, List.setIfInBounds_toArray, List.set_cons_zero, List.set_cons_succ]
            refine wpAnyH_take (i := 4) (oi := ?oi11) (v := ?v11) ?hi11 (by kernel_rfl) (by kernel_rfl) (by kernel_rfl) ?hQ11 (Or.inl ⟨?hw11, ?hy11⟩) hHeld ?rest11
            case hi11 =>
              simp only [List.getElem?_toArray, List.getElem?_cons_succ, List.getElem?_cons_zero] <;> rfl
            case hQ11 => exact fun _ _ _ h => h
            case hw11 => rfl
            case hy11 =>
              intro wS hSw
              obtain ⟨k0, k1, k2, k3, k4, k5, k6, y5, e0, e1, e2, e3, e4, e5⟩ := HCELL.out wS hSw
              go_simp
              first | done | with_reducible rfl | rfl
            simp only [Act.put, List.setIfInBounds_toArray, List.set_cons_zero, List.set_cons_succ]
            cases hkr : k.res l with
            | none =>
              refine wpAnyH_ready (rs := [5]) (by kernel_rfl) (by simp) ?_
              refine AllReadyH.cons rfl (fun K hK => ?_) AllReadyH.nil
              go_simp
              go_at_call 47
              refine (HKI.out ao cap v1 v2 v3 v4 v5 v6 _ (HW.out.trans (HE8.out.trans (HXB.out.trans (Ext.refl _).drew))) (HR.out.ext (HE8.out.trans (HXB.out.trans (Ext.refl _).drew))) HKB.out).mono ?_
              rw [hkr]
              rintro e w9 ⟨rfl, hE9⟩
              refine ⟨rfl, ?_⟩
              rw [HRE.out, HN.out]
              have hbad : resL l r.kids = none := by rw [HSP.out]; exact resL_bad hkr
              simp only [Option.bind_some, hbad, Option.map_none]
              exact ⟨rfl, HE8.out.trans (HXB.out.trans ((Ext.refl _).drew.trans hE9))⟩
            | some k' =>
              refine wpAnyH_ready (rs := [5]) (by kernel_rfl) (by simp) ?_
              refine AllReadyH.cons rfl (fun K hK => ?_) AllReadyH.nil
              go_simp
              go_at_call 47
              refine (HKI.out ao cap v1 v2 v3 v4 v5 v6 _ (HW.out.trans (HE8.out.trans (HXB.out.trans (Ext.refl _).drew))) (HR.out.ext (HE8.out.trans (HXB.out.trans (Ext.refl _).drew))) HKB.out).mono ?_
              rw [hkr]
              have HKR := Lib.hid hkr
              clear hkr
              rintro e w9 ⟨⟨a3, c3, rfl, hN9⟩, hE9⟩
              refine hK.out _ _ ⟨hHeld.1.kpC hE9.kpC, hHeld.2.kpC hE9.kpC⟩ (fun hHeld => ?_)
              clear hK K
              have HN9 := Lib.hid hN9
              have HE99 := Lib.hid hE9
              have HE9 := Lib.hid (HXB.out.trans ((Ext.refl _).drew.trans hE9))
              have HRW9 := Lib.hid (HRW.out.kpC HE9.out.kpC)
              clear hN9 hE9
              unfold Rt.cells
              try simp only [Act.put, List.setIfInBounds_toArray, List.set_cons_zero, List.set_cons_succ]
              refine wpAnyH_take (i := 6) (oi := ?oi12) (v := ?v12) ?hi12 (by kernel_rfl) (by kernel_rfl) (by kernel_rfl) ?hQ12 (Or.inl ⟨?hw12, ?hy12⟩) hHeld ?rest12
              case hi12 =>
                simp only [List.getElem?_toArray, List.getElem?_cons_succ, List.getElem?_cons_zero] <;> rfl
              case hQ12 => exact fun _ _ _ h => h
              case hw12 => rfl
              case hy12 =>
                intro wS hSw
                obtain ⟨k0, k1, k2, k3, k4, k5, k6, y5, e0, e1, e2, e3, e4, e5⟩ := HCELL.out wS hSw
                go_simp
                first | done | with_reducible rfl | rfl
              simp only [Act.put, List.setIfInBounds_toArray, List.set_cons_zero, List.set_cons_succ]
              refine wpAnyH_ready (rs := [7]) (by kernel_rfl) (by simp) ?_
              refine AllReadyH.cons rfl (fun K hK => ?_) AllReadyH.nil
              rw [if_pos (by rfl)]
              refine wp_store_mid _ _ _ rfl g (m * 6) _ rfl rfl (HRW9.out.there (by have h1 := HGD.out.2.1; have h2 := HGD.out.2.2.1; rw [h1]; show m * 6 + 6 ≤ c2 * 6; omega)) (by kernel_rfl) (by simp [Value.oneCell']) ?_
              have hgr := setCells_grown g [Value.int .i64 k'.op, Value.int .i64 k'.co, Value.string k'.nm, Value.int .i64 k'.n, Value.int .i64 k'.d, Value.slice a3 k'.kids.length c3] w9 (m * 6)
              have hke := grown_kpE hgr
              have hgw : g < wr.heap.size := (Array.getElem?_eq_some_iff.1 HRW.out).1
              have hg3 : w.heap.size + 2 < g := by have h1 := HGD.out.1; have h2 := HSZ.out; omega
              have HRW10 := HRW9.out.set (vs := [Value.int .i64 k'.op, Value.int .i64 k'.co, Value.string k'.nm, Value.int .i64 k'.n, Value.int .i64 k'.d, Value.slice a3 k'.kids.length c3]) (o := m * 6) (by have h1 := HGD.out.2.1; have h2 := HGD.out.2.2.1; rw [h1]; show m * 6 + 6 ≤ c2 * 6; omega)
              have hrow10 : Row (w9.setCells g (m * 6) [Value.int .i64 k'.op, Value.int .i64 k'.co, Value.string k'.nm, Value.int .i64 k'.n, Value.int .i64 k'.d, Value.slice a3 k'.kids.length c3]) g 39 (((cs ++ [[Value.int .i64 k'.op, Value.int .i64 k'.co, Value.string k'.nm, Value.int .i64 k'.n, Value.int .i64 k'.d, Value.slice a3 k'.kids.length c3]]) ++ rows.drop (m + 1)).flatten ++ rest) := by
                have h1 := flat_set (k := 6) (rest := rest) (vs := [Value.int .i64 k'.op, Value.int .i64 k'.co, Value.string k'.nm, Value.int .i64 k'.n, Value.int .i64 k'.d, Value.slice a3 k'.kids.length c3]) (j := 0) (by simp) (cs ++ rows.drop m) m _ HMD.out HWD.out
                rw [Nat.add_zero] at h1
                rw [h1, drop_at HCC.out, set_mid HP8.out.2.2.1] at HRW10
                have e : (k.cells ka' kc').take 0 ++ [Value.int .i64 k'.op, Value.int .i64 k'.co, Value.string k'.nm, Value.int .i64 k'.n, Value.int .i64 k'.d, Value.slice a3 k'.kids.length c3] ++ (k.cells ka' kc').drop (0 + [Value.int .i64 k'.op, Value.int .i64 k'.co, Value.string k'.nm, Value.int .i64 k'.n, Value.int .i64 k'.d, Value.slice a3 k'.kids.length c3].length) = [Value.int .i64 k'.op, Value.int .i64 k'.co, Value.string k'.nm, Value.int .i64 k'.n, Value.int .i64 k'.d, Value.slice a3 k'.kids.length c3] := rfl
                rw [e] at HRW10
                exact HRW10
              have hN10 : RepN W7.heap.size (w9.setCells g (m * 6) [Value.int .i64 k'.op, Value.int .i64 k'.co, Value.string k'.nm, Value.int .i64 k'.n, Value.int .i64 k'.d, Value.slice a3 k'.kids.length c3]) k' [Value.int .i64 k'.op, Value.int .i64 k'.co, Value.string k'.nm, Value.int .i64 k'.n, Value.int .i64 k'.d, Value.slice a3 k'.kids.length c3] := (HN9.out.mono (by have h1 := HS8.out; have h2 := (HXB.out.trans (Ext.refl _).drew).size; omega)).kpE hke (by have h1 := HGD.out.1; have h2 := HG7.out; omega)
              have hP10 : ∀ (i : Nat) x c, (xs ++ [k'])[i]? = some x → (cs ++ [[Value.int .i64 k'.op, Value.int .i64 k'.co, Value.string k'.nm, Value.int .i64 k'.n, Value.int .i64 k'.d, Value.slice a3 k'.kids.length c3]])[i]? = some c → RepN W7.heap.size (w9.setCells g (m * 6) [Value.int .i64 k'.op, Value.int .i64 k'.co, Value.string k'.nm, Value.int .i64 k'.n, Value.int .i64 k'.d, Value.slice a3 k'.kids.length c3]) x c := fun i x c hx hc => by
                by_cases hi : i < m
                · rw [List.getElem?_append_left (by rw [HP8.out.2.1]; exact hi)] at hx
                  rw [List.getElem?_append_left (by rw [HP8.out.2.2.1]; exact hi)] at hc
                  exact ((HP8.out.2.2.2 i x c hx hc).kpC HE9.out.kpC).kpE hke (by have h1 := HGD.out.1; have h2 := HG7.out; omega)
                · rw [List.getElem?_append_right (by rw [HP8.out.2.1]; omega), HP8.out.2.1] at hx
                  rw [List.getElem?_append_right (by rw [HP8.out.2.2.1]; omega), HP8.out.2.2.1] at hc
                  have hi0 : i - m = 0 := by
                    have := (List.getElem?_eq_some_iff.1 hx).1
                    rw [List.length_singleton] at this
                    omega
                  rw [hi0] at hx hc
                  cases hx
                  cases hc
                  exact hN10
              have hV10 := (HV8.out.kpC HE9.out.kpC).kpE hke hg3
              have hown10 := hrow10.own (D := W5.heap.size) (n := r.kids.length) (cap := c2) (fun q hq => by
                rcases List.mem_append.1 hq with hq | hq
                · rcases List.mem_append.1 hq with hq | hq
                  · exact HWD.out q (List.mem_append_left _ hq)
                  · obtain rfl := List.mem_singleton.1 hq; rfl
                · exact SL.wid HS.out q (List.mem_of_mem_drop hq)) (by rw [List.length_append, List.length_append, HP8.out.2.2.1, List.length_drop, HL.out, List.length_singleton]; omega) HGD.out.2.2.1 HGD.out.2.2.2 (by
                have h1 := HGD.out.2.1
                have h3 := congrArg List.length (flat_set (k := 6) (rest := rest) (vs := [Value.int .i64 k'.op, Value.int .i64 k'.co, Value.string k'.nm, Value.int .i64 k'.n, Value.int .i64 k'.d, Value.slice a3 k'.kids.length c3]) (j := 0) (by simp) (cs ++ rows.drop m) m _ HMD.out HWD.out)
                rw [drop_at HCC.out, set_mid HP8.out.2.2.1] at h3
                have e : (k.cells ka' kc').take 0 ++ [Value.int .i64 k'.op, Value.int .i64 k'.co, Value.string k'.nm, Value.int .i64 k'.n, Value.int .i64 k'.d, Value.slice a3 k'.kids.length c3] ++ (k.cells ka' kc').drop (0 + [Value.int .i64 k'.op, Value.int .i64 k'.co, Value.string k'.nm, Value.int .i64 k'.n, Value.int .i64 k'.d, Value.slice a3 k'.kids.length c3].length) = [Value.int .i64 k'.op, Value.int .i64 k'.co, Value.string k'.nm, Value.int .i64 k'.n, Value.int .i64 k'.d, Value.slice a3 k'.kids.length c3] := rfl
                rw [e] at h3
                rw [← h3]
                rw [drop_at HCC.out] at h1
                simp only [List.length_append, List.length_take, List.length_drop] at h1 ⊢
                rw [h1]
                show min (m * 6 + 0) (c2 * 6) + 6 + (c2 * 6 - (m * 6 + 0 + 6)) = c2 * 6
                have h2 := HGD.out.2.2.1
                omega) HGD.out.1
              have hE10 : Ext w (w9.setCells g (m * 6) [Value.int .i64 k'.op, Value.int .i64 k'.co, Value.string k'.nm, Value.int .i64 k'.n, Value.int .i64 k'.d, Value.slice a3 k'.kids.length c3]) := Below.grown (HE8.out.trans HE9.out) hgr (HE8.out.trans HE9.out).size (fun x hx => by cases hx; omega)
              have hS10 : W7.heap.size ≤ (w9.setCells g (m * 6) [Value.int .i64 k'.op, Value.int .i64 k'.co, Value.string k'.nm, Value.int .i64 k'.n, Value.int .i64 k'.d, Value.slice a3 k'.kids.length c3]).heap.size := by have h1 := HS8.out; have h2 := HE9.out.size; have h3 := hgr.size; omega
              refine hK.out _ _ ⟨hV10, (HNB.out.kpC ((Ext.refl _).drew.trans HE99.out).kpC).kpE hke (by omega)⟩ (fun hHeld => ?_)
              clear hK K
              have HI10 := Lib.hid (And.intro hV10 (And.intro hown10 (And.intro hE10 (And.intro hS10 hP10))))
              clear hV10 hown10 hE10 hS10 hP10 hN10 hrow10 HRW10 hke hgr hHeld
              try simp only [Act.put, List.setIfInBounds_toArray]
              refine wpAnyH_done (by kernel_rfl) ?_ _
              generalize w9.setCells g (m * 6) [Value.int .i64 k'.op, Value.int .i64 k'.co, Value.string k'.nm, Value.int .i64 k'.n, Value.int .i64 k'.d, Value.slice a3 k'.kids.length c3] = w10 at *
              go_wp2_with fail
              go_roundw
              case rel =>
                refine ⟨m + 1, xs ++ [k'], cs ++ [[Value.int .i64 k'.op, Value.int .i64 k'.co, Value.string k'.nm, Value.int .i64 k'.n, Value.int .i64 k'.d, Value.slice a3 k'.kids.length c3]], by go_num, by omega, HI10.out.1, HI10.out.2.1, HI10.out.2.2.1, HI10.out.2.2.2.1, ?_, ?_, ?_, HI10.out.2.2.2.2⟩
                · rw [HTS.out]
                  exact resL_snoc HP8.out.1 HKR.out
                · rw [List.length_append, HP8.out.2.1]; rfl
                · rw [List.length_append, HP8.out.2.2.1]; rfl
              case measure => simp [intOf] <;> omega
          · have hki : ¬ (m : Int) < (r.kids.length : Int) := by omega
            obtain rfl : m = r.kids.length := by omega
            have hxs : resL l r.kids = some xs := by have := HP8.out.1; rwa [List.take_length] at this
            have HRES : Hid (r.res l = some (r.with c0 xs)) := Lib.hid (by rw [HRE.out, HN.out]; simp only [Option.bind_some, hxs, Option.map_some])
            rw [List.drop_of_length_le (by rw [HL.out]; exact Nat.le_refl _), List.append_nil] at HO8
            have y0 := HV8.out.2.1.cell (j := 0) rfl
            have q0 := HV8.out.2.2.cell (j := 0) rfl
            have f0 := HV8.out.2.2.froz 0
            have y1 := HV8.out.2.1.cell (j := 1) rfl
            have q1 := HV8.out.2.2.cell (j := 1) rfl
            have f1 := HV8.out.2.2.froz 1
            have y2 := HV8.out.2.1.cell (j := 2) rfl
            have q2 := HV8.out.2.2.cell (j := 2) rfl
            have f2 := HV8.out.2.2.froz 2
            have y3 := HV8.out.2.1.cell (j := 3) rfl
            have q3 := HV8.out.2.2.cell (j := 3) rfl
            have f3 := HV8.out.2.2.froz 3
            have y4 := HV8.out.2.1.cell (j := 4) rfl
            have q4 := HV8.out.2.2.cell (j := 4) rfl
            have f4 := HV8.out.2.2.froz 4
            have y5 := HV8.out.2.1.cell (j := 5) rfl
            have q5 := HV8.out.2.2.cell (j := 5) rfl
            have f5 := HV8.out.2.2.froz 5
            clear hxs
            go_wp2_with fail
            obtain ⟨Wf, hWf⟩ : ∃ Wf, wr.setCells (w.heap.size + 2) 0 [Value.int .i64 r.op, Value.int .i64 c0, Value.string r.nm, Value.int .i64 r.n, Value.int .i64 r.d, Value.slice a2 r.kids.length c2] = Wf := ⟨_, rfl⟩
            have hgr := setCells_grown (w.heap.size + 2) [Value.int .i64 r.op, Value.int .i64 c0, Value.string r.nm, Value.int .i64 r.n, Value.int .i64 r.d, Value.slice a2 r.kids.length c2] wr 0
            have hrow : Row (wr.setCells (w.heap.size + 2) 0 [Value.int .i64 r.op, Value.int .i64 c0, Value.string r.nm, Value.int .i64 r.n, Value.int .i64 r.d, Value.slice a2 r.kids.length c2]) (w.heap.size + 2) 39 [Value.int .i64 r.op, Value.int .i64 c0, Value.string r.nm, Value.int .i64 r.n, Value.int .i64 r.d, Value.slice a2 r.kids.length c2] := HV8.out.2.2.set (vs := [Value.int .i64 r.op, Value.int .i64 c0, Value.string r.nm, Value.int .i64 r.n, Value.int .i64 r.d, Value.slice a2 r.kids.length c2]) (o := 0) (Nat.le_refl _)
            rw [hWf] at hgr hrow
            rw [show ((((((wr.setCell ⟨w.heap.size + 1 + 1, 0, none⟩ (.int .i64 r.op)).setCell ⟨w.heap.size + 1 + 1, 1, none⟩ (.int .i64 c0)).setCell ⟨w.heap.size + 1 + 1, 2, none⟩ (.string r.nm)).setCell ⟨w.heap.size + 1 + 1, 3, none⟩ (.int .i64 r.n)).setCell ⟨w.heap.size + 1 + 1, 4, none⟩ (.int .i64 r.d)).setCell ⟨w.heap.size + 1 + 1, 5, none⟩ (.slice a2 r.kids.length c2)) = Wf from hWf]
            have hke := grown_kpE hgr
            have hE : Ext w Wf := Below.grown HE8.out hgr HE8.out.size (fun x hx => by cases hx; omega)
            have e0 := hrow.cell (j := 0) rfl
            have e1 := hrow.cell (j := 1) rfl
            have e2 := hrow.cell (j := 2) rfl
            have e3 := hrow.cell (j := 3) rfl
            have e4 := hrow.cell (j := 4) rfl
            have e5 := hrow.cell (j := 5) rfl
            have hlx := HP8.out.2.1
            have hcx : (r.with c0 xs).cells a2 c2 = [Value.int .i64 r.op, Value.int .i64 c0, Value.string r.nm, Value.int .i64 r.n, Value.int .i64 r.d, Value.slice a2 r.kids.length c2] := by
              show [Value.int .i64 r.op, Value.int .i64 c0, Value.string r.nm, Value.int .i64 r.n, Value.int .i64 r.d, Value.slice a2 xs.length c2] = _
              rw [hlx]
            obtain ⟨ax, cx, ex, hsl, hfar⟩ := SL.of_own (own_kpE HO8.out hke (by have := HSZ.out; omega)) (fun q hq => by
              obtain ⟨i, hi⟩ := List.getElem?_of_mem hq
              have hil := (List.getElem?_eq_some_iff.1 hi).1
              obtain ⟨x, hx⟩ : ∃ x, xs[i]? = some x := ⟨_, List.getElem?_eq_getElem (by rw [HP8.out.2.1, ← HP8.out.2.2.1]; exact hil)⟩
              exact (HP8.out.2.2.2 i x q hx hi).len) HP8.out.2.2.1
            cases ex
            have hrep : RepN w.heap.size Wf (r.with c0 xs) ((r.with c0 xs).cells a2 c2) := RepN.mk (r.with c0 xs) a2 c2 cs hsl (by rw [HP8.out.2.2.1]; exact hlx.symm) (fun i x q hx hq => ((HP8.out.2.2.2 i x q hx hq).kpE hke (by have h1 := HE7.out.size; have h2 := HSZ.out; have h3 := HW57.out; omega)).mono (by have h1 := HE7.out.size; omega)) ⟨HO.out.1, num_ok HN.out HO.out HR.out.oks, HO.out.2.2.1, HO.out.2.2.2⟩ (fun a ha _ => by
              have h1 : W5.heap.size ≤ a.block := by
                rw [ha] at HO8
                exact ownsRow_blocks HO8.out a.block rfl
              have h2 := HSZ.out
              omega)
            rw [HRES.out]
            refine ⟨rfl, .agg #[Value.int .i64 r.op, Value.int .i64 c0, Value.string r.nm, Value.int .i64 r.n, Value.int .i64 r.d, Value.slice a2 r.kids.length c2], by simp [results, Try.results47, go_sem, e0, e1, e2, e3, e4, e5], ⟨⟨a2, c2, by rw [hcx], hrep⟩, hE⟩⟩
    · have HN : Hid (r.num l = numR l r.nm r.co) := Lib.hid (by unfold Rt.num; simp [h9])
      unfold Rt.cells
      go_enter Try.func47, Try.ntmps47
      cases hnr : numR l r.nm r.co with
      | none =>
        rw [hnr] at HNA HN
        go_wp2_with fail
        refine HNA.out.mono ?_
        rintro e w2 ⟨rfl, hE2⟩
        exact ⟨rfl, by rw [HRE.out, HN.out]; exact ⟨rfl, HX.out.trans hE2⟩⟩
      | some c0 =>
        rw [hnr] at HNA HN
        clear hnr
        go_wp2_with fail
        refine HNA.out.mono ?_
        rintro e w2 ⟨rfl, hE2⟩
        have hv2 := HV.out.kpC hE2.kpC
        have y1 := hv2.2.1.cell (j := 1) rfl
        have z1 := hv2.2.1.froz 1
        have y5 := hv2.2.1.cell (j := 5) rfl
        have HV2 := Lib.hid hv2
        have HE2 := Lib.hid hE2
        clear hv2 hE2 x0 x1 x2 x5
        go_wp2_with fail
        clear y1 z1 y5
        have HV5 : Hid (RuleV (w2.setCell ⟨w.heap.size + 1, 1, none⟩ (.int .i64 c0)) w.heap.size 29 39 [.slice ao l.length cap, v1, v2, v3, v4, v5, v6] [.int .i64 r.op, .int .i64 c0, .string r.nm, .int .i64 r.n, .int .i64 r.d, .slice ka r.kids.length kc] [.int .i64 0, .int .i64 0, .string ⟨#[]⟩, .int .i64 0, .int .i64 0, .slice none 0 0]) := Lib.hid (HV2.out.put 1 (.int .i64 c0))
        have HE5 := Lib.hid ((HX.out.trans HE2.out).setCell (p := ⟨w.heap.size + 1, 1, none⟩) (by show w.heap.size ≤ w.heap.size + 1; omega) (.int .i64 c0))
        clear HV2 HE2 HV HX HNA
        generalize w2.setCell ⟨w.heap.size + 1, 1, none⟩ (.int .i64 c0) = W5 at *
        have hE05 := HW.out.trans HE5.out
        have hones : ∀ q ∈ rows, ∀ u ∈ q, u.oneCell' = true := fun q hq => by
          obtain ⟨i, hi⟩ := List.getElem?_of_mem hq
          have hlt := (List.getElem?_eq_some_iff.1 hi).1
          exact (HK.out i r.kids[i] q (List.getElem?_eq_getElem (by rw [← HL.out]; exact hlt)) hi).one
        have hcl := cloneR_any rows ka kc W5 (HS.out.ext hE05) hones (by rw [HL.out]; exact Nat.le_trans (kids_len r) HB.out)
        rw [HL.out] at hcl
        clear hones hE05
        refine hcl.mono ?_
        clear hcl
        rintro e w6 ⟨v, rfl, ho6, hE6⟩
        obtain ⟨a2, c2, rfl⟩ := ownsRow_slice ho6
        have hv6 := HV5.out.kpC hE6.kpC
        have y5 := hv6.2.1.cell (j := 5) rfl
        have z5 := hv6.2.1.froz 5
        have HSZ : Hid (w.heap.size + 3 ≤ W5.heap.size) := Lib.hid (by have := (Array.getElem?_eq_some_iff.1 HV5.out.2.2).1; omega)
        have HO6 := Lib.hid ho6
        have HE6 := Lib.hid hE6
        have HE6s := Lib.hid hE6.size
        have HV7 := Lib.hid (hv6.put 5 (.slice a2 r.kids.length c2))
        have HO7 := Lib.hid (own_far (q := ⟨w.heap.size + 1, 5, none⟩) (u := .slice a2 r.kids.length c2) ho6 (by have := HSZ.out; show w.heap.size + 1 < W5.heap.size; omega))
        have HE7 := Lib.hid ((HE5.out.trans hE6).setCell (p := ⟨w.heap.size + 1, 5, none⟩) (by show w.heap.size ≤ w.heap.size + 1; omega) (.slice a2 r.kids.length c2))
        clear hv6 ho6 hE6
        go_wp2_with fail
        clear y5 z5 HO6 HE6
        replace HV7 : Hid (RuleV (w6.setCell ⟨w.heap.size + 1, 5, none⟩ (.slice a2 r.kids.length c2)) w.heap.size 29 39 [.slice ao l.length cap, v1, v2, v3, v4, v5, v6] [.int .i64 r.op, .int .i64 c0, .string r.nm, .int .i64 r.n, .int .i64 r.d, .slice a2 r.kids.length c2] [.int .i64 0, .int .i64 0, .string ⟨#[]⟩, .int .i64 0, .int .i64 0, .slice none 0 0]) := HV7
        have HW57 : Hid (W5.heap.size ≤ (w6.setCell ⟨w.heap.size + 1, 5, none⟩ (.slice a2 r.kids.length c2)).heap.size) := Lib.hid (by simpa using HE6s.out)
        generalize w6.setCell ⟨w.heap.size + 1, 5, none⟩ (.slice a2 r.kids.length c2) = W7 at *
        go_loopw [27] (fun iv wr => ∃ (m : Nat) (xs : List Rt) (cs : List (List Value)), iv = .int .i64 m ∧ m ≤ r.kids.length ∧ RuleV wr w.heap.size 29 39 [.slice ao l.length cap, v1, v2, v3, v4, v5, v6] [.int .i64 r.op, .int .i64 c0, .string r.nm, .int .i64 r.n, .int .i64 r.d, .slice a2 r.kids.length c2] [.int .i64 0, .int .i64 0, .string ⟨#[]⟩, .int .i64 0, .int .i64 0, .slice none 0 0] ∧ wr.ownsRow W5.heap.size 39 6 (.slice a2 r.kids.length c2) r.kids.length (cs ++ rows.drop m).flatten ∧ Ext w wr ∧ W7.heap.size ≤ wr.heap.size ∧ (resL l (r.kids.take m) = some xs ∧ xs.length = m ∧ cs.length = m ∧ ∀ (i : Nat) x c, xs[i]? = some x → cs[i]? = some c → RepN W7.heap.size wr x c)) (fun iv _ => r.kids.length - (intOf iv).toNat)
        case atStart => exact ⟨0, [], [], rfl, by omega, HV7.out, by simpa using HO7.out, HE7.out, Nat.le_refl _, by rw [List.take_zero, resL], rfl, rfl, fun i x c h => by simp at h⟩
        case round =>
          obtain ⟨m, xs, cs, rfl, hm, hV, hO, hE, hS, hP⟩ := hrel
          have HV8 := Lib.hid hV
          have HO8 := Lib.hid hO
          have HE8 := Lib.hid hE
          have HS8 := Lib.hid hS
          have HP8 := Lib.hid hP
          clear hV hO hE hS hP
          by_cases hlt : m < r.kids.length
          · have hki : (m : Int) < (r.kids.length : Int) := by omega
            obtain ⟨k, hk⟩ : ∃ k, r.kids[m]? = some k := ⟨_, List.getElem?_eq_getElem hlt⟩
            obtain ⟨cc, hcc⟩ : ∃ cc, rows[m]? = some cc := ⟨_, List.getElem?_eq_getElem (by rw [HL.out]; exact hlt)⟩
            obtain ⟨ka', kc', rfl, -, -⟩ := (HK.out m k cc hk hcc).out
            obtain ⟨g, cap', rest, ev, hgD, hrw, hgc, hgm, hgl⟩ := Row.of_own HO8.out (by omega)
            cases ev
            have HG7 : Hid (g < W7.heap.size) := Lib.hid (by
              obtain ⟨g2, cap2, rest2, ev2, -, hrw2, -⟩ := Row.of_own HO7.out (by omega)
              cases ev2
              exact (Array.getElem?_eq_some_iff.1 hrw2).1)
            have hwd : ∀ q ∈ cs ++ rows.drop m, q.length = 6 := fun q hq => by
              rcases List.mem_append.1 hq with hq | hq
              · obtain ⟨i, hi⟩ := List.getElem?_of_mem hq
                have hil := (List.getElem?_eq_some_iff.1 hi).1
                obtain ⟨x, hx⟩ : ∃ x, xs[i]? = some x := ⟨_, List.getElem?_eq_getElem (by rw [HP8.out.2.1, ← HP8.out.2.2.1]; exact hil)⟩
                exact (HP8.out.2.2.2 i x q hx hi).len
              · exact SL.wid HS.out q (List.mem_of_mem_drop hq)
            have hmid : (cs ++ rows.drop m)[m]? = some (k.cells ka' kc') := by
              rw [List.getElem?_append_right (by rw [HP8.out.2.2.1]; exact Nat.le_refl _), HP8.out.2.2.1, Nat.sub_self, List.getElem?_drop]
              exact hcc
            have hsl := hrw.sl hwd (by rw [List.length_append, HP8.out.2.2.1, List.length_drop, HL.out]; omega) hgm hgl
            have hcell : ∀ (j : Nat) (v : Value), (k.cells ka' kc')[j]? = some v → wr.cell? ⟨g, m * 6 + j, none⟩ = some v := fun j v hj => by
              obtain ⟨b', o', e, hw⟩ := hsl.cells m j _ _ hmid hj
              cases e
              simpa using hw
            have d0 : wr.cell? ⟨g, m * 6, none⟩ = some (.int .i64 k.op) := hcell 0 _ rfl
            have d1 : wr.cell? ⟨g, m * 6 + 1, none⟩ = some (.int .i64 k.co) := hcell 1 _ rfl
            have d2 : wr.cell? ⟨g, m * 6 + 2, none⟩ = some (.string k.nm) := hcell 2 _ rfl
            have d3 : wr.cell? ⟨g, m * 6 + 3, none⟩ = some (.int .i64 k.n) := hcell 3 _ rfl
            have d4 : wr.cell? ⟨g, m * 6 + 4, none⟩ = some (.int .i64 k.d) := hcell 4 _ rfl
            have d5 : wr.cell? ⟨g, m * 6 + 5, none⟩ = some (.slice ka' k.kids.length kc') := hcell 5 _ rfl
            have HKI := Lib.hid (HIH.out m k _ hk hcc)
            have HKB := Lib.hid (Nat.le_trans (kid_parts (List.mem_of_getElem? hk)) HB.out)
            have HRW := Lib.hid hrw
            have HWD := Lib.hid hwd
            have HMD := Lib.hid hmid
            have HGD := Lib.hid (And.intro hgD (And.intro hgl (And.intro hgc hgm)))
            have HTS := Lib.hid (take_snoc' hk)
            have HCC := Lib.hid hcc
            have HSP := Lib.hid (split_at hk)
            clear hrw hwd hmid hsl hcell hgD hgl hgm hgc hk hcc
            go_wp2_with fail
            clear d0 d1 d2 d3 d4 d5
            have hxb : Ext wr (wr.alloc (.cells #[.int .i64 k.op, .int .i64 k.co, .string k.nm, .int .i64 k.n, .int .i64 k.d, .slice ka' k.kids.length kc'] 39)) := (Ext.refl wr).alloc _
            have HXB := Lib.hid hxb
            have HNB := Lib.hid (show Row (wr.alloc (.cells #[.int .i64 k.op, .int .i64 k.co, .string k.nm, .int .i64 k.n, .int .i64 k.d, .slice ka' k.kids.length kc'] 39)) wr.heap.size 39 [.int .i64 k.op, .int .i64 k.co, .string k.nm, .int .i64 k.n, .int .i64 k.d, .slice ka' k.kids.length kc'] from World.alloc_heap_new wr _)
            clear hxb
            have HCELL : Hid (∀ W, (RuleV W w.heap.size 29 39 [.slice ao l.length cap, v1, v2, v3, v4, v5, v6] [.int .i64 r.op, .int .i64 c0, .string r.nm, .int .i64 r.n, .int .i64 r.d, .slice (some ⟨g, 0, none⟩) r.kids.length c2] [.int .i64 0, .int .i64 0, .string ⟨#[]⟩, .int .i64 0, .int .i64 0, .slice none 0 0] ∧ Row W wr.heap.size 39 [.int .i64 k.op, .int .i64 k.co, .string k.nm, .int .i64 k.n, .int .i64 k.d, .slice ka' k.kids.length kc']) → W.cell? ⟨w.heap.size, 0, none⟩ = some (.slice ao l.length cap) ∧ W.cell? ⟨w.heap.size, 1, none⟩ = some v1 ∧ W.cell? ⟨w.heap.size, 2, none⟩ = some v2 ∧ W.cell? ⟨w.heap.size, 3, none⟩ = some v3 ∧ W.cell? ⟨w.heap.size, 4, none⟩ = some v4 ∧ W.cell? ⟨w.heap.size, 5, none⟩ = some v5 ∧ W.cell? ⟨w.heap.size, 6, none⟩ = some v6 ∧ W.cell? ⟨w.heap.size + 1, 5, none⟩ = some (.slice (some ⟨g, 0, none⟩) r.kids.length c2) ∧
                W.cell? ⟨wr.heap.size, 0, none⟩ = some (.int .i64 k.op) ∧ W.cell? ⟨wr.heap.size, 1, none⟩ = some (.int .i64 k.co) ∧ W.cell? ⟨wr.heap.size, 2, none⟩ = some (.string k.nm) ∧ W.cell? ⟨wr.heap.size, 3, none⟩ = some (.int .i64 k.n) ∧ W.cell? ⟨wr.heap.size, 4, none⟩ = some (.int .i64 k.d) ∧ W.cell? ⟨wr.heap.size, 5, none⟩ = some (.slice ka' k.kids.length kc')) := Lib.hid fun W h => ⟨h.1.1.cell rfl, h.1.1.cell rfl, h.1.1.cell rfl, h.1.1.cell rfl, h.1.1.cell rfl, h.1.1.cell rfl, h.1.1.cell rfl, h.1.2.1.cell rfl, h.2.cell rfl, h.2.cell rfl, h.2.cell rfl, h.2.cell rfl, h.2.cell rfl, h.2.cell rfl⟩
            refine wp_region_held_drew (S := fun W => RuleV W w.heap.size 29 39 [.slice ao l.length cap, v1, v2, v3, v4, v5, v6] [.int .i64 r.op, .int .i64 c0, .string r.nm, .int .i64 r.n, .int .i64 r.d, .slice (some ⟨g, 0, none⟩) r.kids.length c2] [.int .i64 0, .int .i64 0, .string ⟨#[]⟩, .int .i64 0, .int .i64 0, .slice none 0 0] ∧ Row W wr.heap.size 39 [.int .i64 k.op, .int .i64 k.co, .string k.nm, .int .i64 k.n, .int .i64 k.d, .slice ka' k.kids.length kc']) (by kernel_rfl) ⟨HV8.out.kpC (HXB.out.trans (Ext.refl _).drew).kpC, HNB.out.kpC (Ext.refl _).drew.kpC⟩ (fun hHeld => ?_)
            refine wpAnyH_take (i := 0) (oi := ?oi13) (v := ?v13) ?hi13 (by kernel_rfl) (by kernel_rfl) (by kernel_rfl) ?hQ13 (Or.inl ⟨?hw13, ?hy13⟩) hHeld ?rest13
            case hi13 =>
              simp only [List.getElem?_toArray, List.getElem?_cons_zero] <;> rfl
            case hQ13 => exact fun _ _ _ h => h
            case hw13 => rfl
            case hy13 =>
              intro wS hSw
              obtain ⟨k0, k1, k2, k3, k4, k5, k6, y5, e0, e1, e2, e3, e4, e5⟩ := HCELL.out wS hSw
              go_simp
              first | done | with_reducible rfl | rfl
            simp only [Act.put, List.setIfInBounds_toArray, List.set_cons_zero, List.set_cons_succ]
            refine wpAnyH_take (i := 1) (oi := ?oi14) (v := ?v14) ?hi14 (by kernel_rfl) (by kernel_rfl) (by kernel_rfl) ?hQ14 (Or.inl ⟨?hw14, ?hy14⟩) hHeld ?rest14
            case hi14 =>
              simp only [List.getElem?_toArray, List.getElem?_cons_succ, List.getElem?_cons_zero] <;> rfl
            case hQ14 => exact fun _ _ _ h => h
            case hw14 => rfl
            case hy14 =>
              intro wS hSw
              obtain ⟨k0, k1, k2, k3, k4, k5, k6, y5, e0, e1, e2, e3, e4, e5⟩ := HCELL.out wS hSw
              go_simp
              first | done | with_reducible rfl | rfl
            simp only [Act.put, List.setIfInBounds_toArray, List.set_cons_zero, List.set_cons_succ]
            refine wpAnyH_take (i := 2) (oi := ?oi15) (v := ?v15) ?hi15 (by kernel_rfl) (by kernel_rfl) (by kernel_rfl) ?hQ15 (Or.inl ⟨?hw15, ?hy15⟩) hHeld ?rest15
            case hi15 =>
              simp only [List.getElem?_toArray, List.getElem?_cons_succ, List.getElem?_cons_zero] <;> rfl
            case hQ15 => exact fun _ _ _ h => h
            case hw15 => rfl
            case hy15 =>
              intro wS hSw
              obtain ⟨k0, k1, k2, k3, k4, k5, k6, y5, e0, e1, e2, e3, e4, e5⟩ := HCELL.out wS hSw
              go_simp
              first | done | with_reducible rfl | rfl
            simp only [Act.put, List.setIfInBounds_toArray, List.set_cons_zero, List.set_cons_succ]
            refine wpAnyH_take (i := 3) (oi := ?oi16) (v := ?v16) ?hi16 (by kernel_rfl) (by kernel_rfl) (by kernel_rfl) ?hQ16 (Or.inl ⟨?hw16, ?hy16⟩) hHeld ?rest16
            case hi16 =>
              simp only [List.getElem?_toArray, List.getElem?_cons_succ, List.getElem?_cons_zero] <;> rfl
            case hQ16 => exact fun _ _ _ h => h
            case hw16 => rfl
            case hy16 =>
              intro wS hSw
              obtain ⟨k0, k1, k2, k3, k4, k5, k6, y5, e0, e1, e2, e3, e4, e5⟩ := HCELL.out wS hSw
              go_simp
              first | done | with_reducible rfl | rfl
            simp only [Act.put, List.setIfInBounds_toArray, List.set_cons_zero, List.set_cons_succ]
            refine wpAnyH_take (i := 4) (oi := ?oi17) (v := ?v17) ?hi17 (by kernel_rfl) (by kernel_rfl) (by kernel_rfl) ?hQ17 (Or.inl ⟨?hw17, ?hy17⟩) hHeld ?rest17
            case hi17 =>
              simp only [List.getElem?_toArray, List.getElem?_cons_succ, List.getElem?_cons_zero] <;> rfl
            case hQ17 => exact fun _ _ _ h => h
            case hw17 => rfl
            case hy17 =>
              intro wS hSw
              obtain ⟨k0, k1, k2, k3, k4, k5, k6, y5, e0, e1, e2, e3, e4, e5⟩ := HCELL.out wS hSw
              go_simp
              first | done | with_reducible rfl | rfl
            simp only [Act.put, List.setIfInBounds_toArray, List.set_cons_zero, List.set_cons_succ]
            cases hkr : k.res l with
            | none =>
              refine wpAnyH_ready (rs := [5]) (by kernel_rfl) (by simp) ?_
              refine AllReadyH.cons rfl (fun K hK => ?_) AllReadyH.nil
              go_simp
              go_at_call 47
              refine (HKI.out ao cap v1 v2 v3 v4 v5 v6 _ (HW.out.trans (HE8.out.trans (HXB.out.trans (Ext.refl _).drew))) (HR.out.ext (HE8.out.trans (HXB.out.trans (Ext.refl _).drew))) HKB.out).mono ?_
              rw [hkr]
              rintro e w9 ⟨rfl, hE9⟩
              refine ⟨rfl, ?_⟩
              rw [HRE.out, HN.out]
              have hbad : resL l r.kids = none := by rw [HSP.out]; exact resL_bad hkr
              simp only [Option.bind_some, hbad, Option.map_none]
              exact ⟨rfl, HE8.out.trans (HXB.out.trans ((Ext.refl _).drew.trans hE9))⟩
            | some k' =>
              refine wpAnyH_ready (rs := [5]) (by kernel_rfl) (by simp) ?_
              refine AllReadyH.cons rfl (fun K hK => ?_) AllReadyH.nil
              go_simp
              go_at_call 47
              refine (HKI.out ao cap v1 v2 v3 v4 v5 v6 _ (HW.out.trans (HE8.out.trans (HXB.out.trans (Ext.refl _).drew))) (HR.out.ext (HE8.out.trans (HXB.out.trans (Ext.refl _).drew))) HKB.out).mono ?_
              rw [hkr]
              have HKR := Lib.hid hkr
              clear hkr
              rintro e w9 ⟨⟨a3, c3, rfl, hN9⟩, hE9⟩
              refine hK.out _ _ ⟨hHeld.1.kpC hE9.kpC, hHeld.2.kpC hE9.kpC⟩ (fun hHeld => ?_)
              clear hK K
              have HN9 := Lib.hid hN9
              have HE99 := Lib.hid hE9
              have HE9 := Lib.hid (HXB.out.trans ((Ext.refl _).drew.trans hE9))
              have HRW9 := Lib.hid (HRW.out.kpC HE9.out.kpC)
              clear hN9 hE9
              unfold Rt.cells
              try simp only [Act.put, List.setIfInBounds_toArray, List.set_cons_zero, List.set_cons_succ]
              refine wpAnyH_take (i := 6) (oi := ?oi18) (v := ?v18) ?hi18 (by kernel_rfl) (by kernel_rfl) (by kernel_rfl) ?hQ18 (Or.inl ⟨?hw18, ?hy18⟩) hHeld ?rest18
              case hi18 =>
                simp only [List.getElem?_toArray, List.getElem?_cons_succ, List.getElem?_cons_zero] <;> rfl
              case hQ18 => exact fun _ _ _ h => h
              case hw18 => rfl
              case hy18 =>
                intro wS hSw
                obtain ⟨k0, k1, k2, k3, k4, k5, k6, y5, e0, e1, e2, e3, e4, e5⟩ := HCELL.out wS hSw
                go_simp
                first | done | with_reducible rfl | rfl
              simp only [Act.put, List.setIfInBounds_toArray, List.set_cons_zero, List.set_cons_succ]
              refine wpAnyH_ready (rs := [7]) (by kernel_rfl) (by simp) ?_
              refine AllReadyH.cons rfl (fun K hK => ?_) AllReadyH.nil
              rw [if_pos (by rfl)]
              refine wp_store_mid _ _ _ rfl g (m * 6) _ rfl rfl (HRW9.out.there (by have h1 := HGD.out.2.1; have h2 := HGD.out.2.2.1; rw [h1]; show m * 6 + 6 ≤ c2 * 6; omega)) (by kernel_rfl) (by simp [Value.oneCell']) ?_
              have hgr := setCells_grown g [Value.int .i64 k'.op, Value.int .i64 k'.co, Value.string k'.nm, Value.int .i64 k'.n, Value.int .i64 k'.d, Value.slice a3 k'.kids.length c3] w9 (m * 6)
              have hke := grown_kpE hgr
              have hgw : g < wr.heap.size := (Array.getElem?_eq_some_iff.1 HRW.out).1
              have hg3 : w.heap.size + 2 < g := by have h1 := HGD.out.1; have h2 := HSZ.out; omega
              have HRW10 := HRW9.out.set (vs := [Value.int .i64 k'.op, Value.int .i64 k'.co, Value.string k'.nm, Value.int .i64 k'.n, Value.int .i64 k'.d, Value.slice a3 k'.kids.length c3]) (o := m * 6) (by have h1 := HGD.out.2.1; have h2 := HGD.out.2.2.1; rw [h1]; show m * 6 + 6 ≤ c2 * 6; omega)
              have hrow10 : Row (w9.setCells g (m * 6) [Value.int .i64 k'.op, Value.int .i64 k'.co, Value.string k'.nm, Value.int .i64 k'.n, Value.int .i64 k'.d, Value.slice a3 k'.kids.length c3]) g 39 (((cs ++ [[Value.int .i64 k'.op, Value.int .i64 k'.co, Value.string k'.nm, Value.int .i64 k'.n, Value.int .i64 k'.d, Value.slice a3 k'.kids.length c3]]) ++ rows.drop (m + 1)).flatten ++ rest) := by
                have h1 := flat_set (k := 6) (rest := rest) (vs := [Value.int .i64 k'.op, Value.int .i64 k'.co, Value.string k'.nm, Value.int .i64 k'.n, Value.int .i64 k'.d, Value.slice a3 k'.kids.length c3]) (j := 0) (by simp) (cs ++ rows.drop m) m _ HMD.out HWD.out
                rw [Nat.add_zero] at h1
                rw [h1, drop_at HCC.out, set_mid HP8.out.2.2.1] at HRW10
                have e : (k.cells ka' kc').take 0 ++ [Value.int .i64 k'.op, Value.int .i64 k'.co, Value.string k'.nm, Value.int .i64 k'.n, Value.int .i64 k'.d, Value.slice a3 k'.kids.length c3] ++ (k.cells ka' kc').drop (0 + [Value.int .i64 k'.op, Value.int .i64 k'.co, Value.string k'.nm, Value.int .i64 k'.n, Value.int .i64 k'.d, Value.slice a3 k'.kids.length c3].length) = [Value.int .i64 k'.op, Value.int .i64 k'.co, Value.string k'.nm, Value.int .i64 k'.n, Value.int .i64 k'.d, Value.slice a3 k'.kids.length c3] := rfl
                rw [e] at HRW10
                exact HRW10
              have hN10 : RepN W7.heap.size (w9.setCells g (m * 6) [Value.int .i64 k'.op, Value.int .i64 k'.co, Value.string k'.nm, Value.int .i64 k'.n, Value.int .i64 k'.d, Value.slice a3 k'.kids.length c3]) k' [Value.int .i64 k'.op, Value.int .i64 k'.co, Value.string k'.nm, Value.int .i64 k'.n, Value.int .i64 k'.d, Value.slice a3 k'.kids.length c3] := (HN9.out.mono (by have h1 := HS8.out; have h2 := (HXB.out.trans (Ext.refl _).drew).size; omega)).kpE hke (by have h1 := HGD.out.1; have h2 := HG7.out; omega)
              have hP10 : ∀ (i : Nat) x c, (xs ++ [k'])[i]? = some x → (cs ++ [[Value.int .i64 k'.op, Value.int .i64 k'.co, Value.string k'.nm, Value.int .i64 k'.n, Value.int .i64 k'.d, Value.slice a3 k'.kids.length c3]])[i]? = some c → RepN W7.heap.size (w9.setCells g (m * 6) [Value.int .i64 k'.op, Value.int .i64 k'.co, Value.string k'.nm, Value.int .i64 k'.n, Value.int .i64 k'.d, Value.slice a3 k'.kids.length c3]) x c := fun i x c hx hc => by
                by_cases hi : i < m
                · rw [List.getElem?_append_left (by rw [HP8.out.2.1]; exact hi)] at hx
                  rw [List.getElem?_append_left (by rw [HP8.out.2.2.1]; exact hi)] at hc
                  exact ((HP8.out.2.2.2 i x c hx hc).kpC HE9.out.kpC).kpE hke (by have h1 := HGD.out.1; have h2 := HG7.out; omega)
                · rw [List.getElem?_append_right (by rw [HP8.out.2.1]; omega), HP8.out.2.1] at hx
                  rw [List.getElem?_append_right (by rw [HP8.out.2.2.1]; omega), HP8.out.2.2.1] at hc
                  have hi0 : i - m = 0 := by
                    have := (List.getElem?_eq_some_iff.1 hx).1
                    rw [List.length_singleton] at this
                    omega
                  rw [hi0] at hx hc
                  cases hx
                  cases hc
                  exact hN10
              have hV10 := (HV8.out.kpC HE9.out.kpC).kpE hke hg3
              have hown10 := hrow10.own (D := W5.heap.size) (n := r.kids.length) (cap := c2) (fun q hq => by
                rcases List.mem_append.1 hq with hq | hq
                · rcases List.mem_append.1 hq with hq | hq
                  · exact HWD.out q (List.mem_append_left _ hq)
                  · obtain rfl := List.mem_singleton.1 hq; rfl
                · exact SL.wid HS.out q (List.mem_of_mem_drop hq)) (by rw [List.length_append, List.length_append, HP8.out.2.2.1, List.length_drop, HL.out, List.length_singleton]; omega) HGD.out.2.2.1 HGD.out.2.2.2 (by
                have h1 := HGD.out.2.1
                have h3 := congrArg List.length (flat_set (k := 6) (rest := rest) (vs := [Value.int .i64 k'.op, Value.int .i64 k'.co, Value.string k'.nm, Value.int .i64 k'.n, Value.int .i64 k'.d, Value.slice a3 k'.kids.length c3]) (j := 0) (by simp) (cs ++ rows.drop m) m _ HMD.out HWD.out)
                rw [drop_at HCC.out, set_mid HP8.out.2.2.1] at h3
                have e : (k.cells ka' kc').take 0 ++ [Value.int .i64 k'.op, Value.int .i64 k'.co, Value.string k'.nm, Value.int .i64 k'.n, Value.int .i64 k'.d, Value.slice a3 k'.kids.length c3] ++ (k.cells ka' kc').drop (0 + [Value.int .i64 k'.op, Value.int .i64 k'.co, Value.string k'.nm, Value.int .i64 k'.n, Value.int .i64 k'.d, Value.slice a3 k'.kids.length c3].length) = [Value.int .i64 k'.op, Value.int .i64 k'.co, Value.string k'.nm, Value.int .i64 k'.n, Value.int .i64 k'.d, Value.slice a3 k'.kids.length c3] := rfl
                rw [e] at h3
                rw [← h3]
                rw [drop_at HCC.out] at h1
                simp only [List.length_append, List.length_take, List.length_drop] at h1 ⊢
                rw [h1]
                show min (m * 6 + 0) (c2 * 6) + 6 + (c2 * 6 - (m * 6 + 0 + 6)) = c2 * 6
                have h2 := HGD.out.2.2.1
                omega) HGD.out.1
              have hE10 : Ext w (w9.setCells g (m * 6) [Value.int .i64 k'.op, Value.int .i64 k'.co, Value.string k'.nm, Value.int .i64 k'.n, Value.int .i64 k'.d, Value.slice a3 k'.kids.length c3]) := Below.grown (HE8.out.trans HE9.out) hgr (HE8.out.trans HE9.out).size (fun x hx => by cases hx; omega)
              have hS10 : W7.heap.size ≤ (w9.setCells g (m * 6) [Value.int .i64 k'.op, Value.int .i64 k'.co, Value.string k'.nm, Value.int .i64 k'.n, Value.int .i64 k'.d, Value.slice a3 k'.kids.length c3]).heap.size := by have h1 := HS8.out; have h2 := HE9.out.size; have h3 := hgr.size; omega
              refine hK.out _ _ ⟨hV10, (HNB.out.kpC ((Ext.refl _).drew.trans HE99.out).kpC).kpE hke (by omega)⟩ (fun hHeld => ?_)
              clear hK K
              have HI10 := Lib.hid (And.intro hV10 (And.intro hown10 (And.intro hE10 (And.intro hS10 hP10))))
              clear hV10 hown10 hE10 hS10 hP10 hN10 hrow10 HRW10 hke hgr hHeld
              try simp only [Act.put, List.setIfInBounds_toArray]
              refine wpAnyH_done (by kernel_rfl) ?_ _
              generalize w9.setCells g (m * 6) [Value.int .i64 k'.op, Value.int .i64 k'.co, Value.string k'.nm, Value.int .i64 k'.n, Value.int .i64 k'.d, Value.slice a3 k'.kids.length c3] = w10 at *
              go_wp2_with fail
              go_roundw
              case rel =>
                refine ⟨m + 1, xs ++ [k'], cs ++ [[Value.int .i64 k'.op, Value.int .i64 k'.co, Value.string k'.nm, Value.int .i64 k'.n, Value.int .i64 k'.d, Value.slice a3 k'.kids.length c3]], by go_num, by omega, HI10.out.1, HI10.out.2.1, HI10.out.2.2.1, HI10.out.2.2.2.1, ?_, ?_, ?_, HI10.out.2.2.2.2⟩
                · rw [HTS.out]
                  exact resL_snoc HP8.out.1 HKR.out
                · rw [List.length_append, HP8.out.2.1]; rfl
                · rw [List.length_append, HP8.out.2.2.1]; rfl
              case measure => simp [intOf] <;> omega
          · have hki : ¬ (m : Int) < (r.kids.length : Int) := by omega
            obtain rfl : m = r.kids.length := by omega
            have hxs : resL l r.kids = some xs := by have := HP8.out.1; rwa [List.take_length] at this
            have HRES : Hid (r.res l = some (r.with c0 xs)) := Lib.hid (by rw [HRE.out, HN.out]; simp only [Option.bind_some, hxs, Option.map_some])
            rw [List.drop_of_length_le (by rw [HL.out]; exact Nat.le_refl _), List.append_nil] at HO8
            have y0 := HV8.out.2.1.cell (j := 0) rfl
            have q0 := HV8.out.2.2.cell (j := 0) rfl
            have f0 := HV8.out.2.2.froz 0
            have y1 := HV8.out.2.1.cell (j := 1) rfl
            have q1 := HV8.out.2.2.cell (j := 1) rfl
            have f1 := HV8.out.2.2.froz 1
            have y2 := HV8.out.2.1.cell (j := 2) rfl
            have q2 := HV8.out.2.2.cell (j := 2) rfl
            have f2 := HV8.out.2.2.froz 2
            have y3 := HV8.out.2.1.cell (j := 3) rfl
            have q3 := HV8.out.2.2.cell (j := 3) rfl
            have f3 := HV8.out.2.2.froz 3
            have y4 := HV8.out.2.1.cell (j := 4) rfl
            have q4 := HV8.out.2.2.cell (j := 4) rfl
            have f4 := HV8.out.2.2.froz 4
            have y5 := HV8.out.2.1.cell (j := 5) rfl
            have q5 := HV8.out.2.2.cell (j := 5) rfl
            have f5 := HV8.out.2.2.froz 5
            clear hxs
            go_wp2_with fail
            obtain ⟨Wf, hWf⟩ : ∃ Wf, wr.setCells (w.heap.size + 2) 0 [Value.int .i64 r.op, Value.int .i64 c0, Value.string r.nm, Value.int .i64 r.n, Value.int .i64 r.d, Value.slice a2 r.kids.length c2] = Wf := ⟨_, rfl⟩
            have hgr := setCells_grown (w.heap.size + 2) [Value.int .i64 r.op, Value.int .i64 c0, Value.string r.nm, Value.int .i64 r.n, Value.int .i64 r.d, Value.slice a2 r.kids.length c2] wr 0
            have hrow : Row (wr.setCells (w.heap.size + 2) 0 [Value.int .i64 r.op, Value.int .i64 c0, Value.string r.nm, Value.int .i64 r.n, Value.int .i64 r.d, Value.slice a2 r.kids.length c2]) (w.heap.size + 2) 39 [Value.int .i64 r.op, Value.int .i64 c0, Value.string r.nm, Value.int .i64 r.n, Value.int .i64 r.d, Value.slice a2 r.kids.length c2] := HV8.out.2.2.set (vs := [Value.int .i64 r.op, Value.int .i64 c0, Value.string r.nm, Value.int .i64 r.n, Value.int .i64 r.d, Value.slice a2 r.kids.length c2]) (o := 0) (Nat.le_refl _)
            rw [hWf] at hgr hrow
            rw [show ((((((wr.setCell ⟨w.heap.size + 1 + 1, 0, none⟩ (.int .i64 r.op)).setCell ⟨w.heap.size + 1 + 1, 1, none⟩ (.int .i64 c0)).setCell ⟨w.heap.size + 1 + 1, 2, none⟩ (.string r.nm)).setCell ⟨w.heap.size + 1 + 1, 3, none⟩ (.int .i64 r.n)).setCell ⟨w.heap.size + 1 + 1, 4, none⟩ (.int .i64 r.d)).setCell ⟨w.heap.size + 1 + 1, 5, none⟩ (.slice a2 r.kids.length c2)) = Wf from hWf]
            have hke := grown_kpE hgr
            have hE : Ext w Wf := Below.grown HE8.out hgr HE8.out.size (fun x hx => by cases hx; omega)
            have e0 := hrow.cell (j := 0) rfl
            have e1 := hrow.cell (j := 1) rfl
            have e2 := hrow.cell (j := 2) rfl
            have e3 := hrow.cell (j := 3) rfl
            have e4 := hrow.cell (j := 4) rfl
            have e5 := hrow.cell (j := 5) rfl
            have hlx := HP8.out.2.1
            have hcx : (r.with c0 xs).cells a2 c2 = [Value.int .i64 r.op, Value.int .i64 c0, Value.string r.nm, Value.int .i64 r.n, Value.int .i64 r.d, Value.slice a2 r.kids.length c2] := by
              show [Value.int .i64 r.op, Value.int .i64 c0, Value.string r.nm, Value.int .i64 r.n, Value.int .i64 r.d, Value.slice a2 xs.length c2] = _
              rw [hlx]
            obtain ⟨ax, cx, ex, hsl, hfar⟩ := SL.of_own (own_kpE HO8.out hke (by have := HSZ.out; omega)) (fun q hq => by
              obtain ⟨i, hi⟩ := List.getElem?_of_mem hq
              have hil := (List.getElem?_eq_some_iff.1 hi).1
              obtain ⟨x, hx⟩ : ∃ x, xs[i]? = some x := ⟨_, List.getElem?_eq_getElem (by rw [HP8.out.2.1, ← HP8.out.2.2.1]; exact hil)⟩
              exact (HP8.out.2.2.2 i x q hx hi).len) HP8.out.2.2.1
            cases ex
            have hrep : RepN w.heap.size Wf (r.with c0 xs) ((r.with c0 xs).cells a2 c2) := RepN.mk (r.with c0 xs) a2 c2 cs hsl (by rw [HP8.out.2.2.1]; exact hlx.symm) (fun i x q hx hq => ((HP8.out.2.2.2 i x q hx hq).kpE hke (by have h1 := HE7.out.size; have h2 := HSZ.out; have h3 := HW57.out; omega)).mono (by have h1 := HE7.out.size; omega)) ⟨HO.out.1, num_ok HN.out HO.out HR.out.oks, HO.out.2.2.1, HO.out.2.2.2⟩ (fun a ha _ => by
              have h1 : W5.heap.size ≤ a.block := by
                rw [ha] at HO8
                exact ownsRow_blocks HO8.out a.block rfl
              have h2 := HSZ.out
              omega)
            rw [HRES.out]
            refine ⟨rfl, .agg #[Value.int .i64 r.op, Value.int .i64 c0, Value.string r.nm, Value.int .i64 r.n, Value.int .i64 r.d, Value.slice a2 r.kids.length c2], by simp [results, Try.results47, go_sem, e0, e1, e2, e3, e4, e5], ⟨⟨a2, c2, by rw [hcx], hrep⟩, hE⟩⟩
    · have HN : Hid (r.num l = some r.co) := Lib.hid (by unfold Rt.num; simp [h5, h6, h9])
      unfold Rt.cells
      go_enter Try.func47, Try.ntmps47
      go_wp2_with fail
      clear x0 x1 x2 x5 HNA
      obtain ⟨c0, hc0⟩ : ∃ c0, r.co = c0 := ⟨_, rfl⟩
      rw [hc0] at HN
      have HV5 : Hid (RuleV (((w.alloc (.cells #[.slice ao l.length cap, v1, v2, v3, v4, v5, v6] 29)).alloc (.cells #[.int .i64 r.op, .int .i64 r.co, .string r.nm, .int .i64 r.n, .int .i64 r.d, .slice ka r.kids.length kc] 39)).alloc (.cells #[.int .i64 0, .int .i64 0, .string ⟨#[]⟩, .int .i64 0, .int .i64 0, .slice none 0 0] 39)) w.heap.size 29 39 [.slice ao l.length cap, v1, v2, v3, v4, v5, v6] [.int .i64 r.op, .int .i64 c0, .string r.nm, .int .i64 r.n, .int .i64 r.d, .slice ka r.kids.length kc] [.int .i64 0, .int .i64 0, .string ⟨#[]⟩, .int .i64 0, .int .i64 0, .slice none 0 0]) := Lib.hid (by have := HV.out; rw [hc0] at this; rw [hc0]; exact this)
      have HE5 := HX
      clear HV HX hc0
      generalize (((w.alloc (.cells #[.slice ao l.length cap, v1, v2, v3, v4, v5, v6] 29)).alloc (.cells #[.int .i64 r.op, .int .i64 r.co, .string r.nm, .int .i64 r.n, .int .i64 r.d, .slice ka r.kids.length kc] 39)).alloc (.cells #[.int .i64 0, .int .i64 0, .string ⟨#[]⟩, .int .i64 0, .int .i64 0, .slice none 0 0] 39)) = W5 at *
      have hE05 := HW.out.trans HE5.out
      have hones : ∀ q ∈ rows, ∀ u ∈ q, u.oneCell' = true := fun q hq => by
        obtain ⟨i, hi⟩ := List.getElem?_of_mem hq
        have hlt := (List.getElem?_eq_some_iff.1 hi).1
        exact (HK.out i r.kids[i] q (List.getElem?_eq_getElem (by rw [← HL.out]; exact hlt)) hi).one
      have hcl := cloneR_any rows ka kc W5 (HS.out.ext hE05) hones (by rw [HL.out]; exact Nat.le_trans (kids_len r) HB.out)
      rw [HL.out] at hcl
      clear hones hE05
      refine hcl.mono ?_
      clear hcl
      rintro e w6 ⟨v, rfl, ho6, hE6⟩
      obtain ⟨a2, c2, rfl⟩ := ownsRow_slice ho6
      have hv6 := HV5.out.kpC hE6.kpC
      have y5 := hv6.2.1.cell (j := 5) rfl
      have z5 := hv6.2.1.froz 5
      have HSZ : Hid (w.heap.size + 3 ≤ W5.heap.size) := Lib.hid (by have := (Array.getElem?_eq_some_iff.1 HV5.out.2.2).1; omega)
      have HO6 := Lib.hid ho6
      have HE6 := Lib.hid hE6
      have HE6s := Lib.hid hE6.size
      have HV7 := Lib.hid (hv6.put 5 (.slice a2 r.kids.length c2))
      have HO7 := Lib.hid (own_far (q := ⟨w.heap.size + 1, 5, none⟩) (u := .slice a2 r.kids.length c2) ho6 (by have := HSZ.out; show w.heap.size + 1 < W5.heap.size; omega))
      have HE7 := Lib.hid ((HE5.out.trans hE6).setCell (p := ⟨w.heap.size + 1, 5, none⟩) (by show w.heap.size ≤ w.heap.size + 1; omega) (.slice a2 r.kids.length c2))
      clear hv6 ho6 hE6
      go_wp2_with fail
      clear y5 z5 HO6 HE6
      replace HV7 : Hid (RuleV (w6.setCell ⟨w.heap.size + 1, 5, none⟩ (.slice a2 r.kids.length c2)) w.heap.size 29 39 [.slice ao l.length cap, v1, v2, v3, v4, v5, v6] [.int .i64 r.op, .int .i64 c0, .string r.nm, .int .i64 r.n, .int .i64 r.d, .slice a2 r.kids.length c2] [.int .i64 0, .int .i64 0, .string ⟨#[]⟩, .int .i64 0, .int .i64 0, .slice none 0 0]) := HV7
      have HW57 : Hid (W5.heap.size ≤ (w6.setCell ⟨w.heap.size + 1, 5, none⟩ (.slice a2 r.kids.length c2)).heap.size) := Lib.hid (by simpa using HE6s.out)
      generalize w6.setCell ⟨w.heap.size + 1, 5, none⟩ (.slice a2 r.kids.length c2) = W7 at *
      go_loopw [27] (fun iv wr => ∃ (m : Nat) (xs : List Rt) (cs : List (List Value)), iv = .int .i64 m ∧ m ≤ r.kids.length ∧ RuleV wr w.heap.size 29 39 [.slice ao l.length cap, v1, v2, v3, v4, v5, v6] [.int .i64 r.op, .int .i64 c0, .string r.nm, .int .i64 r.n, .int .i64 r.d, .slice a2 r.kids.length c2] [.int .i64 0, .int .i64 0, .string ⟨#[]⟩, .int .i64 0, .int .i64 0, .slice none 0 0] ∧ wr.ownsRow W5.heap.size 39 6 (.slice a2 r.kids.length c2) r.kids.length (cs ++ rows.drop m).flatten ∧ Ext w wr ∧ W7.heap.size ≤ wr.heap.size ∧ (resL l (r.kids.take m) = some xs ∧ xs.length = m ∧ cs.length = m ∧ ∀ (i : Nat) x c, xs[i]? = some x → cs[i]? = some c → RepN W7.heap.size wr x c)) (fun iv _ => r.kids.length - (intOf iv).toNat)
      case atStart => exact ⟨0, [], [], rfl, by omega, HV7.out, by simpa using HO7.out, HE7.out, Nat.le_refl _, by rw [List.take_zero, resL], rfl, rfl, fun i x c h => by simp at h⟩
      case round =>
        obtain ⟨m, xs, cs, rfl, hm, hV, hO, hE, hS, hP⟩ := hrel
        have HV8 := Lib.hid hV
        have HO8 := Lib.hid hO
        have HE8 := Lib.hid hE
        have HS8 := Lib.hid hS
        have HP8 := Lib.hid hP
        clear hV hO hE hS hP
        by_cases hlt : m < r.kids.length
        · have hki : (m : Int) < (r.kids.length : Int) := by omega
          obtain ⟨k, hk⟩ : ∃ k, r.kids[m]? = some k := ⟨_, List.getElem?_eq_getElem hlt⟩
          obtain ⟨cc, hcc⟩ : ∃ cc, rows[m]? = some cc := ⟨_, List.getElem?_eq_getElem (by rw [HL.out]; exact hlt)⟩
          obtain ⟨ka', kc', rfl, -, -⟩ := (HK.out m k cc hk hcc).out
          obtain ⟨g, cap', rest, ev, hgD, hrw, hgc, hgm, hgl⟩ := Row.of_own HO8.out (by omega)
          cases ev
          have HG7 : Hid (g < W7.heap.size) := Lib.hid (by
            obtain ⟨g2, cap2, rest2, ev2, -, hrw2, -⟩ := Row.of_own HO7.out (by omega)
            cases ev2
            exact (Array.getElem?_eq_some_iff.1 hrw2).1)
          have hwd : ∀ q ∈ cs ++ rows.drop m, q.length = 6 := fun q hq => by
            rcases List.mem_append.1 hq with hq | hq
            · obtain ⟨i, hi⟩ := List.getElem?_of_mem hq
              have hil := (List.getElem?_eq_some_iff.1 hi).1
              obtain ⟨x, hx⟩ : ∃ x, xs[i]? = some x := ⟨_, List.getElem?_eq_getElem (by rw [HP8.out.2.1, ← HP8.out.2.2.1]; exact hil)⟩
              exact (HP8.out.2.2.2 i x q hx hi).len
            · exact SL.wid HS.out q (List.mem_of_mem_drop hq)
          have hmid : (cs ++ rows.drop m)[m]? = some (k.cells ka' kc') := by
            rw [List.getElem?_append_right (by rw [HP8.out.2.2.1]; exact Nat.le_refl _), HP8.out.2.2.1, Nat.sub_self, List.getElem?_drop]
            exact hcc
          have hsl := hrw.sl hwd (by rw [List.length_append, HP8.out.2.2.1, List.length_drop, HL.out]; omega) hgm hgl
          have hcell : ∀ (j : Nat) (v : Value), (k.cells ka' kc')[j]? = some v → wr.cell? ⟨g, m * 6 + j, none⟩ = some v := fun j v hj => by
            obtain ⟨b', o', e, hw⟩ := hsl.cells m j _ _ hmid hj
            cases e
            simpa using hw
          have d0 : wr.cell? ⟨g, m * 6, none⟩ = some (.int .i64 k.op) := hcell 0 _ rfl
          have d1 : wr.cell? ⟨g, m * 6 + 1, none⟩ = some (.int .i64 k.co) := hcell 1 _ rfl
          have d2 : wr.cell? ⟨g, m * 6 + 2, none⟩ = some (.string k.nm) := hcell 2 _ rfl
          have d3 : wr.cell? ⟨g, m * 6 + 3, none⟩ = some (.int .i64 k.n) := hcell 3 _ rfl
          have d4 : wr.cell? ⟨g, m * 6 + 4, none⟩ = some (.int .i64 k.d) := hcell 4 _ rfl
          have d5 : wr.cell? ⟨g, m * 6 + 5, none⟩ = some (.slice ka' k.kids.length kc') := hcell 5 _ rfl
          have HKI := Lib.hid (HIH.out m k _ hk hcc)
          have HKB := Lib.hid (Nat.le_trans (kid_parts (List.mem_of_getElem? hk)) HB.out)
          have HRW := Lib.hid hrw
          have HWD := Lib.hid hwd
          have HMD := Lib.hid hmid
          have HGD := Lib.hid (And.intro hgD (And.intro hgl (And.intro hgc hgm)))
          have HTS := Lib.hid (take_snoc' hk)
          have HCC := Lib.hid hcc
          have HSP := Lib.hid (split_at hk)
          clear hrw hwd hmid hsl hcell hgD hgl hgm hgc hk hcc
          go_wp2_with fail
          clear d0 d1 d2 d3 d4 d5
          have hxb : Ext wr (wr.alloc (.cells #[.int .i64 k.op, .int .i64 k.co, .string k.nm, .int .i64 k.n, .int .i64 k.d, .slice ka' k.kids.length kc'] 39)) := (Ext.refl wr).alloc _
          have HXB := Lib.hid hxb
          have HNB := Lib.hid (show Row (wr.alloc (.cells #[.int .i64 k.op, .int .i64 k.co, .string k.nm, .int .i64 k.n, .int .i64 k.d, .slice ka' k.kids.length kc'] 39)) wr.heap.size 39 [.int .i64 k.op, .int .i64 k.co, .string k.nm, .int .i64 k.n, .int .i64 k.d, .slice ka' k.kids.length kc'] from World.alloc_heap_new wr _)
          clear hxb
          have HCELL : Hid (∀ W, (RuleV W w.heap.size 29 39 [.slice ao l.length cap, v1, v2, v3, v4, v5, v6] [.int .i64 r.op, .int .i64 c0, .string r.nm, .int .i64 r.n, .int .i64 r.d, .slice (some ⟨g, 0, none⟩) r.kids.length c2] [.int .i64 0, .int .i64 0, .string ⟨#[]⟩, .int .i64 0, .int .i64 0, .slice none 0 0] ∧ Row W wr.heap.size 39 [.int .i64 k.op, .int .i64 k.co, .string k.nm, .int .i64 k.n, .int .i64 k.d, .slice ka' k.kids.length kc']) → W.cell? ⟨w.heap.size, 0, none⟩ = some (.slice ao l.length cap) ∧ W.cell? ⟨w.heap.size, 1, none⟩ = some v1 ∧ W.cell? ⟨w.heap.size, 2, none⟩ = some v2 ∧ W.cell? ⟨w.heap.size, 3, none⟩ = some v3 ∧ W.cell? ⟨w.heap.size, 4, none⟩ = some v4 ∧ W.cell? ⟨w.heap.size, 5, none⟩ = some v5 ∧ W.cell? ⟨w.heap.size, 6, none⟩ = some v6 ∧ W.cell? ⟨w.heap.size + 1, 5, none⟩ = some (.slice (some ⟨g, 0, none⟩) r.kids.length c2) ∧
              W.cell? ⟨wr.heap.size, 0, none⟩ = some (.int .i64 k.op) ∧ W.cell? ⟨wr.heap.size, 1, none⟩ = some (.int .i64 k.co) ∧ W.cell? ⟨wr.heap.size, 2, none⟩ = some (.string k.nm) ∧ W.cell? ⟨wr.heap.size, 3, none⟩ = some (.int .i64 k.n) ∧ W.cell? ⟨wr.heap.size, 4, none⟩ = some (.int .i64 k.d) ∧ W.cell? ⟨wr.heap.size, 5, none⟩ = some (.slice ka' k.kids.length kc')) := Lib.hid fun W h => ⟨h.1.1.cell rfl, h.1.1.cell rfl, h.1.1.cell rfl, h.1.1.cell rfl, h.1.1.cell rfl, h.1.1.cell rfl, h.1.1.cell rfl, h.1.2.1.cell rfl, h.2.cell rfl, h.2.cell rfl, h.2.cell rfl, h.2.cell rfl, h.2.cell rfl, h.2.cell rfl⟩
          refine wp_region_held_drew (S := fun W => RuleV W w.heap.size 29 39 [.slice ao l.length cap, v1, v2, v3, v4, v5, v6] [.int .i64 r.op, .int .i64 c0, .string r.nm, .int .i64 r.n, .int .i64 r.d, .slice (some ⟨g, 0, none⟩) r.kids.length c2] [.int .i64 0, .int .i64 0, .string ⟨#[]⟩, .int .i64 0, .int .i64 0, .slice none 0 0] ∧ Row W wr.heap.size 39 [.int .i64 k.op, .int .i64 k.co, .string k.nm, .int .i64 k.n, .int .i64 k.d, .slice ka' k.kids.length kc']) (by kernel_rfl) ⟨HV8.out.kpC (HXB.out.trans (Ext.refl _).drew).kpC, HNB.out.kpC (Ext.refl _).drew.kpC⟩ (fun hHeld => ?_)
          refine wpAnyH_take (i := 0) (oi := ?oi19) (v := ?v19) ?hi19 (by kernel_rfl) (by kernel_rfl) (by kernel_rfl) ?hQ19 (Or.inl ⟨?hw19, ?hy19⟩) hHeld ?rest19
          case hi19 =>
            simp only [List.getElem?_toArray, List.getElem?_cons_zero] <;> rfl
          case hQ19 => exact fun _ _ _ h => h
          case hw19 => rfl
          case hy19 =>
            intro wS hSw
            obtain ⟨k0, k1, k2, k3, k4, k5, k6, y5, e0, e1, e2, e3, e4, e5⟩ := HCELL.out wS hSw
            go_simp
            first | done | with_reducible rfl | rfl
          simp only [Act.put, List.setIfInBounds_toArray, List.set_cons_zero, List.set_cons_succ]
          refine wpAnyH_take (i := 1) (oi := ?oi20) (v := ?v20) ?hi20 (by kernel_rfl) (by kernel_rfl) (by kernel_rfl) ?hQ20 (Or.inl ⟨?hw20, ?hy20⟩) hHeld ?rest20
          case hi20 =>
            simp only [List.getElem?_toArray, List.getElem?_cons_succ, List.getElem?_cons_zero] <;> rfl
          case hQ20 => exact fun _ _ _ h => h
          case hw20 => rfl
          case hy20 =>
            intro wS hSw
            obtain ⟨k0, k1, k2, k3, k4, k5, k6, y5, e0, e1, e2, e3, e4, e5⟩ := HCELL.out wS hSw
            go_simp
            first | done | with_reducible rfl | rfl
          simp only [Act.put, List.setIfInBounds_toArray, List.set_cons_zero, List.set_cons_succ]
          refine wpAnyH_take (i := 2) (oi := ?oi21) (v := ?v21) ?hi21 (by kernel_rfl) (by kernel_rfl) (by kernel_rfl) ?hQ21 (Or.inl ⟨?hw21, ?hy21⟩) hHeld ?rest21
          case hi21 =>
            simp only [List.getElem?_toArray, List.getElem?_cons_succ, List.getElem?_cons_zero] <;> rfl
          case hQ21 => exact fun _ _ _ h => h
          case hw21 => rfl
          case hy21 =>
            intro wS hSw
            obtain ⟨k0, k1, k2, k3, k4, k5, k6, y5, e0, e1, e2, e3, e4, e5⟩ := HCELL.out wS hSw
            go_simp
            first | done | with_reducible rfl | rfl
          simp only [Act.put, List.setIfInBounds_toArray, List.set_cons_zero, List.set_cons_succ]
          refine wpAnyH_take (i := 3) (oi := ?oi22) (v := ?v22) ?hi22 (by kernel_rfl) (by kernel_rfl) (by kernel_rfl) ?hQ22 (Or.inl ⟨?hw22, ?hy22⟩) hHeld ?rest22
          case hi22 =>
            simp only [List.getElem?_toArray, List.getElem?_cons_succ, List.getElem?_cons_zero] <;> rfl
          case hQ22 => exact fun _ _ _ h => h
          case hw22 => rfl
          case hy22 =>
            intro wS hSw
            obtain ⟨k0, k1, k2, k3, k4, k5, k6, y5, e0, e1, e2, e3, e4, e5⟩ := HCELL.out wS hSw
            go_simp
            first | done | with_reducible rfl | rfl
          simp only [Act.put, List.setIfInBounds_toArray, List.set_cons_zero, List.set_cons_succ]
          refine wpAnyH_take (i := 4) (oi := ?oi23) (v := ?v23) ?hi23 (by kernel_rfl) (by kernel_rfl) (by kernel_rfl) ?hQ23 (Or.inl ⟨?hw23, ?hy23⟩) hHeld ?rest23
          case hi23 =>
            simp only [List.getElem?_toArray, List.getElem?_cons_succ, List.getElem?_cons_zero] <;> rfl
          case hQ23 => exact fun _ _ _ h => h
          case hw23 => rfl
          case hy23 =>
            intro wS hSw
            obtain ⟨k0, k1, k2, k3, k4, k5, k6, y5, e0, e1, e2, e3, e4, e5⟩ := HCELL.out wS hSw
            go_simp
            first | done | with_reducible rfl | rfl
          simp only [Act.put, List.setIfInBounds_toArray, List.set_cons_zero, List.set_cons_succ]
          cases hkr : k.res l with
          | none =>
            refine wpAnyH_ready (rs := [5]) (by kernel_rfl) (by simp) ?_
            refine AllReadyH.cons rfl (fun K hK => ?_) AllReadyH.nil
            go_simp
            go_at_call 47
            refine (HKI.out ao cap v1 v2 v3 v4 v5 v6 _ (HW.out.trans (HE8.out.trans (HXB.out.trans (Ext.refl _).drew))) (HR.out.ext (HE8.out.trans (HXB.out.trans (Ext.refl _).drew))) HKB.out).mono ?_
            rw [hkr]
            rintro e w9 ⟨rfl, hE9⟩
            refine ⟨rfl, ?_⟩
            rw [HRE.out, HN.out]
            have hbad : resL l r.kids = none := by rw [HSP.out]; exact resL_bad hkr
            simp only [Option.bind_some, hbad, Option.map_none]
            exact ⟨rfl, HE8.out.trans (HXB.out.trans ((Ext.refl _).drew.trans hE9))⟩
          | some k' =>
            refine wpAnyH_ready (rs := [5]) (by kernel_rfl) (by simp) ?_
            refine AllReadyH.cons rfl (fun K hK => ?_) AllReadyH.nil
            go_simp
            go_at_call 47
            refine (HKI.out ao cap v1 v2 v3 v4 v5 v6 _ (HW.out.trans (HE8.out.trans (HXB.out.trans (Ext.refl _).drew))) (HR.out.ext (HE8.out.trans (HXB.out.trans (Ext.refl _).drew))) HKB.out).mono ?_
            rw [hkr]
            have HKR := Lib.hid hkr
            clear hkr
            rintro e w9 ⟨⟨a3, c3, rfl, hN9⟩, hE9⟩
            refine hK.out _ _ ⟨hHeld.1.kpC hE9.kpC, hHeld.2.kpC hE9.kpC⟩ (fun hHeld => ?_)
            clear hK K
            have HN9 := Lib.hid hN9
            have HE99 := Lib.hid hE9
            have HE9 := Lib.hid (HXB.out.trans ((Ext.refl _).drew.trans hE9))
            have HRW9 := Lib.hid (HRW.out.kpC HE9.out.kpC)
            clear hN9 hE9
            unfold Rt.cells
            try simp only [Act.put, List.setIfInBounds_toArray, List.set_cons_zero, List.set_cons_succ]
            refine wpAnyH_take (i := 6) (oi := ?oi24) (v := ?v24) ?hi24 (by kernel_rfl) (by kernel_rfl) (by kernel_rfl) ?hQ24 (Or.inl ⟨?hw24, ?hy24⟩) hHeld ?rest24
            case hi24 =>
              simp only [List.getElem?_toArray, List.getElem?_cons_succ, List.getElem?_cons_zero] <;> rfl
            case hQ24 => exact fun _ _ _ h => h
            case hw24 => rfl
            case hy24 =>
              intro wS hSw
              obtain ⟨k0, k1, k2, k3, k4, k5, k6, y5, e0, e1, e2, e3, e4, e5⟩ := HCELL.out wS hSw
              go_simp
              first | done | with_reducible rfl | rfl
            simp only [Act.put, List.setIfInBounds_toArray, List.set_cons_zero, List.set_cons_succ]
            refine wpAnyH_ready (rs := [7]) (by kernel_rfl) (by simp) ?_
            refine AllReadyH.cons rfl (fun K hK => ?_) AllReadyH.nil
            rw [if_pos (by rfl)]
            refine wp_store_mid _ _ _ rfl g (m * 6) _ rfl rfl (HRW9.out.there (by have h1 := HGD.out.2.1; have h2 := HGD.out.2.2.1; rw [h1]; show m * 6 + 6 ≤ c2 * 6; omega)) (by kernel_rfl) (by simp [Value.oneCell']) ?_
            have hgr := setCells_grown g [Value.int .i64 k'.op, Value.int .i64 k'.co, Value.string k'.nm, Value.int .i64 k'.n, Value.int .i64 k'.d, Value.slice a3 k'.kids.length c3] w9 (m * 6)
            have hke := grown_kpE hgr
            have hgw : g < wr.heap.size := (Array.getElem?_eq_some_iff.1 HRW.out).1
            have hg3 : w.heap.size + 2 < g := by have h1 := HGD.out.1; have h2 := HSZ.out; omega
            have HRW10 := HRW9.out.set (vs := [Value.int .i64 k'.op, Value.int .i64 k'.co, Value.string k'.nm, Value.int .i64 k'.n, Value.int .i64 k'.d, Value.slice a3 k'.kids.length c3]) (o := m * 6) (by have h1 := HGD.out.2.1; have h2 := HGD.out.2.2.1; rw [h1]; show m * 6 + 6 ≤ c2 * 6; omega)
            have hrow10 : Row (w9.setCells g (m * 6) [Value.int .i64 k'.op, Value.int .i64 k'.co, Value.string k'.nm, Value.int .i64 k'.n, Value.int .i64 k'.d, Value.slice a3 k'.kids.length c3]) g 39 (((cs ++ [[Value.int .i64 k'.op, Value.int .i64 k'.co, Value.string k'.nm, Value.int .i64 k'.n, Value.int .i64 k'.d, Value.slice a3 k'.kids.length c3]]) ++ rows.drop (m + 1)).flatten ++ rest) := by
              have h1 := flat_set (k := 6) (rest := rest) (vs := [Value.int .i64 k'.op, Value.int .i64 k'.co, Value.string k'.nm, Value.int .i64 k'.n, Value.int .i64 k'.d, Value.slice a3 k'.kids.length c3]) (j := 0) (by simp) (cs ++ rows.drop m) m _ HMD.out HWD.out
              rw [Nat.add_zero] at h1
              rw [h1, drop_at HCC.out, set_mid HP8.out.2.2.1] at HRW10
              have e : (k.cells ka' kc').take 0 ++ [Value.int .i64 k'.op, Value.int .i64 k'.co, Value.string k'.nm, Value.int .i64 k'.n, Value.int .i64 k'.d, Value.slice a3 k'.kids.length c3] ++ (k.cells ka' kc').drop (0 + [Value.int .i64 k'.op, Value.int .i64 k'.co, Value.string k'.nm, Value.int .i64 k'.n, Value.int .i64 k'.d, Value.slice a3 k'.kids.length c3].length) = [Value.int .i64 k'.op, Value.int .i64 k'.co, Value.string k'.nm, Value.int .i64 k'.n, Value.int .i64 k'.d, Value.slice a3 k'.kids.length c3] := rfl
              rw [e] at HRW10
              exact HRW10
            have hN10 : RepN W7.heap.size (w9.setCells g (m * 6) [Value.int .i64 k'.op, Value.int .i64 k'.co, Value.string k'.nm, Value.int .i64 k'.n, Value.int .i64 k'.d, Value.slice a3 k'.kids.length c3]) k' [Value.int .i64 k'.op, Value.int .i64 k'.co, Value.string k'.nm, Value.int .i64 k'.n, Value.int .i64 k'.d, Value.slice a3 k'.kids.length c3] := (HN9.out.mono (by have h1 := HS8.out; have h2 := (HXB.out.trans (Ext.refl _).drew).size; omega)).kpE hke (by have h1 := HGD.out.1; have h2 := HG7.out; omega)
            have hP10 : ∀ (i : Nat) x c, (xs ++ [k'])[i]? = some x → (cs ++ [[Value.int .i64 k'.op, Value.int .i64 k'.co, Value.string k'.nm, Value.int .i64 k'.n, Value.int .i64 k'.d, Value.slice a3 k'.kids.length c3]])[i]? = some c → RepN W7.heap.size (w9.setCells g (m * 6) [Value.int .i64 k'.op, Value.int .i64 k'.co, Value.string k'.nm, Value.int .i64 k'.n, Value.int .i64 k'.d, Value.slice a3 k'.kids.length c3]) x c := fun i x c hx hc => by
              by_cases hi : i < m
              · rw [List.getElem?_append_left (by rw [HP8.out.2.1]; exact hi)] at hx
                rw [List.getElem?_append_left (by rw [HP8.out.2.2.1]; exact hi)] at hc
                exact ((HP8.out.2.2.2 i x c hx hc).kpC HE9.out.kpC).kpE hke (by have h1 := HGD.out.1; have h2 := HG7.out; omega)
              · rw [List.getElem?_append_right (by rw [HP8.out.2.1]; omega), HP8.out.2.1] at hx
                rw [List.getElem?_append_right (by rw [HP8.out.2.2.1]; omega), HP8.out.2.2.1] at hc
                have hi0 : i - m = 0 := by
                  have := (List.getElem?_eq_some_iff.1 hx).1
                  rw [List.length_singleton] at this
                  omega
                rw [hi0] at hx hc
                cases hx
                cases hc
                exact hN10
            have hV10 := (HV8.out.kpC HE9.out.kpC).kpE hke hg3
            have hown10 := hrow10.own (D := W5.heap.size) (n := r.kids.length) (cap := c2) (fun q hq => by
              rcases List.mem_append.1 hq with hq | hq
              · rcases List.mem_append.1 hq with hq | hq
                · exact HWD.out q (List.mem_append_left _ hq)
                · obtain rfl := List.mem_singleton.1 hq; rfl
              · exact SL.wid HS.out q (List.mem_of_mem_drop hq)) (by rw [List.length_append, List.length_append, HP8.out.2.2.1, List.length_drop, HL.out, List.length_singleton]; omega) HGD.out.2.2.1 HGD.out.2.2.2 (by
              have h1 := HGD.out.2.1
              have h3 := congrArg List.length (flat_set (k := 6) (rest := rest) (vs := [Value.int .i64 k'.op, Value.int .i64 k'.co, Value.string k'.nm, Value.int .i64 k'.n, Value.int .i64 k'.d, Value.slice a3 k'.kids.length c3]) (j := 0) (by simp) (cs ++ rows.drop m) m _ HMD.out HWD.out)
              rw [drop_at HCC.out, set_mid HP8.out.2.2.1] at h3
              have e : (k.cells ka' kc').take 0 ++ [Value.int .i64 k'.op, Value.int .i64 k'.co, Value.string k'.nm, Value.int .i64 k'.n, Value.int .i64 k'.d, Value.slice a3 k'.kids.length c3] ++ (k.cells ka' kc').drop (0 + [Value.int .i64 k'.op, Value.int .i64 k'.co, Value.string k'.nm, Value.int .i64 k'.n, Value.int .i64 k'.d, Value.slice a3 k'.kids.length c3].length) = [Value.int .i64 k'.op, Value.int .i64 k'.co, Value.string k'.nm, Value.int .i64 k'.n, Value.int .i64 k'.d, Value.slice a3 k'.kids.length c3] := rfl
              rw [e] at h3
              rw [← h3]
              rw [drop_at HCC.out] at h1
              simp only [List.length_append, List.length_take, List.length_drop] at h1 ⊢
              rw [h1]
              show min (m * 6 + 0) (c2 * 6) + 6 + (c2 * 6 - (m * 6 + 0 + 6)) = c2 * 6
              have h2 := HGD.out.2.2.1
              omega) HGD.out.1
            have hE10 : Ext w (w9.setCells g (m * 6) [Value.int .i64 k'.op, Value.int .i64 k'.co, Value.string k'.nm, Value.int .i64 k'.n, Value.int .i64 k'.d, Value.slice a3 k'.kids.length c3]) := Below.grown (HE8.out.trans HE9.out) hgr (HE8.out.trans HE9.out).size (fun x hx => by cases hx; omega)
            have hS10 : W7.heap.size ≤ (w9.setCells g (m * 6) [Value.int .i64 k'.op, Value.int .i64 k'.co, Value.string k'.nm, Value.int .i64 k'.n, Value.int .i64 k'.d, Value.slice a3 k'.kids.length c3]).heap.size := by have h1 := HS8.out; have h2 := HE9.out.size; have h3 := hgr.size; omega
            refine hK.out _ _ ⟨hV10, (HNB.out.kpC ((Ext.refl _).drew.trans HE99.out).kpC).kpE hke (by omega)⟩ (fun hHeld => ?_)
            clear hK K
            have HI10 := Lib.hid (And.intro hV10 (And.intro hown10 (And.intro hE10 (And.intro hS10 hP10))))
            clear hV10 hown10 hE10 hS10 hP10 hN10 hrow10 HRW10 hke hgr hHeld
            try simp only [Act.put, List.setIfInBounds_toArray]
            refine wpAnyH_done (by kernel_rfl) ?_ _
            generalize w9.setCells g (m * 6) [Value.int .i64 k'.op, Value.int .i64 k'.co, Value.string k'.nm, Value.int .i64 k'.n, Value.int .i64 k'.d, Value.slice a3 k'.kids.length c3] = w10 at *
            go_wp2_with fail
            go_roundw
            case rel =>
              refine ⟨m + 1, xs ++ [k'], cs ++ [[Value.int .i64 k'.op, Value.int .i64 k'.co, Value.string k'.nm, Value.int .i64 k'.n, Value.int .i64 k'.d, Value.slice a3 k'.kids.length c3]], by go_num, by omega, HI10.out.1, HI10.out.2.1, HI10.out.2.2.1, HI10.out.2.2.2.1, ?_, ?_, ?_, HI10.out.2.2.2.2⟩
              · rw [HTS.out]
                exact resL_snoc HP8.out.1 HKR.out
              · rw [List.length_append, HP8.out.2.1]; rfl
              · rw [List.length_append, HP8.out.2.2.1]; rfl
            case measure => simp [intOf] <;> omega
        · have hki : ¬ (m : Int) < (r.kids.length : Int) := by omega
          obtain rfl : m = r.kids.length := by omega
          have hxs : resL l r.kids = some xs := by have := HP8.out.1; rwa [List.take_length] at this
          have HRES : Hid (r.res l = some (r.with c0 xs)) := Lib.hid (by rw [HRE.out, HN.out]; simp only [Option.bind_some, hxs, Option.map_some])
          rw [List.drop_of_length_le (by rw [HL.out]; exact Nat.le_refl _), List.append_nil] at HO8
          have y0 := HV8.out.2.1.cell (j := 0) rfl
          have q0 := HV8.out.2.2.cell (j := 0) rfl
          have f0 := HV8.out.2.2.froz 0
          have y1 := HV8.out.2.1.cell (j := 1) rfl
          have q1 := HV8.out.2.2.cell (j := 1) rfl
          have f1 := HV8.out.2.2.froz 1
          have y2 := HV8.out.2.1.cell (j := 2) rfl
          have q2 := HV8.out.2.2.cell (j := 2) rfl
          have f2 := HV8.out.2.2.froz 2
          have y3 := HV8.out.2.1.cell (j := 3) rfl
          have q3 := HV8.out.2.2.cell (j := 3) rfl
          have f3 := HV8.out.2.2.froz 3
          have y4 := HV8.out.2.1.cell (j := 4) rfl
          have q4 := HV8.out.2.2.cell (j := 4) rfl
          have f4 := HV8.out.2.2.froz 4
          have y5 := HV8.out.2.1.cell (j := 5) rfl
          have q5 := HV8.out.2.2.cell (j := 5) rfl
          have f5 := HV8.out.2.2.froz 5
          clear hxs
          go_wp2_with fail
          obtain ⟨Wf, hWf⟩ : ∃ Wf, wr.setCells (w.heap.size + 2) 0 [Value.int .i64 r.op, Value.int .i64 c0, Value.string r.nm, Value.int .i64 r.n, Value.int .i64 r.d, Value.slice a2 r.kids.length c2] = Wf := ⟨_, rfl⟩
          have hgr := setCells_grown (w.heap.size + 2) [Value.int .i64 r.op, Value.int .i64 c0, Value.string r.nm, Value.int .i64 r.n, Value.int .i64 r.d, Value.slice a2 r.kids.length c2] wr 0
          have hrow : Row (wr.setCells (w.heap.size + 2) 0 [Value.int .i64 r.op, Value.int .i64 c0, Value.string r.nm, Value.int .i64 r.n, Value.int .i64 r.d, Value.slice a2 r.kids.length c2]) (w.heap.size + 2) 39 [Value.int .i64 r.op, Value.int .i64 c0, Value.string r.nm, Value.int .i64 r.n, Value.int .i64 r.d, Value.slice a2 r.kids.length c2] := HV8.out.2.2.set (vs := [Value.int .i64 r.op, Value.int .i64 c0, Value.string r.nm, Value.int .i64 r.n, Value.int .i64 r.d, Value.slice a2 r.kids.length c2]) (o := 0) (Nat.le_refl _)
          rw [hWf] at hgr hrow
          rw [show ((((((wr.setCell ⟨w.heap.size + 1 + 1, 0, none⟩ (.int .i64 r.op)).setCell ⟨w.heap.size + 1 + 1, 1, none⟩ (.int .i64 c0)).setCell ⟨w.heap.size + 1 + 1, 2, none⟩ (.string r.nm)).setCell ⟨w.heap.size + 1 + 1, 3, none⟩ (.int .i64 r.n)).setCell ⟨w.heap.size + 1 + 1, 4, none⟩ (.int .i64 r.d)).setCell ⟨w.heap.size + 1 + 1, 5, none⟩ (.slice a2 r.kids.length c2)) = Wf from hWf]
          have hke := grown_kpE hgr
          have hE : Ext w Wf := Below.grown HE8.out hgr HE8.out.size (fun x hx => by cases hx; omega)
          have e0 := hrow.cell (j := 0) rfl
          have e1 := hrow.cell (j := 1) rfl
          have e2 := hrow.cell (j := 2) rfl
          have e3 := hrow.cell (j := 3) rfl
          have e4 := hrow.cell (j := 4) rfl
          have e5 := hrow.cell (j := 5) rfl
          have hlx := HP8.out.2.1
          have hcx : (r.with c0 xs).cells a2 c2 = [Value.int .i64 r.op, Value.int .i64 c0, Value.string r.nm, Value.int .i64 r.n, Value.int .i64 r.d, Value.slice a2 r.kids.length c2] := by
            show [Value.int .i64 r.op, Value.int .i64 c0, Value.string r.nm, Value.int .i64 r.n, Value.int .i64 r.d, Value.slice a2 xs.length c2] = _
            rw [hlx]
          obtain ⟨ax, cx, ex, hsl, hfar⟩ := SL.of_own (own_kpE HO8.out hke (by have := HSZ.out; omega)) (fun q hq => by
            obtain ⟨i, hi⟩ := List.getElem?_of_mem hq
            have hil := (List.getElem?_eq_some_iff.1 hi).1
            obtain ⟨x, hx⟩ : ∃ x, xs[i]? = some x := ⟨_, List.getElem?_eq_getElem (by rw [HP8.out.2.1, ← HP8.out.2.2.1]; exact hil)⟩
            exact (HP8.out.2.2.2 i x q hx hi).len) HP8.out.2.2.1
          cases ex
          have hrep : RepN w.heap.size Wf (r.with c0 xs) ((r.with c0 xs).cells a2 c2) := RepN.mk (r.with c0 xs) a2 c2 cs hsl (by rw [HP8.out.2.2.1]; exact hlx.symm) (fun i x q hx hq => ((HP8.out.2.2.2 i x q hx hq).kpE hke (by have h1 := HE7.out.size; have h2 := HSZ.out; have h3 := HW57.out; omega)).mono (by have h1 := HE7.out.size; omega)) ⟨HO.out.1, num_ok HN.out HO.out HR.out.oks, HO.out.2.2.1, HO.out.2.2.2⟩ (fun a ha _ => by
            have h1 : W5.heap.size ≤ a.block := by
              rw [ha] at HO8
              exact ownsRow_blocks HO8.out a.block rfl
            have h2 := HSZ.out
            omega)
          rw [HRES.out]
          refine ⟨rfl, .agg #[Value.int .i64 r.op, Value.int .i64 c0, Value.string r.nm, Value.int .i64 r.n, Value.int .i64 r.d, Value.slice a2 r.kids.length c2], by simp [results, Try.results47, go_sem, e0, e1, e2, e3, e4, e5], ⟨⟨a2, c2, by rw [hcx], hrep⟩, hE⟩⟩
end Go.Proofs.Ytimigpfoflilcaa
