/- Names: the law Turned. -/
import Derived.Test.YtimigpfoflilcaaLTp
import Derived.Deep.Cut
import Derived.Deep.CutRange
namespace Go.Sz
open Go.RowKit
theorem RepC.full {w : World} {ao : Option Addr} {cap : Nat} {l : List Cr} (h : RepC w ao cap l) : ∃ rows, SL w 16 ao cap rows ∧ rows.length = l.length ∧ (∀ (i : Nat) (x : Cr) (q : List Value), l[i]? = some x → rows[i]? = some q → ∃ u v, q = x.head ++ u ++ v ∧ RepU w x.need u ∧ RepU w x.bar v ∧ x.ok) ∧ ∀ r ∈ rows, ∀ u ∈ r, u.oneCell' = true := by
  obtain ⟨rows, h1, h2, h3⟩ := h
  refine ⟨rows, h1, h2, h3, fun r hr u hu => ?_⟩
  obtain ⟨i, hi⟩ := List.getElem?_of_mem hr
  have hil := (List.getElem?_eq_some_iff.1 hi).1
  obtain ⟨q, hq⟩ : ∃ q, l[i]? = some q := ⟨_, List.getElem?_eq_getElem (by rw [← h2]; exact hil)⟩
  obtain ⟨u', v', rfl, hu', hv', -⟩ := h3 i q r hq hi
  obtain ⟨a, n, rfl, -, -⟩ := hu'.out
  obtain ⟨b, m, rfl, -, -⟩ := hv'.out
  simp only [Cr.head, Rt.cells, List.cons_append, List.nil_append, List.mem_cons, List.not_mem_nil, or_false] at hu
  rcases hu with rfl | rfl | rfl | rfl | rfl | rfl | rfl | rfl | rfl | rfl | rfl | rfl | rfl | rfl | rfl | rfl <;> rfl
theorem SL.any_nil {w V : World} {n : Nat} {ao : Option Addr} {cap : Nat} {rows : List (List Value)} (h : SL w n ao cap rows) (h0 : rows = []) : SL V n ao cap rows :=
  ⟨h.le, h.max, h.nil, h.wid, fun i j r v hr => by rw [h0] at hr; simp at hr⟩
theorem SL.dropN {w : World} {n b o cap : Nat} {rows : List (List Value)} (h : SL w n (some ⟨b, o, none⟩) cap rows) (k : Nat) (hk : k ≤ rows.length) : SL w n (some ⟨b, o + k * n, none⟩) (cap - k) (rows.drop k) := by
  refine ⟨by have := h.le; rw [List.length_drop]; omega, by have := h.max; omega, fun e => (by cases e), fun r hr => h.wid r (List.mem_of_mem_drop hr), fun i j r v hr hv => ?_⟩
  rw [List.getElem?_drop] at hr
  obtain ⟨b', o', e, hc⟩ := h.cells (k + i) j r v hr hv
  cases e
  exact ⟨b, o + k * n, rfl, by rw [Nat.add_mul] at hc; rw [show o + k * n + i * n + j = o + (k * n + i * n) + j from by omega]; exact hc⟩
theorem SL.takeN {w : World} {n b o cap : Nat} {rows : List (List Value)} (h : SL w n (some ⟨b, o, none⟩) cap rows) (k : Nat) : SL w n (some ⟨b, o, none⟩) cap (rows.take k) :=
  ⟨by have := h.le; rw [List.length_take]; omega, h.max, fun e => (by cases e), fun r hr => h.wid r (List.mem_of_mem_take hr), fun i j r v hr hv => h.cells i j r v (by
    rw [List.getElem?_take] at hr
    split at hr
    · exact hr
    · cases hr) hv⟩
theorem turnL_at {α β : Type} {l : List α} {r : List β} (h : r.length = l.length) (k : Nat) {i : Nat} {x : α} {q : β} (hx : (turnL k l)[i]? = some x) (hq : (turnL k r)[i]? = some q) : ∃ j : Nat, l[j]? = some x ∧ r[j]? = some q := by
  unfold turnL at hx hq
  rw [List.getElem?_append, List.length_drop] at hx hq
  rw [h] at hq
  split at hx
  · rename_i hi
    rw [if_pos hi] at hq
    rw [List.getElem?_drop] at hx hq
    exact ⟨_, hx, hq⟩
  · rename_i hi
    rw [if_neg hi] at hq
    rw [List.getElem?_take] at hx hq
    split at hx
    · rename_i h2
      rw [if_pos h2] at hq
      exact ⟨_, hx, hq⟩
    · cases hx
theorem turnL_mem {α : Type} {l : List α} {k : Nat} {x : α} (h : x ∈ turnL k l) : x ∈ l := (turnL_perm k l).mem_iff.2 h
theorem turnL_flat {rows : List (List Value)} (k : Nat) : (turnL k rows).flatten = [] ++ (rows.drop k).flatten ++ (rows.take k).flatten := by
  unfold turnL
  rw [List.flatten_append, List.nil_append]
theorem wf_u64 {n : Int} (h : (Lit.int .u64 n).wf = true) : 0 ≤ n ∧ n ≤ 18446744073709551615 := by
  have hmin : IntKind.u64.min = 0 := by decide
  have hmax : IntKind.u64.max = 18446744073709551615 := by decide
  simp [Lit.wf, hmin, hmax] at h
  exact h
end Go.Sz
namespace Go.Proofs.Ytimigpfoflilcaa
open Go.RowKit Go.Sz
theorem infoKl : (Try.prog.info? 80).map (fun i => (i.zero, i.size, i.bytes)) = some (some (.agg #[.string ⟨#[]⟩, .int .i64 0, .int .i64 0, .int .i64 0]), 4, 40) := by kernel_rfl
/-- Resolve at a known result -/
theorem re_gen {c x : Cat} {n : Int} (hc : c.resN = (n, x)) (hk : c.Ok) (d : Adr) (w : World) (hX : RepX w d c) : Calls Try.prog 12 #[.agg (c.cells d).toArray] w fun e w' => ∃ g : Adr, e = .returned (.tuple #[.agg (x.cells g).toArray, .int .i64 n]) ∧ RepX w' g x ∧ Ext w w' := by
  refine (resolve_any c hk d w hX).mono ?_
  rintro e w' ⟨g, rfl, hR, hE⟩
  rw [hc] at hR
  rw [hc]
  exact ⟨g, rfl, hR, hE⟩
set_option maxRecDepth 1000000 in
set_option maxHeartbeats 12800000 in
theorem law_turned (c : Cat) (turn : Int) (d : Adr) (w : World) (hX : RepX w d c) (hb : ∀ x ∈ c.cs, x.need.parts.length ≤ 1048576 ∧ x.bar.parts.length ≤ 1048576) (hk : c.few → c.Ok) (ht : 0 ≤ turn ∧ turn ≤ 18446744073709551615) : Calls Try.prog 9 #[.agg (c.cells d).toArray, .int .u64 turn] w fun e w' => e = .returned (.bool true) ∧ Ext w w' := by
  have HKO := Lib.hid hk
  have HT := Lib.hid ht
  clear hk ht
  have hXA : Ext w (w.alloc (.cells #[.slice d.a0 c.cs.length d.k0, .slice d.a1 c.sm.length d.k1, .slice d.a2 c.pg.length d.k2, .slice d.a3 c.kl.length d.k3, .slice d.a4 c.fe.length d.k4, .slice d.a5 c.ho.length d.k5, .slice d.a6 c.cu.length d.k6] 29)) := (Ext.refl w).alloc _
  have HCB : Hid (Row (w.alloc (.cells #[.slice d.a0 c.cs.length d.k0, .slice d.a1 c.sm.length d.k1, .slice d.a2 c.pg.length d.k2, .slice d.a3 c.kl.length d.k3, .slice d.a4 c.fe.length d.k4, .slice d.a5 c.ho.length d.k5, .slice d.a6 c.cu.length d.k6] 29)) w.heap.size 29 [.slice d.a0 c.cs.length d.k0, .slice d.a1 c.sm.length d.k1, .slice d.a2 c.pg.length d.k2, .slice d.a3 c.kl.length d.k3, .slice d.a4 c.fe.length d.k4, .slice d.a5 c.ho.length d.k5, .slice d.a6 c.cu.length d.k6]) := Lib.hid (by unfold Row; rw [heap_al, if_pos rfl])
  have HX := Lib.hid hX
  have HB := Lib.hid hb
  have HX0 := Lib.hid hXA
  clear hX hb hXA
  unfold Cat.cells
  go_enter Try.func9, Try.ntmps9
  go_wp2_with fail
  generalize (w.alloc (.cells #[.slice d.a0 c.cs.length d.k0, .slice d.a1 c.sm.length d.k1, .slice d.a2 c.pg.length d.k2, .slice d.a3 c.kl.length d.k3, .slice d.a4 c.fe.length d.k4, .slice d.a5 c.ho.length d.k5, .slice d.a6 c.cu.length d.k6] 29)) = w0 at *
  refine (sane_any _).mono ?_
  rintro e w1 ⟨rfl, hE⟩
  have HE := Lib.hid hE
  clear hE
  have k0 := (HCB.out.kpC HE.out.kpC).cell (j := 0) rfl
  have k1 := (HCB.out.kpC HE.out.kpC).cell (j := 1) rfl
  have k2 := (HCB.out.kpC HE.out.kpC).cell (j := 2) rfl
  have k3 := (HCB.out.kpC HE.out.kpC).cell (j := 3) rfl
  have k4 := (HCB.out.kpC HE.out.kpC).cell (j := 4) rfl
  have k5 := (HCB.out.kpC HE.out.kpC).cell (j := 5) rfl
  have k6 := (HCB.out.kpC HE.out.kpC).cell (j := 6) rfl
  go_wp2_with fail
  clear k0 k1 k2 k3 k4 k5 k6
  refine (refFew_any c d w1 (HX.out.ext (HX0.out.trans HE.out)) HB.out).mono ?_
  rintro e w2 ⟨b, rfl, hiff, hE2⟩
  have HIFF := Lib.hid hiff
  have HE2 := Lib.hid (HE.out.trans hE2)
  clear hiff hE2
  cases b with
  | false =>
    go_wp2_with fail
    go_ret
    exact ⟨rfl, HX0.out.trans HE2.out⟩
  | true =>
    have hfew : c.few := HIFF.out.1 (by simp)
    have HN0 : Hid (c.cs.length ≤ 100000) := Lib.hid (by have := hfew.n0; omega)
    have HBN : Hid (∀ x ∈ c.cs, x.need.parts.length ≤ 1048576) := Lib.hid (fun x hx => (HB.out x hx).1)
    have HOK := Lib.hid (HKO.out hfew)
    clear hfew
    have k0 := (HCB.out.kpC HE2.out.kpC).cell (j := 0) rfl
    have k1 := (HCB.out.kpC HE2.out.kpC).cell (j := 1) rfl
    have k2 := (HCB.out.kpC HE2.out.kpC).cell (j := 2) rfl
    have k3 := (HCB.out.kpC HE2.out.kpC).cell (j := 3) rfl
    have k4 := (HCB.out.kpC HE2.out.kpC).cell (j := 4) rfl
    have k5 := (HCB.out.kpC HE2.out.kpC).cell (j := 5) rfl
    have k6 := (HCB.out.kpC HE2.out.kpC).cell (j := 6) rfl
    obtain ⟨rowsC, hsC, hlC, hcC, hoC⟩ := HX.out.cs.full
    obtain ⟨rowsG, hsG, hlG, hcG, hoG⟩ := HX.out.pg.ones
    have hlK : (c.kl.map Kl.cells).length = c.kl.length := List.length_map _
    have hoK : ∀ r ∈ c.kl.map Kl.cells, ∀ u ∈ r, u.oneCell' = true := fun r hr u hu => by
      obtain ⟨p, _, rfl⟩ := List.mem_map.1 hr
      simp only [Kl.cells, List.mem_cons, List.not_mem_nil, or_false] at hu
      rcases hu with rfl | rfl | rfl | rfl <;> rfl
    have hsK := HX.out.kl
    obtain ⟨rowsK, hrowsK⟩ : ∃ r, c.kl.map Kl.cells = r := ⟨_, rfl⟩
    rw [hrowsK] at hlK hoK hsK
    have HrowsC := Lib.hid (And.intro hsC (And.intro hlC hoC))
    have HrowsG := Lib.hid (And.intro hsG (And.intro hlG hoG))
    have HrowsK := Lib.hid (And.intro hsK (And.intro hlK hoK))
    have HCC := Lib.hid (And.intro hcC hcG)
    have HRK := Lib.hid hrowsK
    clear hsC hlC hoC hcC hsG hlG hoG hcG hsK hlK hoK hrowsK
    have hE3 : Ext w2 (w2.alloc (.cells #[.slice d.a0 c.cs.length d.k0, .slice d.a1 c.sm.length d.k1, .slice d.a2 c.pg.length d.k2, .slice d.a3 c.kl.length d.k3, .slice d.a4 c.fe.length d.k4, .slice d.a5 c.ho.length d.k5, .slice d.a6 c.cu.length d.k6] 29)) := (Ext.refl w2).alloc _
    obtain ⟨x0, hx0⟩ : ∃ x, w2.alloc (.cells #[.slice d.a0 c.cs.length d.k0, .slice d.a1 c.sm.length d.k1, .slice d.a2 c.pg.length d.k2, .slice d.a3 c.kl.length d.k3, .slice d.a4 c.fe.length d.k4, .slice d.a5 c.ho.length d.k5, .slice d.a6 c.cu.length d.k6] 29) = x := ⟨_, rfl⟩
    have HROW0 : Hid (Row x0 w2.heap.size 29 [.slice d.a0 c.cs.length d.k0, .slice d.a1 c.sm.length d.k1, .slice d.a2 c.pg.length d.k2, .slice d.a3 c.kl.length d.k3, .slice d.a4 c.fe.length d.k4, .slice d.a5 c.ho.length d.k5, .slice d.a6 c.cu.length d.k6]) := Lib.hid (by rw [← hx0]; unfold Row; rw [heap_al, if_pos rfl])
    rw [hx0] at hE3
    have HEX0 := Lib.hid hE3
    clear hE3
    go_upto_region 6 with fail

    clear hx0 k0 k1 k2 k3 k4 k5 k6
    have b0 := (HCB.out.kpC (HE2.out.trans HEX0.out).kpC).cell (j := 0) rfl
    go_upto_if 27 with fail
    go_cut [7] from 27 to 44 (fun s7 wx => Ext w2 wx ∧ KpE w2.heap.size x0 wx ∧ ∃ e0 f0, Row wx w2.heap.size 29 [.slice e0 c.cs.length f0, .slice d.a1 c.sm.length d.k1, .slice d.a2 c.pg.length d.k2, .slice d.a3 c.kl.length d.k3, .slice d.a4 c.fe.length d.k4, .slice d.a5 c.ho.length d.k5, .slice d.a6 c.cu.length d.k6] ∧ ∃ k0 : Nat, ∀ V, KpE w2.heap.size wx V → SL V 16 e0 f0 (turnL k0 rowsC))
    case first =>
      by_cases hn : c.cs.length = 0
      · have hni : ¬ (0 : Int) < (c.cs.length : Int) := by omega
        have hr0 : rowsC = [] := List.length_eq_zero_iff.1 (by rw [HrowsC.out.2.1]; exact hn)
        have hnd : decide ((0 : Int) < (c.cs.length : Int)) = false := decide_eq_false hni
        clear hn
        go_wp2_with fail
        go_meet
        exact ⟨HEX0.out, KpC.kpE (Ext.refl _).kpC, _, _, HROW0.out, 0, fun V _ => by
          unfold turnL
          rw [List.drop_zero, List.take_zero, List.append_nil]
          exact HrowsC.out.1.any_nil hr0⟩
      · have hnp : 0 < c.cs.length := by omega
        have hni : (0 : Int) < (c.cs.length : Int) := by omega
        have hnd : decide ((0 : Int) < (c.cs.length : Int)) = true := decide_eq_true hni
        have hmax : c.cs.length ≤ 1000 := HOK.out.n0
        obtain ⟨k, hkt, hkn⟩ : ∃ k : Nat, Int.tmod turn (c.cs.length : Int) = (k : Int) ∧ k < c.cs.length := by
          have h0 := HT.out.1
          obtain ⟨u, hu⟩ := Int.eq_ofNat_of_zero_le h0
          refine ⟨u % c.cs.length, ?_, Nat.mod_lt _ hnp⟩
          rw [Int.tmod_eq_emod_of_nonneg h0, hu]
          omega
        have hwn : IntKind.u64.wrap (c.cs.length : Int) = (c.cs.length : Int) := by simp [IntKind.wrap, IntKind.bits, IntKind.signed]; omega
        have hwk : IntKind.i64.wrap (k : Int) = (k : Int) := by simp [IntKind.wrap, IntKind.bits, IntKind.signed]; omega
        have hwk' : IntKind.u64.wrap (k : Int) = (k : Int) := by simp [IntKind.wrap, IntKind.bits, IntKind.signed]; omega
        have hdz : ((c.cs.length : Int) == 0) = false := beq_eq_false_iff_ne.2 (by omega)
        have hdz' : ¬ (c.cs.length : Int) = 0 := by omega
        obtain ⟨B, o, ea⟩ : ∃ B o, d.a0 = some ⟨B, o, none⟩ := by
          obtain ⟨r, hr⟩ : ∃ r, rowsC[0]? = some r := ⟨_, List.getElem?_eq_getElem (by rw [HrowsC.out.2.1]; exact hnp)⟩
          obtain ⟨B, o, e, -⟩ := HrowsC.out.1.rowAt' hr (fun e => by have h := HrowsC.out.1.wid r (List.mem_of_getElem? hr); rw [e] at h; cases h)
          exact ⟨B, o, e⟩
        have HSR := Lib.hid (ea ▸ HrowsC.out.1)
        have HEA := Lib.hid ea
        have HKN := Lib.hid (And.intro hkn hmax)
        rw [ea] at b0
        clear ea
        go_wp2_with fail
        clear b0 hkt hwn hwk hwk' hdz hdz' hnd hni hnp hn
        have hle := HrowsC.out.1.le
        have hlen := HrowsC.out.2.1
        have hkc : k ≤ d.k0 := by omega
        have hkc' : ¬ d.k0 = k := by omega
        have hkn' : k ≤ c.cs.length := by omega
        clear hle hlen
        have hkl : (k : Int) ≤ (c.cs.length : Int) := by omega
        have hk0 : (0 : Int) ≤ (k : Int) := by omega
        have HCELL : Hid (∀ W, Ext w2 W → W.cell? ⟨w.heap.size, 0, none⟩ = some (.slice (some ⟨B, o, none⟩) c.cs.length d.k0)) := Lib.hid fun W h => by
          have h1 := (HCB.out.kpC (HE2.out.trans h).kpC).cell (j := 0) rfl
          rw [HEA.out] at h1
          exact h1
        have hHeld0 : Ext w2 x0.drew := HEX0.out.trans (Ext.refl _).drew
        obtain ⟨i0, hi, hz0, hz1, hz2⟩ := info_parts infoC
        have HIS := Lib.hid (And.intro hi (And.intro hz0 (And.intro hz1 hz2)))
        clear hi hz0 hz1 hz2
        refine wp_region_held_drew (S := fun W => Ext w2 W) (by kernel_rfl) hHeld0 (fun hHeld => ?_)
        clear hHeld0
        refine wpAnyH_take (i := 1) (oi := ?oi1) (v := ?v1) ?hi1 (by kernel_rfl) (by kernel_rfl) (by kernel_rfl) ?hQ1 (Or.inl ⟨?hw1, ?hy1⟩) hHeld ?rest1
        case hi1 =>
          simp only [List.getElem?_toArray, List.getElem?_cons_succ, List.getElem?_cons_zero] <;> rfl
        case hQ1 => exact fun _ _ _ h => h
        case hw1 => rfl
        case hy1 =>
          intro wS hSw
          obtain k0 := HCELL.out wS hSw
          go_simp
          first | done | with_reducible rfl | rfl
        simp only [Act.put, List.setIfInBounds_toArray, List.set_cons_zero, List.set_cons_succ]
        refine wpAnyH_take (i := 2) (oi := ?oi2) (v := ?v2) ?hi2 (by kernel_rfl) (by kernel_rfl) (by kernel_rfl) ?hQ2 (Or.inl ⟨?hw2, ?hy2⟩) hHeld ?rest2
        case hi2 =>
          simp only [List.getElem?_toArray, List.getElem?_cons_succ, List.getElem?_cons_zero] <;> rfl
        case hQ2 => exact fun _ _ _ h => h
        case hw2 => rfl
        case hy2 =>
          intro wS hSw
          obtain k0 := HCELL.out wS hSw
          go_simp
          first | done | with_reducible rfl | rfl
        simp only [Act.put, List.setIfInBounds_toArray, List.set_cons_zero, List.set_cons_succ]
        refine wpAnyH_take (i := 3) (oi := ?oi3) (v := ?v3) ?hi3 (by kernel_rfl) (by kernel_rfl) (by kernel_rfl) ?hQ3 (Or.inl ⟨?hw3, ?hy3⟩) hHeld ?rest3
        case hi3 =>
          simp only [List.getElem?_toArray, List.getElem?_cons_succ, List.getElem?_cons_zero] <;> rfl
        case hQ3 => exact fun _ _ _ h => h
        case hw3 => rfl
        case hy3 =>
          intro wS hSw
          obtain k0 := HCELL.out wS hSw
          go_simp
          first | done | with_reducible rfl | rfl
        simp only [Act.put, List.setIfInBounds_toArray, List.set_cons_zero, List.set_cons_succ]
        refine wpAnyH_take (i := 4) (oi := ?oi4) (v := ?v4) ?hi4 (by kernel_rfl) (by kernel_rfl) (by kernel_rfl) ?hQ4 (Or.inl ⟨?hw4, ?hy4⟩) hHeld ?rest4
        case hi4 =>
          simp only [List.getElem?_toArray, List.getElem?_cons_succ, List.getElem?_cons_zero] <;> rfl
        case hQ4 => exact fun _ _ _ h => h
        case hw4 => rfl
        case hy4 =>
          intro wS hSw
          obtain k0 := HCELL.out wS hSw
          go_simp
          first | done | with_reducible rfl | rfl
        simp only [Act.put, List.setIfInBounds_toArray, List.set_cons_zero, List.set_cons_succ]
        refine wpAnyH_take (i := 6) (oi := ?oi5) (v := ?v5) ?hi5 (by kernel_rfl) (by kernel_rfl) (by kernel_rfl) ?hQ5 (Or.inl ⟨?hw5, ?hy5⟩) hHeld ?rest5
        case hi5 =>
          simp only [List.getElem?_toArray, List.getElem?_cons_succ, List.getElem?_cons_zero] <;> rfl
        case hQ5 => exact fun _ _ _ h => h
        case hw5 => rfl
        case hy5 =>
          intro wS hSw
          obtain k0 := HCELL.out wS hSw
          go_simp
          first | done | with_reducible rfl | rfl
        simp only [Act.put, List.setIfInBounds_toArray, List.set_cons_zero, List.set_cons_succ]
        refine wpAnyH_take (i := 7) (oi := ?oi6) (v := ?v6) ?hi6 (by kernel_rfl) (by kernel_rfl) (by kernel_rfl) ?hQ6 (Or.inl ⟨?hw6, ?hy6⟩) hHeld ?rest6
        case hi6 =>
          simp only [List.getElem?_toArray, List.getElem?_cons_succ, List.getElem?_cons_zero] <;> rfl
        case hQ6 => exact fun _ _ _ h => h
        case hw6 => rfl
        case hy6 =>
          intro wS hSw
          obtain k0 := HCELL.out wS hSw
          go_simp
          first | done | with_reducible rfl | rfl
        simp only [Act.put, List.setIfInBounds_toArray, List.set_cons_zero, List.set_cons_succ]
        refine wpAnyH_take (i := 8) (oi := ?oi7) (v := ?v7) ?hi7 (by kernel_rfl) (by kernel_rfl) (by kernel_rfl) ?hQ7 (Or.inl ⟨?hw7, ?hy7⟩) hHeld ?rest7
        case hi7 =>
          simp only [List.getElem?_toArray, List.getElem?_cons_succ, List.getElem?_cons_zero] <;> rfl
        case hQ7 => exact fun _ _ _ h => h
        case hw7 => rfl
        case hy7 =>
          intro wS hSw
          obtain k0 := HCELL.out wS hSw
          go_simp
          first | done | with_reducible rfl | rfl
        simp only [Act.put, List.setIfInBounds_toArray, List.set_cons_zero, List.set_cons_succ]
        refine wpAnyH_take (i := 9) (oi := ?oi8) (v := ?v8) ?hi8 (by kernel_rfl) (by kernel_rfl) (by kernel_rfl) ?hQ8 (Or.inl ⟨?hw8, ?hy8⟩) hHeld ?rest8
        case hi8 =>
          simp only [List.getElem?_toArray, List.getElem?_cons_succ, List.getElem?_cons_zero] <;> rfl
        case hQ8 => exact fun _ _ _ h => h
        case hw8 => rfl
        case hy8 =>
          intro wS hSw
          obtain k0 := HCELL.out wS hSw
          go_simp
          first | done | with_reducible rfl | rfl
        simp only [Act.put, List.setIfInBounds_toArray, List.set_cons_zero, List.set_cons_succ]
        refine wpAnyH_ready (rs := [0]) (by kernel_rfl) (by simp) ?_
        refine AllReadyH.cons rfl (fun K hK => ?_) AllReadyH.nil
        go_simp
        have hX1 : Ext x0 (x0.alloc (.cells #[] 41)).drew := ((Ext.refl _).alloc _).drew
        have ho := ownsRow_ext (own_empty x0 x0.heap.size (Nat.le_refl _) 41 16) (Ext.refl _).drew
        obtain ⟨y1, hy1⟩ : ∃ y, (x0.alloc (.cells #[] 41)).drew = y := ⟨_, rfl⟩
        rw [hy1] at ho hX1 ⊢
        clear hy1
        refine hK.out _ _ (HEX0.out.trans hX1) (fun hHeld => ?_)
        clear hK K
        have HO1 := Lib.hid ho
        have HX1 := Lib.hid hX1
        clear ho hX1 hHeld
        try simp only [Act.put]
        refine wpAnyH_ready (rs := [5]) (by kernel_rfl) (by simp) ?_
        refine AllReadyH.cons rfl (fun K hK => ?_) AllReadyH.nil
        refine wp_append_S _ _ 22 22 rfl x0.heap.size 41 i0 _ 16 184 Try.underlying22 HIS.out.1 HIS.out.2.1 HIS.out.2.2.1 HIS.out.2.2.2 rfl _ 0 [] rfl HO1.out (.slice (some ⟨B, o + k * 16, none⟩) (c.cs.length - k) (d.k0 - k)) (c.cs.length - k) (rowsC.drop k).flatten rfl ?_ (by unfold maxLen; omega) (by omega) HX1.out.size ?_
        · have h := SL.src (P := Try.prog) ((HSR.out.dropN k (by rw [HrowsC.out.2.1]; exact hkn')).ext (HX0.out.trans (HE2.out.trans (HEX0.out.trans HX1.out)))) (by decide) (tx := 22) Try.underlying22 (fun r hr => HrowsC.out.2.2 r (List.mem_of_mem_drop hr))
          rw [List.length_drop, HrowsC.out.2.1] at h
          exact h
        intro v1 y2 ho1 hg1
        have hX2 := Ext.own_step HX1.out hg1 HO1.out
        obtain ⟨a1, c1, rfl⟩ := ownsRow_slice ho1
        refine hK.out _ _ (HEX0.out.trans hX2) (fun hHeld => ?_)
        clear hK K
        have HO2 := Lib.hid ho1
        have HX2 := Lib.hid hX2
        clear ho1 hg1 hX2 hHeld
        try simp only [Act.put]
        refine wpAnyH_ready (rs := [10]) (by kernel_rfl) (by simp) ?_
        refine AllReadyH.cons rfl (fun K hK => ?_) AllReadyH.nil
        refine wp_append_S _ _ 22 22 rfl x0.heap.size 41 i0 _ 16 184 Try.underlying22 HIS.out.1 HIS.out.2.1 HIS.out.2.2.1 HIS.out.2.2.2 rfl _ (0 + (c.cs.length - k)) ([] ++ (rowsC.drop k).flatten) rfl HO2.out (.slice (some ⟨B, o, none⟩) k d.k0) k (rowsC.take k).flatten rfl ?_ (by unfold maxLen; omega) (by omega) HX2.out.size ?_
        · have h := SL.src (P := Try.prog) ((HSR.out.takeN k).ext (HX0.out.trans (HE2.out.trans (HEX0.out.trans HX2.out)))) (by decide) (tx := 22) Try.underlying22 (fun r hr => HrowsC.out.2.2 r (List.mem_of_mem_take hr))
          rw [List.length_take, HrowsC.out.2.1, Nat.min_eq_left hkn'] at h
          exact h
        intro v2 y3 ho2 hg2
        have hX3 := Ext.own_step HX2.out hg2 HO2.out
        have hcnt : 0 + (c.cs.length - k) + k = c.cs.length := by omega
        rw [hcnt] at ho2
        rw [← turnL_flat] at ho2
        obtain ⟨a2, c2, rfl⟩ := ownsRow_slice ho2
        refine hK.out _ _ (HEX0.out.trans hX3) (fun hHeld => ?_)
        clear hK K
        have HO3 := Lib.hid ho2
        have HX3 := Lib.hid hX3
        clear ho2 hg2 hX3
        try simp only [Act.put]
        refine wpAnyH_take (i := 11) (oi := ?oi9) (v := ?v9) ?hi9 (by kernel_rfl) (by kernel_rfl) (by kernel_rfl) ?hQ9 (Or.inl ⟨?hw9, ?hy9⟩) hHeld ?rest9
        case hi9 =>
          simp only [List.getElem?_toArray, List.getElem?_cons_succ, List.getElem?_cons_zero] <;> rfl
        case hQ9 => exact fun _ _ _ h => h
        case hw9 => rfl
        case hy9 =>
          intro wS hSw
          obtain k0 := HCELL.out wS hSw
          go_simp
          first | done | with_reducible rfl | rfl
        simp only [Act.put, List.setIfInBounds_toArray]
        have hRy := HROW0.out.kpC HX3.out.kpC
        have hy := hRy.cell (j := 0) rfl
        have z := hRy.froz 0
        have hRow := hRy.put (o := 0) (.slice a2 c.cs.length c2) (show 0 + 1 ≤ 7 from by decide)
        have HRW := Lib.hid hRow
        clear hRow hRy
        refine wpAnyH_ready (rs := [12]) (by kernel_rfl) (by simp) ?_
        refine AllReadyH.cons rfl (fun K hK => ?_) AllReadyH.nil
        go_simp
        have hgr := setCell_grown y3 w2.heap.size 0 (.slice a2 c.cs.length c2)
        have HGR := Lib.hid hgr
        have hE4 : Ext w2 (y3.setCell ⟨w2.heap.size, 0, none⟩ (.slice a2 c.cs.length c2)) := Below.grown hHeld hgr hHeld.size (fun x hx => by cases hx; exact Nat.le_refl _)
        refine hK.out _ _ hE4 (fun hHeld => ?_)
        clear hK K hy z hgr
        try simp only [Act.put]
        refine wpAnyH_done (by kernel_rfl) ?_ _
        go_wp2_with fail
        go_meet
        have hYl : w2.heap.size < x0.heap.size := (Array.getElem?_eq_some_iff.1 HROW0.out).1
        refine ⟨hE4, HX3.out.kpC.kpE.trans (grown_kpE HGR.out), a2, c2, HRW.out, k, fun V hV => ?_⟩
        obtain ⟨_, _, e, hs, -⟩ := SL.of_own (own_kpE (own_kpE HO3.out (grown_kpE HGR.out) hYl) hV hYl) (fun r hr => HrowsC.out.1.wid r (turnL_mem hr)) (by rw [turnL_len]; exact HrowsC.out.2.1)
        cases e
        exact hs
    case rest =>
      obtain ⟨hE, hK, e0, f0, hR, k0, hS⟩ := hcut
      have HEX1 := Lib.hid hE
      have HKP0 := Lib.hid hK
      have HROW1 := Lib.hid hR
      have HSL0 := Lib.hid hS
      obtain ⟨x1, rfl⟩ : ∃ x1, x1 = wc := ⟨_, rfl⟩
      clear hE hK hR hS b0
      have b2 := (HCB.out.kpC (HE2.out.trans HEX1.out).kpC).cell (j := 2) rfl
      go_upto_if 49 with fail
      go_cut [9] from 49 to 66 (fun s7 wx => Ext w2 wx ∧ KpE w2.heap.size x1 wx ∧ ∃ e1 f1, Row wx w2.heap.size 29 [.slice e0 c.cs.length f0, .slice d.a1 c.sm.length d.k1, .slice e1 c.pg.length f1, .slice d.a3 c.kl.length d.k3, .slice d.a4 c.fe.length d.k4, .slice d.a5 c.ho.length d.k5, .slice d.a6 c.cu.length d.k6] ∧ ∃ k1 : Nat, ∀ V, KpE w2.heap.size wx V → SL V 7 e1 f1 (turnL k1 rowsG))
      case first =>
        by_cases hn : c.pg.length = 0
        · have hni : ¬ (0 : Int) < (c.pg.length : Int) := by omega
          have hr0 : rowsG = [] := List.length_eq_zero_iff.1 (by rw [HrowsG.out.2.1]; exact hn)
          have hnd : decide ((0 : Int) < (c.pg.length : Int)) = false := decide_eq_false hni
          clear hn
          go_wp2_with fail
          go_meet
          exact ⟨HEX1.out, KpC.kpE (Ext.refl _).kpC, _, _, HROW1.out, 0, fun V _ => by
            unfold turnL
            rw [List.drop_zero, List.take_zero, List.append_nil]
            exact HrowsG.out.1.any_nil hr0⟩
        · have hnp : 0 < c.pg.length := by omega
          have hni : (0 : Int) < (c.pg.length : Int) := by omega
          have hnd : decide ((0 : Int) < (c.pg.length : Int)) = true := decide_eq_true hni
          have hmax : c.pg.length ≤ 1000 := HOK.out.n2
          obtain ⟨k, hkt, hkn⟩ : ∃ k : Nat, Int.tmod turn (c.pg.length : Int) = (k : Int) ∧ k < c.pg.length := by
            have h0 := HT.out.1
            obtain ⟨u, hu⟩ := Int.eq_ofNat_of_zero_le h0
            refine ⟨u % c.pg.length, ?_, Nat.mod_lt _ hnp⟩
            rw [Int.tmod_eq_emod_of_nonneg h0, hu]
            omega
          have hwn : IntKind.u64.wrap (c.pg.length : Int) = (c.pg.length : Int) := by simp [IntKind.wrap, IntKind.bits, IntKind.signed]; omega
          have hwk : IntKind.i64.wrap (k : Int) = (k : Int) := by simp [IntKind.wrap, IntKind.bits, IntKind.signed]; omega
          have hwk' : IntKind.u64.wrap (k : Int) = (k : Int) := by simp [IntKind.wrap, IntKind.bits, IntKind.signed]; omega
          have hdz : ((c.pg.length : Int) == 0) = false := beq_eq_false_iff_ne.2 (by omega)
          have hdz' : ¬ (c.pg.length : Int) = 0 := by omega
          obtain ⟨B, o, ea⟩ : ∃ B o, d.a2 = some ⟨B, o, none⟩ := by
            obtain ⟨r, hr⟩ : ∃ r, rowsG[0]? = some r := ⟨_, List.getElem?_eq_getElem (by rw [HrowsG.out.2.1]; exact hnp)⟩
            obtain ⟨B, o, e, -⟩ := HrowsG.out.1.rowAt' hr (fun e => by have h := HrowsG.out.1.wid r (List.mem_of_getElem? hr); rw [e] at h; cases h)
            exact ⟨B, o, e⟩
          have HSR := Lib.hid (ea ▸ HrowsG.out.1)
          have HEA := Lib.hid ea
          have HKN := Lib.hid (And.intro hkn hmax)
          rw [ea] at b2
          clear ea
          go_wp2_with fail
          clear b2 hkt hwn hwk hwk' hdz hdz' hnd hni hnp hn
          have hle := HrowsG.out.1.le
          have hlen := HrowsG.out.2.1
          have hkc : k ≤ d.k2 := by omega
          have hkc' : ¬ d.k2 = k := by omega
          have hkn' : k ≤ c.pg.length := by omega
          clear hle hlen
          have hkl : (k : Int) ≤ (c.pg.length : Int) := by omega
          have hk0 : (0 : Int) ≤ (k : Int) := by omega
          have HCELL : Hid (∀ W, Ext w2 W → W.cell? ⟨w.heap.size, 2, none⟩ = some (.slice (some ⟨B, o, none⟩) c.pg.length d.k2)) := Lib.hid fun W h => by
            have h1 := (HCB.out.kpC (HE2.out.trans h).kpC).cell (j := 2) rfl
            rw [HEA.out] at h1
            exact h1
          have hHeld0 : Ext w2 x1.drew := HEX1.out.trans (Ext.refl _).drew
          obtain ⟨i0, hi, hz0, hz1, hz2⟩ := info_parts infoG
          have HIS := Lib.hid (And.intro hi (And.intro hz0 (And.intro hz1 hz2)))
          clear hi hz0 hz1 hz2
          refine wp_region_held_drew (S := fun W => Ext w2 W) (by kernel_rfl) hHeld0 (fun hHeld => ?_)
          clear hHeld0
          refine wpAnyH_take (i := 1) (oi := ?oi10) (v := ?v10) ?hi10 (by kernel_rfl) (by kernel_rfl) (by kernel_rfl) ?hQ10 (Or.inl ⟨?hw10, ?hy10⟩) hHeld ?rest10
          case hi10 =>
            simp only [List.getElem?_toArray, List.getElem?_cons_succ, List.getElem?_cons_zero] <;> rfl
          case hQ10 => exact fun _ _ _ h => h
          case hw10 => rfl
          case hy10 =>
            intro wS hSw
            obtain k0 := HCELL.out wS hSw
            go_simp
            first | done | with_reducible rfl | rfl
          simp only [Act.put, List.setIfInBounds_toArray, List.set_cons_zero, List.set_cons_succ]
          refine wpAnyH_take (i := 2) (oi := ?oi11) (v := ?v11) ?hi11 (by kernel_rfl) (by kernel_rfl) (by kernel_rfl) ?hQ11 (Or.inl ⟨?hw11, ?hy11⟩) hHeld ?rest11
          case hi11 =>
            simp only [List.getElem?_toArray, List.getElem?_cons_succ, List.getElem?_cons_zero] <;> rfl
          case hQ11 => exact fun _ _ _ h => h
          case hw11 => rfl
          case hy11 =>
            intro wS hSw
            obtain k0 := HCELL.out wS hSw
            go_simp
            first | done | with_reducible rfl | rfl
          simp only [Act.put, List.setIfInBounds_toArray, List.set_cons_zero, List.set_cons_succ]
          refine wpAnyH_take (i := 3) (oi := ?oi12) (v := ?v12) ?hi12 (by kernel_rfl) (by kernel_rfl) (by kernel_rfl) ?hQ12 (Or.inl ⟨?hw12, ?hy12⟩) hHeld ?rest12
          case hi12 =>
            simp only [List.getElem?_toArray, List.getElem?_cons_succ, List.getElem?_cons_zero] <;> rfl
          case hQ12 => exact fun _ _ _ h => h
          case hw12 => rfl
          case hy12 =>
            intro wS hSw
            obtain k0 := HCELL.out wS hSw
            go_simp
            first | done | with_reducible rfl | rfl
          simp only [Act.put, List.setIfInBounds_toArray, List.set_cons_zero, List.set_cons_succ]
          refine wpAnyH_take (i := 4) (oi := ?oi13) (v := ?v13) ?hi13 (by kernel_rfl) (by kernel_rfl) (by kernel_rfl) ?hQ13 (Or.inl ⟨?hw13, ?hy13⟩) hHeld ?rest13
          case hi13 =>
            simp only [List.getElem?_toArray, List.getElem?_cons_succ, List.getElem?_cons_zero] <;> rfl
          case hQ13 => exact fun _ _ _ h => h
          case hw13 => rfl
          case hy13 =>
            intro wS hSw
            obtain k0 := HCELL.out wS hSw
            go_simp
            first | done | with_reducible rfl | rfl
          simp only [Act.put, List.setIfInBounds_toArray, List.set_cons_zero, List.set_cons_succ]
          refine wpAnyH_take (i := 6) (oi := ?oi14) (v := ?v14) ?hi14 (by kernel_rfl) (by kernel_rfl) (by kernel_rfl) ?hQ14 (Or.inl ⟨?hw14, ?hy14⟩) hHeld ?rest14
          case hi14 =>
            simp only [List.getElem?_toArray, List.getElem?_cons_succ, List.getElem?_cons_zero] <;> rfl
          case hQ14 => exact fun _ _ _ h => h
          case hw14 => rfl
          case hy14 =>
            intro wS hSw
            obtain k0 := HCELL.out wS hSw
            go_simp
            first | done | with_reducible rfl | rfl
          simp only [Act.put, List.setIfInBounds_toArray, List.set_cons_zero, List.set_cons_succ]
          refine wpAnyH_take (i := 7) (oi := ?oi15) (v := ?v15) ?hi15 (by kernel_rfl) (by kernel_rfl) (by kernel_rfl) ?hQ15 (Or.inl ⟨?hw15, ?hy15⟩) hHeld ?rest15
          case hi15 =>
            simp only [List.getElem?_toArray, List.getElem?_cons_succ, List.getElem?_cons_zero] <;> rfl
          case hQ15 => exact fun _ _ _ h => h
          case hw15 => rfl
          case hy15 =>
            intro wS hSw
            obtain k0 := HCELL.out wS hSw
            go_simp
            first | done | with_reducible rfl | rfl
          simp only [Act.put, List.setIfInBounds_toArray, List.set_cons_zero, List.set_cons_succ]
          refine wpAnyH_take (i := 8) (oi := ?oi16) (v := ?v16) ?hi16 (by kernel_rfl) (by kernel_rfl) (by kernel_rfl) ?hQ16 (Or.inl ⟨?hw16, ?hy16⟩) hHeld ?rest16
          case hi16 =>
            simp only [List.getElem?_toArray, List.getElem?_cons_succ, List.getElem?_cons_zero] <;> rfl
          case hQ16 => exact fun _ _ _ h => h
          case hw16 => rfl
          case hy16 =>
            intro wS hSw
            obtain k0 := HCELL.out wS hSw
            go_simp
            first | done | with_reducible rfl | rfl
          simp only [Act.put, List.setIfInBounds_toArray, List.set_cons_zero, List.set_cons_succ]
          refine wpAnyH_take (i := 9) (oi := ?oi17) (v := ?v17) ?hi17 (by kernel_rfl) (by kernel_rfl) (by kernel_rfl) ?hQ17 (Or.inl ⟨?hw17, ?hy17⟩) hHeld ?rest17
          case hi17 =>
            simp only [List.getElem?_toArray, List.getElem?_cons_succ, List.getElem?_cons_zero] <;> rfl
          case hQ17 => exact fun _ _ _ h => h
          case hw17 => rfl
          case hy17 =>
            intro wS hSw
            obtain k0 := HCELL.out wS hSw
            go_simp
            first | done | with_reducible rfl | rfl
          simp only [Act.put, List.setIfInBounds_toArray, List.set_cons_zero, List.set_cons_succ]
          refine wpAnyH_ready (rs := [0]) (by kernel_rfl) (by simp) ?_
          refine AllReadyH.cons rfl (fun K hK => ?_) AllReadyH.nil
          go_simp
          have hX1 : Ext x1 (x1.alloc (.cells #[] 62)).drew := ((Ext.refl _).alloc _).drew
          have ho := ownsRow_ext (own_empty x1 x1.heap.size (Nat.le_refl _) 62 7) (Ext.refl _).drew
          obtain ⟨y1, hy1⟩ : ∃ y, (x1.alloc (.cells #[] 62)).drew = y := ⟨_, rfl⟩
          rw [hy1] at ho hX1 ⊢
          clear hy1
          refine hK.out _ _ (HEX1.out.trans hX1) (fun hHeld => ?_)
          clear hK K
          have HO1 := Lib.hid ho
          have HX1 := Lib.hid hX1
          clear ho hX1 hHeld
          try simp only [Act.put]
          refine wpAnyH_ready (rs := [5]) (by kernel_rfl) (by simp) ?_
          refine AllReadyH.cons rfl (fun K hK => ?_) AllReadyH.nil
          refine wp_append_S _ _ 24 24 rfl x1.heap.size 62 i0 _ 7 80 Try.underlying24 HIS.out.1 HIS.out.2.1 HIS.out.2.2.1 HIS.out.2.2.2 rfl _ 0 [] rfl HO1.out (.slice (some ⟨B, o + k * 7, none⟩) (c.pg.length - k) (d.k2 - k)) (c.pg.length - k) (rowsG.drop k).flatten rfl ?_ (by unfold maxLen; omega) (by omega) HX1.out.size ?_
          · have h := SL.src (P := Try.prog) ((HSR.out.dropN k (by rw [HrowsG.out.2.1]; exact hkn')).ext (HX0.out.trans (HE2.out.trans (HEX1.out.trans HX1.out)))) (by decide) (tx := 24) Try.underlying24 (fun r hr => HrowsG.out.2.2 r (List.mem_of_mem_drop hr))
            rw [List.length_drop, HrowsG.out.2.1] at h
            exact h
          intro v1 y2 ho1 hg1
          have hX2 := Ext.own_step HX1.out hg1 HO1.out
          obtain ⟨a1, c1, rfl⟩ := ownsRow_slice ho1
          refine hK.out _ _ (HEX1.out.trans hX2) (fun hHeld => ?_)
          clear hK K
          have HO2 := Lib.hid ho1
          have HX2 := Lib.hid hX2
          clear ho1 hg1 hX2 hHeld
          try simp only [Act.put]
          refine wpAnyH_ready (rs := [10]) (by kernel_rfl) (by simp) ?_
          refine AllReadyH.cons rfl (fun K hK => ?_) AllReadyH.nil
          refine wp_append_S _ _ 24 24 rfl x1.heap.size 62 i0 _ 7 80 Try.underlying24 HIS.out.1 HIS.out.2.1 HIS.out.2.2.1 HIS.out.2.2.2 rfl _ (0 + (c.pg.length - k)) ([] ++ (rowsG.drop k).flatten) rfl HO2.out (.slice (some ⟨B, o, none⟩) k d.k2) k (rowsG.take k).flatten rfl ?_ (by unfold maxLen; omega) (by omega) HX2.out.size ?_
          · have h := SL.src (P := Try.prog) ((HSR.out.takeN k).ext (HX0.out.trans (HE2.out.trans (HEX1.out.trans HX2.out)))) (by decide) (tx := 24) Try.underlying24 (fun r hr => HrowsG.out.2.2 r (List.mem_of_mem_take hr))
            rw [List.length_take, HrowsG.out.2.1, Nat.min_eq_left hkn'] at h
            exact h
          intro v2 y3 ho2 hg2
          have hX3 := Ext.own_step HX2.out hg2 HO2.out
          have hcnt : 0 + (c.pg.length - k) + k = c.pg.length := by omega
          rw [hcnt] at ho2
          rw [← turnL_flat] at ho2
          obtain ⟨a2, c2, rfl⟩ := ownsRow_slice ho2
          refine hK.out _ _ (HEX1.out.trans hX3) (fun hHeld => ?_)
          clear hK K
          have HO3 := Lib.hid ho2
          have HX3 := Lib.hid hX3
          clear ho2 hg2 hX3
          try simp only [Act.put]
          refine wpAnyH_take (i := 11) (oi := ?oi18) (v := ?v18) ?hi18 (by kernel_rfl) (by kernel_rfl) (by kernel_rfl) ?hQ18 (Or.inl ⟨?hw18, ?hy18⟩) hHeld ?rest18
          case hi18 =>
            simp only [List.getElem?_toArray, List.getElem?_cons_succ, List.getElem?_cons_zero] <;> rfl
          case hQ18 => exact fun _ _ _ h => h
          case hw18 => rfl
          case hy18 =>
            intro wS hSw
            obtain k0 := HCELL.out wS hSw
            go_simp
            first | done | with_reducible rfl | rfl
          simp only [Act.put, List.setIfInBounds_toArray]
          have hRy := HROW1.out.kpC HX3.out.kpC
          have hy := hRy.cell (j := 2) rfl
          have z := hRy.froz 2
          have hRow := hRy.put (o := 2) (.slice a2 c.pg.length c2) (show 2 + 1 ≤ 7 from by decide)
          have HRW := Lib.hid hRow
          clear hRow hRy
          refine wpAnyH_ready (rs := [12]) (by kernel_rfl) (by simp) ?_
          refine AllReadyH.cons rfl (fun K hK => ?_) AllReadyH.nil
          go_simp
          have hgr := setCell_grown y3 w2.heap.size 2 (.slice a2 c.pg.length c2)
          have HGR := Lib.hid hgr
          have hE4 : Ext w2 (y3.setCell ⟨w2.heap.size, 2, none⟩ (.slice a2 c.pg.length c2)) := Below.grown hHeld hgr hHeld.size (fun x hx => by cases hx; exact Nat.le_refl _)
          refine hK.out _ _ hE4 (fun hHeld => ?_)
          clear hK K hy z hgr
          try simp only [Act.put]
          refine wpAnyH_done (by kernel_rfl) ?_ _
          go_wp2_with fail
          go_meet
          have hYl : w2.heap.size < x1.heap.size := (Array.getElem?_eq_some_iff.1 HROW1.out).1
          refine ⟨hE4, HX3.out.kpC.kpE.trans (grown_kpE HGR.out), a2, c2, HRW.out, k, fun V hV => ?_⟩
          obtain ⟨_, _, e, hs, -⟩ := SL.of_own (own_kpE (own_kpE HO3.out (grown_kpE HGR.out) hYl) hV hYl) (fun r hr => HrowsG.out.1.wid r (turnL_mem hr)) (by rw [turnL_len]; exact HrowsG.out.2.1)
          cases e
          exact hs
      case rest =>
        obtain ⟨hE, hK, e1, f1, hR, k1, hS⟩ := hcut
        have HEX2 := Lib.hid hE
        have HKP1 := Lib.hid hK
        have HROW2 := Lib.hid hR
        have HSL1 := Lib.hid hS
        obtain ⟨x2, rfl⟩ : ∃ x2, x2 = wc := ⟨_, rfl⟩
        clear hE hK hR hS b2
        have b3 := (HCB.out.kpC (HE2.out.trans HEX2.out).kpC).cell (j := 3) rfl
        go_upto_if 71 with fail
        go_cut [11] from 71 to 88 (fun s7 wx => Ext w2 wx ∧ KpE w2.heap.size x2 wx ∧ ∃ e2 f2, Row wx w2.heap.size 29 [.slice e0 c.cs.length f0, .slice d.a1 c.sm.length d.k1, .slice e1 c.pg.length f1, .slice e2 c.kl.length f2, .slice d.a4 c.fe.length d.k4, .slice d.a5 c.ho.length d.k5, .slice d.a6 c.cu.length d.k6] ∧ ∃ k2 : Nat, ∀ V, KpE w2.heap.size wx V → SL V 4 e2 f2 (turnL k2 rowsK))
        case first =>
          by_cases hn : c.kl.length = 0
          · have hni : ¬ (0 : Int) < (c.kl.length : Int) := by omega
            have hr0 : rowsK = [] := List.length_eq_zero_iff.1 (by rw [HrowsK.out.2.1]; exact hn)
            have hnd : decide ((0 : Int) < (c.kl.length : Int)) = false := decide_eq_false hni
            clear hn
            go_wp2_with fail
            go_meet
            exact ⟨HEX2.out, KpC.kpE (Ext.refl _).kpC, _, _, HROW2.out, 0, fun V _ => by
              unfold turnL
              rw [List.drop_zero, List.take_zero, List.append_nil]
              exact HrowsK.out.1.any_nil hr0⟩
          · have hnp : 0 < c.kl.length := by omega
            have hni : (0 : Int) < (c.kl.length : Int) := by omega
            have hnd : decide ((0 : Int) < (c.kl.length : Int)) = true := decide_eq_true hni
            have hmax : c.kl.length ≤ 1000 := HOK.out.n3
            obtain ⟨k, hkt, hkn⟩ : ∃ k : Nat, Int.tmod turn (c.kl.length : Int) = (k : Int) ∧ k < c.kl.length := by
              have h0 := HT.out.1
              obtain ⟨u, hu⟩ := Int.eq_ofNat_of_zero_le h0
              refine ⟨u % c.kl.length, ?_, Nat.mod_lt _ hnp⟩
              rw [Int.tmod_eq_emod_of_nonneg h0, hu]
              omega
            have hwn : IntKind.u64.wrap (c.kl.length : Int) = (c.kl.length : Int) := by simp [IntKind.wrap, IntKind.bits, IntKind.signed]; omega
            have hwk : IntKind.i64.wrap (k : Int) = (k : Int) := by simp [IntKind.wrap, IntKind.bits, IntKind.signed]; omega
            have hwk' : IntKind.u64.wrap (k : Int) = (k : Int) := by simp [IntKind.wrap, IntKind.bits, IntKind.signed]; omega
            have hdz : ((c.kl.length : Int) == 0) = false := beq_eq_false_iff_ne.2 (by omega)
            have hdz' : ¬ (c.kl.length : Int) = 0 := by omega
            obtain ⟨B, o, ea⟩ : ∃ B o, d.a3 = some ⟨B, o, none⟩ := by
              obtain ⟨r, hr⟩ : ∃ r, rowsK[0]? = some r := ⟨_, List.getElem?_eq_getElem (by rw [HrowsK.out.2.1]; exact hnp)⟩
              obtain ⟨B, o, e, -⟩ := HrowsK.out.1.rowAt' hr (fun e => by have h := HrowsK.out.1.wid r (List.mem_of_getElem? hr); rw [e] at h; cases h)
              exact ⟨B, o, e⟩
            have HSR := Lib.hid (ea ▸ HrowsK.out.1)
            have HEA := Lib.hid ea
            have HKN := Lib.hid (And.intro hkn hmax)
            rw [ea] at b3
            clear ea
            go_wp2_with fail
            clear b3 hkt hwn hwk hwk' hdz hdz' hnd hni hnp hn
            have hle := HrowsK.out.1.le
            have hlen := HrowsK.out.2.1
            have hkc : k ≤ d.k3 := by omega
            have hkc' : ¬ d.k3 = k := by omega
            have hkn' : k ≤ c.kl.length := by omega
            clear hle hlen
            have hkl : (k : Int) ≤ (c.kl.length : Int) := by omega
            have hk0 : (0 : Int) ≤ (k : Int) := by omega
            have HCELL : Hid (∀ W, Ext w2 W → W.cell? ⟨w.heap.size, 3, none⟩ = some (.slice (some ⟨B, o, none⟩) c.kl.length d.k3)) := Lib.hid fun W h => by
              have h1 := (HCB.out.kpC (HE2.out.trans h).kpC).cell (j := 3) rfl
              rw [HEA.out] at h1
              exact h1
            have hHeld0 : Ext w2 x2.drew := HEX2.out.trans (Ext.refl _).drew
            obtain ⟨i0, hi, hz0, hz1, hz2⟩ := info_parts infoKl
            have HIS := Lib.hid (And.intro hi (And.intro hz0 (And.intro hz1 hz2)))
            clear hi hz0 hz1 hz2
            refine wp_region_held_drew (S := fun W => Ext w2 W) (by kernel_rfl) hHeld0 (fun hHeld => ?_)
            clear hHeld0
            refine wpAnyH_take (i := 1) (oi := ?oi19) (v := ?v19) ?hi19 (by kernel_rfl) (by kernel_rfl) (by kernel_rfl) ?hQ19 (Or.inl ⟨?hw19, ?hy19⟩) hHeld ?rest19
            case hi19 =>
              simp only [List.getElem?_toArray, List.getElem?_cons_succ, List.getElem?_cons_zero] <;> rfl
            case hQ19 => exact fun _ _ _ h => h
            case hw19 => rfl
            case hy19 =>
              intro wS hSw
              obtain k0 := HCELL.out wS hSw
              go_simp
              first | done | with_reducible rfl | rfl
            simp only [Act.put, List.setIfInBounds_toArray, List.set_cons_zero, List.set_cons_succ]
            refine wpAnyH_take (i := 2) (oi := ?oi20) (v := ?v20) ?hi20 (by kernel_rfl) (by kernel_rfl) (by kernel_rfl) ?hQ20 (Or.inl ⟨?hw20, ?hy20⟩) hHeld ?rest20
            case hi20 =>
              simp only [List.getElem?_toArray, List.getElem?_cons_succ, List.getElem?_cons_zero] <;> rfl
            case hQ20 => exact fun _ _ _ h => h
            case hw20 => rfl
            case hy20 =>
              intro wS hSw
              obtain k0 := HCELL.out wS hSw
              go_simp
              first | done | with_reducible rfl | rfl
            simp only [Act.put, List.setIfInBounds_toArray, List.set_cons_zero, List.set_cons_succ]
            refine wpAnyH_take (i := 3) (oi := ?oi21) (v := ?v21) ?hi21 (by kernel_rfl) (by kernel_rfl) (by kernel_rfl) ?hQ21 (Or.inl ⟨?hw21, ?hy21⟩) hHeld ?rest21
            case hi21 =>
              simp only [List.getElem?_toArray, List.getElem?_cons_succ, List.getElem?_cons_zero] <;> rfl
            case hQ21 => exact fun _ _ _ h => h
            case hw21 => rfl
            case hy21 =>
              intro wS hSw
              obtain k0 := HCELL.out wS hSw
              go_simp
              first | done | with_reducible rfl | rfl
            simp only [Act.put, List.setIfInBounds_toArray, List.set_cons_zero, List.set_cons_succ]
            refine wpAnyH_take (i := 4) (oi := ?oi22) (v := ?v22) ?hi22 (by kernel_rfl) (by kernel_rfl) (by kernel_rfl) ?hQ22 (Or.inl ⟨?hw22, ?hy22⟩) hHeld ?rest22
            case hi22 =>
              simp only [List.getElem?_toArray, List.getElem?_cons_succ, List.getElem?_cons_zero] <;> rfl
            case hQ22 => exact fun _ _ _ h => h
            case hw22 => rfl
            case hy22 =>
              intro wS hSw
              obtain k0 := HCELL.out wS hSw
              go_simp
              first | done | with_reducible rfl | rfl
            simp only [Act.put, List.setIfInBounds_toArray, List.set_cons_zero, List.set_cons_succ]
            refine wpAnyH_take (i := 6) (oi := ?oi23) (v := ?v23) ?hi23 (by kernel_rfl) (by kernel_rfl) (by kernel_rfl) ?hQ23 (Or.inl ⟨?hw23, ?hy23⟩) hHeld ?rest23
            case hi23 =>
              simp only [List.getElem?_toArray, List.getElem?_cons_succ, List.getElem?_cons_zero] <;> rfl
            case hQ23 => exact fun _ _ _ h => h
            case hw23 => rfl
            case hy23 =>
              intro wS hSw
              obtain k0 := HCELL.out wS hSw
              go_simp
              first | done | with_reducible rfl | rfl
            simp only [Act.put, List.setIfInBounds_toArray, List.set_cons_zero, List.set_cons_succ]
            refine wpAnyH_take (i := 7) (oi := ?oi24) (v := ?v24) ?hi24 (by kernel_rfl) (by kernel_rfl) (by kernel_rfl) ?hQ24 (Or.inl ⟨?hw24, ?hy24⟩) hHeld ?rest24
            case hi24 =>
              simp only [List.getElem?_toArray, List.getElem?_cons_succ, List.getElem?_cons_zero] <;> rfl
            case hQ24 => exact fun _ _ _ h => h
            case hw24 => rfl
            case hy24 =>
              intro wS hSw
              obtain k0 := HCELL.out wS hSw
              go_simp
              first | done | with_reducible rfl | rfl
            simp only [Act.put, List.setIfInBounds_toArray, List.set_cons_zero, List.set_cons_succ]
            refine wpAnyH_take (i := 8) (oi := ?oi25) (v := ?v25) ?hi25 (by kernel_rfl) (by kernel_rfl) (by kernel_rfl) ?hQ25 (Or.inl ⟨?hw25, ?hy25⟩) hHeld ?rest25
            case hi25 =>
              simp only [List.getElem?_toArray, List.getElem?_cons_succ, List.getElem?_cons_zero] <;> rfl
            case hQ25 => exact fun _ _ _ h => h
            case hw25 => rfl
            case hy25 =>
              intro wS hSw
              obtain k0 := HCELL.out wS hSw
              go_simp
              first | done | with_reducible rfl | rfl
            simp only [Act.put, List.setIfInBounds_toArray, List.set_cons_zero, List.set_cons_succ]
            refine wpAnyH_take (i := 9) (oi := ?oi26) (v := ?v26) ?hi26 (by kernel_rfl) (by kernel_rfl) (by kernel_rfl) ?hQ26 (Or.inl ⟨?hw26, ?hy26⟩) hHeld ?rest26
            case hi26 =>
              simp only [List.getElem?_toArray, List.getElem?_cons_succ, List.getElem?_cons_zero] <;> rfl
            case hQ26 => exact fun _ _ _ h => h
            case hw26 => rfl
            case hy26 =>
              intro wS hSw
              obtain k0 := HCELL.out wS hSw
              go_simp
              first | done | with_reducible rfl | rfl
            simp only [Act.put, List.setIfInBounds_toArray, List.set_cons_zero, List.set_cons_succ]
            refine wpAnyH_ready (rs := [0]) (by kernel_rfl) (by simp) ?_
            refine AllReadyH.cons rfl (fun K hK => ?_) AllReadyH.nil
            go_simp
            have hX1 : Ext x2 (x2.alloc (.cells #[] 80)).drew := ((Ext.refl _).alloc _).drew
            have ho := ownsRow_ext (own_empty x2 x2.heap.size (Nat.le_refl _) 80 4) (Ext.refl _).drew
            obtain ⟨y1, hy1⟩ : ∃ y, (x2.alloc (.cells #[] 80)).drew = y := ⟨_, rfl⟩
            rw [hy1] at ho hX1 ⊢
            clear hy1
            refine hK.out _ _ (HEX2.out.trans hX1) (fun hHeld => ?_)
            clear hK K
            have HO1 := Lib.hid ho
            have HX1 := Lib.hid hX1
            clear ho hX1 hHeld
            try simp only [Act.put]
            refine wpAnyH_ready (rs := [5]) (by kernel_rfl) (by simp) ?_
            refine AllReadyH.cons rfl (fun K hK => ?_) AllReadyH.nil
            refine wp_append_S _ _ 25 25 rfl x2.heap.size 80 i0 _ 4 40 Try.underlying25 HIS.out.1 HIS.out.2.1 HIS.out.2.2.1 HIS.out.2.2.2 rfl _ 0 [] rfl HO1.out (.slice (some ⟨B, o + k * 4, none⟩) (c.kl.length - k) (d.k3 - k)) (c.kl.length - k) (rowsK.drop k).flatten rfl ?_ (by unfold maxLen; omega) (by omega) HX1.out.size ?_
            · have h := SL.src (P := Try.prog) ((HSR.out.dropN k (by rw [HrowsK.out.2.1]; exact hkn')).ext (HX0.out.trans (HE2.out.trans (HEX2.out.trans HX1.out)))) (by decide) (tx := 25) Try.underlying25 (fun r hr => HrowsK.out.2.2 r (List.mem_of_mem_drop hr))
              rw [List.length_drop, HrowsK.out.2.1] at h
              exact h
            intro v1 y2 ho1 hg1
            have hX2 := Ext.own_step HX1.out hg1 HO1.out
            obtain ⟨a1, c1, rfl⟩ := ownsRow_slice ho1
            refine hK.out _ _ (HEX2.out.trans hX2) (fun hHeld => ?_)
            clear hK K
            have HO2 := Lib.hid ho1
            have HX2 := Lib.hid hX2
            clear ho1 hg1 hX2 hHeld
            try simp only [Act.put]
            refine wpAnyH_ready (rs := [10]) (by kernel_rfl) (by simp) ?_
            refine AllReadyH.cons rfl (fun K hK => ?_) AllReadyH.nil
            refine wp_append_S _ _ 25 25 rfl x2.heap.size 80 i0 _ 4 40 Try.underlying25 HIS.out.1 HIS.out.2.1 HIS.out.2.2.1 HIS.out.2.2.2 rfl _ (0 + (c.kl.length - k)) ([] ++ (rowsK.drop k).flatten) rfl HO2.out (.slice (some ⟨B, o, none⟩) k d.k3) k (rowsK.take k).flatten rfl ?_ (by unfold maxLen; omega) (by omega) HX2.out.size ?_
            · have h := SL.src (P := Try.prog) ((HSR.out.takeN k).ext (HX0.out.trans (HE2.out.trans (HEX2.out.trans HX2.out)))) (by decide) (tx := 25) Try.underlying25 (fun r hr => HrowsK.out.2.2 r (List.mem_of_mem_take hr))
              rw [List.length_take, HrowsK.out.2.1, Nat.min_eq_left hkn'] at h
              exact h
            intro v2 y3 ho2 hg2
            have hX3 := Ext.own_step HX2.out hg2 HO2.out
            have hcnt : 0 + (c.kl.length - k) + k = c.kl.length := by omega
            rw [hcnt] at ho2
            rw [← turnL_flat] at ho2
            obtain ⟨a2, c2, rfl⟩ := ownsRow_slice ho2
            refine hK.out _ _ (HEX2.out.trans hX3) (fun hHeld => ?_)
            clear hK K
            have HO3 := Lib.hid ho2
            have HX3 := Lib.hid hX3
            clear ho2 hg2 hX3
            try simp only [Act.put]
            refine wpAnyH_take (i := 11) (oi := ?oi27) (v := ?v27) ?hi27 (by kernel_rfl) (by kernel_rfl) (by kernel_rfl) ?hQ27 (Or.inl ⟨?hw27, ?hy27⟩) hHeld ?rest27
            case hi27 =>
              simp only [List.getElem?_toArray, List.getElem?_cons_succ, List.getElem?_cons_zero] <;> rfl
            case hQ27 => exact fun _ _ _ h => h
            case hw27 => rfl
            case hy27 =>
              intro wS hSw
              obtain k0 := HCELL.out wS hSw
              go_simp
              first | done | with_reducible rfl | rfl
            simp only [Act.put, List.setIfInBounds_toArray]
            have hRy := HROW2.out.kpC HX3.out.kpC
            have hy := hRy.cell (j := 3) rfl
            have z := hRy.froz 3
            have hRow := hRy.put (o := 3) (.slice a2 c.kl.length c2) (show 3 + 1 ≤ 7 from by decide)
            have HRW := Lib.hid hRow
            clear hRow hRy
            refine wpAnyH_ready (rs := [12]) (by kernel_rfl) (by simp) ?_
            refine AllReadyH.cons rfl (fun K hK => ?_) AllReadyH.nil
            go_simp
            have hgr := setCell_grown y3 w2.heap.size 3 (.slice a2 c.kl.length c2)
            have HGR := Lib.hid hgr
            have hE4 : Ext w2 (y3.setCell ⟨w2.heap.size, 3, none⟩ (.slice a2 c.kl.length c2)) := Below.grown hHeld hgr hHeld.size (fun x hx => by cases hx; exact Nat.le_refl _)
            refine hK.out _ _ hE4 (fun hHeld => ?_)
            clear hK K hy z hgr
            try simp only [Act.put]
            refine wpAnyH_done (by kernel_rfl) ?_ _
            go_wp2_with fail
            go_meet
            have hYl : w2.heap.size < x2.heap.size := (Array.getElem?_eq_some_iff.1 HROW2.out).1
            refine ⟨hE4, HX3.out.kpC.kpE.trans (grown_kpE HGR.out), a2, c2, HRW.out, k, fun V hV => ?_⟩
            obtain ⟨_, _, e, hs, -⟩ := SL.of_own (own_kpE (own_kpE HO3.out (grown_kpE HGR.out) hYl) hV hYl) (fun r hr => HrowsK.out.1.wid r (turnL_mem hr)) (by rw [turnL_len]; exact HrowsK.out.2.1)
            cases e
            exact hs
        case rest =>
          obtain ⟨hE, hK, e2, f2, hR, k2, hS⟩ := hcut
          have HEX3 := Lib.hid hE
          have HKP2 := Lib.hid hK
          have HROW3 := Lib.hid hR
          have HSL2 := Lib.hid hS
          obtain ⟨x3, rfl⟩ : ∃ x3, x3 = wc := ⟨_, rfl⟩
          clear hE hK hR hS b3
          have HRX : Hid (RepX x3 ⟨e0, f0, d.a1, d.k1, e1, f1, e2, f2, d.a4, d.k4, d.a5, d.k5, d.a6, d.k6⟩ { c with cs := turnL k0 c.cs, pg := turnL k1 c.pg, kl := turnL k2 c.kl }) := Lib.hid (by
            have hEw : Ext w x3 := HX0.out.trans (HE2.out.trans HEX3.out)
            have h0 := HX.out.ext hEw
            refine ⟨⟨turnL k0 rowsC, HSL0.out x3 (HKP1.out.trans HKP2.out), by rw [turnL_len, turnL_len]; exact HrowsC.out.2.1, fun i x q hx hq => ?_⟩, h0.sm, ⟨turnL k1 rowsG, HSL1.out x3 HKP2.out, by rw [turnL_len, turnL_len]; exact HrowsG.out.2.1, fun i x q hx hq => ?_⟩, ?_, h0.fe, h0.ho, h0.cu⟩
            · obtain ⟨j, hj, hq'⟩ := turnL_at HrowsC.out.2.1 k0 hx hq
              obtain ⟨u, v, e, hu, hv, ho⟩ := HCC.out.1 j x q hj hq'
              exact ⟨u, v, e, hu.ext hEw, hv.ext hEw, ho⟩
            · obtain ⟨j, hj, hq'⟩ := turnL_at HrowsG.out.2.1 k1 hx hq
              obtain ⟨a, n, e, hr⟩ := HCC.out.2 j x q hj hq'
              exact ⟨a, n, e, hr.ext hEw⟩
            · have h := HSL2.out x3 (KpC.kpE (Ext.refl _).kpC)
              rw [← HRK.out] at h
              have e : (turnL k2 c.kl).map Kl.cells = turnL k2 (c.kl.map Kl.cells) := by unfold turnL; rw [List.map_append, List.map_drop, List.map_take]
              show SL x3 4 e2 f2 ((turnL k2 c.kl).map Kl.cells)
              rw [e]
              exact h)
          obtain ⟨er, r, hr⟩ : ∃ er r, c.resN = (er, r) := ⟨_, _, rfl⟩
          obtain ⟨r2, hr2, hsm⟩ : ∃ r2, Cat.resN { c with cs := turnL k0 c.cs, pg := turnL k1 c.pg, kl := turnL k2 c.kl } = (er, r2) ∧ r2.sm = r.sm := by
            have h := resN_perm (c := c) (y := { c with cs := turnL k0 c.cs, pg := turnL k1 c.pg, kl := turnL k2 c.kl }) (turnL_perm _ _) (turnL_perm _ _) (turnL_perm _ _) rfl rfl rfl
            rw [hr] at h
            exact ⟨(Cat.resN { c with cs := turnL k0 c.cs, pg := turnL k1 c.pg, kl := turnL k2 c.kl }).2, Prod.ext h.1 rfl, h.2⟩
          have HRR := Lib.hid (And.intro hr (And.intro hr2 hsm))
          have HOX : Hid (Cat.Ok { c with cs := turnL k0 c.cs, pg := turnL k1 c.pg, kl := turnL k2 c.kl }) := Lib.hid (Ok_perm HOK.out (turnL_perm _ _) (turnL_perm _ _) (turnL_perm _ _) rfl rfl rfl)
          clear hr hr2 hsm HrowsC HrowsG HrowsK HCC HRK HSL0 HSL1 HSL2 HKP0 HKP1 HKP2
          have k0 := (HCB.out.kpC (HE2.out.trans HEX3.out).kpC).cell (j := 0) rfl
          have k1 := (HCB.out.kpC (HE2.out.trans HEX3.out).kpC).cell (j := 1) rfl
          have k2 := (HCB.out.kpC (HE2.out.trans HEX3.out).kpC).cell (j := 2) rfl
          have k3 := (HCB.out.kpC (HE2.out.trans HEX3.out).kpC).cell (j := 3) rfl
          have k4 := (HCB.out.kpC (HE2.out.trans HEX3.out).kpC).cell (j := 4) rfl
          have k5 := (HCB.out.kpC (HE2.out.trans HEX3.out).kpC).cell (j := 5) rfl
          have k6 := (HCB.out.kpC (HE2.out.trans HEX3.out).kpC).cell (j := 6) rfl
          go_wp2_with fail
          clear k0 k1 k2 k3 k4 k5 k6
          refine (re_gen HRR.out.1 HOK.out d _ (HX.out.ext (HX0.out.trans (HE2.out.trans HEX3.out)))).mono ?_
          rintro e w4 ⟨g, rfl, hR, hE4⟩
          have HR4 := Lib.hid hR
          have HE4 := Lib.hid hE4
          clear hR hE4
          unfold Cat.cells
          have hE5 : Ext w4 (w4.alloc (.cells #[.slice g.a0 r.cs.length g.k0, .slice g.a1 r.sm.length g.k1, .slice g.a2 r.pg.length g.k2, .slice g.a3 r.kl.length g.k3, .slice g.a4 r.fe.length g.k4, .slice g.a5 r.ho.length g.k5, .slice g.a6 r.cu.length g.k6] 29)) := (Ext.refl _).alloc _
          have hRow := HROW3.out.kpC (HE4.out.trans hE5).kpC
          have y0 := hRow.cell (j := 0) rfl
          have y1 := hRow.cell (j := 1) rfl
          have y2 := hRow.cell (j := 2) rfl
          have y3 := hRow.cell (j := 3) rfl
          have y4 := hRow.cell (j := 4) rfl
          have y5 := hRow.cell (j := 5) rfl
          have y6 := hRow.cell (j := 6) rfl
          clear hE5 hRow
          go_wp2_with fail
          clear y0 y1 y2 y3 y4 y5 y6
          obtain ⟨w5, hw5⟩ : ∃ x, w4.alloc (.cells #[.slice g.a0 r.cs.length g.k0, .slice g.a1 r.sm.length g.k1, .slice g.a2 r.pg.length g.k2, .slice g.a3 r.kl.length g.k3, .slice g.a4 r.fe.length g.k4, .slice g.a5 r.ho.length g.k5, .slice g.a6 r.cu.length g.k6] 29) = x := ⟨_, rfl⟩
          have HBA : Hid (Row w5 w4.heap.size 29 [.slice g.a0 r.cs.length g.k0, .slice g.a1 r.sm.length g.k1, .slice g.a2 r.pg.length g.k2, .slice g.a3 r.kl.length g.k3, .slice g.a4 r.fe.length g.k4, .slice g.a5 r.ho.length g.k5, .slice g.a6 r.cu.length g.k6]) := Lib.hid (by rw [← hw5]; unfold Row; rw [heap_al, if_pos rfl])
          have hE5 : Ext w4 w5 := by rw [← hw5]; exact (Ext.refl _).alloc _
          have HR5 := Lib.hid (HR4.out.ext hE5)
          have HE5 := Lib.hid (HE4.out.trans hE5)
          rw [hw5]
          clear hw5 hE5 HR4
          have hcall := re_gen HRR.out.2.1 HOX.out _ w5 (HRX.out.ext HE5.out)
          unfold Cat.cells at hcall
          simp only [turnL_len] at hcall
          refine hcall.mono ?_
          clear hcall
          rintro e w6 ⟨g2, rfl, hR, hE6⟩
          have HR6 := Lib.hid hR
          have HE6 := Lib.hid hE6
          clear hR hE6
          rw [HRR.out.2.2]
          have hE7 : Ext w6 (w6.alloc (.cells #[.slice g2.a0 r2.cs.length g2.k0, .slice g2.a1 r.sm.length g2.k1, .slice g2.a2 r2.pg.length g2.k2, .slice g2.a3 r2.kl.length g2.k3, .slice g2.a4 r2.fe.length g2.k4, .slice g2.a5 r2.ho.length g2.k5, .slice g2.a6 r2.cu.length g2.k6] 29)) := (Ext.refl _).alloc _
          have r1 := (HBA.out.kpC (HE6.out.trans hE7).kpC).cell (j := 1) rfl
          clear hE7
          have hee : (er != er) = false := by simp
          go_wp2_with fail
          clear r1
          obtain ⟨w7, hw7⟩ : ∃ x, w6.alloc (.cells #[.slice g2.a0 r2.cs.length g2.k0, .slice g2.a1 r.sm.length g2.k1, .slice g2.a2 r2.pg.length g2.k2, .slice g2.a3 r2.kl.length g2.k3, .slice g2.a4 r2.fe.length g2.k4, .slice g2.a5 r2.ho.length g2.k5, .slice g2.a6 r2.cu.length g2.k6] 29) = x := ⟨_, rfl⟩
          have HBB : Hid (Row w7 w6.heap.size 29 [.slice g2.a0 r2.cs.length g2.k0, .slice g2.a1 r.sm.length g2.k1, .slice g2.a2 r2.pg.length g2.k2, .slice g2.a3 r2.kl.length g2.k3, .slice g2.a4 r2.fe.length g2.k4, .slice g2.a5 r2.ho.length g2.k5, .slice g2.a6 r2.cu.length g2.k6]) := Lib.hid (by rw [← hw7]; unfold Row; rw [heap_al, if_pos rfl])
          have hE7 : Ext w6 w7 := by rw [← hw7]; exact (Ext.refl _).alloc _
          have HBA7 := Lib.hid (HBA.out.kpC (HE6.out.trans hE7).kpC)
          have HSA : Hid (SL w7 4 g.a1 g.k1 (r.sm.map Pr.cells)) := Lib.hid (HR5.out.sm.ext (HE6.out.trans hE7))
          have HSB : Hid (SL w7 4 g2.a1 g2.k1 (r.sm.map Pr.cells)) := Lib.hid (by have h := HR6.out.sm.ext hE7; rw [HRR.out.2.2] at h; exact h)
          have HE7 := Lib.hid (HX0.out.trans (HE2.out.trans (HEX3.out.trans (HE5.out.trans (HE6.out.trans hE7)))))
          rw [hw7]
          clear hw7 hE7 hee
          have hz := map_max HSA.out
          go_loopw [16] (fun iv wr => ∃ m : Nat, iv = .int .i64 m ∧ m ≤ r.sm.length ∧ Ext w7 wr) (fun iv _ => r.sm.length - (intOf iv).toNat)
          case atStart => exact ⟨0, rfl, by omega, Ext.refl _⟩
          case round =>
            obtain ⟨m, rfl, hm, hEL⟩ := hrel
            have HEL := Lib.hid hEL
            have r1 := (HBA7.out.kpC hEL.kpC).cell (j := 1) rfl
            have s1 := (HBB.out.kpC hEL.kpC).cell (j := 1) rfl
            clear hEL
            by_cases hlt : m < r.sm.length
            · have hmi : (m : Int) < (r.sm.length : Int) := by omega
              obtain ⟨p, hp⟩ : ∃ p, r.sm[m]? = some p := ⟨_, List.getElem?_eq_getElem hlt⟩
              have hpr : (r.sm.map Pr.cells)[m]? = some p.cells := by rw [List.getElem?_map, hp]; rfl
              obtain ⟨b, o, ea, hc⟩ := (HSA.out.ext HEL.out).rowAt' hpr (by simp [Pr.cells])
              obtain ⟨b', o', eb, hd⟩ := (HSB.out.ext HEL.out).rowAt' hpr (by simp [Pr.cells])
              have c0 : wr.cell? ⟨b, o + m * 4, none⟩ = some (.string p.a) := hc 0 _ rfl
              have c1 : wr.cell? ⟨b, o + m * 4 + 1, none⟩ = some (.string p.b) := hc 1 _ rfl
              have c2 : wr.cell? ⟨b, o + m * 4 + 2, none⟩ = some (.int .i64 p.x) := hc 2 _ rfl
              have c3 : wr.cell? ⟨b, o + m * 4 + 3, none⟩ = some (.int .i64 p.y) := hc 3 _ rfl
              have d0 : wr.cell? ⟨b', o' + m * 4, none⟩ = some (.string p.a) := hd 0 _ rfl
              have d1 : wr.cell? ⟨b', o' + m * 4 + 1, none⟩ = some (.string p.b) := hd 1 _ rfl
              have d2 : wr.cell? ⟨b', o' + m * 4 + 2, none⟩ = some (.int .i64 p.x) := hd 2 _ rfl
              have d3 : wr.cell? ⟨b', o' + m * 4 + 3, none⟩ = some (.int .i64 p.y) := hd 3 _ rfl
              rw [ea] at r1
              rw [eb] at s1
              clear hp hpr ea eb hc hd
              have he := eqPr p p
              rw [decide_eq_true (rfl : p = p)] at he
              have gr1 := grow_cell r1
              have gs1 := grow_cell s1
              have gc0 := grow_cell c0
              have gc1 := grow_cell c1
              have gc2 := grow_cell c2
              have gc3 := grow_cell c3
              have gd0 := grow_cell d0
              have gd1 := grow_cell d1
              have gd2 := grow_cell d2
              have gd3 := grow_cell d3
              go_wp2_with fail
              refine wp_region_rel_all (fun _ => none) (by kernel_rfl) (by kernel_rfl) ?_
              repeat (first
                | (refine wpRel_quick ?_ ?_ ?_ ?_
                   · rfl
                   · rfl
                   · first | exact noEnter rfl | (intro f args W W'; go_simp)
                   intro K hK
                   go_big_quiet_op
                   go_big_quiet_on)
                | (refine wpRel_skip ?_ ?_
                   · rfl
                   simp only [Act.put, List.setIfInBounds_toArray, List.set_cons_zero, List.set_cons_succ]))
              refine wpRel_nil ?_
              intro W3 hW3
              have HE8 := Lib.hid (HEL.out.trans ((Ext.refl _).drew.trans hW3.1))
              clear hW3 r1 s1 c0 c1 c2 c3 d0 d1 d2 d3 gr1 gs1 gc0 gc1 gc2 gc3 gd0 gd1 gd2 gd3 he
              go_wp2_with fail
              go_roundw
              case rel => exact ⟨m + 1, by go_num, by omega, HE8.out⟩
              case measure => simp [intOf] <;> omega
            · have hmi : ¬ (m : Int) < (r.sm.length : Int) := by omega
              go_wp2_with fail
              go_ret
              exact ⟨rfl, HE7.out.trans HEL.out⟩
end Go.Proofs.Ytimigpfoflilcaa
