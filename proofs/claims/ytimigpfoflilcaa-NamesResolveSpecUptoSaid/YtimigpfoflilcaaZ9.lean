/- Names: Few of the reference. -/
import Derived.Test.YtimigpfoflilcaaZ8
namespace Go.Sz
open Go.RowKit
/-- a catalogue is small -/
structure Cat.few (c : Cat) : Prop where
  n0 : c.cs.length ≤ 8
  n1 : c.sm.length ≤ 6
  n2 : c.pg.length ≤ 4
  n3 : c.kl.length ≤ 6
  n4 : c.fe.length ≤ 6
  n5 : c.ho.length ≤ 6
  n6 : c.cu.length ≤ 6
  ru : ∀ x ∈ c.cs, x.need.parts.length ≤ 20 ∧ x.bar.parts.length ≤ 20
  rq : ∀ p ∈ c.pg, p.rq.length ≤ 5 ∧ ∀ q ∈ p.rq, q.nms.length ≤ 8 ∧ q.fr.length ≤ 8
theorem all_take_next {α : Type} {P : α → Prop} {l : List α} {m : Nat} {x : α} (h : ∀ y ∈ l.take m, P y) (hx : l[m]? = some x) (hp : P x) : ∀ y ∈ l.take (m + 1), P y := fun y hy => by
  rw [List.take_add_one, hx] at hy
  rcases List.mem_append.1 hy with h1 | h1
  · exact h y h1
  · obtain rfl := List.mem_singleton.1 h1
    exact hp
end Go.Sz
namespace Go.Proofs.Ytimigpfoflilcaa
open Go.RowKit Go.Sz
/-- a bool that tells whether something holds -/
def RetP (p : Prop) (w : World) : Ending → World → Prop := fun e w' => ∃ b, e = .returned (.bool b) ∧ (b = true ↔ p) ∧ Ext w w'
set_option maxRecDepth 100000 in
set_option maxHeartbeats 6400000 in
theorem refFew_any (c : Cat) (d : Adr) (w : World) (hX : RepX w d c) (hb : ∀ x ∈ c.cs, x.need.parts.length ≤ 1048576 ∧ x.bar.parts.length ≤ 1048576) : Calls Try.prog 11 #[.agg (c.cells d).toArray] w (RetP c.few w) := by
  have hXA : Ext w (w.alloc (.cells #[.slice d.a0 c.cs.length d.k0, .slice d.a1 c.sm.length d.k1, .slice d.a2 c.pg.length d.k2, .slice d.a3 c.kl.length d.k3, .slice d.a4 c.fe.length d.k4, .slice d.a5 c.ho.length d.k5, .slice d.a6 c.cu.length d.k6] 29)) := (Ext.refl w).alloc _
  have HCB : Hid (Row (w.alloc (.cells #[.slice d.a0 c.cs.length d.k0, .slice d.a1 c.sm.length d.k1, .slice d.a2 c.pg.length d.k2, .slice d.a3 c.kl.length d.k3, .slice d.a4 c.fe.length d.k4, .slice d.a5 c.ho.length d.k5, .slice d.a6 c.cu.length d.k6] 29)) w.heap.size 29 [.slice d.a0 c.cs.length d.k0, .slice d.a1 c.sm.length d.k1, .slice d.a2 c.pg.length d.k2, .slice d.a3 c.kl.length d.k3, .slice d.a4 c.fe.length d.k4, .slice d.a5 c.ho.length d.k5, .slice d.a6 c.cu.length d.k6]) := Lib.hid (by unfold Row; rw [heap_al, if_pos rfl])
  have HX := Lib.hid hX
  have HB := Lib.hid hb
  have HXA := Lib.hid hXA
  have hz0 : (c.cs.length : Int) ≤ 9223372036854775807 := by have := hX.cs.max; omega
  have hz1 : (c.sm.length : Int) ≤ 9223372036854775807 := by have := hX.sm.max; have := hX.sm.le; rw [List.length_map] at this; omega
  have hz2 : (c.pg.length : Int) ≤ 9223372036854775807 := hX.pg.max
  have hz3 : (c.kl.length : Int) ≤ 9223372036854775807 := by have := hX.kl.max; have := hX.kl.le; rw [List.length_map] at this; omega
  have hz4 : (c.fe.length : Int) ≤ 9223372036854775807 := by have := hX.fe.max; have := hX.fe.le; rw [List.length_map] at this; omega
  have hz5 : (c.ho.length : Int) ≤ 9223372036854775807 := by have := hX.ho.max; have := hX.ho.le; rw [List.length_map] at this; omega
  have hz6 : (c.cu.length : Int) ≤ 9223372036854775807 := by have := hX.cu.max; have := hX.cu.le; rw [List.length_map] at this; omega
  have e0 := HCB.out.cell (j := 0) rfl
  have e1 := HCB.out.cell (j := 1) rfl
  have e2 := HCB.out.cell (j := 2) rfl
  have e3 := HCB.out.cell (j := 3) rfl
  have e4 := HCB.out.cell (j := 4) rfl
  have e5 := HCB.out.cell (j := 5) rfl
  have e6 := HCB.out.cell (j := 6) rfl
  clear hX hXA hb
  unfold Cat.cells
  go_enter Try.func11, Try.ntmps11
  by_cases hc : 8 < c.cs.length
  · have hl0 : (8 : Int) < (c.cs.length : Int) := by omega
    have HL0 := Lib.hid hc
    clear hc
    go_wp2_with fail
    go_ret
    exact ⟨false, rfl, ⟨fun h => (by cases h), fun h => by have := h.n0; have := HL0.out; omega⟩, HXA.out⟩
  · have hl0 : ¬ (8 : Int) < (c.cs.length : Int) := by omega
    have HL0 : Hid (c.cs.length ≤ 8) := Lib.hid (by omega)
    clear hc
    by_cases hc : 6 < c.sm.length
    · have hl1 : (6 : Int) < (c.sm.length : Int) := by omega
      have HL1 := Lib.hid hc
      clear hc
      go_wp2_with fail
      go_ret
      exact ⟨false, rfl, ⟨fun h => (by cases h), fun h => by have := h.n1; have := HL1.out; omega⟩, HXA.out⟩
    · have hl1 : ¬ (6 : Int) < (c.sm.length : Int) := by omega
      have HL1 : Hid (c.sm.length ≤ 6) := Lib.hid (by omega)
      clear hc
      by_cases hc : 4 < c.pg.length
      · have hl2 : (4 : Int) < (c.pg.length : Int) := by omega
        have HL2 := Lib.hid hc
        clear hc
        go_wp2_with fail
        go_ret
        exact ⟨false, rfl, ⟨fun h => (by cases h), fun h => by have := h.n2; have := HL2.out; omega⟩, HXA.out⟩
      · have hl2 : ¬ (4 : Int) < (c.pg.length : Int) := by omega
        have HL2 : Hid (c.pg.length ≤ 4) := Lib.hid (by omega)
        clear hc
        by_cases hc : 6 < c.kl.length
        · have hl3 : (6 : Int) < (c.kl.length : Int) := by omega
          have HL3 := Lib.hid hc
          clear hc
          go_wp2_with fail
          go_ret
          exact ⟨false, rfl, ⟨fun h => (by cases h), fun h => by have := h.n3; have := HL3.out; omega⟩, HXA.out⟩
        · have hl3 : ¬ (6 : Int) < (c.kl.length : Int) := by omega
          have HL3 : Hid (c.kl.length ≤ 6) := Lib.hid (by omega)
          clear hc
          by_cases hc : 6 < c.fe.length
          · have hl4 : (6 : Int) < (c.fe.length : Int) := by omega
            have HL4 := Lib.hid hc
            clear hc
            go_wp2_with fail
            go_ret
            exact ⟨false, rfl, ⟨fun h => (by cases h), fun h => by have := h.n4; have := HL4.out; omega⟩, HXA.out⟩
          · have hl4 : ¬ (6 : Int) < (c.fe.length : Int) := by omega
            have HL4 : Hid (c.fe.length ≤ 6) := Lib.hid (by omega)
            clear hc
            by_cases hc : 6 < c.ho.length
            · have hl5 : (6 : Int) < (c.ho.length : Int) := by omega
              have HL5 := Lib.hid hc
              clear hc
              go_wp2_with fail
              go_ret
              exact ⟨false, rfl, ⟨fun h => (by cases h), fun h => by have := h.n5; have := HL5.out; omega⟩, HXA.out⟩
            · have hl5 : ¬ (6 : Int) < (c.ho.length : Int) := by omega
              have HL5 : Hid (c.ho.length ≤ 6) := Lib.hid (by omega)
              clear hc
              by_cases hc : 6 < c.cu.length
              · have hl6 : (6 : Int) < (c.cu.length : Int) := by omega
                have HL6 := Lib.hid hc
                clear hc
                go_wp2_with fail
                go_ret
                exact ⟨false, rfl, ⟨fun h => (by cases h), fun h => by have := h.n6; have := HL6.out; omega⟩, HXA.out⟩
              · have hl6 : ¬ (6 : Int) < (c.cu.length : Int) := by omega
                have HL6 : Hid (c.cu.length ≤ 6) := Lib.hid (by omega)
                clear hc
                go_wp2_with fail
                clear e0 e1 e2 e3 e4 e5 e6 hl0 hl1 hl2 hl3 hl4 hl5 hl6
                generalize (w.alloc (.cells #[.slice d.a0 c.cs.length d.k0, .slice d.a1 c.sm.length d.k1, .slice d.a2 c.pg.length d.k2, .slice d.a3 c.kl.length d.k3, .slice d.a4 c.fe.length d.k4, .slice d.a5 c.ho.length d.k5, .slice d.a6 c.cu.length d.k6] 29)) = w1 at *
                go_loopw [3] (fun iv wr => ∃ m : Nat, iv = .int .i64 m ∧ m ≤ c.cs.length ∧ (∀ x ∈ c.cs.take m, x.need.parts.length ≤ 20 ∧ x.bar.parts.length ≤ 20) ∧ Ext w1 wr) (fun iv _ => c.cs.length - (intOf iv).toNat)
                case atStart => exact ⟨0, rfl, by omega, fun x h => (by cases h), Ext.refl _⟩
                case round =>
                  obtain ⟨m, rfl, hm, hA, hE⟩ := hrel
                  have HA := Lib.hid hA
                  have HE := Lib.hid hE
                  have b0 := (HCB.out.kpC hE.kpC).cell (j := 0) rfl
                  clear hA hE
                  by_cases hlt : m < c.cs.length
                  · have hmi : (m : Int) < (c.cs.length : Int) := by omega
                    obtain ⟨x, hx⟩ : ∃ x, c.cs[m]? = some x := ⟨_, List.getElem?_eq_getElem hlt⟩
                    obtain ⟨B, o, na, nn, ba, bn, ea0, hneedr, hbarr, hneedk, hbark, -, hcells⟩ := (HX.out.cs.ext HXA.out).at hx
                    have HPN := Lib.hid (fun W (hW : Ext w1 W) => refParts_any (RepU.of hneedr hneedk : RepU w1 x.need (x.need.cells na nn)) W hW (HB.out x (List.mem_of_getElem? hx)).1)
                    have HPB := Lib.hid (fun W (hW : Ext w1 W) => refParts_any (RepU.of hbarr hbark : RepU w1 x.bar (x.bar.cells ba bn)) W hW (HB.out x (List.mem_of_getElem? hx)).2)
                    have HBX := Lib.hid (HB.out x (List.mem_of_getElem? hx))
                    have d4 : wr.cell? ⟨B, o + m * 16 + 4, none⟩ = some (.int .i64 x.need.op) := HE.out.cell (hcells 4 _ rfl)
                    have d5 : wr.cell? ⟨B, o + m * 16 + 5, none⟩ = some (.int .i64 x.need.co) := HE.out.cell (hcells 5 _ rfl)
                    have d6 : wr.cell? ⟨B, o + m * 16 + 6, none⟩ = some (.string x.need.nm) := HE.out.cell (hcells 6 _ rfl)
                    have d7 : wr.cell? ⟨B, o + m * 16 + 7, none⟩ = some (.int .i64 x.need.n) := HE.out.cell (hcells 7 _ rfl)
                    have d8 : wr.cell? ⟨B, o + m * 16 + 8, none⟩ = some (.int .i64 x.need.d) := HE.out.cell (hcells 8 _ rfl)
                    have d9 : wr.cell? ⟨B, o + m * 16 + 9, none⟩ = some (.slice na x.need.kids.length nn) := HE.out.cell (hcells 9 _ rfl)
                    have d10 : wr.cell? ⟨B, o + m * 16 + 10, none⟩ = some (.int .i64 x.bar.op) := HE.out.cell (hcells 10 _ rfl)
                    have d11 : wr.cell? ⟨B, o + m * 16 + 11, none⟩ = some (.int .i64 x.bar.co) := HE.out.cell (hcells 11 _ rfl)
                    have d12 : wr.cell? ⟨B, o + m * 16 + 12, none⟩ = some (.string x.bar.nm) := HE.out.cell (hcells 12 _ rfl)
                    have d13 : wr.cell? ⟨B, o + m * 16 + 13, none⟩ = some (.int .i64 x.bar.n) := HE.out.cell (hcells 13 _ rfl)
                    have d14 : wr.cell? ⟨B, o + m * 16 + 14, none⟩ = some (.int .i64 x.bar.d) := HE.out.cell (hcells 14 _ rfl)
                    have d15 : wr.cell? ⟨B, o + m * 16 + 15, none⟩ = some (.slice ba x.bar.kids.length bn) := HE.out.cell (hcells 15 _ rfl)
                    have HXM := Lib.hid hx
                    unfold Rt.cells at HPN HPB
                    clear hcells hx hneedr hbarr hneedk hbark
                    rw [ea0] at b0 HCB
                    rw [ea0]
                    clear ea0
                    go_wp2_with fail
                    refine (HPN.out wr HE.out).mono ?_
                    rintro e w5 ⟨pa, pc, -, rfl, -, -, -, -, hE5⟩
                    have HE5 := Lib.hid (HE.out.trans hE5)
                    replace b0 := hE5.cell b0
                    replace d10 := hE5.cell d10
                    replace d11 := hE5.cell d11
                    replace d12 := hE5.cell d12
                    replace d13 := hE5.cell d13
                    replace d14 := hE5.cell d14
                    replace d15 := hE5.cell d15
                    clear hE5 d4 d5 d6 d7 d8 d9
                    by_cases hn : 20 < x.need.parts.length
                    · have hni : (20 : Int) < (x.need.parts.length : Int) := by omega
                      have HN := Lib.hid hn
                      have HX5 := Lib.hid (HXA.out.trans HE5.out)
                      clear hn
                      go_wp2_with fail
                      go_ret
                      exact ⟨false, rfl, ⟨fun h => (by cases h), fun h => by have := (h.ru x (List.mem_of_getElem? HXM.out)).1; have := HN.out; omega⟩, HX5.out⟩
                    · have hni : ¬ (20 : Int) < (x.need.parts.length : Int) := by omega
                      have HN := Lib.hid hn
                      have hsn : (x.need.parts.length : Int) ≤ 9223372036854775807 := by have := HBX.out; omega
                      clear hn
                      go_wp2_with fail
                      refine (HPB.out w5 HE5.out).mono ?_
                      rintro e w6 ⟨qa, qc, -, rfl, -, -, -, -, hE6⟩
                      have HE6 := Lib.hid (HE5.out.trans hE6)
                      clear hE6 d10 d11 d12 d13 d14 d15 b0
                      by_cases hb : 20 < x.bar.parts.length
                      · have hbi : (20 : Int) < (x.bar.parts.length : Int) := by omega
                        have HBN := Lib.hid hb
                        have HX5 := Lib.hid (HXA.out.trans HE6.out)
                        clear hb
                        go_wp2_with fail
                        go_ret
                        exact ⟨false, rfl, ⟨fun h => (by cases h), fun h => by have := (h.ru x (List.mem_of_getElem? HXM.out)).2; have := HBN.out; omega⟩, HX5.out⟩
                      · have hbi : ¬ (20 : Int) < (x.bar.parts.length : Int) := by omega
                        have HNX := Lib.hid (all_take_next (P := fun x : Cr => x.need.parts.length ≤ 20 ∧ x.bar.parts.length ≤ 20) HA.out HXM.out ⟨by have := HN.out; omega, by omega⟩)
                        clear hb
                        go_wp2_with fail
                        go_roundw
                        case rel => exact ⟨m + 1, by go_num, by omega, HNX.out, HE6.out⟩
                        case measure => simp [intOf] <;> omega
                  · have hmi : ¬ (m : Int) < (c.cs.length : Int) := by omega
                    obtain rfl : m = c.cs.length := by omega
                    rw [List.take_length] at HA
                    have HXW := Lib.hid (HXA.out.trans HE.out)
                    have HCW := Lib.hid (HCB.out.kpC HE.out.kpC)
                    clear HCB
                    go_wp2_with fail
                    clear b0
                    obtain ⟨w2, rfl⟩ : ∃ w2, w2 = wr := ⟨_, rfl⟩
                    go_loopw [4] (fun iv wr => ∃ m : Nat, iv = .int .i64 m ∧ m ≤ c.pg.length ∧ (∀ p ∈ c.pg.take m, p.rq.length ≤ 5 ∧ ∀ q ∈ p.rq, q.nms.length ≤ 8 ∧ q.fr.length ≤ 8) ∧ Ext w2 wr) (fun iv _ => c.pg.length - (intOf iv).toNat)
                    case atStart => exact ⟨0, rfl, by omega, fun x h => (by cases h), Ext.refl _⟩
                    case round =>
                      obtain ⟨m, rfl, hm, hG, hE⟩ := hrel
                      have HG := Lib.hid hG
                      have HE := Lib.hid hE
                      have b2 := (HCW.out.kpC hE.kpC).cell (j := 2) rfl
                      clear hG hE
                      by_cases hlt : m < c.pg.length
                      · have hmi : (m : Int) < (c.pg.length : Int) := by omega
                        obtain ⟨x, hx⟩ : ∃ x, c.pg[m]? = some x := ⟨_, List.getElem?_eq_getElem hlt⟩
                        obtain ⟨B, o, qa, qk, ea2, hq, hcells⟩ := (HX.out.pg.ext (HXW.out.trans HE.out)).at hx
                        have d6 : wr.cell? ⟨B, o + m * 7 + 6, none⟩ = some (.slice qa x.rq.length qk) := hcells 6 _ rfl
                        have HXM := Lib.hid hx
                        have HQ := Lib.hid hq
                        have hsq := hq.max
                        clear hcells hx hq
                        rw [ea2] at b2
                        have HB2 := Lib.hid b2
                        by_cases hn : 5 < x.rq.length
                        · have hni : (5 : Int) < (x.rq.length : Int) := by omega
                          have HN := Lib.hid hn
                          have HX5 := Lib.hid (HXW.out.trans HE.out)
                          clear hn
                          go_wp2_with fail
                          go_ret
                          exact ⟨false, rfl, ⟨fun h => (by cases h), fun h => by have := (h.rq x (List.mem_of_getElem? HXM.out)).1; have := HN.out; omega⟩, HX5.out⟩
                        · have hni : ¬ (5 : Int) < (x.rq.length : Int) := by omega
                          have HN := Lib.hid hn
                          clear hn
                          go_wp2_with fail
                          obtain ⟨w3, rfl⟩ : ∃ w3, w3 = wr := ⟨_, rfl⟩
                          go_loopw [5] (fun iv wr => ∃ k : Nat, iv = .int .i64 k ∧ k ≤ x.rq.length ∧ (∀ q ∈ x.rq.take k, q.nms.length ≤ 8 ∧ q.fr.length ≤ 8) ∧ Ext w3 wr) (fun iv _ => x.rq.length - (intOf iv).toNat)
                          case atStart => exact ⟨0, rfl, by omega, fun x h => (by cases h), Ext.refl _⟩
                          case round =>
                            obtain ⟨k, rfl, hk, hA2, hE2⟩ := hrel
                            have HA2 := Lib.hid hA2
                            have HE2 := Lib.hid hE2
                            replace b2 := hE2.cell HB2.out
                            replace d6 := hE2.cell d6
                            clear hA2 hE2
                            by_cases hlk : k < x.rq.length
                            · have hki : (k : Int) < (x.rq.length : Int) := by omega
                              obtain ⟨q, hq⟩ : ∃ q, x.rq[k]? = some q := ⟨_, List.getElem?_eq_getElem hlk⟩
                              obtain ⟨B2, o2, na, nc, fa, fc, eqa, hn1, hf1, hcells⟩ := (HQ.out.ext HE2.out).at hq
                              have f4 : wr.cell? ⟨B2, o2 + k * 6 + 4, none⟩ = some (.slice na q.nms.length nc) := hcells 4 _ rfl
                              have f5 : wr.cell? ⟨B2, o2 + k * 6 + 5, none⟩ = some (.slice fa q.fr.length fc) := hcells 5 _ rfl
                              have hs4 := srows_max hn1
                              have hs5 := irows_max hf1
                              have HQM := Lib.hid hq
                              clear hcells hq hn1 hf1
                              rw [eqa] at d6
                              have HX6 := Lib.hid (HXW.out.trans (HE.out.trans HE2.out))
                              by_cases h4 : 8 < q.nms.length
                              · have h4i : (8 : Int) < (q.nms.length : Int) := by omega
                                have H4 := Lib.hid h4
                                clear h4
                                go_wp2_with fail
                                go_ret
                                exact ⟨false, rfl, ⟨fun h => (by cases h), fun h => by have := ((h.rq x (List.mem_of_getElem? HXM.out)).2 q (List.mem_of_getElem? HQM.out)).1; have := H4.out; omega⟩, HX6.out⟩
                              · have h4i : ¬ (8 : Int) < (q.nms.length : Int) := by omega
                                have H4 := Lib.hid h4
                                clear h4
                                by_cases h5 : 8 < q.fr.length
                                · have h5i : (8 : Int) < (q.fr.length : Int) := by omega
                                  have H5 := Lib.hid h5
                                  clear h5
                                  go_wp2_with fail
                                  go_ret
                                  exact ⟨false, rfl, ⟨fun h => (by cases h), fun h => by have := ((h.rq x (List.mem_of_getElem? HXM.out)).2 q (List.mem_of_getElem? HQM.out)).2; have := H5.out; omega⟩, HX6.out⟩
                                · have h5i : ¬ (8 : Int) < (q.fr.length : Int) := by omega
                                  have HNX := Lib.hid (all_take_next (P := fun q : Rq => q.nms.length ≤ 8 ∧ q.fr.length ≤ 8) HA2.out HQM.out ⟨by have := H4.out; omega, by omega⟩)
                                  clear h5
                                  go_wp2_with fail
                                  go_roundw
                                  case rel => exact ⟨k + 1, by go_num, by omega, HNX.out, HE2.out⟩
                                  case measure => simp [intOf] <;> omega
                            · have hki : ¬ (k : Int) < (x.rq.length : Int) := by omega
                              obtain rfl : k = x.rq.length := by omega
                              rw [List.take_length] at HA2
                              have HNX := Lib.hid (all_take_next (P := fun p : Pg => p.rq.length ≤ 5 ∧ ∀ q ∈ p.rq, q.nms.length ≤ 8 ∧ q.fr.length ≤ 8) HG.out HXM.out ⟨by have := HN.out; omega, HA2.out⟩)
                              go_wp2_with fail
                              go_roundw
                              case rel => exact ⟨m + 1, by go_num, by omega, HNX.out, HE.out.trans HE2.out⟩
                              case measure => simp [intOf] <;> omega
                      · have hmi : ¬ (m : Int) < (c.pg.length : Int) := by omega
                        obtain rfl : m = c.pg.length := by omega
                        rw [List.take_length] at HG
                        have HX5 := Lib.hid (HXW.out.trans HE.out)
                        go_wp2_with fail
                        go_ret
                        exact ⟨true, rfl, ⟨fun _ => ⟨HL0.out, HL1.out, HL2.out, HL3.out, HL4.out, HL5.out, HL6.out, HA.out, HG.out⟩, fun _ => rfl⟩, HX5.out⟩
end Go.Proofs.Ytimigpfoflilcaa
