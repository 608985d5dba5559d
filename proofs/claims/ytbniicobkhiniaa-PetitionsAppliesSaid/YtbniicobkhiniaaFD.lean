/- Petitions: the reference's At. -/
import Derived.Test.YtbniicobkhiniaaFC
namespace Go.Sz
open Go.RowKit
/-- the index of the best so far -/
def BestI (l : List Ft) (k : Ky) (t kn b : Int) (m : Nat) : Prop := (b = -1 ∧ bestF (l.take m) k t kn = none) ∨ ∃ (j : Nat) (g : Ft), b = (j : Int) ∧ j < m ∧ l[j]? = some g ∧ bestF (l.take m) k t kn = some g
theorem bestF_take {l : List Ft} {m : Nat} {x : Ft} (hx : l[m]? = some x) (k : Ky) (t kn : Int) : bestF (l.take (m + 1)) k t kn = stepB k t kn (bestF (l.take m) k t kn) x := by
  rw [take_next hx, bestF_snoc]
theorem BestI.keep {l : List Ft} {k : Ky} {t kn b : Int} {m : Nat} {x : Ft} (hx : l[m]? = some x) (h : BestI l k t kn b m) (hn : inT x k t kn = false ∨ betF (bestF (l.take m) k t kn) x = false) : BestI l k t kn b (m + 1) := by
  unfold BestI
  rw [bestF_take hx]
  unfold stepB
  rw [if_neg (fun hc => by rcases hn with hn | hn; · rw [hn] at hc; cases hc.1
                           · rw [hn] at hc; cases hc.2)]
  rcases h with h | ⟨j, g, h1, h2, h3⟩
  · exact .inl h
  · exact .inr ⟨j, g, h1, by omega, h3⟩
theorem BestI.new {l : List Ft} {k : Ky} {t kn : Int} {m : Nat} {x : Ft} (hx : l[m]? = some x) (hi : inT x k t kn = true) (hb : betF (bestF (l.take m) k t kn) x = true) : BestI l k t kn m (m + 1) := by
  unfold BestI
  rw [bestF_take hx]
  unfold stepB
  rw [if_pos ⟨hi, hb⟩]
  exact .inr ⟨m, x, rfl, by omega, hx, rfl⟩
theorem inT_eq (x : Ft) (k : Ky) (t kn : Int) : inT x k t kn = (decide ((⟨x.k, x.s, x.o⟩ : Ky) = k) && decide (x.kn ≤ kn) && decide (x.fr ≤ t) && decide (t < x.to)) := rfl
theorem bet_bef {x g : Ft} {q : Bool} (h : befF x g = q) : betF (some g) x = !q := by
  subst h
  unfold betF
  dsimp only
  rw [Bool.eq_iff_iff, decide_eq_true_eq, cmpF_pos]
  cases befF x g <;> simp
/-- what At answers -/
def atV (v : Int) : Int := if 0 ≤ v then v else 0
def RetAt (v : Int) (w : World) (e : Ending) (w' : World) : Prop := e = .returned (.tuple #[.int .i64 (atV v), .bool (decide (0 ≤ v))]) ∧ Ext w w'
theorem retAt_neg {v : Int} {w w' : World} (h : v < 0) (hE : Ext w w') : RetAt v w (.returned (.tuple #[.int .i64 0, .bool false])) w' := by
  refine ⟨?_, hE⟩
  rw [show atV v = 0 by unfold atV; rw [if_neg (by omega)], decide_eq_false (by omega)]
theorem retAt_pos {v : Int} {w w' : World} (h : 0 ≤ v) (hE : Ext w w') : RetAt v w (.returned (.tuple #[.int .i64 v, .bool true])) w' := by
  refine ⟨?_, hE⟩
  rw [show atV v = v by unfold atV; rw [if_pos h], decide_eq_true h]
end Go.Sz
namespace Go.Proofs.Ytbniicobkhiniaa
open Go.RowKit Go.Sz
set_option maxRecDepth 100000 in
set_option maxHeartbeats 6400000 in
theorem refAt_any (l : List Ft) (k : Ky) (t kn : Int) (ao : Option Addr) (cap : Nat) (w : World) (h : RepF w ao cap l) : Calls Try.prog 49 #[.slice ao l.length cap, .agg #[.int .i64 k.k, .int .i64 k.s, .int .i64 k.o], .int .i64 t, .int .i64 kn] w (RetAt (valF l k t kn) w) := by
  have hs1 := h.max
  have HL := Lib.hid h
  clear h
  have hX0 : Ext w (w.alloc (.cells #[.int .i64 k.k, .int .i64 k.s, .int .i64 k.o] 26)) := (Ext.refl w).alloc _
  have HX0 := Lib.hid hX0
  clear hX0
  go_enter Try.func49, Try.ntmps49
  go_wp2_with fail
  go_loopw [10, 11] (fun bv iv wr => ∃ (b : Int) (m : Nat), bv = .int .i64 b ∧ iv = .int .i64 m ∧ m ≤ l.length ∧ BestI l k t kn b m ∧ Ext (w.alloc (.cells #[.int .i64 k.k, .int .i64 k.s, .int .i64 k.o] 26)) wr) (fun _ iv _ => l.length - (intOf iv).toNat)
  case atStart => exact ⟨-1, 0, rfl, rfl, by omega, .inl ⟨rfl, rfl⟩, Ext.refl _⟩
  case round =>
    obtain ⟨bb, m, rfl, rfl, hm, hbi, hB⟩ := hrel
    have HBI := Lib.hid hbi
    have HB := Lib.hid (HX0.out.trans hB)
    have HBX := Lib.hid hB
    have hk0 : (w.alloc (.cells #[.int .i64 k.k, .int .i64 k.s, .int .i64 k.o] 26)).cell? ⟨w.heap.size, 0, none⟩ = some (.int .i64 k.k) := by simp
    have hk1 : (w.alloc (.cells #[.int .i64 k.k, .int .i64 k.s, .int .i64 k.o] 26)).cell? ⟨w.heap.size, 1, none⟩ = some (.int .i64 k.s) := by simp
    have hk2 : (w.alloc (.cells #[.int .i64 k.k, .int .i64 k.s, .int .i64 k.o] 26)).cell? ⟨w.heap.size, 2, none⟩ = some (.int .i64 k.o) := by simp
    have HK0 := Lib.hid (hB.cell hk0)
    have HK1 := Lib.hid (hB.cell hk1)
    have HK2 := Lib.hid (hB.cell hk2)
    clear hbi hB hk0 hk1 hk2
    by_cases hlt : m < l.length
    · have hli : (m : Int) < (l.length : Int) := by omega
      obtain ⟨x, hx⟩ : ∃ x, l[m]? = some x := ⟨_, List.getElem?_eq_getElem hlt⟩
      have HX := Lib.hid hx
      obtain ⟨b, o, rfl, c0, c1, c2, c3, c4, c5, c6, c7⟩ := f_at HL.out HB.out hx
      clear hx
      rcases HBI.out with ⟨rfl, hbe⟩ | ⟨j, g, rfl, hjm, hg, hbe⟩
      · have HBE := Lib.hid hbe
        clear hbe
        have hA : Ext wr (wr.alloc (.cells #[.int .i64 x.k, .int .i64 x.s, .int .i64 x.o, .int .i64 x.v, .int .i64 x.fr, .int .i64 x.to, .int .i64 x.kn, .int .i64 x.no] 28)) := (Ext.refl wr).alloc _
        have HA := Lib.hid (HBX.out.trans hA)
        have HAW := Lib.hid (HB.out.trans hA)
        have k0 := hA.cell HK0.out
        have k1 := hA.cell HK1.out
        have k2 := hA.cell HK2.out
        clear hA
        have e0 : (wr.alloc (.cells #[.int .i64 x.k, .int .i64 x.s, .int .i64 x.o, .int .i64 x.v, .int .i64 x.fr, .int .i64 x.to, .int .i64 x.kn, .int .i64 x.no] 28)).cell? ⟨wr.heap.size, 0, none⟩ = some (.int .i64 x.k) := by simp
        have e1 : (wr.alloc (.cells #[.int .i64 x.k, .int .i64 x.s, .int .i64 x.o, .int .i64 x.v, .int .i64 x.fr, .int .i64 x.to, .int .i64 x.kn, .int .i64 x.no] 28)).cell? ⟨wr.heap.size, 1, none⟩ = some (.int .i64 x.s) := by simp
        have e2 : (wr.alloc (.cells #[.int .i64 x.k, .int .i64 x.s, .int .i64 x.o, .int .i64 x.v, .int .i64 x.fr, .int .i64 x.to, .int .i64 x.kn, .int .i64 x.no] 28)).cell? ⟨wr.heap.size, 2, none⟩ = some (.int .i64 x.o) := by simp
        have e3 : (wr.alloc (.cells #[.int .i64 x.k, .int .i64 x.s, .int .i64 x.o, .int .i64 x.v, .int .i64 x.fr, .int .i64 x.to, .int .i64 x.kn, .int .i64 x.no] 28)).cell? ⟨wr.heap.size, 3, none⟩ = some (.int .i64 x.v) := by simp
        have e4 : (wr.alloc (.cells #[.int .i64 x.k, .int .i64 x.s, .int .i64 x.o, .int .i64 x.v, .int .i64 x.fr, .int .i64 x.to, .int .i64 x.kn, .int .i64 x.no] 28)).cell? ⟨wr.heap.size, 4, none⟩ = some (.int .i64 x.fr) := by simp
        have e5 : (wr.alloc (.cells #[.int .i64 x.k, .int .i64 x.s, .int .i64 x.o, .int .i64 x.v, .int .i64 x.fr, .int .i64 x.to, .int .i64 x.kn, .int .i64 x.no] 28)).cell? ⟨wr.heap.size, 5, none⟩ = some (.int .i64 x.to) := by simp
        have e6 : (wr.alloc (.cells #[.int .i64 x.k, .int .i64 x.s, .int .i64 x.o, .int .i64 x.v, .int .i64 x.fr, .int .i64 x.to, .int .i64 x.kn, .int .i64 x.no] 28)).cell? ⟨wr.heap.size, 6, none⟩ = some (.int .i64 x.kn) := by simp
        have e7 : (wr.alloc (.cells #[.int .i64 x.k, .int .i64 x.s, .int .i64 x.o, .int .i64 x.v, .int .i64 x.fr, .int .i64 x.to, .int .i64 x.kn, .int .i64 x.no] 28)).cell? ⟨wr.heap.size, 7, none⟩ = some (.int .i64 x.no) := by simp
        have he := eqKy x.key k
        unfold Ft.key at he
        dsimp only at he
        have hcs : (¬ (⟨x.k, x.s, x.o⟩ : Ky) = k) ∨ ((⟨x.k, x.s, x.o⟩ : Ky) = k ∧ ¬ x.fr ≤ t) ∨ ((⟨x.k, x.s, x.o⟩ : Ky) = k ∧ x.fr ≤ t ∧ ¬ t < x.to) ∨ ((⟨x.k, x.s, x.o⟩ : Ky) = k ∧ x.fr ≤ t ∧ t < x.to ∧ ¬ x.kn ≤ kn) ∨ ((⟨x.k, x.s, x.o⟩ : Ky) = k ∧ x.fr ≤ t ∧ t < x.to ∧ x.kn ≤ kn) := by
          by_cases c1 : (⟨x.k, x.s, x.o⟩ : Ky) = k
          · by_cases c2 : x.fr ≤ t
            · by_cases c3 : t < x.to
              · by_cases c4 : x.kn ≤ kn
                · exact .inr (.inr (.inr (.inr ⟨c1, c2, c3, c4⟩)))
                · exact .inr (.inr (.inr (.inl ⟨c1, c2, c3, c4⟩)))
              · exact .inr (.inr (.inl ⟨c1, c2, c3⟩))
            · exact .inr (.inl ⟨c1, c2⟩)
          · exact .inl c1
        rcases hcs with c1 | ⟨c1, c2⟩ | ⟨c1, c2, c3⟩ | ⟨c1, c2, c3, c4⟩ | ⟨c1, c2, c3, c4⟩
        · rw [decide_eq_false c1] at he
          have HIN : Hid (inT x k t kn = false) := Lib.hid (by rw [inT_eq]; simp [c1])
          have HNX := Lib.hid (BestI.keep HX.out HBI.out (.inl HIN.out))
          clear c1
          go_wp2_with fail
          generalize hW1 : (wr.alloc (.cells #[.int .i64 x.k, .int .i64 x.s, .int .i64 x.o, .int .i64 x.v, .int .i64 x.fr, .int .i64 x.to, .int .i64 x.kn, .int .i64 x.no] 28)) = W1 at *
          have ge0 := grow_cell e0
          have ge1 := grow_cell e1
          have ge2 := grow_cell e2
          have ge3 := grow_cell e3
          have ge4 := grow_cell e4
          have ge5 := grow_cell e5
          have ge6 := grow_cell e6
          have ge7 := grow_cell e7
          have gk0 := grow_cell k0
          have gk1 := grow_cell k1
          have gk2 := grow_cell k2
          refine wp_region_rel_all (fun i => none) (by kernel_rfl) (by kernel_rfl) ?_
          repeat (first
            | (refine wpRel_quick ?_ ?_ ?_ ?_
               · rfl
               · rfl
               · first | exact noEnter rfl | (intro f args W W'; go_simp)
               intro K hK
               go_big_quiet_op
               go_big_quiet_on)
            | (refine wpRel_skip ?_ ?_
               · rfl
               simp only [Act.put, List.setIfInBounds_toArray, List.set_cons_zero, List.set_cons_succ]))
          refine wpRel_nil ?_
          intro W3 hW3
          have HE3 := Lib.hid (HA.out.trans ((Ext.refl _).drew.trans hW3.1))
          clear hW3 he e0 ge0 e1 ge1 e2 ge2 e3 ge3 e4 ge4 e5 ge5 e6 ge6 e7 ge7 k0 gk0 k1 gk1 k2 gk2
          clear hW1
          go_wp2_with fail
          go_roundw
          case rel => exact ⟨(-1), m + 1, rfl, by go_num, by omega, HNX.out, HE3.out⟩
          case measure => simp [intOf] <;> omega
        · rw [decide_eq_true c1] at he
          have HIN : Hid (inT x k t kn = false) := Lib.hid (by rw [inT_eq]; simp [c1, c2])
          have HNX := Lib.hid (BestI.keep HX.out HBI.out (.inl HIN.out))
          have HC1 := Lib.hid c1
          clear c1
          have Dc2 : decide (x.fr ≤ t) = false := by simp [c2]
          have Ec2 : t < x.fr := by omega
          go_wp2_with fail
          generalize hW1 : (wr.alloc (.cells #[.int .i64 x.k, .int .i64 x.s, .int .i64 x.o, .int .i64 x.v, .int .i64 x.fr, .int .i64 x.to, .int .i64 x.kn, .int .i64 x.no] 28)) = W1 at *
          have ge0 := grow_cell e0
          have ge1 := grow_cell e1
          have ge2 := grow_cell e2
          have ge3 := grow_cell e3
          have ge4 := grow_cell e4
          have ge5 := grow_cell e5
          have ge6 := grow_cell e6
          have ge7 := grow_cell e7
          have gk0 := grow_cell k0
          have gk1 := grow_cell k1
          have gk2 := grow_cell k2
          refine wp_region_rel_all (fun i => none) (by kernel_rfl) (by kernel_rfl) ?_
          repeat (first
            | (refine wpRel_quick ?_ ?_ ?_ ?_
               · rfl
               · rfl
               · first | exact noEnter rfl | (intro f args W W'; go_simp)
               intro K hK
               go_big_quiet_op
               go_big_quiet_on)
            | (refine wpRel_skip ?_ ?_
               · rfl
               simp only [Act.put, List.setIfInBounds_toArray, List.set_cons_zero, List.set_cons_succ]))
          refine wpRel_nil ?_
          intro W3 hW3
          have HE3 := Lib.hid (HA.out.trans ((Ext.refl _).drew.trans hW3.1))
          clear hW3 he e0 ge0 e1 ge1 e2 ge2 e3 ge3 e4 ge4 e5 ge5 e6 ge6 e7 ge7 k0 gk0 k1 gk1 k2 gk2
          clear hW1
          go_wp2_with fail
          go_roundw
          case rel => exact ⟨(-1), m + 1, rfl, by go_num, by omega, HNX.out, HE3.out⟩
          case measure => simp [intOf] <;> omega
        · rw [decide_eq_true c1] at he
          have HIN : Hid (inT x k t kn = false) := Lib.hid (by rw [inT_eq]; simp [c1, c2, c3])
          have HNX := Lib.hid (BestI.keep HX.out HBI.out (.inl HIN.out))
          have HC1 := Lib.hid c1
          clear c1
          have Dc2 : decide (x.fr ≤ t) = true := by simp [c2]
          have Dc3 : decide (t < x.to) = false := by simp [c3]
          have Ec3 : x.to ≤ t := by omega
          go_wp2_with fail
          generalize hW1 : (wr.alloc (.cells #[.int .i64 x.k, .int .i64 x.s, .int .i64 x.o, .int .i64 x.v, .int .i64 x.fr, .int .i64 x.to, .int .i64 x.kn, .int .i64 x.no] 28)) = W1 at *
          have ge0 := grow_cell e0
          have ge1 := grow_cell e1
          have ge2 := grow_cell e2
          have ge3 := grow_cell e3
          have ge4 := grow_cell e4
          have ge5 := grow_cell e5
          have ge6 := grow_cell e6
          have ge7 := grow_cell e7
          have gk0 := grow_cell k0
          have gk1 := grow_cell k1
          have gk2 := grow_cell k2
          refine wp_region_rel_all (fun i => none) (by kernel_rfl) (by kernel_rfl) ?_
          repeat (first
            | (refine wpRel_quick ?_ ?_ ?_ ?_
               · rfl
               · rfl
               · first | exact noEnter rfl | (intro f args W W'; go_simp)
               intro K hK
               go_big_quiet_op
               go_big_quiet_on)
            | (refine wpRel_skip ?_ ?_
               · rfl
               simp only [Act.put, List.setIfInBounds_toArray, List.set_cons_zero, List.set_cons_succ]))
          refine wpRel_nil ?_
          intro W3 hW3
          have HE3 := Lib.hid (HA.out.trans ((Ext.refl _).drew.trans hW3.1))
          clear hW3 he e0 ge0 e1 ge1 e2 ge2 e3 ge3 e4 ge4 e5 ge5 e6 ge6 e7 ge7 k0 gk0 k1 gk1 k2 gk2
          clear hW1
          go_wp2_with fail
          go_roundw
          case rel => exact ⟨(-1), m + 1, rfl, by go_num, by omega, HNX.out, HE3.out⟩
          case measure => simp [intOf] <;> omega
        · rw [decide_eq_true c1] at he
          have HIN : Hid (inT x k t kn = false) := Lib.hid (by rw [inT_eq]; simp [c1, c2, c3, c4])
          have HNX := Lib.hid (BestI.keep HX.out HBI.out (.inl HIN.out))
          have HC1 := Lib.hid c1
          clear c1
          have Dc2 : decide (x.fr ≤ t) = true := by simp [c2]
          have Dc3 : decide (t < x.to) = true := by simp [c3]
          have Dc4 : decide (x.kn ≤ kn) = false := by simp [c4]
          have Ec4 : kn < x.kn := by omega
          go_wp2_with fail
          generalize hW1 : (wr.alloc (.cells #[.int .i64 x.k, .int .i64 x.s, .int .i64 x.o, .int .i64 x.v, .int .i64 x.fr, .int .i64 x.to, .int .i64 x.kn, .int .i64 x.no] 28)) = W1 at *
          have ge0 := grow_cell e0
          have ge1 := grow_cell e1
          have ge2 := grow_cell e2
          have ge3 := grow_cell e3
          have ge4 := grow_cell e4
          have ge5 := grow_cell e5
          have ge6 := grow_cell e6
          have ge7 := grow_cell e7
          have gk0 := grow_cell k0
          have gk1 := grow_cell k1
          have gk2 := grow_cell k2
          refine wp_region_rel_all (fun i => none) (by kernel_rfl) (by kernel_rfl) ?_
          repeat (first
            | (refine wpRel_quick ?_ ?_ ?_ ?_
               · rfl
               · rfl
               · first | exact noEnter rfl | (intro f args W W'; go_simp)
               intro K hK
               go_big_quiet_op
               go_big_quiet_on)
            | (refine wpRel_skip ?_ ?_
               · rfl
               simp only [Act.put, List.setIfInBounds_toArray, List.set_cons_zero, List.set_cons_succ]))
          refine wpRel_nil ?_
          intro W3 hW3
          have HE3 := Lib.hid (HA.out.trans ((Ext.refl _).drew.trans hW3.1))
          clear hW3 he e0 ge0 e1 ge1 e2 ge2 e3 ge3 e4 ge4 e5 ge5 e6 ge6 e7 ge7 k0 gk0 k1 gk1 k2 gk2
          clear hW1
          go_wp2_with fail
          go_roundw
          case rel => exact ⟨(-1), m + 1, rfl, by go_num, by omega, HNX.out, HE3.out⟩
          case measure => simp [intOf] <;> omega
        · rw [decide_eq_true c1] at he
          have HNX := Lib.hid (BestI.new HX.out (t := t) (kn := kn) (k := k) (by rw [inT_eq]; simp [c1, c2, c3, c4]) (by rw [HBE.out]; rfl))
          have HC1 := Lib.hid c1
          clear c1
          have Dc2 : decide (x.fr ≤ t) = true := by simp [c2]
          have Dc3 : decide (t < x.to) = true := by simp [c3]
          have Dc4 : decide (x.kn ≤ kn) = true := by simp [c4]
          go_wp2_with fail
          generalize hW1 : (wr.alloc (.cells #[.int .i64 x.k, .int .i64 x.s, .int .i64 x.o, .int .i64 x.v, .int .i64 x.fr, .int .i64 x.to, .int .i64 x.kn, .int .i64 x.no] 28)) = W1 at *
          have ge0 := grow_cell e0
          have ge1 := grow_cell e1
          have ge2 := grow_cell e2
          have ge3 := grow_cell e3
          have ge4 := grow_cell e4
          have ge5 := grow_cell e5
          have ge6 := grow_cell e6
          have ge7 := grow_cell e7
          have gk0 := grow_cell k0
          have gk1 := grow_cell k1
          have gk2 := grow_cell k2
          refine wp_region_rel_all (fun i => none) (by kernel_rfl) (by kernel_rfl) ?_
          repeat (first
            | (refine wpRel_quick ?_ ?_ ?_ ?_
               · rfl
               · rfl
               · first | exact noEnter rfl | (intro f args W W'; go_simp)
               intro K hK
               go_big_quiet_op
               go_big_quiet_on)
            | (refine wpRel_skip ?_ ?_
               · rfl
               simp only [Act.put, List.setIfInBounds_toArray, List.set_cons_zero, List.set_cons_succ]))
          refine wpRel_nil ?_
          intro W3 hW3
          have HE3 := Lib.hid (HA.out.trans ((Ext.refl _).drew.trans hW3.1))
          clear hW3 he e0 ge0 e1 ge1 e2 ge2 e3 ge3 e4 ge4 e5 ge5 e6 ge6 e7 ge7 k0 gk0 k1 gk1 k2 gk2
          clear hW1
          go_wp2_with fail
          go_roundw
          case rel => exact ⟨(m : Int), m + 1, rfl, by go_num, by omega, HNX.out, HE3.out⟩
          case measure => simp [intOf] <;> omega
      · have HBE := Lib.hid hbe
        have hjl : (j : Int) < (l.length : Int) := by omega
        have hj0 : (0 : Int) ≤ (j : Int) := by omega
        have hjn : ¬ (j : Int) < 0 := by omega
        clear hbe hjm
        obtain ⟨q, hq⟩ : ∃ q, befF x g = q := ⟨_, rfl⟩
        have HQ := Lib.hid hq
        have HCP : Hid (∀ W, Calls Try.prog 41 #[.agg #[.int .i64 x.k, .int .i64 x.s, .int .i64 x.o, .int .i64 x.v, .int .i64 x.fr, .int .i64 x.to, .int .i64 x.kn, .int .i64 x.no], .agg #[.int .i64 g.k, .int .i64 g.s, .int .i64 g.o, .int .i64 g.v, .int .i64 g.fr, .int .i64 g.to, .int .i64 g.kn, .int .i64 g.no]] W fun e w' => e = .returned (.bool q) ∧ Ext W w') := Lib.hid fun W => hq ▸ before_any x g W
        clear hq
        have hA : Ext wr (wr.alloc (.cells #[.int .i64 x.k, .int .i64 x.s, .int .i64 x.o, .int .i64 x.v, .int .i64 x.fr, .int .i64 x.to, .int .i64 x.kn, .int .i64 x.no] 28)) := (Ext.refl wr).alloc _
        have HA := Lib.hid (HBX.out.trans hA)
        have HAW := Lib.hid (HB.out.trans hA)
        have k0 := hA.cell HK0.out
        have k1 := hA.cell HK1.out
        have k2 := hA.cell HK2.out
        clear hA
        have e0 : (wr.alloc (.cells #[.int .i64 x.k, .int .i64 x.s, .int .i64 x.o, .int .i64 x.v, .int .i64 x.fr, .int .i64 x.to, .int .i64 x.kn, .int .i64 x.no] 28)).cell? ⟨wr.heap.size, 0, none⟩ = some (.int .i64 x.k) := by simp
        have e1 : (wr.alloc (.cells #[.int .i64 x.k, .int .i64 x.s, .int .i64 x.o, .int .i64 x.v, .int .i64 x.fr, .int .i64 x.to, .int .i64 x.kn, .int .i64 x.no] 28)).cell? ⟨wr.heap.size, 1, none⟩ = some (.int .i64 x.s) := by simp
        have e2 : (wr.alloc (.cells #[.int .i64 x.k, .int .i64 x.s, .int .i64 x.o, .int .i64 x.v, .int .i64 x.fr, .int .i64 x.to, .int .i64 x.kn, .int .i64 x.no] 28)).cell? ⟨wr.heap.size, 2, none⟩ = some (.int .i64 x.o) := by simp
        have e3 : (wr.alloc (.cells #[.int .i64 x.k, .int .i64 x.s, .int .i64 x.o, .int .i64 x.v, .int .i64 x.fr, .int .i64 x.to, .int .i64 x.kn, .int .i64 x.no] 28)).cell? ⟨wr.heap.size, 3, none⟩ = some (.int .i64 x.v) := by simp
        have e4 : (wr.alloc (.cells #[.int .i64 x.k, .int .i64 x.s, .int .i64 x.o, .int .i64 x.v, .int .i64 x.fr, .int .i64 x.to, .int .i64 x.kn, .int .i64 x.no] 28)).cell? ⟨wr.heap.size, 4, none⟩ = some (.int .i64 x.fr) := by simp
        have e5 : (wr.alloc (.cells #[.int .i64 x.k, .int .i64 x.s, .int .i64 x.o, .int .i64 x.v, .int .i64 x.fr, .int .i64 x.to, .int .i64 x.kn, .int .i64 x.no] 28)).cell? ⟨wr.heap.size, 5, none⟩ = some (.int .i64 x.to) := by simp
        have e6 : (wr.alloc (.cells #[.int .i64 x.k, .int .i64 x.s, .int .i64 x.o, .int .i64 x.v, .int .i64 x.fr, .int .i64 x.to, .int .i64 x.kn, .int .i64 x.no] 28)).cell? ⟨wr.heap.size, 6, none⟩ = some (.int .i64 x.kn) := by simp
        have e7 : (wr.alloc (.cells #[.int .i64 x.k, .int .i64 x.s, .int .i64 x.o, .int .i64 x.v, .int .i64 x.fr, .int .i64 x.to, .int .i64 x.kn, .int .i64 x.no] 28)).cell? ⟨wr.heap.size, 7, none⟩ = some (.int .i64 x.no) := by simp
        have he := eqKy x.key k
        unfold Ft.key at he
        dsimp only at he
        obtain ⟨b1, o1, e1', d0, d1, d2, d3, d4, d5, d6, d7⟩ := f_at HL.out HAW.out hg
        cases e1'
        clear hg
        have hcs : (¬ (⟨x.k, x.s, x.o⟩ : Ky) = k) ∨ ((⟨x.k, x.s, x.o⟩ : Ky) = k ∧ ¬ x.fr ≤ t) ∨ ((⟨x.k, x.s, x.o⟩ : Ky) = k ∧ x.fr ≤ t ∧ ¬ t < x.to) ∨ ((⟨x.k, x.s, x.o⟩ : Ky) = k ∧ x.fr ≤ t ∧ t < x.to ∧ ¬ x.kn ≤ kn) ∨ ((⟨x.k, x.s, x.o⟩ : Ky) = k ∧ x.fr ≤ t ∧ t < x.to ∧ x.kn ≤ kn) := by
          by_cases c1 : (⟨x.k, x.s, x.o⟩ : Ky) = k
          · by_cases c2 : x.fr ≤ t
            · by_cases c3 : t < x.to
              · by_cases c4 : x.kn ≤ kn
                · exact .inr (.inr (.inr (.inr ⟨c1, c2, c3, c4⟩)))
                · exact .inr (.inr (.inr (.inl ⟨c1, c2, c3, c4⟩)))
              · exact .inr (.inr (.inl ⟨c1, c2, c3⟩))
            · exact .inr (.inl ⟨c1, c2⟩)
          · exact .inl c1
        cases q with
        | false =>
          rcases hcs with c1 | ⟨c1, c2⟩ | ⟨c1, c2, c3⟩ | ⟨c1, c2, c3, c4⟩ | ⟨c1, c2, c3, c4⟩
          · rw [decide_eq_false c1] at he
            have HIN : Hid (inT x k t kn = false) := Lib.hid (by rw [inT_eq]; simp [c1])
            have HNX := Lib.hid (BestI.keep HX.out HBI.out (.inl HIN.out))
            clear c1
            go_wp2_with fail
            generalize hW1 : (wr.alloc (.cells #[.int .i64 x.k, .int .i64 x.s, .int .i64 x.o, .int .i64 x.v, .int .i64 x.fr, .int .i64 x.to, .int .i64 x.kn, .int .i64 x.no] 28)) = W1 at *
            have ge0 := grow_cell e0
            have ge1 := grow_cell e1
            have ge2 := grow_cell e2
            have ge3 := grow_cell e3
            have ge4 := grow_cell e4
            have ge5 := grow_cell e5
            have ge6 := grow_cell e6
            have ge7 := grow_cell e7
            have gk0 := grow_cell k0
            have gk1 := grow_cell k1
            have gk2 := grow_cell k2
            have gd0 := grow_cell d0
            have gd1 := grow_cell d1
            have gd2 := grow_cell d2
            have gd3 := grow_cell d3
            have gd4 := grow_cell d4
            have gd5 := grow_cell d5
            have gd6 := grow_cell d6
            have gd7 := grow_cell d7
            refine wp_region_rel_all (fun i => if i = 33 then some (spV (.bool false)) else none) (by kernel_rfl) (by kernel_rfl) ?_
            repeat (first
              | (refine wpRel_quick ?_ ?_ ?_ ?_
                 · rfl
                 · rfl
                 · first | exact noEnter rfl | (intro f args W W'; go_simp)
                 intro K hK
                 go_big_quiet_op
                 go_big_quiet_on)
              | (refine wpRel_skip ?_ ?_
                 · rfl
                 simp only [Act.put, List.setIfInBounds_toArray, List.set_cons_zero, List.set_cons_succ]))
            refine wpRel_nil ?_
            intro W3 hW3
            have HE3 := Lib.hid (HA.out.trans ((Ext.refl _).drew.trans hW3.1))
            clear hW3 he e0 ge0 e1 ge1 e2 ge2 e3 ge3 e4 ge4 e5 ge5 e6 ge6 e7 ge7 k0 gk0 k1 gk1 k2 gk2 d0 gd0 d1 gd1 d2 gd2 d3 gd3 d4 gd4 d5 gd5 d6 gd6 d7 gd7
            clear hW1
            go_wp2_with fail
            go_roundw
            case rel => exact ⟨(j : Int), m + 1, rfl, by go_num, by omega, HNX.out, HE3.out⟩
            case measure => simp [intOf] <;> omega
          · rw [decide_eq_true c1] at he
            have HIN : Hid (inT x k t kn = false) := Lib.hid (by rw [inT_eq]; simp [c1, c2])
            have HNX := Lib.hid (BestI.keep HX.out HBI.out (.inl HIN.out))
            have HC1 := Lib.hid c1
            clear c1
            have Dc2 : decide (x.fr ≤ t) = false := by simp [c2]
            have Ec2 : t < x.fr := by omega
            go_wp2_with fail
            generalize hW1 : (wr.alloc (.cells #[.int .i64 x.k, .int .i64 x.s, .int .i64 x.o, .int .i64 x.v, .int .i64 x.fr, .int .i64 x.to, .int .i64 x.kn, .int .i64 x.no] 28)) = W1 at *
            have ge0 := grow_cell e0
            have ge1 := grow_cell e1
            have ge2 := grow_cell e2
            have ge3 := grow_cell e3
            have ge4 := grow_cell e4
            have ge5 := grow_cell e5
            have ge6 := grow_cell e6
            have ge7 := grow_cell e7
            have gk0 := grow_cell k0
            have gk1 := grow_cell k1
            have gk2 := grow_cell k2
            have gd0 := grow_cell d0
            have gd1 := grow_cell d1
            have gd2 := grow_cell d2
            have gd3 := grow_cell d3
            have gd4 := grow_cell d4
            have gd5 := grow_cell d5
            have gd6 := grow_cell d6
            have gd7 := grow_cell d7
            refine wp_region_rel_all (fun i => if i = 33 then some (spV (.bool false)) else none) (by kernel_rfl) (by kernel_rfl) ?_
            repeat (first
              | (refine wpRel_quick ?_ ?_ ?_ ?_
                 · rfl
                 · rfl
                 · first | exact noEnter rfl | (intro f args W W'; go_simp)
                 intro K hK
                 go_big_quiet_op
                 go_big_quiet_on)
              | (refine wpRel_skip ?_ ?_
                 · rfl
                 simp only [Act.put, List.setIfInBounds_toArray, List.set_cons_zero, List.set_cons_succ]))
            refine wpRel_nil ?_
            intro W3 hW3
            have HE3 := Lib.hid (HA.out.trans ((Ext.refl _).drew.trans hW3.1))
            clear hW3 he e0 ge0 e1 ge1 e2 ge2 e3 ge3 e4 ge4 e5 ge5 e6 ge6 e7 ge7 k0 gk0 k1 gk1 k2 gk2 d0 gd0 d1 gd1 d2 gd2 d3 gd3 d4 gd4 d5 gd5 d6 gd6 d7 gd7
            clear hW1
            go_wp2_with fail
            go_roundw
            case rel => exact ⟨(j : Int), m + 1, rfl, by go_num, by omega, HNX.out, HE3.out⟩
            case measure => simp [intOf] <;> omega
          · rw [decide_eq_true c1] at he
            have HIN : Hid (inT x k t kn = false) := Lib.hid (by rw [inT_eq]; simp [c1, c2, c3])
            have HNX := Lib.hid (BestI.keep HX.out HBI.out (.inl HIN.out))
            have HC1 := Lib.hid c1
            clear c1
            have Dc2 : decide (x.fr ≤ t) = true := by simp [c2]
            have Dc3 : decide (t < x.to) = false := by simp [c3]
            have Ec3 : x.to ≤ t := by omega
            go_wp2_with fail
            generalize hW1 : (wr.alloc (.cells #[.int .i64 x.k, .int .i64 x.s, .int .i64 x.o, .int .i64 x.v, .int .i64 x.fr, .int .i64 x.to, .int .i64 x.kn, .int .i64 x.no] 28)) = W1 at *
            have ge0 := grow_cell e0
            have ge1 := grow_cell e1
            have ge2 := grow_cell e2
            have ge3 := grow_cell e3
            have ge4 := grow_cell e4
            have ge5 := grow_cell e5
            have ge6 := grow_cell e6
            have ge7 := grow_cell e7
            have gk0 := grow_cell k0
            have gk1 := grow_cell k1
            have gk2 := grow_cell k2
            have gd0 := grow_cell d0
            have gd1 := grow_cell d1
            have gd2 := grow_cell d2
            have gd3 := grow_cell d3
            have gd4 := grow_cell d4
            have gd5 := grow_cell d5
            have gd6 := grow_cell d6
            have gd7 := grow_cell d7
            refine wp_region_rel_all (fun i => if i = 33 then some (spV (.bool false)) else none) (by kernel_rfl) (by kernel_rfl) ?_
            repeat (first
              | (refine wpRel_quick ?_ ?_ ?_ ?_
                 · rfl
                 · rfl
                 · first | exact noEnter rfl | (intro f args W W'; go_simp)
                 intro K hK
                 go_big_quiet_op
                 go_big_quiet_on)
              | (refine wpRel_skip ?_ ?_
                 · rfl
                 simp only [Act.put, List.setIfInBounds_toArray, List.set_cons_zero, List.set_cons_succ]))
            refine wpRel_nil ?_
            intro W3 hW3
            have HE3 := Lib.hid (HA.out.trans ((Ext.refl _).drew.trans hW3.1))
            clear hW3 he e0 ge0 e1 ge1 e2 ge2 e3 ge3 e4 ge4 e5 ge5 e6 ge6 e7 ge7 k0 gk0 k1 gk1 k2 gk2 d0 gd0 d1 gd1 d2 gd2 d3 gd3 d4 gd4 d5 gd5 d6 gd6 d7 gd7
            clear hW1
            go_wp2_with fail
            go_roundw
            case rel => exact ⟨(j : Int), m + 1, rfl, by go_num, by omega, HNX.out, HE3.out⟩
            case measure => simp [intOf] <;> omega
          · rw [decide_eq_true c1] at he
            have HIN : Hid (inT x k t kn = false) := Lib.hid (by rw [inT_eq]; simp [c1, c2, c3, c4])
            have HNX := Lib.hid (BestI.keep HX.out HBI.out (.inl HIN.out))
            have HC1 := Lib.hid c1
            clear c1
            have Dc2 : decide (x.fr ≤ t) = true := by simp [c2]
            have Dc3 : decide (t < x.to) = true := by simp [c3]
            have Dc4 : decide (x.kn ≤ kn) = false := by simp [c4]
            have Ec4 : kn < x.kn := by omega
            go_wp2_with fail
            generalize hW1 : (wr.alloc (.cells #[.int .i64 x.k, .int .i64 x.s, .int .i64 x.o, .int .i64 x.v, .int .i64 x.fr, .int .i64 x.to, .int .i64 x.kn, .int .i64 x.no] 28)) = W1 at *
            have ge0 := grow_cell e0
            have ge1 := grow_cell e1
            have ge2 := grow_cell e2
            have ge3 := grow_cell e3
            have ge4 := grow_cell e4
            have ge5 := grow_cell e5
            have ge6 := grow_cell e6
            have ge7 := grow_cell e7
            have gk0 := grow_cell k0
            have gk1 := grow_cell k1
            have gk2 := grow_cell k2
            have gd0 := grow_cell d0
            have gd1 := grow_cell d1
            have gd2 := grow_cell d2
            have gd3 := grow_cell d3
            have gd4 := grow_cell d4
            have gd5 := grow_cell d5
            have gd6 := grow_cell d6
            have gd7 := grow_cell d7
            refine wp_region_rel_all (fun i => if i = 33 then some (spV (.bool false)) else none) (by kernel_rfl) (by kernel_rfl) ?_
            repeat (first
              | (refine wpRel_quick ?_ ?_ ?_ ?_
                 · rfl
                 · rfl
                 · first | exact noEnter rfl | (intro f args W W'; go_simp)
                 intro K hK
                 go_big_quiet_op
                 go_big_quiet_on)
              | (refine wpRel_skip ?_ ?_
                 · rfl
                 simp only [Act.put, List.setIfInBounds_toArray, List.set_cons_zero, List.set_cons_succ]))
            refine wpRel_nil ?_
            intro W3 hW3
            have HE3 := Lib.hid (HA.out.trans ((Ext.refl _).drew.trans hW3.1))
            clear hW3 he e0 ge0 e1 ge1 e2 ge2 e3 ge3 e4 ge4 e5 ge5 e6 ge6 e7 ge7 k0 gk0 k1 gk1 k2 gk2 d0 gd0 d1 gd1 d2 gd2 d3 gd3 d4 gd4 d5 gd5 d6 gd6 d7 gd7
            clear hW1
            go_wp2_with fail
            go_roundw
            case rel => exact ⟨(j : Int), m + 1, rfl, by go_num, by omega, HNX.out, HE3.out⟩
            case measure => simp [intOf] <;> omega
          · rw [decide_eq_true c1] at he
            have HNX := Lib.hid (BestI.new HX.out (t := t) (kn := kn) (k := k) (by rw [inT_eq]; simp [c1, c2, c3, c4]) (by rw [HBE.out]; exact bet_bef HQ.out))
            have HC1 := Lib.hid c1
            clear c1
            have Dc2 : decide (x.fr ≤ t) = true := by simp [c2]
            have Dc3 : decide (t < x.to) = true := by simp [c3]
            have Dc4 : decide (x.kn ≤ kn) = true := by simp [c4]
            go_wp2_with fail
            generalize hW1 : (wr.alloc (.cells #[.int .i64 x.k, .int .i64 x.s, .int .i64 x.o, .int .i64 x.v, .int .i64 x.fr, .int .i64 x.to, .int .i64 x.kn, .int .i64 x.no] 28)) = W1 at *
            have ge0 := grow_cell e0
            have ge1 := grow_cell e1
            have ge2 := grow_cell e2
            have ge3 := grow_cell e3
            have ge4 := grow_cell e4
            have ge5 := grow_cell e5
            have ge6 := grow_cell e6
            have ge7 := grow_cell e7
            have gk0 := grow_cell k0
            have gk1 := grow_cell k1
            have gk2 := grow_cell k2
            have gd0 := grow_cell d0
            have gd1 := grow_cell d1
            have gd2 := grow_cell d2
            have gd3 := grow_cell d3
            have gd4 := grow_cell d4
            have gd5 := grow_cell d5
            have gd6 := grow_cell d6
            have gd7 := grow_cell d7
            refine wp_region_rel_all (fun i => if i = 33 then some (spV (.bool false)) else none) (by kernel_rfl) (by kernel_rfl) ?_
            repeat (first
              | (refine wpRel_quick ?_ ?_ ?_ ?_
                 · rfl
                 · rfl
                 · first | exact noEnter rfl | (intro f args W W'; go_simp)
                 intro K hK
                 go_big_quiet_op
                 go_big_quiet_on)
              | (refine wpRel_skip ?_ ?_
                 · rfl
                 simp only [Act.put, List.setIfInBounds_toArray, List.set_cons_zero, List.set_cons_succ]))
            refine wpRel_rich _ rfl rfl (fun W hW => ?_) (fun v W3 hW3 hv => ?_)
            · have hc := HCP.out W
              go_simp
              refine Calls.mono hc ?_
              rintro e w' ⟨rfl, h⟩
              exact ⟨_, rfl, rfl, by first | exact h | (subst h; exact Ext.refl _)⟩
            obtain rfl := hv
            clear hW3
            simp only [Act.put, List.setIfInBounds_toArray, List.set_cons_zero, List.set_cons_succ]
            repeat (first
              | (refine wpRel_quick ?_ ?_ ?_ ?_
                 · rfl
                 · rfl
                 · first | exact noEnter rfl | (intro f args W W'; go_simp)
                 intro K hK
                 go_big_quiet_op
                 go_big_quiet_on)
              | (refine wpRel_skip ?_ ?_
                 · rfl
                 simp only [Act.put, List.setIfInBounds_toArray, List.set_cons_zero, List.set_cons_succ]))
            refine wpRel_nil ?_
            intro W3 hW3
            have HE3 := Lib.hid (HA.out.trans ((Ext.refl _).drew.trans hW3.1))
            clear hW3 he e0 ge0 e1 ge1 e2 ge2 e3 ge3 e4 ge4 e5 ge5 e6 ge6 e7 ge7 k0 gk0 k1 gk1 k2 gk2 d0 gd0 d1 gd1 d2 gd2 d3 gd3 d4 gd4 d5 gd5 d6 gd6 d7 gd7
            clear hW1
            go_wp2_with fail
            go_roundw
            case rel => exact ⟨(m : Int), m + 1, rfl, by go_num, by omega, HNX.out, HE3.out⟩
            case measure => simp [intOf] <;> omega
        | true =>
          rcases hcs with c1 | ⟨c1, c2⟩ | ⟨c1, c2, c3⟩ | ⟨c1, c2, c3, c4⟩ | ⟨c1, c2, c3, c4⟩
          · rw [decide_eq_false c1] at he
            have HIN : Hid (inT x k t kn = false) := Lib.hid (by rw [inT_eq]; simp [c1])
            have HNX := Lib.hid (BestI.keep HX.out HBI.out (.inl HIN.out))
            clear c1
            go_wp2_with fail
            generalize hW1 : (wr.alloc (.cells #[.int .i64 x.k, .int .i64 x.s, .int .i64 x.o, .int .i64 x.v, .int .i64 x.fr, .int .i64 x.to, .int .i64 x.kn, .int .i64 x.no] 28)) = W1 at *
            have ge0 := grow_cell e0
            have ge1 := grow_cell e1
            have ge2 := grow_cell e2
            have ge3 := grow_cell e3
            have ge4 := grow_cell e4
            have ge5 := grow_cell e5
            have ge6 := grow_cell e6
            have ge7 := grow_cell e7
            have gk0 := grow_cell k0
            have gk1 := grow_cell k1
            have gk2 := grow_cell k2
            have gd0 := grow_cell d0
            have gd1 := grow_cell d1
            have gd2 := grow_cell d2
            have gd3 := grow_cell d3
            have gd4 := grow_cell d4
            have gd5 := grow_cell d5
            have gd6 := grow_cell d6
            have gd7 := grow_cell d7
            refine wp_region_rel_all (fun i => if i = 33 then some (spV (.bool true)) else none) (by kernel_rfl) (by kernel_rfl) ?_
            repeat (first
              | (refine wpRel_quick ?_ ?_ ?_ ?_
                 · rfl
                 · rfl
                 · first | exact noEnter rfl | (intro f args W W'; go_simp)
                 intro K hK
                 go_big_quiet_op
                 go_big_quiet_on)
              | (refine wpRel_skip ?_ ?_
                 · rfl
                 simp only [Act.put, List.setIfInBounds_toArray, List.set_cons_zero, List.set_cons_succ]))
            refine wpRel_nil ?_
            intro W3 hW3
            have HE3 := Lib.hid (HA.out.trans ((Ext.refl _).drew.trans hW3.1))
            clear hW3 he e0 ge0 e1 ge1 e2 ge2 e3 ge3 e4 ge4 e5 ge5 e6 ge6 e7 ge7 k0 gk0 k1 gk1 k2 gk2 d0 gd0 d1 gd1 d2 gd2 d3 gd3 d4 gd4 d5 gd5 d6 gd6 d7 gd7
            clear hW1
            go_wp2_with fail
            go_roundw
            case rel => exact ⟨(j : Int), m + 1, rfl, by go_num, by omega, HNX.out, HE3.out⟩
            case measure => simp [intOf] <;> omega
          · rw [decide_eq_true c1] at he
            have HIN : Hid (inT x k t kn = false) := Lib.hid (by rw [inT_eq]; simp [c1, c2])
            have HNX := Lib.hid (BestI.keep HX.out HBI.out (.inl HIN.out))
            have HC1 := Lib.hid c1
            clear c1
            have Dc2 : decide (x.fr ≤ t) = false := by simp [c2]
            have Ec2 : t < x.fr := by omega
            go_wp2_with fail
            generalize hW1 : (wr.alloc (.cells #[.int .i64 x.k, .int .i64 x.s, .int .i64 x.o, .int .i64 x.v, .int .i64 x.fr, .int .i64 x.to, .int .i64 x.kn, .int .i64 x.no] 28)) = W1 at *
            have ge0 := grow_cell e0
            have ge1 := grow_cell e1
            have ge2 := grow_cell e2
            have ge3 := grow_cell e3
            have ge4 := grow_cell e4
            have ge5 := grow_cell e5
            have ge6 := grow_cell e6
            have ge7 := grow_cell e7
            have gk0 := grow_cell k0
            have gk1 := grow_cell k1
            have gk2 := grow_cell k2
            have gd0 := grow_cell d0
            have gd1 := grow_cell d1
            have gd2 := grow_cell d2
            have gd3 := grow_cell d3
            have gd4 := grow_cell d4
            have gd5 := grow_cell d5
            have gd6 := grow_cell d6
            have gd7 := grow_cell d7
            refine wp_region_rel_all (fun i => if i = 33 then some (spV (.bool true)) else none) (by kernel_rfl) (by kernel_rfl) ?_
            repeat (first
              | (refine wpRel_quick ?_ ?_ ?_ ?_
                 · rfl
                 · rfl
                 · first | exact noEnter rfl | (intro f args W W'; go_simp)
                 intro K hK
                 go_big_quiet_op
                 go_big_quiet_on)
              | (refine wpRel_skip ?_ ?_
                 · rfl
                 simp only [Act.put, List.setIfInBounds_toArray, List.set_cons_zero, List.set_cons_succ]))
            refine wpRel_nil ?_
            intro W3 hW3
            have HE3 := Lib.hid (HA.out.trans ((Ext.refl _).drew.trans hW3.1))
            clear hW3 he e0 ge0 e1 ge1 e2 ge2 e3 ge3 e4 ge4 e5 ge5 e6 ge6 e7 ge7 k0 gk0 k1 gk1 k2 gk2 d0 gd0 d1 gd1 d2 gd2 d3 gd3 d4 gd4 d5 gd5 d6 gd6 d7 gd7
            clear hW1
            go_wp2_with fail
            go_roundw
            case rel => exact ⟨(j : Int), m + 1, rfl, by go_num, by omega, HNX.out, HE3.out⟩
            case measure => simp [intOf] <;> omega
          · rw [decide_eq_true c1] at he
            have HIN : Hid (inT x k t kn = false) := Lib.hid (by rw [inT_eq]; simp [c1, c2, c3])
            have HNX := Lib.hid (BestI.keep HX.out HBI.out (.inl HIN.out))
            have HC1 := Lib.hid c1
            clear c1
            have Dc2 : decide (x.fr ≤ t) = true := by simp [c2]
            have Dc3 : decide (t < x.to) = false := by simp [c3]
            have Ec3 : x.to ≤ t := by omega
            go_wp2_with fail
            generalize hW1 : (wr.alloc (.cells #[.int .i64 x.k, .int .i64 x.s, .int .i64 x.o, .int .i64 x.v, .int .i64 x.fr, .int .i64 x.to, .int .i64 x.kn, .int .i64 x.no] 28)) = W1 at *
            have ge0 := grow_cell e0
            have ge1 := grow_cell e1
            have ge2 := grow_cell e2
            have ge3 := grow_cell e3
            have ge4 := grow_cell e4
            have ge5 := grow_cell e5
            have ge6 := grow_cell e6
            have ge7 := grow_cell e7
            have gk0 := grow_cell k0
            have gk1 := grow_cell k1
            have gk2 := grow_cell k2
            have gd0 := grow_cell d0
            have gd1 := grow_cell d1
            have gd2 := grow_cell d2
            have gd3 := grow_cell d3
            have gd4 := grow_cell d4
            have gd5 := grow_cell d5
            have gd6 := grow_cell d6
            have gd7 := grow_cell d7
            refine wp_region_rel_all (fun i => if i = 33 then some (spV (.bool true)) else none) (by kernel_rfl) (by kernel_rfl) ?_
            repeat (first
              | (refine wpRel_quick ?_ ?_ ?_ ?_
                 · rfl
                 · rfl
                 · first | exact noEnter rfl | (intro f args W W'; go_simp)
                 intro K hK
                 go_big_quiet_op
                 go_big_quiet_on)
              | (refine wpRel_skip ?_ ?_
                 · rfl
                 simp only [Act.put, List.setIfInBounds_toArray, List.set_cons_zero, List.set_cons_succ]))
            refine wpRel_nil ?_
            intro W3 hW3
            have HE3 := Lib.hid (HA.out.trans ((Ext.refl _).drew.trans hW3.1))
            clear hW3 he e0 ge0 e1 ge1 e2 ge2 e3 ge3 e4 ge4 e5 ge5 e6 ge6 e7 ge7 k0 gk0 k1 gk1 k2 gk2 d0 gd0 d1 gd1 d2 gd2 d3 gd3 d4 gd4 d5 gd5 d6 gd6 d7 gd7
            clear hW1
            go_wp2_with fail
            go_roundw
            case rel => exact ⟨(j : Int), m + 1, rfl, by go_num, by omega, HNX.out, HE3.out⟩
            case measure => simp [intOf] <;> omega
          · rw [decide_eq_true c1] at he
            have HIN : Hid (inT x k t kn = false) := Lib.hid (by rw [inT_eq]; simp [c1, c2, c3, c4])
            have HNX := Lib.hid (BestI.keep HX.out HBI.out (.inl HIN.out))
            have HC1 := Lib.hid c1
            clear c1
            have Dc2 : decide (x.fr ≤ t) = true := by simp [c2]
            have Dc3 : decide (t < x.to) = true := by simp [c3]
            have Dc4 : decide (x.kn ≤ kn) = false := by simp [c4]
            have Ec4 : kn < x.kn := by omega
            go_wp2_with fail
            generalize hW1 : (wr.alloc (.cells #[.int .i64 x.k, .int .i64 x.s, .int .i64 x.o, .int .i64 x.v, .int .i64 x.fr, .int .i64 x.to, .int .i64 x.kn, .int .i64 x.no] 28)) = W1 at *
            have ge0 := grow_cell e0
            have ge1 := grow_cell e1
            have ge2 := grow_cell e2
            have ge3 := grow_cell e3
            have ge4 := grow_cell e4
            have ge5 := grow_cell e5
            have ge6 := grow_cell e6
            have ge7 := grow_cell e7
            have gk0 := grow_cell k0
            have gk1 := grow_cell k1
            have gk2 := grow_cell k2
            have gd0 := grow_cell d0
            have gd1 := grow_cell d1
            have gd2 := grow_cell d2
            have gd3 := grow_cell d3
            have gd4 := grow_cell d4
            have gd5 := grow_cell d5
            have gd6 := grow_cell d6
            have gd7 := grow_cell d7
            refine wp_region_rel_all (fun i => if i = 33 then some (spV (.bool true)) else none) (by kernel_rfl) (by kernel_rfl) ?_
            repeat (first
              | (refine wpRel_quick ?_ ?_ ?_ ?_
                 · rfl
                 · rfl
                 · first | exact noEnter rfl | (intro f args W W'; go_simp)
                 intro K hK
                 go_big_quiet_op
                 go_big_quiet_on)
              | (refine wpRel_skip ?_ ?_
                 · rfl
                 simp only [Act.put, List.setIfInBounds_toArray, List.set_cons_zero, List.set_cons_succ]))
            refine wpRel_nil ?_
            intro W3 hW3
            have HE3 := Lib.hid (HA.out.trans ((Ext.refl _).drew.trans hW3.1))
            clear hW3 he e0 ge0 e1 ge1 e2 ge2 e3 ge3 e4 ge4 e5 ge5 e6 ge6 e7 ge7 k0 gk0 k1 gk1 k2 gk2 d0 gd0 d1 gd1 d2 gd2 d3 gd3 d4 gd4 d5 gd5 d6 gd6 d7 gd7
            clear hW1
            go_wp2_with fail
            go_roundw
            case rel => exact ⟨(j : Int), m + 1, rfl, by go_num, by omega, HNX.out, HE3.out⟩
            case measure => simp [intOf] <;> omega
          · rw [decide_eq_true c1] at he
            have HNX := Lib.hid (BestI.keep HX.out HBI.out (.inr (by rw [HBE.out]; exact bet_bef HQ.out)))
            have HC1 := Lib.hid c1
            clear c1
            have Dc2 : decide (x.fr ≤ t) = true := by simp [c2]
            have Dc3 : decide (t < x.to) = true := by simp [c3]
            have Dc4 : decide (x.kn ≤ kn) = true := by simp [c4]
            go_wp2_with fail
            generalize hW1 : (wr.alloc (.cells #[.int .i64 x.k, .int .i64 x.s, .int .i64 x.o, .int .i64 x.v, .int .i64 x.fr, .int .i64 x.to, .int .i64 x.kn, .int .i64 x.no] 28)) = W1 at *
            have ge0 := grow_cell e0
            have ge1 := grow_cell e1
            have ge2 := grow_cell e2
            have ge3 := grow_cell e3
            have ge4 := grow_cell e4
            have ge5 := grow_cell e5
            have ge6 := grow_cell e6
            have ge7 := grow_cell e7
            have gk0 := grow_cell k0
            have gk1 := grow_cell k1
            have gk2 := grow_cell k2
            have gd0 := grow_cell d0
            have gd1 := grow_cell d1
            have gd2 := grow_cell d2
            have gd3 := grow_cell d3
            have gd4 := grow_cell d4
            have gd5 := grow_cell d5
            have gd6 := grow_cell d6
            have gd7 := grow_cell d7
            refine wp_region_rel_all (fun i => if i = 33 then some (spV (.bool true)) else none) (by kernel_rfl) (by kernel_rfl) ?_
            repeat (first
              | (refine wpRel_quick ?_ ?_ ?_ ?_
                 · rfl
                 · rfl
                 · first | exact noEnter rfl | (intro f args W W'; go_simp)
                 intro K hK
                 go_big_quiet_op
                 go_big_quiet_on)
              | (refine wpRel_skip ?_ ?_
                 · rfl
                 simp only [Act.put, List.setIfInBounds_toArray, List.set_cons_zero, List.set_cons_succ]))
            refine wpRel_rich _ rfl rfl (fun W hW => ?_) (fun v W3 hW3 hv => ?_)
            · have hc := HCP.out W
              go_simp
              refine Calls.mono hc ?_
              rintro e w' ⟨rfl, h⟩
              exact ⟨_, rfl, rfl, by first | exact h | (subst h; exact Ext.refl _)⟩
            obtain rfl := hv
            clear hW3
            simp only [Act.put, List.setIfInBounds_toArray, List.set_cons_zero, List.set_cons_succ]
            repeat (first
              | (refine wpRel_quick ?_ ?_ ?_ ?_
                 · rfl
                 · rfl
                 · first | exact noEnter rfl | (intro f args W W'; go_simp)
                 intro K hK
                 go_big_quiet_op
                 go_big_quiet_on)
              | (refine wpRel_skip ?_ ?_
                 · rfl
                 simp only [Act.put, List.setIfInBounds_toArray, List.set_cons_zero, List.set_cons_succ]))
            refine wpRel_nil ?_
            intro W3 hW3
            have HE3 := Lib.hid (HA.out.trans ((Ext.refl _).drew.trans hW3.1))
            clear hW3 he e0 ge0 e1 ge1 e2 ge2 e3 ge3 e4 ge4 e5 ge5 e6 ge6 e7 ge7 k0 gk0 k1 gk1 k2 gk2 d0 gd0 d1 gd1 d2 gd2 d3 gd3 d4 gd4 d5 gd5 d6 gd6 d7 gd7
            clear hW1
            go_wp2_with fail
            go_roundw
            case rel => exact ⟨(j : Int), m + 1, rfl, by go_num, by omega, HNX.out, HE3.out⟩
            case measure => simp [intOf] <;> omega
    · have hli : ¬ (m : Int) < (l.length : Int) := by omega
      have HT : Hid (l.take m = l) := Lib.hid (List.take_of_length_le (by omega))
      rcases HBI.out with ⟨rfl, hbe⟩ | ⟨j, g, rfl, hjm, hg, hbe⟩
      · rw [HT.out] at hbe
        have HV : Hid (valF l k t kn < 0) := Lib.hid (by unfold valF; rw [hbe]; decide)
        clear hbe
        go_wp2_with fail
        go_ret2
        exact retAt_neg HV.out HB.out
      · rw [HT.out] at hbe
        have hjl : (j : Int) < (l.length : Int) := by omega
        have hj0 : (0 : Int) ≤ (j : Int) := by omega
        have hjn : ¬ (j : Int) < 0 := by omega
        obtain ⟨b1, o1, rfl, d0, d1, d2, d3, d4, d5, d6, d7⟩ := f_at HL.out HB.out hg
        clear hg hjm
        by_cases hv : g.v < 0
        · have HV : Hid (valF l k t kn < 0) := Lib.hid (by unfold valF; rw [hbe]; show max g.v (-1) < 0; omega)
          clear hbe
          go_wp2_with fail
          go_ret2
          exact retAt_neg HV.out HB.out
        · have HV : Hid (valF l k t kn = g.v) := Lib.hid (by unfold valF; rw [hbe]; show max g.v (-1) = g.v; omega)
          have HG := Lib.hid hv
          clear hbe
          go_wp2_with fail
          go_ret2
          rw [HV.out]
          exact retAt_pos (by have := HG.out; omega) HB.out
end Go.Proofs.Ytbniicobkhiniaa
