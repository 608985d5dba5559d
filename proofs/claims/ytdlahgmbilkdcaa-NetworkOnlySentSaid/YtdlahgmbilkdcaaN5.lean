import Derived.Test.YtdlahgmbilkdcaaN4
import Derived.Laws.StructEq
namespace Go.Sz
open Go.RowKit
theorem take_succ_eq {α : Type} {a b : List α} {m : Nat} (h1 : m < a.length) (h2 : m < b.length) (h : a.take m = b.take m) (he : a[m] = b[m]) : a.take (m + 1) = b.take (m + 1) := by
  rw [List.take_succ_eq_append_getElem h1, List.take_succ_eq_append_getElem h2, h, he]
/-- a bool that says P -/
def BoolIff (e : Ending) (P : Prop) : Prop := ∃ b : Bool, e = .returned (.bool b) ∧ (b = true ↔ P)
theorem BoolIff.of {b : Bool} {P : Prop} (h : b = true ↔ P) : BoolIff (.returned (.bool b)) P := ⟨b, rfl, h⟩
end Go.Sz
namespace Go.Proofs.Ytdlahgmbilkdcaa
open Go.RowKit Go.Sz

set_option maxRecDepth 100000 in
theorem eq2g (d : Nat) (x y x' y' : Int) (w : World) : (Op.equalIn (d + 2) 55 (.agg #[.int .i64 x, .int .i64 y]) (.agg #[.int .i64 x', .int .i64 y'])).run Try.prog w = .ok ((x == x') && (y == y')) w := by
  have h1 := fun w => run_equalIn_int (P := Try.prog) w d 3 .i64 .i64 x x' Try.underlying3
  have h2 := fun w => run_equalIn_int (P := Try.prog) w d 3 .i64 .i64 y y' Try.underlying3
  have hs : ∀ w, (sizeOf 3).run Try.prog w = .ok 1 w := fun w => by simp [sizeOf, go_sem]; kernel_rfl
  rw [Op.equalIn]
  generalize Op.equalIn (d + 1) = E at *
  have hagg : ∀ w, (isAgg 3).run Try.prog w = .ok false w := fun w => by simp [isAgg, run_underlying Try.underlying3]
  simp [run_underlying Try.underlying55, hs, go_sem, part]
  rw [show List.range' 0 2 = [0, 1] from rfl]
  cases hx : (x == x') <;> cases hy : (y == y')
  all_goals
    rw [hx] at h1
    rw [hy] at h2
    simp [List.forIn_cons, go_sem, hagg, h1, h2]
theorem eq2 (x y x' y' : Int) (w : World) : (Op.equalIn 10000 55 (.agg #[.int .i64 x, .int .i64 y]) (.agg #[.int .i64 x', .int .i64 y'])).run Try.prog w = .ok ((x == x') && (y == y')) w := eq2g 9998 x y x' y' w

set_option maxRecDepth 100000 in
set_option maxHeartbeats 3200000 in
theorem same_any (n n' : Nw) (cs ds : List Value) (w : World) (h : RepN w cs n) (h' : RepN w ds n') : Calls Try.prog 15 #[.agg cs.toArray, .agg ds.toArray] w fun e w' => BoolIff e (n = n') ∧ Ext w w' := by
  obtain ⟨ao, cap, bo, cap2, rows, rfl, hq, ha⟩ := h
  obtain ⟨ao', cap', bo', cap2', rows', rfl, hq', ha'⟩ := h'
  obtain ⟨q, a⟩ := n
  obtain ⟨q', a'⟩ := n'
  simp only at hq ha hq' ha' ⊢
  have hs1 : (q.length : Int) ≤ 9223372036854775807 := by have := hq.sl.max; have := hq.sl.le; have := hq.len; omega
  have hs2 : (a.length : Int) ≤ 9223372036854775807 := by have h1 := ha.sl.max; have h2 := ha.sl.le; rw [pr_length] at h2; omega
  have hs3 : (q'.length : Int) ≤ 9223372036854775807 := by have := hq'.sl.max; have := hq'.sl.le; have := hq'.len; omega
  have hs4 : (a'.length : Int) ≤ 9223372036854775807 := by have h1 := ha'.sl.max; have h2 := ha'.sl.le; rw [pr_length] at h2; omega
  have HQ := Lib.hid hq
  have HA := Lib.hid ha
  have HQ' := Lib.hid hq'
  have HA' := Lib.hid ha'
  clear hq ha hq' ha'
  have hX0 := ((Ext.refl w).alloc (.cells #[.slice ao q.length cap, .slice bo a.length cap2] 25)).alloc (.cells #[.slice ao' q'.length cap', .slice bo' a'.length cap2'] 25)
  have hb1 := (Box2.new w (.slice ao q.length cap) (.slice bo a.length cap2) 25).ext ((Ext.refl _).alloc (.cells #[.slice ao' q'.length cap', .slice bo' a'.length cap2'] 25))
  have hb2 := Box2.new' (w.alloc (.cells #[.slice ao q.length cap, .slice bo a.length cap2] 25)) (.slice ao' q'.length cap') (.slice bo' a'.length cap2') 25 (w.heap.size + 1) (by simp)
  by_cases hl1 : q.length = q'.length
  · by_cases hl2 : a.length = a'.length
    · have q1 : ((q.length : Int) != (q'.length : Int)) = false := by simp; omega
      have q2 : ((a.length : Int) != (a'.length : Int)) = false := by simp; omega
      have HL1 := Lib.hid hl1
      have HL2 := Lib.hid hl2
      clear hl1 hl2
      go_enter Try.func15, Try.ntmps15
      go_wp2_with fail
      generalize ((w.alloc (.cells #[.slice ao q.length cap, .slice bo a.length cap2] 25)).alloc (.cells #[.slice ao' q'.length cap', .slice bo' a'.length cap2'] 25)) = w1 at *
      go_loopw [5] (fun i wr => ∃ m : Nat, i = .int .i64 m ∧ m ≤ q.length ∧ q.take m = q'.take m ∧ Ext w1 wr) (fun i _ => q.length - (intOf i).toNat)
      case atStart => exact ⟨0, rfl, by omega, by simp, Ext.refl _⟩
      case round =>
        obtain ⟨m, rfl, hm, htk, hB⟩ := hrel
        have HTK := Lib.hid htk
        clear htk
        obtain ⟨b0, b1, _⟩ := hb1.ext hB
        obtain ⟨d0, d1, _⟩ := hb2.ext hB
        by_cases hlt : m < q.length
        · obtain ⟨b, o, rfl, _⟩ := HQ.out.sl.at (by omega) m (by have := HQ.out.len; omega)
          obtain ⟨b', o', rfl, _⟩ := HQ'.out.sl.at (by omega) m (by have := HQ'.out.len; have := HL1.out; omega)
          obtain ⟨f, t, d, ax, cx, hqm, hP, c0, c1, c2⟩ := q_cells HQ.out (hX0.trans hB) hlt
          obtain ⟨f', t', d', ax', cx', hqm', hP', c0', c1', c2'⟩ := q_cells HQ'.out (hX0.trans hB) (show m < q'.length by have := HL1.out; omega)
          have HC := Lib.hid fun (W : World) (hE : Ext wr W) => samePacket_any _ _ _ _ W (hP.ext hE) (hP'.ext hE)
          have HK := Lib.hid fun (W : World) (h : Ext wr W) => (⟨h.cell b0, h.cell d0, h.cell c0, h.cell c1, h.cell c2, h.cell c0', h.cell c1', h.cell c2'⟩ : W.cell? ⟨w.heap.size, 0, none⟩ = _ ∧ W.cell? ⟨w.heap.size + 1, 0, none⟩ = _ ∧ _ ∧ _ ∧ _ ∧ _ ∧ _ ∧ _)
          have HSM := Lib.hid (samePk_iff q[m] (q'[m]'(by have := HL1.out; omega)))
          have hlt2 : (m : Int) < (q'.length : Int) := by have := HL1.out; omega
          clear hP hP' hqm hqm'
          cases hsm : samePk q[m] (q'[m]'(by have := HL1.out; omega)) with
          | true =>
            rw [hsm] at HC
            have HNX := Lib.hid (take_succ_eq hlt (show m < q'.length by have := HL1.out; omega) HTK.out (HSM.out.1 hsm))
            clear hsm
            go_wp2_with fail
            go_region_held3 (fun w' => w'.cell? ⟨w.heap.size, 0, none⟩ = some (.slice (some ⟨b, o, none⟩) q.length cap) ∧ w'.cell? ⟨w.heap.size + 1, 0, none⟩ = some (.slice (some ⟨b', o', none⟩) q'.length cap') ∧
                w'.cell? ⟨b, o + m * 3, none⟩ = some (.int .i64 f) ∧ w'.cell? ⟨b, o + m * 3 + 1, none⟩ = some (.int .i64 t) ∧ w'.cell? ⟨b, o + m * 3 + 2, none⟩ = some (.slice ax d.length cx) ∧
                w'.cell? ⟨b', o' + m * 3, none⟩ = some (.int .i64 f') ∧ w'.cell? ⟨b', o' + m * 3 + 1, none⟩ = some (.int .i64 t') ∧ w'.cell? ⟨b', o' + m * 3 + 2, none⟩ = some (.slice ax' d'.length cx'))
              (first | exact HK.out _ (Ext.refl _).drew | exact HK.out _ ((Ext.refl _).drew.trans hE4) | exact HK.out _ (Ext.refl _))
              (first
                | (go_at_call 19; refine (HC.out _ (Ext.refl _).drew).mono ?_; rintro e w4 ⟨rfl, hE4⟩))
            go_wp2_with fail
            go_roundw
            case rel => exact ⟨m + 1, by go_num, by omega, HNX.out, hB.trans ((Ext.refl _).drew.trans hE4)⟩
            case measure => simp [intOf] <;> omega
          | false =>
            rw [hsm] at HC
            have HNE : Hid (false = true ↔ (⟨q, a⟩ : Nw) = ⟨q', a'⟩) := Lib.hid ⟨fun h => by (cases h), fun he => by
              injection he with h1 h2
              subst h1
              rw [(samePk_iff q[m] q[m]).2 rfl] at hsm
              cases hsm⟩
            clear hsm
            go_wp2_with fail
            go_region_held3 (fun w' => w'.cell? ⟨w.heap.size, 0, none⟩ = some (.slice (some ⟨b, o, none⟩) q.length cap) ∧ w'.cell? ⟨w.heap.size + 1, 0, none⟩ = some (.slice (some ⟨b', o', none⟩) q'.length cap') ∧
                w'.cell? ⟨b, o + m * 3, none⟩ = some (.int .i64 f) ∧ w'.cell? ⟨b, o + m * 3 + 1, none⟩ = some (.int .i64 t) ∧ w'.cell? ⟨b, o + m * 3 + 2, none⟩ = some (.slice ax d.length cx) ∧
                w'.cell? ⟨b', o' + m * 3, none⟩ = some (.int .i64 f') ∧ w'.cell? ⟨b', o' + m * 3 + 1, none⟩ = some (.int .i64 t') ∧ w'.cell? ⟨b', o' + m * 3 + 2, none⟩ = some (.slice ax' d'.length cx'))
              (first | exact HK.out _ (Ext.refl _).drew | exact HK.out _ ((Ext.refl _).drew.trans hE4) | exact HK.out _ (Ext.refl _))
              (first
                | (go_at_call 19; refine (HC.out _ (Ext.refl _).drew).mono ?_; rintro e w4 ⟨rfl, hE4⟩))
            go_wp2_with fail
            go_ret
            exact ⟨BoolIff.of HNE.out, hX0.trans (hB.trans ((Ext.refl _).drew.trans hE4))⟩
        · have hmq : m = q.length := by omega
          have HQE : Hid (q = q') := Lib.hid (by
            have h1 := HTK.out
            rw [hmq, List.take_length, HL1.out, List.take_length] at h1
            exact h1)
          clear HTK
          have hb1 := hb1.ext hB
          have hb2 := hb2.ext hB
          go_wp2_with fail
          go_loopw [6] (fun i wrr => ∃ m2 : Nat, i = .int .i64 m2 ∧ m2 ≤ a.length ∧ a.take m2 = a'.take m2 ∧ Ext wr wrr) (fun i _ => a.length - (intOf i).toNat)
          case atStart => exact ⟨0, rfl, by omega, by simp, Ext.refl _⟩
          case round =>
            obtain ⟨m2, rfl, hm2, htk, hB2⟩ := hrel
            have HTK := Lib.hid htk
            clear htk
            obtain ⟨b0, b1, _⟩ := hb1.ext hB2
            obtain ⟨d0, d1, _⟩ := hb2.ext hB2
            by_cases hlt2 : m2 < a.length
            · obtain ⟨b, o, rfl, _⟩ := HA.out.sl.at (by omega) m2 (by rw [pr_length]; exact hlt2)
              obtain ⟨b', o', rfl, _⟩ := HA'.out.sl.at (by omega) m2 (by rw [pr_length]; have := HL2.out; omega)
              obtain ⟨c0, c1⟩ := a_cells HA.out ((hX0.trans hB).trans hB2) hlt2
              obtain ⟨c0', c1'⟩ := a_cells HA'.out ((hX0.trans hB).trans hB2) (show m2 < a'.length by have := HL2.out; omega)
              have hlt3 : (m2 : Int) < (a'.length : Int) := by have := HL2.out; omega
              have HNX : Hid (a[m2] = a'[m2]'(by have := HL2.out; omega) → a.take (m2 + 1) = a'.take (m2 + 1)) := Lib.hid fun h => take_succ_eq hlt2 (show m2 < a'.length by have := HL2.out; omega) HTK.out h
              have HNE : Hid (¬ a[m2] = a'[m2]'(by have := HL2.out; omega) → (false = true ↔ (⟨q, a⟩ : Nw) = ⟨q', a'⟩)) := Lib.hid fun hne => ⟨fun h => (by cases h), fun he => by
                injection he with h1 h2
                subst h2
                exact absurd rfl hne⟩
              obtain ⟨x, hx⟩ : ∃ x, x = a[m2].1 := ⟨_, rfl⟩
              obtain ⟨y, hy⟩ : ∃ y, y = a[m2].2 := ⟨_, rfl⟩
              obtain ⟨x', hx'⟩ : ∃ x, x = (a'[m2]'(by have := HL2.out; omega)).1 := ⟨_, rfl⟩
              obtain ⟨y', hy'⟩ : ∃ y, y = (a'[m2]'(by have := HL2.out; omega)).2 := ⟨_, rfl⟩
              have HEQ : Hid (a[m2] = a'[m2]'(by have := HL2.out; omega) ↔ x = x' ∧ y = y') := Lib.hid (by rw [hx, hy, hx', hy']; exact Prod.ext_iff)
              rw [← hx] at c0
              rw [← hy] at c1
              rw [← hx'] at c0'
              rw [← hy'] at c1'
              clear hx hy hx' hy'
              have he2 := eq2 x y x' y'
              have HK := Lib.hid fun (W : World) (h : Ext wr W) => (⟨h.cell b1, h.cell d1, h.cell c0, h.cell c1, h.cell c0', h.cell c1'⟩ : W.cell? ⟨w.heap.size, 1, none⟩ = _ ∧ W.cell? ⟨w.heap.size + 1, 1, none⟩ = _ ∧ _ ∧ _ ∧ _ ∧ _)
              cases hxy : ((x == x') && (y == y')) with
              | true =>
                rw [hxy] at he2
                have HE : Hid (x = x' ∧ y = y') := Lib.hid (by simpa using hxy)
                clear hxy
                go_wp2_with fail
                go_region_held3 (fun w' => w'.cell? ⟨w.heap.size, 1, none⟩ = some (.slice (some ⟨b, o, none⟩) a.length cap2) ∧ w'.cell? ⟨w.heap.size + 1, 1, none⟩ = some (.slice (some ⟨b', o', none⟩) a'.length cap2') ∧
                    w'.cell? ⟨b, o + m2 * 2, none⟩ = some (.int .i64 x) ∧ w'.cell? ⟨b, o + m2 * 2 + 1, none⟩ = some (.int .i64 y) ∧
                    w'.cell? ⟨b', o' + m2 * 2, none⟩ = some (.int .i64 x') ∧ w'.cell? ⟨b', o' + m2 * 2 + 1, none⟩ = some (.int .i64 y'))
                  (first | exact HK.out _ (Ext.refl _).drew | exact HK.out _ (Ext.refl _))
                  (fail)
                go_wp2_with fail
                go_roundw
                case rel => exact ⟨m2 + 1, by go_num, by omega, HNX.out (HEQ.out.2 HE.out), hB2.trans (Ext.refl _).drew⟩
                case measure => simp [intOf] <;> omega
              | false =>
                rw [hxy] at he2
                have HE : Hid (¬ (x = x' ∧ y = y')) := Lib.hid (by
                  intro h
                  rw [h.1, h.2] at hxy
                  simp at hxy)
                clear hxy
                go_wp2_with fail
                go_region_held3 (fun w' => w'.cell? ⟨w.heap.size, 1, none⟩ = some (.slice (some ⟨b, o, none⟩) a.length cap2) ∧ w'.cell? ⟨w.heap.size + 1, 1, none⟩ = some (.slice (some ⟨b', o', none⟩) a'.length cap2') ∧
                    w'.cell? ⟨b, o + m2 * 2, none⟩ = some (.int .i64 x) ∧ w'.cell? ⟨b, o + m2 * 2 + 1, none⟩ = some (.int .i64 y) ∧
                    w'.cell? ⟨b', o' + m2 * 2, none⟩ = some (.int .i64 x') ∧ w'.cell? ⟨b', o' + m2 * 2 + 1, none⟩ = some (.int .i64 y'))
                  (first | exact HK.out _ (Ext.refl _).drew | exact HK.out _ (Ext.refl _))
                  (fail)
                go_wp2_with fail
                go_ret
                exact ⟨BoolIff.of (HNE.out fun h => HE.out (HEQ.out.1 h)), hX0.trans (hB.trans (hB2.trans (Ext.refl _).drew))⟩
            · have hmq2 : m2 = a.length := by omega
              have HAE : Hid (a = a') := Lib.hid (by
                have h1 := HTK.out
                rw [hmq2, List.take_length, HL2.out, List.take_length] at h1
                exact h1)
              have HYES : Hid ((⟨q, a⟩ : Nw) = ⟨q', a'⟩) := Lib.hid (by rw [HQE.out, HAE.out])
              go_wp2_with fail
              go_ret
              exact ⟨BoolIff.of ⟨fun _ => HYES.out, fun _ => rfl⟩, hX0.trans (hB.trans hB2)⟩
    · have q1 : ((q.length : Int) != (q'.length : Int)) = false := by simp; omega
      have q2 : ((a.length : Int) != (a'.length : Int)) = true := by simp; omega
      have HNE : Hid (false = true ↔ (⟨q, a⟩ : Nw) = ⟨q', a'⟩) := Lib.hid ⟨fun h => (by cases h), fun h => absurd (congrArg (fun x : Nw => x.a.length) h) hl2⟩
      clear hl1 hl2
      go_enter Try.func15, Try.ntmps15
      go_wp2_with fail
      go_ret
      exact ⟨BoolIff.of HNE.out, hX0⟩
  · have q1 : ((q.length : Int) != (q'.length : Int)) = true := by simp; omega
    have HNE : Hid (false = true ↔ (⟨q, a⟩ : Nw) = ⟨q', a'⟩) := Lib.hid ⟨fun h => (by cases h), fun h => absurd (congrArg (fun x : Nw => x.q.length) h) hl1⟩
    clear hl1
    go_enter Try.func15, Try.ntmps15
    go_wp2_with fail
    go_ret
    exact ⟨BoolIff.of HNE.out, hX0⟩
end Go.Proofs.Ytdlahgmbilkdcaa
