/- Names: listed and Order of the reference. -/
import Derived.Test.YtimigpfoflilcaaZ4
namespace Go.Sz
open Go.RowKit
theorem readyN_mem {l : List Cr} {is : List Bool} {o : List Nat} {i : Nat} {c : Cr} (hc : l[i]? = some c) (his : ∀ j, j < l.length → is[j]? = some (decide (j ∈ o))) : readyN l is i = ((!decide (i ∈ o)) && (needsN l c).all fun n => decide (n ∈ o)) := by
  rw [readyN_at hc (his i (List.getElem?_eq_some_iff.1 hc).1)]
  congr 1
  rw [Bool.eq_iff_iff]
  simp only [List.all_eq_true]
  constructor
  · intro h n hn
    have h1 := h n hn
    rw [List.getD_eq_getElem?_getD, his n (needsN_lt hn)] at h1
    exact h1
  · intro h n hn
    rw [List.getD_eq_getElem?_getD, his n (needsN_lt hn)]
    exact h n hn
theorem is_set {l : List Cr} {is : List Bool} {o : List Nat} {i : Nat} (hi : i < l.length) (hl : is.length = l.length) (his : ∀ j, j < l.length → is[j]? = some (decide (j ∈ o))) : ∀ j, j < l.length → (is.set i true)[j]? = some (decide (j ∈ o ++ [i])) := fun j hj => by
  by_cases e : j = i
  · subst e
    rw [List.getElem?_set_self (by omega)]
    simp
  · rw [List.getElem?_set_ne (by omega), his j hj]
    simp [e]
theorem all_snoc' {α : Type} {f : α → Bool} {l : List α} {m : Nat} {x : α} (h : l[m]? = some x) : (l.take (m + 1)).all f = ((l.take m).all f && f x) := by
  rw [List.take_add_one, h, List.all_append]
  simp
theorem ints_all {o : List Nat} {k : Nat} {n : Nat} (h : o[k]? = some n) : (ints o)[k]? = some (n : Int) := by unfold ints; rw [List.getElem?_map, h]; rfl
end Go.Sz
namespace Go.Proofs.Ytimigpfoflilcaa
open Go.RowKit Go.Sz
set_option maxRecDepth 100000 in
set_option maxHeartbeats 6400000 in
theorem refListed_any (l : List Cr) (h8 : l.length ≤ 100000) (hb : ∀ c ∈ l, c.need.parts.length ≤ 1048576) (ao : Option Addr) (cap : Nat) (v1 v2 v3 v4 v5 v6 : Value) (w : World) (h : RepC w ao cap l) : Calls Try.prog 69 #[.agg #[.slice ao l.length cap, v1, v2, v3, v4, v5, v6]] w (RetIs (ints (listedN l).1) w) := by
  obtain ⟨ii, hi0, hi1, hi2, hi3⟩ := info_parts infoI
  have HII := Lib.hid (And.intro hi0 (And.intro hi1 (And.intro hi2 hi3)))
  have hX : Ext w (w.alloc (.cells #[.slice ao l.length cap, v1, v2, v3, v4, v5, v6] 29)) := (Ext.refl w).alloc _
  have hct : (w.alloc (.cells #[.slice ao l.length cap, v1, v2, v3, v4, v5, v6] 29)).heap[w.heap.size]? = some (.cells #[.slice ao l.length cap, v1, v2, v3, v4, v5, v6] 29 (0, 0)) := by rw [heap_al, if_pos rfl]
  have HCB : Hid (CatBox (w.alloc (.cells #[.slice ao l.length cap, v1, v2, v3, v4, v5, v6] 29)) w.heap.size ao l.length cap v1 v2 v3 v4 v5 v6) := Lib.hid (CatBox.of hct)
  have HXA := Lib.hid hX
  have HXB : Hid (Ext (w.alloc (.cells #[.slice ao l.length cap, v1, v2, v3, v4, v5, v6] 29)) ((w.alloc (.cells #[.slice ao l.length cap, v1, v2, v3, v4, v5, v6] 29)).alloc (.cells #[] 3))) := Lib.hid ((Ext.refl _).alloc _)
  have HL := Lib.hid h
  have HB := Lib.hid hb
  have HL8 := Lib.hid h8
  have hs1 := h.max
  have HO0 : Hid (((w.alloc (.cells #[.slice ao l.length cap, v1, v2, v3, v4, v5, v6] 29)).alloc (.cells #[] 3)).ownsRow (w.alloc (.cells #[.slice ao l.length cap, v1, v2, v3, v4, v5, v6] 29)).heap.size 3 1 (.slice (some ⟨w.heap.size + 1, 0, none⟩) 0 0) 0 []) := Lib.hid (by
    have h := own_empty (w.alloc (.cells #[.slice ao l.length cap, v1, v2, v3, v4, v5, v6] 29)) (w.alloc (.cells #[.slice ao l.length cap, v1, v2, v3, v4, v5, v6] 29)).heap.size (Nat.le_refl _) 3 1
    simp only [World.size_alloc] at h ⊢
    exact h)
  clear hX hct h hb h8 hi0 hi1 hi2 hi3
  go_enter Try.func69, Try.ntmps69
  go_wp2_with fail
  generalize ((w.alloc (.cells #[.slice ao l.length cap, v1, v2, v3, v4, v5, v6] 29)).alloc (.cells #[] 3)) = w2 at *
  generalize (w.alloc (.cells #[.slice ao l.length cap, v1, v2, v3, v4, v5, v6] 29)) = w1 at *
  go_loopw [3, 4] (fun v iv wr => ∃ (o : List Nat) (is : List Bool) (i f : Nat), iv = .int .i64 i ∧ i ≤ l.length ∧ wr.ownsRow w1.heap.size 3 1 v (ints o).length (irows (ints o)).flatten ∧ Ext w1 wr ∧
      (is.length = l.length ∧ o.length + is.count false = l.length ∧ is.count false < f ∧ listN l f o is = listedN l ∧ (∀ j, j < i → readyN l is j = false) ∧ ∀ j, j < l.length → is[j]? = some (decide (j ∈ o)))) (fun v iv _ => (l.length - lenV v) * (l.length + 1) + (l.length - (intOf iv).toNat))
  case atStart => exact ⟨[], List.replicate l.length false, 0, l.length + 1, rfl, by omega, HO0.out, HXB.out, by simp, by simp, by simp, rfl, fun j hj => by omega, fun j hj => by simp [hj]⟩
  case round =>
    obtain ⟨o, is, i, f, rfl, hi, ho, hE, hP⟩ := hrel
    have HO := Lib.hid ho
    have HE := Lib.hid hE
    have HP := Lib.hid hP
    have HLO : Hid ((ints o).length ≤ 100000) := Lib.hid (by rw [ints_length]; have := hP.2.1; have := HL8.out; omega)
    have hol : (((ints o).length : Nat) : Int) ≤ 9223372036854775807 := by have := HLO.out; omega
    clear ho hE hP
    by_cases hlt : i < l.length
    · have hki : (i : Int) < (l.length : Int) := by omega
      obtain ⟨c, hc⟩ : ∃ c, l[i]? = some c := ⟨_, List.getElem?_eq_getElem hlt⟩
      have HC := Lib.hid hc
      have HRY := Lib.hid (readyN_mem hc HP.out.2.2.2.2.2)
      have HNF := Lib.hid (readyN_not (l := l) (is := is) (i := i) HP.out.1 hlt)
      have HND := Lib.hid (refNeeds_any l c i hc (HB.out c (List.mem_of_getElem? hc)) ao cap v1 v2 v3 v4 v5 v6)
      obtain ⟨nds, hnds⟩ : ∃ nds, needsN l c = nds := ⟨_, rfl⟩
      rw [hnds] at HRY HND
      obtain ⟨wa, wc, hu3, hws, -⟩ := SL.of_own HO.out (irows_wid _) (by simp [irows])
      subst hu3
      have HWS := Lib.hid hws
      have HH := Lib.hid (has_any (ints o) i wa wc wr hws)
      obtain ⟨b1, hb1⟩ : ∃ b1, decide (i ∈ o) = b1 := ⟨_, rfl⟩
      rw [show decide ((i : Int) ∈ ints o) = b1 from by rw [← hb1]; exact decide_eq_decide.2 ints_mem] at HH
      rw [hb1] at HRY
      have k0 := (HCB.out.kpC HE.out.kpC).c0
      have k1 := (HCB.out.kpC HE.out.kpC).c1
      have k2 := (HCB.out.kpC HE.out.kpC).c2
      have k3 := (HCB.out.kpC HE.out.kpC).c3
      have k4 := (HCB.out.kpC HE.out.kpC).c4
      have k5 := (HCB.out.kpC HE.out.kpC).c5
      have k6 := (HCB.out.kpC HE.out.kpC).c6
      clear hc hnds hws hb1
      go_wp2_with fail
      refine HH.out.mono ?_
      rintro e w5 ⟨rfl, hE5⟩
      replace k0 := hE5.cell k0
      replace k1 := hE5.cell k1
      replace k2 := hE5.cell k2
      replace k3 := hE5.cell k3
      replace k4 := hE5.cell k4
      replace k5 := hE5.cell k5
      replace k6 := hE5.cell k6
      have HE5 := Lib.hid hE5
      clear hE5 HH
      go_wp2_with fail
      refine (HND.out w5 (HL.out.ext (HXA.out.trans (HE.out.trans HE5.out)))).mono ?_
      rintro e w6 ⟨na, nc, rfl, hn, hE6⟩
      have HN := Lib.hid hn
      have HE6 := Lib.hid (HE5.out.trans hE6)
      have hs2 := irows_max hn
      rw [ints_length] at hs2
      clear hn hE6 k0 k1 k2 k3 k4 k5 k6
      go_wp2_with fail
      obtain ⟨w0, rfl⟩ : ∃ w0, w0 = wr := ⟨_, rfl⟩
      go_loopw [5, 7] (fun okv kv wr => ∃ (k : Nat) (b : Bool), okv = .bool b ∧ b = ((!b1) && (nds.take k).all fun n => decide (n ∈ o)) ∧ kv = .int .i64 k ∧ k ≤ nds.length ∧ Ext w6 wr) (fun _ kv _ => nds.length - (intOf kv).toNat)
      case atStart => exact ⟨0, !b1, rfl, by simp, rfl, by omega, Ext.refl _⟩
      case round =>
        obtain ⟨k, b, rfl, hbk, rfl, hk, hE⟩ := hrel
        have HBK := Lib.hid hbk
        have HE7 := Lib.hid hE
        clear hbk hE
        by_cases hlk : k < nds.length
        · have hkm : (k : Int) < (((ints nds).length : Nat) : Int) := by rw [ints_length]; omega
          obtain ⟨n, hn⟩ : ∃ n, nds[k]? = some n := ⟨_, List.getElem?_eq_getElem hlk⟩
          obtain ⟨b2, o2, rfl, c0⟩ := i_at HN.out HE7.out (ints_all hn)
          have HH := Lib.hid (has_any (ints o) n wa wc wr (HWS.out.ext (HE6.out.trans HE7.out)))
          obtain ⟨b3, hb3⟩ : ∃ b3, decide (n ∈ o) = b3 := ⟨_, rfl⟩
          rw [show decide ((n : Int) ∈ ints o) = b3 from by rw [← hb3]; exact decide_eq_decide.2 ints_mem] at HH
          have HAS := Lib.hid (all_snoc' (f := fun n => decide (n ∈ o)) hn)
          rw [hb3] at HAS
          clear hn hb3
          cases b with
          | true =>
            go_wp2_with fail
            refine HH.out.mono ?_
            rintro e w8 ⟨rfl, hE8⟩
            have HE8 := Lib.hid (HE7.out.trans hE8)
            clear hE8
            go_wp2_with fail
            go_roundw
            case rel => exact ⟨k + 1, b3, rfl, by rw [HAS.out, ← Bool.and_assoc, ← HBK.out]; rfl, by go_num, by omega, HE8.out⟩
            case measure => simp [intOf] <;> omega
          | false =>
            go_wp2_with fail
            go_roundw
            case rel => exact ⟨k + 1, false, rfl, by rw [HAS.out, ← Bool.and_assoc, ← HBK.out]; rfl, by go_num, by omega, HE7.out⟩
            case measure => simp [intOf] <;> omega
        · have hkm : ¬ (k : Int) < (((ints nds).length : Nat) : Int) := by rw [ints_length]; omega
          obtain rfl : k = nds.length := by omega
          rw [List.take_length, ← HRY.out] at HBK
          have HO7 := Lib.hid (ownsRow_ext HO.out (HE6.out.trans HE7.out))
          have HEA := Lib.hid (HE.out.trans (HE6.out.trans HE7.out))
          cases b with
          | true =>
            have HF := Lib.hid (HNF.out HBK.out.symm)
            go_wp2_with (at_builtin; refine wpList_append_S rfl _ _ 45 45 rfl w1.heap.size 3 ii _ 1 8 Try.underlying45 HII.out.1 HII.out.2.1 HII.out.2.2.1 HII.out.2.2.2 rfl _ _ _ rfl (ownsRow_ext HO7.out ((Ext.refl wr).alloc _)) _ 1 [.int .i64 i] rfl (Src.ofSlice _ Try.underlying45 ⟨_, 0, none⟩ 1 1 _ rfl (one_cell (by simp)) (by simp [Value.oneCell'])) (by have := HLO.out; unfold maxLen; omega) (by have := HLO.out; omega) (by have := HEA.out.size; simp; omega) ?_; intro vo w9 ho9 hg9; have HO9 := Lib.hid ho9; have HE9 := Lib.hid (Ext.own_step (HEA.out.alloc _) hg9 (ownsRow_ext HO7.out ((Ext.refl wr).alloc _))); clear ho9 hg9)
            obtain ⟨f', rfl⟩ : ∃ f', f = f' + 1 := ⟨f - 1, by have := HP.out.2.2.1; omega⟩
            have HCS := Lib.hid (count_set HF.out)
            have HLV := Lib.hid (And.intro (lenV_own HO.out) (lenV_own HO9.out))
            go_roundw
            case rel =>
              refine ⟨o ++ [i], is.set i true, 0, f', by go_num, by omega, ?_, HE9.out, by rw [List.length_set]; exact HP.out.1, ?_, ?_, ?_, fun j hj => by omega, is_set hlt HP.out.1 HP.out.2.2.2.2.2⟩
              · have := HO9.out
                rw [ints_snoc, irows_app, List.flatten_append, List.length_append]
                simpa [irows] using this
              · have h1 := HP.out.2.1
                have h2 := HCS.out
                rw [List.length_append, List.length_singleton]
                omega
              · have h1 := HP.out.2.2.1
                have h2 := HCS.out
                omega
              · rw [← HP.out.2.2.2.1]
                exact (listN_step (firstN_some hlt HBK.out.symm HP.out.2.2.2.2.1)).symm
            case measure =>
              have h1 := HLV.out.1
              have h2 := HLV.out.2
              have h3 := HP.out.2.1
              have h4 := HCS.out
              rw [h1, h2, ints_length]
              simp only [intOf]
              rw [show l.length - o.length = (l.length - (o.length + 1)) + 1 by omega, Nat.succ_mul]
              omega
          | false =>
            go_wp2_with fail
            go_roundw
            case rel => exact ⟨o, is, i + 1, f, by go_num, by omega, HO7.out, HEA.out, HP.out.1, HP.out.2.1, HP.out.2.2.1, HP.out.2.2.2.1, fun j hj => by
              by_cases e : j = i
              · subst e
                exact HBK.out.symm
              · exact HP.out.2.2.2.2.1 j (by omega), HP.out.2.2.2.2.2⟩
            case measure =>
              simp only [intOf]
              omega
    · have hki : ¬ (i : Int) < (l.length : Int) := by omega
      obtain rfl : i = l.length := by omega
      obtain ⟨ra, rc, rfl, hrs, -⟩ := SL.of_own HO.out (irows_wid _) (by simp [irows])
      have HRS := Lib.hid hrs
      have k0 := (HCB.out.kpC HE.out.kpC).c0
      have hfin : listedN l = (o, is) := by
        rw [← HP.out.2.2.2.1]
        exact listN_stop (firstN_none HP.out.2.2.2.2.1)
      have HFIN := Lib.hid hfin
      clear hrs hfin
      go_wp2_with fail
      go_ret
      rw [HFIN.out]
      exact ⟨ra, rc, rfl, HRS.out, HXA.out.trans HE.out⟩
end Go.Proofs.Ytimigpfoflilcaa
