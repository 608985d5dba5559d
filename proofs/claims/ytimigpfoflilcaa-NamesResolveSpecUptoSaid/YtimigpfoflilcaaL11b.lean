/- Names: the law After. -/
import Derived.Test.YtimigpfoflilcaaL11a
namespace Go.Sz
open Go.RowKit
theorem few_ok {c : Cat} (h : c.few) (h1 : ∀ x ∈ c.cs, x.nm.size ≤ maxLen) (h2 : ∀ p ∈ c.pg, p.nm.size ≤ maxLen ∧ inI64 p.nu ∧ ∀ q ∈ p.rq, q.nm.size ≤ maxLen) (h3 : ∀ x ∈ c.kl, x.nm.size ≤ maxLen) (h4 : ∀ x ∈ c.fe, x.nm.size ≤ maxLen) (h5 : ∀ x ∈ c.ho, x.nm.size ≤ maxLen) : c.Ok :=
  ⟨by have := h.n0; omega, by have := h.n1; omega, by have := h.n2; omega, by have := h.n3; omega, by have := h.n4; omega, by have := h.n5; omega,
   fun p hp => ⟨by have := (h.rq p hp).1; omega, fun q hq => by have := ((h.rq p hp).2 q hq).2; omega⟩, fun x hx => ⟨by have := (h.ru x hx).1; omega, by have := (h.ru x hx).2; omega⟩, h1, h2, h3, h4, h5⟩
theorem listN_inv {l : List Cr} : ∀ (f : Nat) (o : List Nat) (is : List Bool), is.length = l.length → (∀ j, j < l.length → is[j]? = some (decide (j ∈ o))) → o.Nodup → (∀ (k i : Nat) c, o[k]? = some i → l[i]? = some c → ∀ n ∈ needsN l c, ∃ j, j < k ∧ o[j]? = some n) →
    (listN l f o is).1.Nodup ∧ ∀ (k i : Nat) c, (listN l f o is).1[k]? = some i → l[i]? = some c → ∀ n ∈ needsN l c, ∃ j, j < k ∧ (listN l f o is).1[j]? = some n := by
  intro f
  induction f with
  | zero => intro o is _ _ h3 h4; exact ⟨h3, h4⟩
  | succ f ih =>
    intro o is h1 h2 h3 h4
    rw [listN]
    cases e : firstN l is with
    | none => exact ⟨h3, h4⟩
    | some i =>
      have hi := firstN_lt e
      have hr : readyN l is i = true := List.find?_some e
      obtain ⟨ci, hci⟩ : ∃ c, l[i]? = some c := ⟨_, List.getElem?_eq_getElem hi⟩
      rw [readyN_mem hci h2] at hr
      have hr2 := Bool.and_eq_true_iff.1 hr
      have hno : i ∉ o := by simpa using hr2.1
      refine ih _ _ (by rw [List.length_set]; exact h1) (is_set hi h1 h2) (by rw [List.nodup_append]; exact ⟨h3, by simp, fun a ha b hb e => hno (by have hb' := List.mem_singleton.1 hb; rw [← hb', ← e]; exact ha)⟩) fun k j c hk hc n hn => ?_
      by_cases hko : k < o.length
      · rw [List.getElem?_append_left hko] at hk
        obtain ⟨j', hj', e'⟩ := h4 k j c hk hc n hn
        exact ⟨j', hj', by rw [List.getElem?_append_left (by omega)]; exact e'⟩
      · rw [List.getElem?_append_right (by omega)] at hk
        have hk0 : k - o.length = 0 := by
          have := (List.getElem?_eq_some_iff.1 hk).1
          rw [List.length_singleton] at this
          omega
        rw [hk0] at hk
        cases hk
        rw [hci] at hc
        cases hc
        have hm : n ∈ o := by simpa using List.all_eq_true.1 hr2.2 n hn
        obtain ⟨j', hj'⟩ := List.getElem?_of_mem hm
        have := (List.getElem?_eq_some_iff.1 hj').1
        exact ⟨j', by omega, by rw [List.getElem?_append_left this]; exact hj'⟩
theorem listed_inv (l : List Cr) : (listedN l).1.Nodup ∧ ∀ (k i : Nat) c, (listedN l).1[k]? = some i → l[i]? = some c → ∀ n ∈ needsN l c, ∃ j, j < k ∧ (listedN l).1[j]? = some n :=
  listN_inv _ _ _ (by simp) (fun j hj => by simp [hj]) List.nodup_nil (fun k i c h => by simp at h)
theorem listed_all {l : List Cr} (h : ¬ (listedN l).1.length < l.length) {i : Nat} (hi : i < l.length) : i ∈ (listedN l).1 := by
  have h1 := listed_is l i hi
  have h2 := (listedN_len l).2
  by_cases hm : i ∈ (listedN l).1
  · exact hm
  · exfalso
    rw [decide_eq_false hm] at h1
    have h3 : 0 < (listedN l).2.count false := List.count_pos_iff.2 (List.mem_of_getElem? h1)
    omega
theorem nu_inj {l : List Cr} (h : (l.map Cr.nu).Nodup) {i j : Nat} (hi : i < l.length) (hj : j < l.length) (e : nuAt l i = nuAt l j) : i = j := by
  have hv : ∀ k (hk : k < l.length), (l.map Cr.nu)[k]? = some (nuAt l k) := fun k hk => by
    rw [List.getElem?_map, List.getElem?_eq_getElem hk, nuAt_of (List.getElem?_eq_getElem hk)]
    rfl
  exact (List.getElem?_inj (by rw [List.length_map]; exact hi) h).1 (by rw [hv i hi, hv j hj, e])
/-- where a number stands in the order -/
theorem place_at {l : List Cr} (hn : (l.map Cr.nu).Nodup) (h : ¬ (listedN l).1.length < l.length) {i : Nat} {c : Cr} (hc : l[i]? = some c) : ∃ k : Nat, (listedN l).1[k]? = some i ∧ findI (ordL l) c.nu = (k : Int) := by
  have hi := (List.getElem?_eq_some_iff.1 hc).1
  have ho : ordL l = (listedN l).1.map (nuAt l) := by unfold ordL; rw [if_neg h]
  have hm : c.nu ∈ ordL l := by
    rw [ho, ← nuAt_of hc]
    exact List.mem_map_of_mem (listed_all h hi)
  obtain ⟨k, hk, hf, -⟩ := findI_first hm
  refine ⟨k, ?_, hf⟩
  rw [ho, List.getElem?_map] at hk
  obtain ⟨j, hj, e⟩ := Option.map_eq_some_iff.1 hk
  rw [hj, nu_inj hn (listedN_lt (List.mem_of_getElem? hj)) hi (by rw [e, nuAt_of hc])]
/-- each course comes after what it needs -/
theorem after_ok {l : List Cr} (hn : (l.map Cr.nu).Nodup) (h : ¬ (listedN l).1.length < l.length) {i : Nat} {c : Cr} (hc : l[i]? = some c) : ∃ k : Nat, findI (ordL l) c.nu = (k : Int) ∧ ∀ n ∈ needsN l c, ∀ x, l[n]? = some x → ∃ j : Nat, findI (ordL l) x.nu = (j : Int) ∧ j < k := by
  obtain ⟨k, hk, hf⟩ := place_at hn h hc
  refine ⟨k, hf, fun n hnn x hx => ?_⟩
  obtain ⟨j, hj, hfj⟩ := place_at hn h hx
  obtain ⟨j', hj', e⟩ := (listed_inv l).2 k i c hk hc n hnn
  have : j = j' := (List.getElem?_inj (List.getElem?_eq_some_iff.1 hj).1 (listed_inv l).1).1 (hj.trans e.symm)
  exact ⟨j, hfj, by omega⟩
theorem dec_ff {p : Prop} [Decidable p] (h : p) : decide (¬ p) = false := decide_eq_false fun k => k h
end Go.Sz
namespace Go.Proofs.Ytimigpfoflilcaa
open Go.RowKit Go.Sz
set_option maxRecDepth 1000000 in
set_option maxHeartbeats 12800000 in
theorem law_after (c : Cat) (d : Adr) (w : World) (hX : RepX w d c) (hb : ∀ x ∈ c.cs, x.need.parts.length ≤ 1048576 ∧ x.bar.parts.length ≤ 1048576) (hk : c.few → c.Ok) : Calls Try.prog 7 #[.agg (c.cells d).toArray] w fun e w' => e = .returned (.bool true) ∧ Ext w w' := by
  have HKO := Lib.hid hk
  clear hk
  have hXA : Ext w (w.alloc (.cells #[.slice d.a0 c.cs.length d.k0, .slice d.a1 c.sm.length d.k1, .slice d.a2 c.pg.length d.k2, .slice d.a3 c.kl.length d.k3, .slice d.a4 c.fe.length d.k4, .slice d.a5 c.ho.length d.k5, .slice d.a6 c.cu.length d.k6] 29)) := (Ext.refl w).alloc _
  have HCB : Hid (Row (w.alloc (.cells #[.slice d.a0 c.cs.length d.k0, .slice d.a1 c.sm.length d.k1, .slice d.a2 c.pg.length d.k2, .slice d.a3 c.kl.length d.k3, .slice d.a4 c.fe.length d.k4, .slice d.a5 c.ho.length d.k5, .slice d.a6 c.cu.length d.k6] 29)) w.heap.size 29 [.slice d.a0 c.cs.length d.k0, .slice d.a1 c.sm.length d.k1, .slice d.a2 c.pg.length d.k2, .slice d.a3 c.kl.length d.k3, .slice d.a4 c.fe.length d.k4, .slice d.a5 c.ho.length d.k5, .slice d.a6 c.cu.length d.k6]) := Lib.hid (by unfold Row; rw [heap_al, if_pos rfl])
  have HX := Lib.hid hX
  have HB := Lib.hid hb
  have HX0 := Lib.hid hXA
  clear hX hb hXA
  unfold Cat.cells
  go_enter Try.func7, Try.ntmps7
  go_wp2_with fail
  generalize (w.alloc (.cells #[.slice d.a0 c.cs.length d.k0, .slice d.a1 c.sm.length d.k1, .slice d.a2 c.pg.length d.k2, .slice d.a3 c.kl.length d.k3, .slice d.a4 c.fe.length d.k4, .slice d.a5 c.ho.length d.k5, .slice d.a6 c.cu.length d.k6] 29)) = w0 at *
  refine (sane_any _).mono ?_
  rintro e w1 ⟨rfl, hE⟩
  have HE := Lib.hid hE
  clear hE
  have k0 := (HCB.out.kpC HE.out.kpC).cell (j := 0) rfl
  have k1 := (HCB.out.kpC HE.out.kpC).cell (j := 1) rfl
  have k2 := (HCB.out.kpC HE.out.kpC).cell (j := 2) rfl
  have k3 := (HCB.out.kpC HE.out.kpC).cell (j := 3) rfl
  have k4 := (HCB.out.kpC HE.out.kpC).cell (j := 4) rfl
  have k5 := (HCB.out.kpC HE.out.kpC).cell (j := 5) rfl
  have k6 := (HCB.out.kpC HE.out.kpC).cell (j := 6) rfl
  go_wp2_with fail
  clear k0 k1 k2 k3 k4 k5 k6
  refine (refFew_any c d w1 (HX.out.ext (HX0.out.trans HE.out)) HB.out).mono ?_
  rintro e w2 ⟨b, rfl, hiff, hE2⟩
  have HIFF := Lib.hid hiff
  have HE2 := Lib.hid (HE.out.trans hE2)
  clear hiff hE2
  cases b with
  | false =>
    go_wp2_with fail
    go_ret
    exact ⟨rfl, HX0.out.trans HE2.out⟩
  | true =>
    have hfew : c.few := HIFF.out.1 (by simp)
    have HN0 : Hid (c.cs.length ≤ 100000) := Lib.hid (by have := hfew.n0; omega)
    have HBN : Hid (∀ x ∈ c.cs, x.need.parts.length ≤ 1048576) := Lib.hid (fun x hx => (HB.out x hx).1)
    have HOK := Lib.hid (HKO.out hfew)
    clear hfew
    have k0 := (HCB.out.kpC HE2.out.kpC).cell (j := 0) rfl
    have k1 := (HCB.out.kpC HE2.out.kpC).cell (j := 1) rfl
    have k2 := (HCB.out.kpC HE2.out.kpC).cell (j := 2) rfl
    have k3 := (HCB.out.kpC HE2.out.kpC).cell (j := 3) rfl
    have k4 := (HCB.out.kpC HE2.out.kpC).cell (j := 4) rfl
    have k5 := (HCB.out.kpC HE2.out.kpC).cell (j := 5) rfl
    have k6 := (HCB.out.kpC HE2.out.kpC).cell (j := 6) rfl
    have HTW := Lib.hid (fun W hW => refTwice_any c HOK.out d W (HX.out.ext hW))
    go_wp2_with fail
    clear k0 k1 k2 k3 k4 k5 k6
    rcases Classical.em c.once with ho | ho
    rotate_left
    · have t := HTW.out _ (HX0.out.trans HE2.out)
      rw [decide_eq_true ho] at t
      refine t.mono ?_
      rintro e w3 ⟨rfl, hE3⟩
      have HE3 := Lib.hid (HE2.out.trans hE3)
      clear t hE3 ho
      go_wp2_with fail
      go_ret
      exact ⟨rfl, HX0.out.trans HE3.out⟩
    have t := HTW.out _ (HX0.out.trans HE2.out)
    rw [dec_ff ho] at t
    refine t.mono ?_
    rintro e w3 ⟨rfl, hE3⟩
    have HE3 := Lib.hid (HE2.out.trans hE3)
    have HNU : Hid (c.cs.map Cr.nu).Nodup := Lib.hid ho.2.1
    clear t hE3 ho HTW
    have k0 := (HCB.out.kpC HE3.out.kpC).cell (j := 0) rfl
    have k1 := (HCB.out.kpC HE3.out.kpC).cell (j := 1) rfl
    have k2 := (HCB.out.kpC HE3.out.kpC).cell (j := 2) rfl
    have k3 := (HCB.out.kpC HE3.out.kpC).cell (j := 3) rfl
    have k4 := (HCB.out.kpC HE3.out.kpC).cell (j := 4) rfl
    have k5 := (HCB.out.kpC HE3.out.kpC).cell (j := 5) rfl
    have k6 := (HCB.out.kpC HE3.out.kpC).cell (j := 6) rfl
    go_wp2_with fail
    clear k0 k1 k2 k3 k4 k5 k6
    refine (order_any c.cs HN0.out d.a0 d.k0 (.slice d.a1 c.sm.length d.k1) (.slice d.a2 c.pg.length d.k2) (.slice d.a3 c.kl.length d.k3) (.slice d.a4 c.fe.length d.k4) (.slice d.a5 c.ho.length d.k5) (.slice d.a6 c.cu.length d.k6) _ (HX.out.cs.ext (HX0.out.trans HE3.out))).mono ?_
    rintro e w4 ⟨oa, oc, rfl, ho, hE4⟩
    have HO := Lib.hid ho
    have HE4 := Lib.hid (HE3.out.trans hE4)
    clear ho hE4
    by_cases hc : (listedN c.cs).1.length < c.cs.length
    · have hz : ordE c.cs = 112 := by unfold ordE; rw [if_pos hc]
      have hl : ordL c.cs = [] := by unfold ordL; rw [if_pos hc]
      rw [hz, hl]
      clear hz hl hc
      go_wp2_with fail
      go_ret
      exact ⟨rfl, HX0.out.trans HE4.out⟩
    · have hz : ordE c.cs = 0 := by unfold ordE; rw [if_neg hc]
      have hlen : (ordL c.cs).length = c.cs.length := by
        unfold ordL
        rw [if_neg hc, List.length_map]
        have := (listedN_len c.cs).2
        omega
      rw [hz, hlen]
      have HAF := Lib.hid (fun i x (hx : c.cs[i]? = some x) => after_ok HNU.out hc hx)
      have HLN := Lib.hid hlen
      clear hz hc hlen
      have b0 := (HCB.out.kpC HE4.out.kpC).cell (j := 0) rfl
      have hz0 := HX.out.cs.max
      have hqq : ((c.cs.length : Int) != (c.cs.length : Int)) = false := by simp
      obtain ⟨ol, hol⟩ : ∃ ol, ordL c.cs = ol := ⟨_, rfl⟩
      rw [hol] at HO HAF HLN
      have HPL : Hid (∀ x W, Ext w4 W → Calls Try.prog 23 #[.slice oa c.cs.length oc, .int .i64 x] W fun e w' => e = .returned (.int .i64 (findI ol x)) ∧ Ext W w') := Lib.hid (fun x W hW => by
        have := place_any ol x oa oc W (HO.out.ext hW)
        rw [HLN.out] at this
        exact this)
      clear hol
      go_wp2_with fail
      clear b0
      go_loopw [5] (fun iv wr => ∃ m : Nat, iv = .int .i64 m ∧ m ≤ c.cs.length ∧ Ext w4 wr) (fun iv _ => c.cs.length - (intOf iv).toNat)
      case atStart => exact ⟨0, rfl, by omega, Ext.refl _⟩
      case round =>
        obtain ⟨m, rfl, hm, hEL⟩ := hrel
        have HEL := Lib.hid hEL
        have b0 := (HCB.out.kpC (HE4.out.trans hEL).kpC).cell (j := 0) rfl
        clear hEL
        by_cases hlt : m < c.cs.length
        · have hmi : (m : Int) < (c.cs.length : Int) := by omega
          obtain ⟨x, hx⟩ : ∃ x, c.cs[m]? = some x := ⟨_, List.getElem?_eq_getElem hlt⟩
          obtain ⟨B, o, _, _, _, _, ea0, -, -, -, -, -, hcells⟩ := (HX.out.cs.ext (HX0.out.trans (HE4.out.trans HEL.out))).at hx
          have d1 : wr.cell? ⟨B, o + m * 16 + 1, none⟩ = some (.int .i64 x.nu) := hcells 1 _ rfl
          obtain ⟨k, hk, hnb⟩ := HAF.out m x hx
          have HK := Lib.hid hk
          have HNB := Lib.hid hnb
          have HND := Lib.hid (refNeeds_any c.cs x m hx (HBN.out x (List.mem_of_getElem? hx)) d.a0 d.k0 (.slice d.a1 c.sm.length d.k1) (.slice d.a2 c.pg.length d.k2) (.slice d.a3 c.kl.length d.k3) (.slice d.a4 c.fe.length d.k4) (.slice d.a5 c.ho.length d.k5) (.slice d.a6 c.cu.length d.k6))
          obtain ⟨nds, hnds⟩ : ∃ nds, needsN c.cs x = nds := ⟨_, rfl⟩
          have HNL : Hid (∀ n ∈ nds, n < c.cs.length) := Lib.hid (fun n hn => needsN_lt (by rw [hnds]; exact hn))
          rw [hnds] at HNB HND
          clear hcells hx hk hnb hnds
          rw [ea0] at b0
          have HEA := Lib.hid ea0
          rw [ea0]
          clear ea0
          go_wp2_with fail
          refine (HPL.out x.nu wr HEL.out).mono ?_
          rintro e w5 ⟨rfl, hE5⟩
          rw [HK.out]
          have HE5 := Lib.hid (HEL.out.trans hE5)
          clear hE5 b0 d1
          have k0 := (HCB.out.kpC (HE4.out.trans HE5.out).kpC).cell (j := 0) rfl
          have k1 := (HCB.out.kpC (HE4.out.trans HE5.out).kpC).cell (j := 1) rfl
          have k2 := (HCB.out.kpC (HE4.out.trans HE5.out).kpC).cell (j := 2) rfl
          have k3 := (HCB.out.kpC (HE4.out.trans HE5.out).kpC).cell (j := 3) rfl
          have k4 := (HCB.out.kpC (HE4.out.trans HE5.out).kpC).cell (j := 4) rfl
          have k5 := (HCB.out.kpC (HE4.out.trans HE5.out).kpC).cell (j := 5) rfl
          have k6 := (HCB.out.kpC (HE4.out.trans HE5.out).kpC).cell (j := 6) rfl
          rw [HEA.out] at k0
          have hkn : ¬ (k : Int) < 0 := by omega
          go_wp2_with fail
          clear k0 k1 k2 k3 k4 k5 k6
          have hndc := HND.out w5 (HX.out.cs.ext (HX0.out.trans (HE4.out.trans HE5.out)))
          rw [HEA.out] at hndc
          refine hndc.mono ?_
          clear hndc
          rintro e w6 ⟨na, nc, rfl, hn, hE6⟩
          have HN := Lib.hid hn
          have HE6 := Lib.hid (HE5.out.trans hE6)
          have hs2 := irows_max hn
          rw [ints_length] at hs2
          clear hn hE6
          go_wp2_with fail
          rw [ints_length]
          obtain ⟨wz, rfl⟩ : ∃ wz, wz = wr := ⟨_, rfl⟩
          go_loopw [8] (fun jv wr => ∃ q : Nat, jv = .int .i64 q ∧ q ≤ nds.length ∧ Ext w6 wr) (fun jv _ => nds.length - (intOf jv).toNat)
          case atStart => exact ⟨0, rfl, by omega, Ext.refl _⟩
          case round =>
            obtain ⟨q, rfl, hq, hEQ⟩ := hrel
            have HEQ := Lib.hid hEQ
            clear hEQ
            by_cases hlq : q < nds.length
            · have hqi : (q : Int) < (nds.length : Int) := by omega
              obtain ⟨n, hnn⟩ : ∃ n, nds[q]? = some n := ⟨_, List.getElem?_eq_getElem hlq⟩
              have hnl := HNL.out n (List.mem_of_getElem? hnn)
              have hni : (n : Int) < (c.cs.length : Int) := by omega
              obtain ⟨y, hy⟩ : ∃ y, c.cs[n]? = some y := ⟨_, List.getElem?_eq_getElem hnl⟩
              obtain ⟨B2, o2, _, _, _, _, ea2, -, -, -, -, -, hcells⟩ := (HX.out.cs.ext (HX0.out.trans (HE4.out.trans (HE6.out.trans HEQ.out)))).at hy
              rw [HEA.out] at ea2
              cases ea2
              have d1 : wr.cell? ⟨B, o + n * 16 + 1, none⟩ = some (.int .i64 y.nu) := hcells 1 _ rfl
              obtain ⟨b3, o3, rfl, c0⟩ := i_at HN.out HEQ.out (ints_all hnn)
              have b0 := (HCB.out.kpC (HE4.out.trans (HE6.out.trans HEQ.out)).kpC).cell (j := 0) rfl
              rw [HEA.out] at b0
              obtain ⟨j, hj, hjk⟩ := HNB.out n (List.mem_of_getElem? hnn) y hy
              have HPY := Lib.hid (fun W hW => HPL.out y.nu W hW)
              rw [hj] at HPY
              have gb0 := grow_cell b0
              have gc0 := grow_cell c0
              have gd1 := grow_cell d1
              clear hcells hy hnn hj
              go_wp2_with fail
              refine wp_region_rel_all (fun i => if i = 10 then some (spV (.int .i64 (j : Int))) else none) (by kernel_rfl) (by kernel_rfl) ?_
              repeat (first
                | (refine wpRel_quick ?_ ?_ ?_ ?_
                   · rfl
                   · rfl
                   · first | exact noEnter rfl | (intro f args W W'; go_simp)
                   intro K hK
                   go_big_quiet_op
                   go_big_quiet_on)
                | (refine wpRel_skip ?_ ?_
                   · rfl
                   simp only [Act.put, List.setIfInBounds_toArray, List.set_cons_zero, List.set_cons_succ]))
              refine wpRel_rich _ rfl rfl (fun W hW => ?_) (fun v W3 hW3 hv => ?_)
              · have hc := HPY.out W (HE6.out.trans (HEQ.out.trans ((Ext.refl wr).drew.trans hW.1)))
                go_simp
                refine Calls.mono hc ?_
                rintro e w' ⟨rfl, h⟩
                exact ⟨_, rfl, rfl, by first | exact h | (subst h; exact Ext.refl _)⟩
              obtain rfl := hv
              clear hW3
              simp only [Act.put, List.setIfInBounds_toArray, List.set_cons_zero, List.set_cons_succ]
              repeat (first
                | (refine wpRel_quick ?_ ?_ ?_ ?_
                   · rfl
                   · rfl
                   · first | exact noEnter rfl | (intro f args W W'; go_simp)
                   intro K hK
                   go_big_quiet_op
                   go_big_quiet_on)
                | (refine wpRel_skip ?_ ?_
                   · rfl
                   simp only [Act.put, List.setIfInBounds_toArray, List.set_cons_zero, List.set_cons_succ]))
              refine wpRel_nil ?_
              intro W3 hW3
              have HE7 := Lib.hid (HEQ.out.trans ((Ext.refl _).drew.trans hW3.1))
              clear hW3 b0 c0 d1 gb0 gc0 gd1
              have hj0 : ¬ (j : Int) < 0 := by omega
              have hj1 : ¬ (k : Int) ≤ (j : Int) := by omega
              go_wp2_with fail
              go_roundw
              case rel => exact ⟨q + 1, by go_num, by omega, HE7.out⟩
              case measure => simp [intOf] <;> omega
            · have hqi : ¬ (q : Int) < (nds.length : Int) := by omega
              go_wp2_with fail
              go_roundw
              case rel => exact ⟨m + 1, by go_num, by omega, HE6.out.trans HEQ.out⟩
              case measure => simp [intOf] <;> omega
        · have hmi : ¬ (m : Int) < (c.cs.length : Int) := by omega
          go_wp2_with fail
          go_ret
          exact ⟨rfl, HX0.out.trans (HE4.out.trans HEL.out)⟩
end Go.Proofs.Ytimigpfoflilcaa
