/- Petitions: what is alike in all reads leads to the same result. -/
import Derived.Test.YtbniicobkhiniaaFU
namespace Go.Sz
theorem alikeR_look {l : List Ft} {k : Ky} {t a b : Int} (ht : inI64 t) (h : alikeR l a b (rdOf k t) = true) : lookF l k t b = lookF l k t a := by
  unfold alikeR at h
  have h2 : ptsF l k t (sucT t) a = ptsF l k t (sucT t) b := of_decide_eq_true h
  rw [lookF_last l k a ht, lookF_last l k b ht, h2]
theorem past_act {l : List Ft} {k : Ky} {t a b : Int} (ht : inI64 t) (h : alikeF l [rdOf k t] a b = true) : activeF l k t b = activeF l k t a := by
  unfold activeF
  rw [alikeR_look ht (by unfold alikeF at h; simpa using h)]
theorem past_of {l : List Ft} {kd st t a b : Int} (ht : inI64 t) (h : alikeF l (rdsF kd st t) a b = true) : ofF l kd st t b = ofF l kd st t a := by
  have h1 : ∀ n ∈ L8, lookF l ⟨kd, st, n⟩ t b = lookF l ⟨kd, st, n⟩ t a := fun n hn =>
    alikeR_look ht (List.all_eq_true.1 h _ (List.mem_map.2 ⟨n, hn, rfl⟩))
  show L8.filter _ = L8.filter _
  refine List.filter_congr fun n hn => ?_
  rw [h1 n hn]
end Go.Sz
namespace Go.Proofs.Ytbniicobkhiniaa
open Go.RowKit Go.Sz
set_option maxRecDepth 100000 in
set_option maxHeartbeats 6400000 in
theorem law_past (l : List Ft) (sc st ob t kn la : Int) (ht : inI64 t) (ao : Option Addr) (cap : Nat) (w : World) (h : RepF w ao cap l) : Calls Try.prog 9 #[.slice ao l.length cap, .int .i64 sc, .int .i64 st, .int .i64 ob, .int .i64 t, .int .i64 kn, .int .i64 la] w (Tru w) := by
  have HS := Lib.hid (fun (W : World) => saneF_any W)
  have HLL := Lib.hid h.max
  by_cases hlen : l.length ≤ 14
  case neg =>
    have hg : (l.length : Int) > 14 := by omega
    have hg2 : decide ((l.length : Int) > 14) = true := decide_eq_true hg
    clear hlen
    go_enter Try.func9, Try.ntmps9
    go_wp2_with (go_at_call 10; refine (HS.out _).mono ?_; rintro e w1 ⟨rfl, hE⟩; have HCUR := Lib.hid hE; clear hE)
    go_ret
    exact ⟨rfl, HCUR.out⟩
  have hg : ¬ (l.length : Int) > 14 := by omega
  have hg2 : decide ((l.length : Int) > 14) = false := decide_eq_false hg
  clear hlen
  obtain ⟨⟨v, b⟩, hvkn⟩ : ∃ q, activeF l ⟨sc, st, ob⟩ t kn = q := ⟨_, rfl⟩
  obtain ⟨⟨v2, b2⟩, hvla⟩ : ∃ q, activeF l ⟨sc, st, ob⟩ t la = q := ⟨_, rfl⟩
  obtain ⟨q1, hq1⟩ : ∃ q, alikeF l [rdOf ⟨sc, st, ob⟩ t] kn la = q := ⟨_, rfl⟩
  obtain ⟨q2, hq2⟩ : ∃ q, alikeF l (rdsF 6 st t) kn la = q := ⟨_, rfl⟩
  obtain ⟨q3, hq3⟩ : ∃ q, alikeF l (rdsF 11 st t) kn la = q := ⟨_, rfl⟩
  have HP1 : Hid (q1 = true → v = v2 ∧ b = b2) := Lib.hid fun h1 => by have := past_act ht (hq1.trans h1); rw [hvkn, hvla] at this; injection this with h2 h3; exact ⟨h2.symm, h3.symm⟩
  obtain ⟨n6a, hn6a⟩ : ∃ q, ofF l 6 st t kn = q := ⟨_, rfl⟩
  obtain ⟨n6b, hn6b⟩ : ∃ q, ofF l 6 st t la = q := ⟨_, rfl⟩
  obtain ⟨n11a, hn11a⟩ : ∃ q, ofF l 11 st t kn = q := ⟨_, rfl⟩
  obtain ⟨n11b, hn11b⟩ : ∃ q, ofF l 11 st t la = q := ⟨_, rfl⟩
  have HP2 : Hid (q2 = true → n6a = n6b) := Lib.hid fun h1 => by have := past_of ht (hq2.trans h1); rw [hn6a, hn6b] at this; exact this.symm
  have HP3 : Hid (q3 = true → n11a = n11b) := Lib.hid fun h1 => by have := past_of ht (hq3.trans h1); rw [hn11a, hn11b] at this; exact this.symm
  obtain ⟨d6, hd6⟩ : ∃ q, rdsF 6 st t = q := ⟨_, rfl⟩
  obtain ⟨d11, hd11⟩ : ∃ q, rdsF 11 st t = q := ⟨_, rfl⟩
  rw [hd6] at hq2
  rw [hd11] at hq3
  have HA1 : Hid (∀ W, Ext w W → Calls Try.prog 14 #[.agg #[.slice none 0 0, .slice none 0 0, .slice none 0 0, .slice ao l.length cap], .int .i64 sc, .int .i64 st, .int .i64 ob, .int .i64 t, .int .i64 kn] W (RetAct v b [rdOf ⟨sc, st, ob⟩ t] W)) := Lib.hid fun W hW => by have := active_any l sc st ob t kn ht ao cap W (h.ext hW); rwa [hvkn] at this
  have HA2 : Hid (∀ W, Ext w W → Calls Try.prog 14 #[.agg #[.slice none 0 0, .slice none 0 0, .slice none 0 0, .slice ao l.length cap], .int .i64 sc, .int .i64 st, .int .i64 ob, .int .i64 t, .int .i64 la] W (RetAct v2 b2 [rdOf ⟨sc, st, ob⟩ t] W)) := Lib.hid fun W hW => by have := active_any l sc st ob t la ht ao cap W (h.ext hW); rwa [hvla] at this
  have H61 : Hid (∀ W, Ext w W → Calls Try.prog 17 #[.agg #[.slice none 0 0, .slice none 0 0, .slice none 0 0, .slice ao l.length cap], .int .i64 st, .int .i64 t, .int .i64 kn] W (RetOf n6a d6 W)) := Lib.hid fun W hW => by have := held_any l st t kn ht ao cap W (h.ext hW); rwa [hn6a, hd6] at this
  have H62 : Hid (∀ W, Ext w W → Calls Try.prog 17 #[.agg #[.slice none 0 0, .slice none 0 0, .slice none 0 0, .slice ao l.length cap], .int .i64 st, .int .i64 t, .int .i64 la] W (RetOf n6b d6 W)) := Lib.hid fun W hW => by have := held_any l st t la ht ao cap W (h.ext hW); rwa [hn6b, hd6] at this
  have H111 : Hid (∀ W, Ext w W → Calls Try.prog 19 #[.agg #[.slice none 0 0, .slice none 0 0, .slice none 0 0, .slice ao l.length cap], .int .i64 st, .int .i64 t, .int .i64 kn] W (RetOf n11a d11 W)) := Lib.hid fun W hW => by have := groups_any l st t kn ht ao cap W (h.ext hW); rwa [hn11a, hd11] at this
  have H112 : Hid (∀ W, Ext w W → Calls Try.prog 19 #[.agg #[.slice none 0 0, .slice none 0 0, .slice none 0 0, .slice ao l.length cap], .int .i64 st, .int .i64 t, .int .i64 la] W (RetOf n11b d11 W)) := Lib.hid fun W hW => by have := groups_any l st t la ht ao cap W (h.ext hW); rwa [hn11b, hd11] at this
  have HQ1 : Hid (∀ W bo bc, Ext w W → RepR W bo bc [rdOf ⟨sc, st, ob⟩ t] → Calls Try.prog 25 #[.slice ao l.length cap, .slice bo ([rdOf ⟨sc, st, ob⟩ t] : List Rd).length bc, .int .i64 kn, .int .i64 la] W fun e w' => e = .returned (.bool q1) ∧ Ext W w') := Lib.hid fun W bo bc hW hR => by have := alike_any l _ kn la ao cap bo bc W (h.ext hW) hR; rwa [hq1] at this
  have HQ2 : Hid (∀ W bo bc, Ext w W → RepR W bo bc d6 → Calls Try.prog 25 #[.slice ao l.length cap, .slice bo (d6 : List Rd).length bc, .int .i64 kn, .int .i64 la] W fun e w' => e = .returned (.bool q2) ∧ Ext W w') := Lib.hid fun W bo bc hW hR => by have := alike_any l _ kn la ao cap bo bc W (h.ext hW) hR; rwa [hq2] at this
  have HQ3 : Hid (∀ W bo bc, Ext w W → RepR W bo bc d11 → Calls Try.prog 25 #[.slice ao l.length cap, .slice bo (d11 : List Rd).length bc, .int .i64 kn, .int .i64 la] W fun e w' => e = .returned (.bool q3) ∧ Ext W w') := Lib.hid fun W bo bc hW hR => by have := alike_any l _ kn la ao cap bo bc W (h.ext hW) hR; rwa [hq3] at this
  clear h ht hvkn hvla hq1 hq2 hq3 hn6a hn6b hn11a hn11b hd6 hd11
  go_enter Try.func9, Try.ntmps9
  go_wp2_with (first
    | (go_at_call 10; refine (HS.out _).mono ?_; rintro e w1 ⟨rfl, hE⟩; have HCUR := Lib.hid hE; clear hE)
    | (go_at_call 16; have hq := M13; clear hq; refine (sameR_any _ _ r10 r11 rc10 rc11 _ HQ10.out HQ11.out).mono ?_; rintro e y ⟨rfl, hE⟩; rw [decide_eq_true rfl]; replace HCUR := Lib.hid (HCUR.out.trans hE); replace b0 := hE.cell b0; replace b1 := hE.cell b1; replace b2 := hE.cell b2; replace b3 := hE.cell b3; clear hE; have M14 := True.intro)
    | (go_at_call 21; have hq := M12; clear hq; refine (sameI_any _ _ n10 n11 nc10 nc11 _ HK10.out HK11.out).mono ?_; rintro e y ⟨rfl, hE⟩; replace HQ10 := Lib.hid (HQ10.out.ext hE); replace HQ11 := Lib.hid (HQ11.out.ext hE); rw [decide_eq_true rfl]; replace HCUR := Lib.hid (HCUR.out.trans hE); replace b0 := hE.cell b0; replace b1 := hE.cell b1; replace b2 := hE.cell b2; replace b3 := hE.cell b3; clear hE; have M13 := True.intro)
    | (go_at_call 25; have hq := M11; clear hq; refine (HQ3.out _ _ _ HCUR.out HQ10.out).mono ?_; rintro e y ⟨rfl, hE⟩; replace HK10 := Lib.hid (SL.ext HK10.out hE); replace HK11 := Lib.hid (SL.ext HK11.out hE); replace HQ10 := Lib.hid (HQ10.out.ext hE); replace HQ11 := Lib.hid (HQ11.out.ext hE); replace HCUR := Lib.hid (HCUR.out.trans hE); replace b0 := hE.cell b0; replace b1 := hE.cell b1; replace b2 := hE.cell b2; replace b3 := hE.cell b3; clear hE; rcases q3 with _ | _; all_goals (try (obtain rfl := HP3.out rfl)) ; all_goals have M12 := True.intro)
    | (go_at_call 19; have hq := M10; clear hq; refine (H112.out _ HCUR.out).mono ?_; rintro e y ⟨n11, nc11, r11, rc11, rfl, hK, hQ, hE⟩; replace HK10 := Lib.hid (SL.ext HK10.out hE); replace HQ10 := Lib.hid (HQ10.out.ext hE); have HK11 := Lib.hid hK; have HQ11 := Lib.hid hQ; clear hK hQ; replace HCUR := Lib.hid (HCUR.out.trans hE); replace b0 := hE.cell b0; replace b1 := hE.cell b1; replace b2 := hE.cell b2; replace b3 := hE.cell b3; clear hE; have M11 := True.intro)
    | (go_at_call 19; have hq := M7; clear hq; refine (H111.out _ HCUR.out).mono ?_; rintro e y ⟨n10, nc10, r10, rc10, rfl, hK, hQ, hE⟩; have HK10 := Lib.hid hK; have HQ10 := Lib.hid hQ; clear hK hQ; replace HCUR := Lib.hid (HCUR.out.trans hE); replace b0 := hE.cell b0; replace b1 := hE.cell b1; replace b2 := hE.cell b2; replace b3 := hE.cell b3; clear hE; have M10 := True.intro)
    | (go_at_call 16; have hq := M8; clear hq; refine (sameR_any _ _ r5 r6 rc5 rc6 _ HQ5.out HQ6.out).mono ?_; rintro e y ⟨rfl, hE⟩; rw [decide_eq_true rfl]; replace HCUR := Lib.hid (HCUR.out.trans hE); replace b0 := hE.cell b0; replace b1 := hE.cell b1; replace b2 := hE.cell b2; replace b3 := hE.cell b3; clear hE; have M9 := True.intro)
    | (go_at_call 21; have hq := M7; clear hq; refine (sameI_any _ _ n5 n6 nc5 nc6 _ HK5.out HK6.out).mono ?_; rintro e y ⟨rfl, hE⟩; replace HQ5 := Lib.hid (HQ5.out.ext hE); replace HQ6 := Lib.hid (HQ6.out.ext hE); rw [decide_eq_true rfl]; replace HCUR := Lib.hid (HCUR.out.trans hE); replace b0 := hE.cell b0; replace b1 := hE.cell b1; replace b2 := hE.cell b2; replace b3 := hE.cell b3; clear hE; have M8 := True.intro)
    | (go_at_call 25; have hq := M6; clear hq; refine (HQ2.out _ _ _ HCUR.out HQ5.out).mono ?_; rintro e y ⟨rfl, hE⟩; replace HK5 := Lib.hid (SL.ext HK5.out hE); replace HK6 := Lib.hid (SL.ext HK6.out hE); replace HQ5 := Lib.hid (HQ5.out.ext hE); replace HQ6 := Lib.hid (HQ6.out.ext hE); replace HCUR := Lib.hid (HCUR.out.trans hE); replace b0 := hE.cell b0; replace b1 := hE.cell b1; replace b2 := hE.cell b2; replace b3 := hE.cell b3; clear hE; rcases q2 with _ | _; all_goals (try (obtain rfl := HP2.out rfl)) ; all_goals have M7 := True.intro)
    | (go_at_call 17; have hq := M5; clear hq; refine (H62.out _ HCUR.out).mono ?_; rintro e y ⟨n6, nc6, r6, rc6, rfl, hK, hQ, hE⟩; replace HK5 := Lib.hid (SL.ext HK5.out hE); replace HQ5 := Lib.hid (HQ5.out.ext hE); have HK6 := Lib.hid hK; have HQ6 := Lib.hid hQ; clear hK hQ; replace HCUR := Lib.hid (HCUR.out.trans hE); replace b0 := hE.cell b0; replace b1 := hE.cell b1; replace b2 := hE.cell b2; replace b3 := hE.cell b3; clear hE; have M6 := True.intro)
    | (go_at_call 17; have hq := M2; clear hq; refine (H61.out _ HCUR.out).mono ?_; rintro e y ⟨n5, nc5, r5, rc5, rfl, hK, hQ, hE⟩; have HK5 := Lib.hid hK; have HQ5 := Lib.hid hQ; clear hK hQ; replace HCUR := Lib.hid (HCUR.out.trans hE); replace b0 := hE.cell b0; replace b1 := hE.cell b1; replace b2 := hE.cell b2; replace b3 := hE.cell b3; clear hE; have M5 := True.intro)
    | (go_at_call 16; have hq := M3; clear hq; refine (sameR_any _ _ ro0 ro3 rc0 rc3 _ HR0.out HR3.out).mono ?_; rintro e y ⟨rfl, hE⟩; rw [decide_eq_true rfl]; replace HCUR := Lib.hid (HCUR.out.trans hE); replace b0 := hE.cell b0; replace b1 := hE.cell b1; replace b2 := hE.cell b2; replace b3 := hE.cell b3; clear hE; have M4 := True.intro)
    | (go_at_call 14; have hq := M2; clear hq; refine (HA2.out _ HCUR.out).mono ?_; rintro e y ⟨ro3, rc3, rfl, hR, hE⟩; replace HR0 := Lib.hid (HR0.out.ext hE); have HR3 := Lib.hid hR; clear hR; replace HCUR := Lib.hid (HCUR.out.trans hE); replace b0 := hE.cell b0; replace b1 := hE.cell b1; replace b2 := hE.cell b2; replace b3 := hE.cell b3; clear hE; have M3 := True.intro)
    | (go_at_call 25; have hq := M1; clear hq; refine (HQ1.out _ _ _ HCUR.out HR0.out).mono ?_; rintro e y ⟨rfl, hE⟩; replace HR0 := Lib.hid (HR0.out.ext hE); replace HCUR := Lib.hid (HCUR.out.trans hE); replace b0 := hE.cell b0; replace b1 := hE.cell b1; replace b2 := hE.cell b2; replace b3 := hE.cell b3; clear hE; rcases q1 with _ | _; all_goals (try (obtain ⟨rfl, rfl⟩ := HP1.out rfl)) ; all_goals have M2 := True.intro)
    | (go_at_call 14; have hcb := cb_new w1 [.slice none 0 0, .slice none 0 0, .slice none 0 0, .slice ao l.length cap] 41; have b0 := hcb.at_ 0 _ rfl; have b1 := hcb.at_ 1 _ rfl; have b2 := hcb.at_ 2 _ rfl; have b3 := hcb.at_ 3 _ rfl; clear hcb; replace HCUR := Lib.hid (HCUR.out.alloc (.cells #[.slice none 0 0, .slice none 0 0, .slice none 0 0, .slice ao l.length cap] 41)); refine (HA1.out _ HCUR.out).mono ?_; rintro e y ⟨ro0, rc0, rfl, hR, hE⟩; have HR0 := Lib.hid hR; clear hR; replace HCUR := Lib.hid (HCUR.out.trans hE); replace b0 := hE.cell b0; replace b1 := hE.cell b1; replace b2 := hE.cell b2; replace b3 := hE.cell b3; clear hE; have M1 := True.intro))
  all_goals
    go_ret
    exact ⟨by simp, HCUR.out⟩
end Go.Proofs.Ytbniicobkhiniaa
