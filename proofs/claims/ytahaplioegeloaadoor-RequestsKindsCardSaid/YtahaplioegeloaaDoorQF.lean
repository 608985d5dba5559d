/- Requests: the reference's Valid and Check whole. -/
import Derived.Test.YtahaplioegeloaaDoorQ4b
import Derived.Test.YtahaplioegeloaaDoorQ4c
import Derived.Test.YtahaplioegeloaaDoorQ4d
import Derived.Test.YtahaplioegeloaaDoorQE
namespace Go.Proofs.YtahaplioegeloaaDoor
open Go.RowKit Go.Sz
theorem refValid_any (r : Rq) (ao : Option Addr) (cap : Nat) (w : World) (hr : RepB w ao cap r.ch) : Calls Tryd.prog 33 #[.agg (r.cells ao cap).toArray] w fun e w' => e = .returned (.bool (validQ r)) ∧ Ext w w' := by
  obtain ⟨c, n, s, k, t, ch, g, h, y⟩ := r
  by_cases hg : 0 ≤ c ∧ c < 7 ∧ 1 ≤ n ∧ n ≤ 1048576 ∧ 0 ≤ s ∧ s < 20000 ∧ 1 ≤ t ∧ t ≤ 1048576
  · obtain ⟨h1, h2, h3, h4, h5, h6, h7, h8⟩ := hg
    have hh : headQ ⟨c, n, s, k, t, ch, g, h, y⟩ = true := by
      unfold headQ
      dsimp only
      rw [decide_eq_true h1, decide_eq_true h2, decide_eq_true h3, decide_eq_true h4, decide_eq_true h5, decide_eq_true h6, decide_eq_true h7, decide_eq_true h8]
      rfl
    by_cases hk : 1 ≤ k ∧ k ≤ 5
    · have hv : validQ ⟨c, n, s, k, t, ch, g, h, y⟩ = refB k ch g h y := by
        unfold validQ
        rw [hh, refB_eq hk.1 hk.2]
        unfold kindQ
        dsimp only
        rw [decide_eq_true hk.1, decide_eq_true hk.2]
        rfl
      rw [hv]
      obtain rfl | rfl | rfl | rfl | rfl : k = 1 ∨ k = 2 ∨ k = 3 ∨ k = 4 ∨ k = 5 := by omega
      · exact refValid_1 c n s t g h y ch ao cap w hr h1 h2 h3 h4 h5 h6 h7 h8
      · exact refValid_2 c n s t g h y ch ao cap w hr h1 h2 h3 h4 h5 h6 h7 h8
      · exact refValid_3 c n s t g h y ch ao cap w hr h1 h2 h3 h4 h5 h6 h7 h8
      · exact refValid_4 c n s t g h y ch ao cap w hr h1 h2 h3 h4 h5 h6 h7 h8
      · exact refValid_5 c n s t g h y ch ao cap w hr h1 h2 h3 h4 h5 h6 h7 h8
    · have hv : validQ ⟨c, n, s, k, t, ch, g, h, y⟩ = refB k ch g h y := by
        unfold validQ refB
        have hk0 : kindQ ⟨c, n, s, k, t, ch, g, h, y⟩ = false := by
          rw [Bool.eq_false_iff]
          intro hq
          unfold kindQ at hq
          simp only [Bool.and_eq_true, decide_eq_true_eq] at hq
          exact hk hq
        rw [hk0, if_neg (by omega), if_neg (by omega), if_neg (by omega), if_neg (by omega)]
        simp
      rw [hv]
      exact refValid_0 c n s k t g h y ch ao cap w hr h1 h2 h3 h4 h5 h6 h7 h8 hk
  · have hc : validQ ⟨c, n, s, k, t, ch, g, h, y⟩ = false := by
      unfold validQ
      have : headQ ⟨c, n, s, k, t, ch, g, h, y⟩ = false := by
        rw [Bool.eq_false_iff]
        intro hq
        unfold headQ at hq
        simp only [Bool.and_eq_true, decide_eq_true_eq] at hq
        exact hg (by omega)
      rw [this]
      rfl
    rw [hc]
    exact refValid_bad c n s k t g h y ch ao cap w hg
set_option maxRecDepth 100000 in
set_option maxHeartbeats 6400000 in
theorem refCheckQ_any (r : Rq) (ao : Option Addr) (cap : Nat) (w : World) (hr : RepB w ao cap r.ch) : Calls Tryd.prog 16 #[.agg (r.cells ao cap).toArray] w fun e w' => e = .returned (.int .i64 (checkQ r)) ∧ Ext w w' := by
  have hX : Ext w (w.alloc (.cells (r.cells ao cap).toArray 26)) := (Ext.refl w).alloc _
  have HC : Hid (Calls Tryd.prog 33 #[.agg (r.cells ao cap).toArray] (w.alloc (.cells (r.cells ao cap).toArray 26)) fun e w' => e = .returned (.bool (validQ r)) ∧ Ext w w') := Lib.hid ((refValid_any r ao cap _ (hr.ext hX)).mono fun e w' ⟨h1, h2⟩ => ⟨h1, hX.trans h2⟩)
  clear hr hX
  unfold checkQ resQ
  unfold Rq.cells at *
  generalize validQ r = b at *
  obtain ⟨c, n, s, k, t, ch, g, h, y⟩ := r
  dsimp only at *
  go_enter Tryd.func16, Tryd.ntmps16
  go_wp2_with (go_at_call 33; refine HC.out.mono ?_; rintro e w1 ⟨rfl, hX⟩; cases b)
  all_goals
    go_ret
    exact ⟨rfl, hX⟩
end Go.Proofs.YtahaplioegeloaaDoor
namespace Go.Sz
open Go.RowKit Go.Proofs.YtahaplioegeloaaDoor
/-- a slice of values -/
def SLV (w : World) (ao : Option Addr) (cap : Nat) (xs : List V) : Prop := ∃ rows F, SL w 4 ao cap rows ∧ rows.length = xs.length ∧ ∀ (i : Nat) (r : List Value) (x : V), rows[i]? = some r → xs[i]? = some x → RepV w F r x
theorem SLV.ext {w W : World} {ao : Option Addr} {cap : Nat} {xs : List V} (h : SLV w ao cap xs) (hE : Ext w W) : SLV W ao cap xs := by
  obtain ⟨rows, F, h1, h2, h3⟩ := h
  exact ⟨rows, F, h1.ext hE, h2, fun i r x e1 e2 => (h3 i r x e1 e2).ext hE⟩
theorem RepV.slv {w : World} {F : Nat → Prop} {cs : List Value} {k n : Int} {s : ByteArray} {l : List V} (h : RepV w F cs (.mk k n s l)) : ∃ ao cap, cs = [.int .i64 k, .int .i64 n, .string s, .slice ao l.length cap] ∧ SLV w ao cap l := by
  obtain ⟨ao, cap, rows, h1, _, _, _, h2, _, h3, h4⟩ := h.open
  exact ⟨ao, cap, h1, rows, F, h2, h3, h4⟩
theorem SLV.max {w : World} {ao : Option Addr} {cap : Nat} {xs : List V} (h : SLV w ao cap xs) : (xs.length : Int) ≤ 9223372036854775807 ∧ xs.length ≤ cap := by
  obtain ⟨rows, F, h1, h2, h3⟩ := h
  have := h1.max; have := h1.le
  omega
theorem SLV.cells {w W : World} {ao : Option Addr} {cap : Nat} {xs : List V} (h : SLV w ao cap xs) (hE : Ext w W) {i : Nat} (hi : i < xs.length) : ∃ b o s a d, ao = some ⟨b, o, none⟩ ∧ SLV w a d xs[i].l ∧
    W.cell? ⟨b, o + i * 4, none⟩ = some (.int .i64 xs[i].k) ∧ W.cell? ⟨b, o + i * 4 + 1, none⟩ = some (.int .i64 xs[i].n) ∧ W.cell? ⟨b, o + i * 4 + 2, none⟩ = some (.string s) ∧ W.cell? ⟨b, o + i * 4 + 3, none⟩ = some (.slice a xs[i].l.length d) := by
  obtain ⟨rows, F, h1, h2, h3⟩ := h
  have hi' : i < rows.length := by rw [h2]; exact hi
  have hr := h3 i rows[i] xs[i] (List.getElem?_eq_getElem hi') (List.getElem?_eq_getElem hi)
  generalize hx : xs[i] = x at *
  obtain ⟨k, n, s, l⟩ := x
  obtain ⟨a, d, hr0, hl⟩ := hr.slv
  have hr1 : rows[i]? = some [.int .i64 k, .int .i64 n, .string s, .slice a l.length d] := by rw [List.getElem?_eq_getElem hi', hr0]
  obtain ⟨b, o, rfl, _⟩ := SL.at h1 (by omega) i hi'
  exact ⟨b, o, s, a, d, rfl, hl, (by simpa using hE.cell (SL.cellAt h1 hr1 (j := 0) rfl) : W.cell? ⟨b, o + i * 4, none⟩ = some (.int .i64 k)), (by simpa using hE.cell (SL.cellAt h1 hr1 (j := 1) rfl) : W.cell? ⟨b, o + i * 4 + 1, none⟩ = some (.int .i64 n)), (by simpa using hE.cell (SL.cellAt h1 hr1 (j := 2) rfl) : W.cell? ⟨b, o + i * 4 + 2, none⟩ = some (.string s)), (by simpa using hE.cell (SL.cellAt h1 hr1 (j := 3) rfl) : W.cell? ⟨b, o + i * 4 + 3, none⟩ = some (.slice a l.length d))⟩
theorem SLV.less {w : World} {ao : Option Addr} {cap : Nat} {xs : List V} (h : SLV w ao cap xs) (k : Nat) : SLV w ao cap (xs.take k) := by
  obtain ⟨rows, F, h1, h2, h3⟩ := h
  exact ⟨rows.take k, F, h1.less k, by rw [List.length_take, List.length_take, h2], fun i r x e1 e2 => h3 i r x (by rw [List.getElem?_take] at e1; split at e1; exact e1; cases e1) (by rw [List.getElem?_take] at e2; split at e2; exact e2; cases e2)⟩
theorem SLV.drop {w : World} {b o cap : Nat} {xs : List V} (h : SLV w (some ⟨b, o, none⟩) cap xs) {p : Nat} (hp : p ≤ xs.length) : SLV w (some ⟨b, o + p * 4, none⟩) (cap - p) (xs.drop p) := by
  obtain ⟨rows, F, h1, h2, h3⟩ := h
  have h4 := SL.sub h1 (p := p) (u := rows.length - p) (by omega)
  rw [List.take_of_length_le (by rw [List.length_drop]; omega)] at h4
  exact ⟨rows.drop p, F, h4, by rw [List.length_drop, List.length_drop, h2], fun i r x e1 e2 => h3 (p + i) r x (by rw [List.getElem?_drop] at e1; exact e1) (by rw [List.getElem?_drop] at e2; exact e2)⟩
def intsAll (xs : List V) : Option (List Int) := if xs.all (fun x => x.k == 1) = true then some (xs.map V.n) else none
theorem intsAll_bad {xs : List V} {j : Nat} (hj : j < xs.length) (h : xs[j].k ≠ 1) : intsAll xs = none := by
  unfold intsAll
  rw [if_neg]
  intro hall
  have := List.all_eq_true.1 hall _ (List.getElem_mem hj)
  simp at this
  exact h this
theorem intsAll_good {xs : List V} (hk : ∀ j (hj : j < xs.length), xs[j].k = 1) : intsAll xs = some (xs.map V.n) := by
  unfold intsAll
  refine if_pos ?_
  rw [List.all_eq_true]
  intro x hx
  obtain ⟨j, hj, rfl⟩ := List.mem_iff_getElem.1 hx
  simp [hk j hj]
theorem intsAll_some {xs : List V} {ns : List Int} (h : intsAll xs = some ns) : ns.length = xs.length := by
  unfold intsAll at h
  split at h
  · cases h; simp
  · cases h
theorem intsV_all (xs : List V) (m : Nat) : intsV xs m = if xs.length = m then intsAll xs else none := by
  unfold intsV intsAll
  by_cases h1 : xs.length = m
  · by_cases h2 : xs.all (fun x => x.k == 1) = true
    · rw [if_pos ⟨h1, h2⟩, if_pos h1, if_pos h2]
    · rw [if_neg (fun h => h2 h.2), if_pos h1, if_neg h2]
  · rw [if_neg (fun h => h1 h.1), if_neg h1]
def riPost (w : World) (r : Option (List Int)) (e : Ending) (w' : World) : Prop := Ext w w' ∧ match r with
  | some ns => ∃ a d, e = .returned (.tuple #[.slice a ns.length d, .bool true]) ∧ SL w' 1 a d (irows ns)
  | none => e = .returned (.tuple #[.slice none 0 0, .bool false])
theorem irows_wid' (l : List Int) : ∀ r ∈ irows l, r.length = 1 := by intro r hr; simp [irows] at hr; obtain ⟨x, _, rfl⟩ := hr; rfl
/-- an address of a new block of these cells -/
def spCB (D : Nat) (vs : List Value) : Spec := ⟨fun v W => ∃ g, v = .pointer (some ⟨g, 0, none⟩) ∧ D ≤ g ∧ g < W.heap.size ∧ CB W g vs, fun hE ⟨g, h1, h2, h3, h4⟩ => ⟨g, h1, h2, Nat.lt_of_lt_of_le h3 hE.size, h4.ext h3 hE⟩⟩
theorem ext_set9 {w W : World} (h : Ext w W) {B : Nat} (hB : w.heap.size ≤ B) (u0 u1 u2 u3 u4 u5 u6 u7 u8 : Value) : Ext w (((((((((W.setCell ⟨B, 0, none⟩ u0).setCell ⟨B, 1, none⟩ u1).setCell ⟨B, 2, none⟩ u2).setCell ⟨B, 3, none⟩ u3).setCell ⟨B, 4, none⟩ u4).setCell ⟨B, 5, none⟩ u5).setCell ⟨B, 6, none⟩ u6).setCell ⟨B, 7, none⟩ u7).setCell ⟨B, 8, none⟩ u8) :=
  ((((((((h.setCell (p := ⟨B, 0, none⟩) hB _).setCell (p := ⟨B, 1, none⟩) hB _).setCell (p := ⟨B, 2, none⟩) hB _).setCell (p := ⟨B, 3, none⟩) hB _).setCell (p := ⟨B, 4, none⟩) hB _).setCell (p := ⟨B, 5, none⟩) hB _).setCell (p := ⟨B, 6, none⟩) hB _).setCell (p := ⟨B, 7, none⟩) hB _).setCell (p := ⟨B, 8, none⟩) hB _
theorem CB.set9 {w : World} {B : Nat} {vs : List Value} (h : CB w B vs) (hl : vs.length = 9) (u0 u1 u2 u3 u4 u5 u6 u7 u8 : Value) : CB (((((((((w.setCell ⟨B, 0, none⟩ u0).setCell ⟨B, 1, none⟩ u1).setCell ⟨B, 2, none⟩ u2).setCell ⟨B, 3, none⟩ u3).setCell ⟨B, 4, none⟩ u4).setCell ⟨B, 5, none⟩ u5).setCell ⟨B, 6, none⟩ u6).setCell ⟨B, 7, none⟩ u7).setCell ⟨B, 8, none⟩ u8) B [u0, u1, u2, u3, u4, u5, u6, u7, u8] := by
  rw [← set_all9 hl u0 u1 u2 u3 u4 u5 u6 u7 u8]
  exact ((((((((h.set (i := 0) (by simp [hl]) u0).set (i := 1) (by simp [hl]) u1).set (i := 2) (by simp [hl]) u2).set (i := 3) (by simp [hl]) u3).set (i := 4) (by simp [hl]) u4).set (i := 5) (by simp [hl]) u5).set (i := 6) (by simp [hl]) u6).set (i := 7) (by simp [hl]) u7).set (i := 8) (by simp [hl]) u8
end Go.Sz
namespace Go.Proofs.YtahaplioegeloaaDoor
open Go.RowKit Go.Sz
theorem infoI : (Tryd.prog.info? 3).map (fun i => (i.zero, i.size, i.bytes)) = some (some (.int .i64 0), 1, 8) := by kernel_rfl
set_option maxRecDepth 100000 in
set_option maxHeartbeats 6400000 in
theorem refInts_any (xs : List V) (ao : Option Addr) (cap : Nat) (w : World) (h : SLV w ao cap xs) (hb : xs.length ≤ 1000000) : Calls Tryd.prog 58 #[.slice ao xs.length cap] w (riPost w (intsAll xs)) := by
  have hs1 := h.max.1
  have HL := Lib.hid h
  have HB0 := Lib.hid hb
  have ho0 := own_empty w w.heap.size (Nat.le_refl _) 3 1
  have HX0 : Hid (Ext w (w.alloc (.cells #[] 3))) := Lib.hid ((Ext.refl w).alloc _)
  have HO0 := Lib.hid ho0
  obtain ⟨i0, hi, hz0, hz1, hz2⟩ := info_parts infoI
  clear h hb ho0
  go_enter Tryd.func58, Tryd.ntmps58
  go_wp2_with fail
  generalize (w.alloc (.cells #[] 3)) = w1 at *
  go_loopw [4, 5] (fun lv iv wr => ∃ j : Nat, iv = .int .i64 j ∧ j ≤ xs.length ∧ (∀ i (h : i < xs.length), i < j → xs[i].k = 1) ∧ wr.ownsRow w.heap.size 3 1 lv j (irows ((xs.map V.n).take j)).flatten ∧ Ext w wr) (fun _ iv _ => xs.length - (intOf iv).toNat)
  case atStart => exact ⟨0, rfl, by omega, fun i h hi => by omega, HO0.out, HX0.out⟩
  case round =>
    obtain ⟨j, rfl, hj, hk1, hO, hE⟩ := hrel
    have HK := Lib.hid hk1
    have HO := Lib.hid hO
    have HE := Lib.hid hE
    clear hk1 hO hE
    by_cases hlt : j < xs.length
    · have hji : (j : Int) < (xs.length : Int) := by omega
      obtain ⟨b, o, s0, a0, d0, rfl, -, c0, c1, c2, c3⟩ := HL.out.cells HE.out hlt
      have HIB := Lib.hid (fun (h : xs[j].k ≠ 1) => intsAll_bad hlt h)
      have HKS : Hid (xs[j].k = 1 → ∀ i (h : i < xs.length), i < j + 1 → xs[i].k = 1) := Lib.hid fun h i hi hij => by
        by_cases he : i = j
        · subst he; exact h
        · exact HK.out i hi (by omega)
      have hts : (xs.map V.n).take (j + 1) = (xs.map V.n).take j ++ [xs[j].n] := by
        rw [List.take_succ_eq_append_getElem (by simpa using hlt)]
        simp
      have HTS : Hid ((irows ((xs.map V.n).take (j + 1))).flatten = (irows ((xs.map V.n).take j)).flatten ++ [.int .i64 xs[j].n]) := Lib.hid (by rw [hts]; simp [irows])
      clear hts c2 c3
      generalize xs[j].k = xk at *
      generalize xs[j].n = xn at *
      by_cases hk : xk = 1
      · subst hk
        have q1 : ((1 : Int) != 1) = false := rfl
        have HJ := Lib.hid hlt
        have hA : Ext wr (wr.alloc (.cells #[.int .i64 xn] 3)) := (Ext.refl wr).alloc _
        have HOA := Lib.hid (ownsRow_ext HO.out hA)
        have HEA := Lib.hid (HE.out.trans hA)
        have HBK := Lib.hid (ownsRow_blocks HO.out)
        clear hA
        go_wp2_with (at_builtin; refine wpList_append_S rfl _ _ 40 40 rfl w.heap.size 3 i0 _ 1 8 Tryd.underlying40 hi hz0 hz1 hz2 rfl _ _ _ rfl HOA.out (.slice (some ⟨wr.heap.size, 0, none⟩) 1 1) 1 [.int .i64 xn] rfl (Src.ofSlice _ Tryd.underlying40 ⟨wr.heap.size, 0, none⟩ 1 1 _ rfl (one_cell (by simp)) (by simp [Value.oneCell'])) (by have := HB0.out; have := HJ.out; unfold maxLen; omega) (by have := HB0.out; have := HJ.out; omega) HEA.out.size ?_; intro v6 w6 ho6 hg6)
        have hX6 : Ext w w6 := Ext.trans' HEA.out hg6 HBK.out
        go_roundw
        case rel => exact ⟨j + 1, by go_num, by have := HJ.out; omega, HKS.out rfl, by rw [HTS.out]; exact ho6, hX6⟩
        case measure => simp [intOf] <;> (have := HJ.out; omega)
      · have q1 : (xk != 1) = true := by simpa using hk
        go_wp2_with fail
        go_ret2
        refine ⟨HE.out, ?_⟩
        rw [HIB.out hk]
        exact rfl
    · have hji : ¬ (j : Int) < (xs.length : Int) := by omega
      have hO := HO.out
      rw [List.take_of_length_le (by simp; omega)] at hO
      obtain rfl : j = xs.length := by omega
      obtain ⟨a, d, hlv, hs, _⟩ := SL.of_own hO (irows_wid' _) (by rw [irows_length, List.length_map])
      subst hlv
      have HS := Lib.hid hs
      clear hO hs HO
      go_wp2_with fail
      go_ret2
      refine ⟨HE.out, ?_⟩
      rw [intsAll_good (fun i hi => HK.out i hi (by omega))]
      exact ⟨a, d, by rw [List.length_map]; rfl, HS.out⟩
end Go.Proofs.YtahaplioegeloaaDoor
