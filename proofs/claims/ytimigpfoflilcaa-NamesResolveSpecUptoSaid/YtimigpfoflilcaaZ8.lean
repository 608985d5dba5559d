/- Names: classes and Twice of the reference. -/
import Derived.Test.YtimigpfoflilcaaZF
import Derived.Test.YtimigpfoflilcaaYP
namespace Go.Sz
open Go.RowKit
theorem srows_app (l l' : List ByteArray) : srows (l ++ l') = srows l ++ srows l' := List.map_append
theorem srows_wid (l : List ByteArray) : ∀ r ∈ srows l, r.length = 1 := by
  intro r hr
  obtain ⟨x, _, rfl⟩ := List.mem_map.1 hr
  rfl
/-- a row of strings -/
def RetSs (r : List ByteArray) (w : World) : Ending → World → Prop := fun e w' => ∃ ao cap, e = .returned (.slice ao r.length cap) ∧ SL w' 1 ao cap (srows r) ∧ Ext w w'
/-- two rows of their own do not share a block -/
def Apart2 (u v : Value) : Prop := ∀ k, u.ownBlock = some k → v.ownBlock ≠ some k
theorem Apart2.symm {u v : Value} (h : Apart2 u v) : Apart2 v u := fun k h1 h2 => h k h2 h1
theorem ownsRow_heap {W W' : World} {D e size n : Nat} {v : Value} {xs : List Value} (h : W.ownsRow D e size v n xs) (hk : ∀ k, v.ownBlock = some k → W'.heap[k]? = W.heap[k]?) : W'.ownsRow D e size v n xs := by
  rcases h.2 with ⟨rfl, h0⟩ | ⟨g, cap, cur, rfl, h1, h2, h3⟩
  · exact ⟨h.1, .inl ⟨rfl, h0⟩⟩
  · exact ⟨h.1, .inr ⟨g, cap, cur, rfl, h1, by rw [hk g rfl]; exact h2, h3⟩⟩
/-- behind an append onto the first of two rows -/
theorem two_rows {W w1 : World} {D2 e2 size2 : Nat} {u v v' : Value} {j : Nat} {zs : List Value} {tmp : Obj} (hv : W.ownsRow D2 e2 size2 v j zs) (hap : Apart2 u v) (hg : Grows (W.alloc tmp) u w1 v') : w1.ownsRow D2 e2 size2 v j zs ∧ Apart2 v' v := by
  have hl := ownsRow_lt' hv
  refine ⟨ownsRow_heap (ownsRow_ext hv ((Ext.refl W).alloc tmp)) fun k hk => hg.by_.block k (by have := hl k hk; simp; omega) (fun e => hap k e.symm hk), fun k h1 h2 => ?_⟩
  rcases hg.own k h1 with h | h
  · exact hap k h h2
  · have := hl k h2
    rw [World.size_alloc] at h
    omega
theorem dec_f {p : Prop} [Decidable p] (h : p) : decide (¬ p) = false := decide_eq_false fun k => k h
theorem dec_t {p : Prop} [Decidable p] (h : ¬ p) : decide (¬ p) = true := decide_eq_true h
theorem apart_empty {b1 b2 : Nat} (h : b1 ≠ b2) : Apart2 (.slice (some ⟨b1, 0, none⟩) 0 0) (.slice (some ⟨b2, 0, none⟩) 0 0) := fun k h1 h2 => by
  have e1 : some b1 = some k := h1
  have e2 : some b2 = some k := h2
  injection e1 with e1
  injection e2 with e2
  omega
/-- the cells of a row known whole -/
theorem SL.rowAt {w : World} {n : Nat} {ao : Option Addr} {cap : Nat} {rows : List (List Value)} (h : SL w n ao cap rows) {i : Nat} {r : List Value} (hr : rows[i]? = some r) (hn : r ≠ []) :
    ∃ B o, ao = some ⟨B, o, none⟩ ∧ ∀ (j : Nat) (v : Value), r[j]? = some v → w.cell? ⟨B, o + i * n + j, none⟩ = some v := by
  obtain ⟨v, hv⟩ : ∃ v, r[0]? = some v := by cases r with | nil => exact absurd rfl hn | cons x l => exact ⟨x, rfl⟩
  obtain ⟨B, o, e, -⟩ := h.cells i 0 _ _ hr hv
  refine ⟨B, o, e, fun j u hj => ?_⟩
  obtain ⟨b', o', e2, hw⟩ := h.cells i j _ _ hr hj
  rw [e] at e2
  cases e2
  exact hw
theorem all_take_nodup {l : List Pg} {m : Nat} {p : Pg} (h : ∀ q ∈ l.take m, (q.rq.map Rq.nm).Nodup) (hp : l[m]? = some p) (hn : (p.rq.map Rq.nm).Nodup) : ∀ q ∈ l.take (m + 1), (q.rq.map Rq.nm).Nodup := fun q hq => by
  rw [List.take_add_one, hp] at hq
  rcases List.mem_append.1 hq with h1 | h1
  · exact h q h1
  · obtain rfl := List.mem_singleton.1 h1
    exact hn
end Go.Sz
namespace Go.Proofs.Ytimigpfoflilcaa
open Go.RowKit Go.Sz
theorem infoS : (Try.prog.info? 9).map (fun i => (i.zero, i.size, i.bytes)) = some (some (.string ⟨#[]⟩), 1, 16) := by kernel_rfl
set_option maxRecDepth 100000 in
set_option maxHeartbeats 6400000 in
theorem classes_any (l : List Kl) (h8 : l.length ≤ 100000) (ao : Option Addr) (cap : Nat) (w : World) (h : SL w 4 ao cap (l.map Kl.cells)) : Calls Try.prog 77 #[.slice ao l.length cap] w (RetSs (l.map Kl.nm) w) := by
  obtain ⟨is, hs0, hs1, hs2, hs3⟩ := info_parts infoS
  have HIS := Lib.hid (And.intro hs0 (And.intro hs1 (And.intro hs2 hs3)))
  clear hs0 hs1 hs2 hs3
  have HL := Lib.hid h
  have HL8 := Lib.hid h8
  have hm : (l.length : Int) ≤ 9223372036854775807 := by omega
  have HO0 := Lib.hid (own_empty w w.heap.size (Nat.le_refl _) 9 1)
  clear h h8
  go_enter Try.func77, Try.ntmps77
  go_wp2_with fail
  go_loopw [3, 4] (fun v iv wr => ∃ m : Nat, iv = .int .i64 m ∧ m ≤ l.length ∧ wr.ownsRow w.heap.size 9 1 v ((l.take m).map Kl.nm).length (srows ((l.take m).map Kl.nm)).flatten ∧ Ext w wr) (fun _ iv _ => l.length - (intOf iv).toNat)
  case atStart => exact ⟨0, rfl, by omega, HO0.out, (Ext.refl w).alloc _⟩
  case round =>
    obtain ⟨m, rfl, hm', hO, hE⟩ := hrel
    have HO := Lib.hid hO
    have HE := Lib.hid hE
    clear hO hE
    by_cases hlt : m < l.length
    · have hmi : (m : Int) < (l.length : Int) := by omega
      obtain ⟨x, hx⟩ : ∃ x, l[m]? = some x := ⟨_, List.getElem?_eq_getElem hlt⟩
      obtain ⟨B, o, rfl, hc⟩ := (HL.out.ext HE.out).rowAt (i := m) (r := x.cells) (by rw [List.getElem?_map, hx]; rfl) (by simp [Kl.cells])
      have c0 : wr.cell? ⟨B, o + m * 4, none⟩ = some (.string x.nm) := hc 0 _ rfl
      have HSN := Lib.hid (map_take_snoc (f := Kl.nm) hx)
      have HLN : Hid (((l.take m).map Kl.nm).length ≤ 100000) := Lib.hid (by rw [List.length_map, List.length_take]; have := HL8.out; omega)
      clear hc hx
      go_wp2_with (at_builtin; refine wpList_append_S rfl _ _ 36 36 rfl w.heap.size 9 is _ 1 16 Try.underlying36 HIS.out.1 HIS.out.2.1 HIS.out.2.2.1 HIS.out.2.2.2 rfl u3 _ _ rfl (ownsRow_ext HO.out ((Ext.refl wr).alloc _)) _ 1 [.string x.nm] rfl (Src.ofSlice _ Try.underlying36 ⟨_, 0, none⟩ 1 1 _ rfl (one_cell (by simp)) (by simp [Value.oneCell'])) (by have := HLN.out; unfold maxLen; omega) (by have := HLN.out; omega) (by have := HE.out.size; simp; omega) ?_; intro vo w5 ho5 hg5; have HO5 := Lib.hid ho5; have HE5 := Lib.hid (Ext.own_step (HE.out.alloc _) hg5 (ownsRow_ext HO.out ((Ext.refl wr).alloc _))); clear ho5 hg5)
      go_roundw
      case rel =>
        refine ⟨m + 1, by go_num, by omega, ?_, HE5.out⟩
        rw [HSN.out, srows_app, List.flatten_append, List.length_append]
        exact HO5.out
      case measure => simp [intOf] <;> omega
    · have hmi : ¬ (m : Int) < (l.length : Int) := by omega
      obtain rfl : m = l.length := by omega
      rw [List.take_length] at HO
      obtain ⟨ra, rc, rfl, hrs, -⟩ := SL.of_own HO.out (srows_wid _) (by simp [srows])
      have HRS := Lib.hid hrs
      clear hrs
      go_wp2_with fail
      go_ret
      exact ⟨ra, rc, by rw [List.length_map]; rfl, HRS.out, HE.out⟩
set_option maxRecDepth 100000 in
set_option maxHeartbeats 6400000 in
theorem refTwice_b (c : Cat) (hk : c.Ok) (d : Adr) (w : World) (hX : RepX w d c) (bb : Bool) (hbt : ¬ c.once → bb = true) (hbf : c.once → bb = false) : Calls Try.prog 22 #[.agg (c.cells d).toArray] w fun e w' => e = .returned (.bool bb) ∧ Ext w w' := by
  have HBT := Lib.hid hbt
  have HBF := Lib.hid hbf
  clear hbt hbf
  obtain ⟨is, hs0, hs1, hs2, hs3⟩ := info_parts infoS
  have HIS := Lib.hid (And.intro hs0 (And.intro hs1 (And.intro hs2 hs3)))
  clear hs0 hs1 hs2 hs3
  obtain ⟨ii, hi0, hi1, hi2, hi3⟩ := info_parts infoI
  have HII := Lib.hid (And.intro hi0 (And.intro hi1 (And.intro hi2 hi3)))
  clear hi0 hi1 hi2 hi3
  have hXA : Ext w (w.alloc (.cells #[.slice d.a0 c.cs.length d.k0, .slice d.a1 c.sm.length d.k1, .slice d.a2 c.pg.length d.k2, .slice d.a3 c.kl.length d.k3, .slice d.a4 c.fe.length d.k4, .slice d.a5 c.ho.length d.k5, .slice d.a6 c.cu.length d.k6] 29)) := (Ext.refl w).alloc _
  have HCB : Hid (Row (w.alloc (.cells #[.slice d.a0 c.cs.length d.k0, .slice d.a1 c.sm.length d.k1, .slice d.a2 c.pg.length d.k2, .slice d.a3 c.kl.length d.k3, .slice d.a4 c.fe.length d.k4, .slice d.a5 c.ho.length d.k5, .slice d.a6 c.cu.length d.k6] 29)) w.heap.size 29 [.slice d.a0 c.cs.length d.k0, .slice d.a1 c.sm.length d.k1, .slice d.a2 c.pg.length d.k2, .slice d.a3 c.kl.length d.k3, .slice d.a4 c.fe.length d.k4, .slice d.a5 c.ho.length d.k5, .slice d.a6 c.cu.length d.k6]) := Lib.hid (by unfold Row; rw [heap_al, if_pos rfl])
  have HX := Lib.hid hX
  have HOK := Lib.hid hk
  have HXA := Lib.hid hXA
  have hz0 := hX.cs.max
  have hz2 := hX.pg.max
  have hz4 : (c.fe.length : Int) ≤ 9223372036854775807 := by have := hk.n4; omega
  have HO12 : Hid ((((w.alloc (.cells #[.slice d.a0 c.cs.length d.k0, .slice d.a1 c.sm.length d.k1, .slice d.a2 c.pg.length d.k2, .slice d.a3 c.kl.length d.k3, .slice d.a4 c.fe.length d.k4, .slice d.a5 c.ho.length d.k5, .slice d.a6 c.cu.length d.k6] 29)).alloc (.cells #[] 9)).alloc (.cells #[] 3)).ownsRow (w.alloc (.cells #[.slice d.a0 c.cs.length d.k0, .slice d.a1 c.sm.length d.k1, .slice d.a2 c.pg.length d.k2, .slice d.a3 c.kl.length d.k3, .slice d.a4 c.fe.length d.k4, .slice d.a5 c.ho.length d.k5, .slice d.a6 c.cu.length d.k6] 29)).heap.size 9 1 (.slice (some ⟨w.heap.size + 1, 0, none⟩) 0 0) 0 [] ∧ (((w.alloc (.cells #[.slice d.a0 c.cs.length d.k0, .slice d.a1 c.sm.length d.k1, .slice d.a2 c.pg.length d.k2, .slice d.a3 c.kl.length d.k3, .slice d.a4 c.fe.length d.k4, .slice d.a5 c.ho.length d.k5, .slice d.a6 c.cu.length d.k6] 29)).alloc (.cells #[] 9)).alloc (.cells #[] 3)).ownsRow (w.alloc (.cells #[.slice d.a0 c.cs.length d.k0, .slice d.a1 c.sm.length d.k1, .slice d.a2 c.pg.length d.k2, .slice d.a3 c.kl.length d.k3, .slice d.a4 c.fe.length d.k4, .slice d.a5 c.ho.length d.k5, .slice d.a6 c.cu.length d.k6] 29)).heap.size 3 1 (.slice (some ⟨w.heap.size + 1 + 1, 0, none⟩) 0 0) 0 [] ∧ Ext (w.alloc (.cells #[.slice d.a0 c.cs.length d.k0, .slice d.a1 c.sm.length d.k1, .slice d.a2 c.pg.length d.k2, .slice d.a3 c.kl.length d.k3, .slice d.a4 c.fe.length d.k4, .slice d.a5 c.ho.length d.k5, .slice d.a6 c.cu.length d.k6] 29)) (((w.alloc (.cells #[.slice d.a0 c.cs.length d.k0, .slice d.a1 c.sm.length d.k1, .slice d.a2 c.pg.length d.k2, .slice d.a3 c.kl.length d.k3, .slice d.a4 c.fe.length d.k4, .slice d.a5 c.ho.length d.k5, .slice d.a6 c.cu.length d.k6] 29)).alloc (.cells #[] 9)).alloc (.cells #[] 3))) := Lib.hid ⟨by
      have h := ownsRow_ext (own_empty (w.alloc (.cells #[.slice d.a0 c.cs.length d.k0, .slice d.a1 c.sm.length d.k1, .slice d.a2 c.pg.length d.k2, .slice d.a3 c.kl.length d.k3, .slice d.a4 c.fe.length d.k4, .slice d.a5 c.ho.length d.k5, .slice d.a6 c.cu.length d.k6] 29)) (w.alloc (.cells #[.slice d.a0 c.cs.length d.k0, .slice d.a1 c.sm.length d.k1, .slice d.a2 c.pg.length d.k2, .slice d.a3 c.kl.length d.k3, .slice d.a4 c.fe.length d.k4, .slice d.a5 c.ho.length d.k5, .slice d.a6 c.cu.length d.k6] 29)).heap.size (Nat.le_refl _) 9 1) ((Ext.refl _).alloc (.cells #[] 3))
      simp only [World.size_alloc] at h ⊢
      exact h, by
      have h := own_empty ((w.alloc (.cells #[.slice d.a0 c.cs.length d.k0, .slice d.a1 c.sm.length d.k1, .slice d.a2 c.pg.length d.k2, .slice d.a3 c.kl.length d.k3, .slice d.a4 c.fe.length d.k4, .slice d.a5 c.ho.length d.k5, .slice d.a6 c.cu.length d.k6] 29)).alloc (.cells #[] 9)) (w.alloc (.cells #[.slice d.a0 c.cs.length d.k0, .slice d.a1 c.sm.length d.k1, .slice d.a2 c.pg.length d.k2, .slice d.a3 c.kl.length d.k3, .slice d.a4 c.fe.length d.k4, .slice d.a5 c.ho.length d.k5, .slice d.a6 c.cu.length d.k6] 29)).heap.size (by simp) 3 1
      simp only [World.size_alloc] at h ⊢
      exact h, ((Ext.refl _).alloc _).alloc _⟩
  clear hX hk hXA
  unfold Cat.cells
  go_enter Try.func22, Try.ntmps22
  go_wp2_with fail
  obtain ⟨wY, hwY⟩ : ∃ wY, ((w.alloc (.cells #[.slice d.a0 c.cs.length d.k0, .slice d.a1 c.sm.length d.k1, .slice d.a2 c.pg.length d.k2, .slice d.a3 c.kl.length d.k3, .slice d.a4 c.fe.length d.k4, .slice d.a5 c.ho.length d.k5, .slice d.a6 c.cu.length d.k6] 29)).alloc (.cells #[] 9)).alloc (.cells #[] 3) = wY := ⟨_, rfl⟩
  rw [hwY] at HO12
  rw [hwY]
  clear hwY
  generalize (w.alloc (.cells #[.slice d.a0 c.cs.length d.k0, .slice d.a1 c.sm.length d.k1, .slice d.a2 c.pg.length d.k2, .slice d.a3 c.kl.length d.k3, .slice d.a4 c.fe.length d.k4, .slice d.a5 c.ho.length d.k5, .slice d.a6 c.cu.length d.k6] 29)) = w1 at *
  go_loopw [3, 4, 5] (fun u v iv wr => ∃ m : Nat, iv = .int .i64 m ∧ m ≤ c.cs.length ∧ wr.ownsRow w1.heap.size 9 1 u ((c.cs.take m).map Cr.nm).length (srows ((c.cs.take m).map Cr.nm)).flatten ∧ wr.ownsRow w1.heap.size 3 1 v ((c.cs.take m).map Cr.nu).length (irows ((c.cs.take m).map Cr.nu)).flatten ∧ Apart2 u v ∧ Ext w1 wr) (fun _ _ iv _ => c.cs.length - (intOf iv).toNat)
  case atStart => exact ⟨0, rfl, by omega, HO12.out.1, HO12.out.2.1, apart_empty (by omega), HO12.out.2.2⟩
  case round =>
    obtain ⟨m, rfl, hm, hN, hU, hap, hE⟩ := hrel
    have HN := Lib.hid hN
    have HU := Lib.hid hU
    have HAP := Lib.hid hap
    have HE := Lib.hid hE
    have b0 := (HCB.out.kpC hE.kpC).cell (j := 0) rfl
    clear hN hU hap hE
    by_cases hlt : m < c.cs.length
    · have hmi : (m : Int) < (c.cs.length : Int) := by omega
      obtain ⟨x, hx⟩ : ∃ x, c.cs[m]? = some x := ⟨_, List.getElem?_eq_getElem hlt⟩
      obtain ⟨B, o, _, _, _, _, ea0, -, -, -, -, -, hcells⟩ := (HX.out.cs.ext HXA.out).at hx
      have HCU : Hid (w1.cell? ⟨B, o + m * 16 + 1, none⟩ = some (.int .i64 x.nu)) := Lib.hid (hcells 1 _ rfl)
      have HCU2 := HCU
      have c0 : wr.cell? ⟨B, o + m * 16, none⟩ = some (.string x.nm) := HE.out.cell (hcells 0 _ rfl)
      have HSN := Lib.hid (And.intro (map_take_snoc (f := Cr.nm) hx) (map_take_snoc (f := Cr.nu) hx))
      have HLN : Hid (((c.cs.take m).map Cr.nm).length ≤ 100000 ∧ ((c.cs.take m).map Cr.nu).length ≤ 100000) := Lib.hid ⟨by rw [List.length_map, List.length_take]; have := HOK.out.n0; omega, by rw [List.length_map, List.length_take]; have := HOK.out.n0; omega⟩
      clear hcells hx
      rw [ea0] at b0 HCB
      rw [ea0]
      go_wp2_with (first | (at_builtin; refine wpList_append_S rfl _ _ 36 36 rfl w1.heap.size 9 is _ 1 16 Try.underlying36 HIS.out.1 HIS.out.2.1 HIS.out.2.2.1 HIS.out.2.2.2 rfl _ _ _ rfl (ownsRow_ext HN.out ((Ext.refl wr).alloc _)) _ 1 [.string x.nm] rfl (Src.ofSlice _ Try.underlying36 ⟨_, 0, none⟩ 1 1 _ rfl (one_cell (by simp)) (by simp [Value.oneCell'])) (by have := HLN.out.1; unfold maxLen; omega) (by have := HLN.out.1; omega) (by have := HE.out.size; simp; omega) ?_; intro vn wn hon hgn; have HON := Lib.hid hon; have HTW := Lib.hid (two_rows HU.out HAP.out hgn); have HEN := Lib.hid (Ext.own_step (HE.out.alloc _) hgn (ownsRow_ext HN.out ((Ext.refl wr).alloc _))); have q0 := (HCB.out.kpC HEN.out.kpC).cell (j := 0) rfl; have q1 := HEN.out.cell HCU.out; have q2 := HEN.out.cell HCU2.out; clear hon hgn) | (at_builtin; refine wpList_append_S rfl _ _ 45 45 rfl w1.heap.size 3 ii _ 1 8 Try.underlying45 HII.out.1 HII.out.2.1 HII.out.2.2.1 HII.out.2.2.2 rfl _ _ _ rfl (ownsRow_ext HTW.out.1 ((Ext.refl wn).alloc _)) _ 1 [.int .i64 x.nu] rfl (Src.ofSlice _ Try.underlying45 ⟨_, 0, none⟩ 1 1 _ rfl (one_cell (by simp)) (by simp [Value.oneCell'])) (by have := HLN.out.2; unfold maxLen; omega) (by have := HLN.out.2; omega) (by have := HEN.out.size; simp; omega) ?_; intro vu wu hou hgu; have HOU := Lib.hid hou; have HTV := Lib.hid (two_rows HON.out HTW.out.2.symm hgu); have HEU := Lib.hid (Ext.own_step (HEN.out.alloc _) hgu (ownsRow_ext HTW.out.1 ((Ext.refl wn).alloc _))); have p0 := (HCB.out.kpC HEU.out.kpC).cell (j := 0) rfl; have p2 := HEU.out.cell HCU2.out; clear hou hgu))
      go_roundw
      case rel =>
        refine ⟨m + 1, by go_num, by omega, ?_, ?_, HTV.out.2.symm, HEU.out⟩
        · rw [HSN.out.1, srows_app, List.flatten_append, List.length_append]
          exact HTV.out.1
        · rw [HSN.out.2, irows_app, List.flatten_append, List.length_append]
          exact HOU.out
      case measure => simp [intOf] <;> omega
    · have hmi : ¬ (m : Int) < (c.cs.length : Int) := by omega
      obtain rfl : m = c.cs.length := by omega
      rw [List.take_length] at HN HU
      obtain ⟨ra, rc, rfl, hrs, -⟩ := SL.of_own HN.out (srows_wid _) (by simp [srows])
      obtain ⟨rb, rd, rfl, hru, -⟩ := SL.of_own HU.out (irows_wid _) (by simp [irows])
      have HRS := Lib.hid hrs
      have HRU := Lib.hid hru
      clear hrs hru
      go_wp2_with fail
      clear b0
      rcases Classical.em (c.cs.map Cr.nm).Nodup with g1 | g1
      · have t1 := twiceS_any (c.cs.map Cr.nm) ra rc _ HRS.out
        rw [List.length_map, dec_f g1] at t1
        refine t1.mono ?_
        rintro e w3 ⟨rfl, hE3⟩
        have HE3 := Lib.hid hE3
        clear t1 hE3
        go_wp2_with fail
        rcases Classical.em (c.cs.map Cr.nu).Nodup with g2 | g2
        · have t2 := twiceI_any (c.cs.map Cr.nu) rb rd _ (HRU.out.ext HE3.out)
          rw [List.length_map, dec_f g2] at t2
          refine t2.mono ?_
          rintro e w4 ⟨rfl, hE4⟩
          have HE4 := Lib.hid (HXA.out.trans (HE.out.trans (HE3.out.trans hE4)))
          have HCB4 := Lib.hid (HCB.out.kpC (HE.out.trans (HE3.out.trans hE4)).kpC)
          have HG1 := Lib.hid (And.intro g1 g2)
          clear t2 hE4 g1 g2 HCB
          have HCB := HCB4
          have HO34 : Hid (((w4.alloc (.cells #[] 9)).alloc (.cells #[] 3)).ownsRow w4.heap.size 9 1 (.slice (some ⟨w4.heap.size, 0, none⟩) 0 0) 0 [] ∧ ((w4.alloc (.cells #[] 9)).alloc (.cells #[] 3)).ownsRow w4.heap.size 3 1 (.slice (some ⟨w4.heap.size + 1, 0, none⟩) 0 0) 0 [] ∧ Ext w4 ((w4.alloc (.cells #[] 9)).alloc (.cells #[] 3))) := Lib.hid ⟨ownsRow_ext (own_empty w4 w4.heap.size (Nat.le_refl _) 9 1) ((Ext.refl _).alloc _), by
            have h := own_empty (w4.alloc (.cells #[] 9)) w4.heap.size (by simp) 3 1
            simp only [World.size_alloc] at h ⊢
            exact h, ((Ext.refl w4).alloc _).alloc _⟩
          go_wp2_with fail
          obtain ⟨wZ, hwZ⟩ : ∃ wZ, (w4.alloc (.cells #[] 9)).alloc (.cells #[] 3) = wZ := ⟨_, rfl⟩
          rw [hwZ] at HO34
          rw [hwZ]
          clear hwZ
          go_loopw [3, 4, 6] (fun u v iv wr => ∃ m : Nat, iv = .int .i64 m ∧ m ≤ c.pg.length ∧ wr.ownsRow w4.heap.size 9 1 u ((c.pg.take m).map Pg.nm).length (srows ((c.pg.take m).map Pg.nm)).flatten ∧ wr.ownsRow w4.heap.size 3 1 v ((c.pg.take m).map Pg.nu).length (irows ((c.pg.take m).map Pg.nu)).flatten ∧ Apart2 u v ∧ Ext w4 wr ∧ ∀ q ∈ c.pg.take m, (q.rq.map Rq.nm).Nodup) (fun _ _ iv _ => c.pg.length - (intOf iv).toNat)
          case atStart => exact ⟨0, rfl, by omega, HO34.out.1, HO34.out.2.1, apart_empty (by omega), HO34.out.2.2, fun q hq => by cases hq⟩
          case round =>
            obtain ⟨m, rfl, hm, hN, hU, hap, hE, hnd⟩ := hrel
            have HN := Lib.hid hN
            have HU := Lib.hid hU
            have HAP := Lib.hid hap
            have HE := Lib.hid hE
            have HDN := Lib.hid hnd
            have b2 := (HCB.out.kpC hE.kpC).cell (j := 2) rfl
            clear hN hU hap hE hnd
            by_cases hlt : m < c.pg.length
            · have hmi : (m : Int) < (c.pg.length : Int) := by omega
              obtain ⟨x, hx⟩ : ∃ x, c.pg[m]? = some x := ⟨_, List.getElem?_eq_getElem hlt⟩
              obtain ⟨B, o, qa, qk, ea2, hq, hcells⟩ := (HX.out.pg.ext HE4.out).at hx
              have HCU : Hid (w4.cell? ⟨B, o + m * 7 + 1, none⟩ = some (.int .i64 x.nu)) := Lib.hid (hcells 1 _ rfl)
              have HCU2 : Hid (w4.cell? ⟨B, o + m * 7 + 6, none⟩ = some (.slice qa x.rq.length qk)) := Lib.hid (hcells 6 _ rfl)
              have c0 : wr.cell? ⟨B, o + m * 7, none⟩ = some (.string x.nm) := HE.out.cell (hcells 0 _ rfl)
              have HSN := Lib.hid (And.intro (map_take_snoc (f := Pg.nm) hx) (map_take_snoc (f := Pg.nu) hx))
              have HLN : Hid (((c.pg.take m).map Pg.nm).length ≤ 100000 ∧ ((c.pg.take m).map Pg.nu).length ≤ 100000) := Lib.hid ⟨by rw [List.length_map, List.length_take]; have := HOK.out.n2; omega, by rw [List.length_map, List.length_take]; have := HOK.out.n2; omega⟩
              have HQ := Lib.hid hq
              have HXM := Lib.hid hx
              have HQL : Hid (x.rq.length ≤ 1000) := Lib.hid (HOK.out.rq x (List.mem_of_getElem? hx)).1
              have hs5 := hq.max
              clear hcells hx hq
              rw [ea2] at b2 HCB
              rw [ea2]
              go_wp2_with (first | (at_builtin; refine wpList_append_S rfl _ _ 36 36 rfl w4.heap.size 9 is _ 1 16 Try.underlying36 HIS.out.1 HIS.out.2.1 HIS.out.2.2.1 HIS.out.2.2.2 rfl _ _ _ rfl (ownsRow_ext HN.out ((Ext.refl wr).alloc _)) _ 1 [.string x.nm] rfl (Src.ofSlice _ Try.underlying36 ⟨_, 0, none⟩ 1 1 _ rfl (one_cell (by simp)) (by simp [Value.oneCell'])) (by have := HLN.out.1; unfold maxLen; omega) (by have := HLN.out.1; omega) (by have := HE.out.size; simp; omega) ?_; intro vn wn hon hgn; have HON := Lib.hid hon; have HTW := Lib.hid (two_rows HU.out HAP.out hgn); have HEN := Lib.hid (Ext.own_step (HE.out.alloc _) hgn (ownsRow_ext HN.out ((Ext.refl wr).alloc _))); have q0 := (HCB.out.kpC HEN.out.kpC).cell (j := 2) rfl; have q1 := HEN.out.cell HCU.out; have q2 := HEN.out.cell HCU2.out; clear hon hgn) | (at_builtin; refine wpList_append_S rfl _ _ 45 45 rfl w4.heap.size 3 ii _ 1 8 Try.underlying45 HII.out.1 HII.out.2.1 HII.out.2.2.1 HII.out.2.2.2 rfl _ _ _ rfl (ownsRow_ext HTW.out.1 ((Ext.refl wn).alloc _)) _ 1 [.int .i64 x.nu] rfl (Src.ofSlice _ Try.underlying45 ⟨_, 0, none⟩ 1 1 _ rfl (one_cell (by simp)) (by simp [Value.oneCell'])) (by have := HLN.out.2; unfold maxLen; omega) (by have := HLN.out.2; omega) (by have := HEN.out.size; simp; omega) ?_; intro vu wu hou hgu; have HOU := Lib.hid hou; have HTV := Lib.hid (two_rows HON.out HTW.out.2.symm hgu); have HEU := Lib.hid (Ext.own_step (HEN.out.alloc _) hgu (ownsRow_ext HTW.out.1 ((Ext.refl wn).alloc _))); have p0 := (HCB.out.kpC HEU.out.kpC).cell (j := 2) rfl; have p2 := HEU.out.cell HCU2.out; clear hou hgu))
              have HO7 := Lib.hid (own_empty wu wu.heap.size (Nat.le_refl _) 9 1)
              clear b2 c0 q0 q1 q2
              go_loopw [7, 8] (fun v iv wr => ∃ k : Nat, iv = .int .i64 k ∧ k ≤ x.rq.length ∧ wr.ownsRow wu.heap.size 9 1 v ((x.rq.take k).map Rq.nm).length (srows ((x.rq.take k).map Rq.nm)).flatten ∧ Ext wu wr) (fun _ iv _ => x.rq.length - (intOf iv).toNat)
              case atStart => exact ⟨0, rfl, by omega, HO7.out, (Ext.refl wu).alloc _⟩
              case round =>
                obtain ⟨k, rfl, hk, hI, hEI⟩ := hrel
                have HI := Lib.hid hI
                have HEI := Lib.hid hEI
                replace p0 := hEI.cell p0
                replace p2 := hEI.cell p2
                clear hI hEI
                by_cases hlk : k < x.rq.length
                · have hki : (k : Int) < (x.rq.length : Int) := by omega
                  obtain ⟨q, hq⟩ : ∃ q, x.rq[k]? = some q := ⟨_, List.getElem?_eq_getElem hlk⟩
                  obtain ⟨B2, o2, _, _, _, _, eqa, -, -, hcells⟩ := (HQ.out.ext (HEU.out.trans HEI.out)).at hq
                  have d0 : wr.cell? ⟨B2, o2 + k * 6, none⟩ = some (.string q.nm) := hcells 0 _ rfl
                  have HSK := Lib.hid (map_take_snoc (f := Rq.nm) hq)
                  have HLI : Hid (((x.rq.take k).map Rq.nm).length ≤ 100000) := Lib.hid (by rw [List.length_map, List.length_take]; have := HQL.out; omega)
                  clear hcells hq
                  rw [eqa] at p2
                  go_wp2_with (at_builtin; refine wpList_append_S rfl _ _ 36 36 rfl wu.heap.size 9 is _ 1 16 Try.underlying36 HIS.out.1 HIS.out.2.1 HIS.out.2.2.1 HIS.out.2.2.2 rfl _ _ _ rfl (ownsRow_ext HI.out ((Ext.refl wr).alloc _)) _ 1 [.string q.nm] rfl (Src.ofSlice _ Try.underlying36 ⟨_, 0, none⟩ 1 1 _ rfl (one_cell (by simp)) (by simp [Value.oneCell'])) (by have := HLI.out; unfold maxLen; omega) (by have := HLI.out; omega) (by have := HEI.out.size; simp; omega) ?_; intro vo w9 ho9 hg9; have HO9 := Lib.hid ho9; have HE9 := Lib.hid (Ext.own_step (HEI.out.alloc _) hg9 (ownsRow_ext HI.out ((Ext.refl wr).alloc _))); clear ho9 hg9)
                  go_roundw
                  case rel =>
                    refine ⟨k + 1, by go_num, by omega, ?_, HE9.out⟩
                    rw [HSK.out, srows_app, List.flatten_append, List.length_append]
                    exact HO9.out
                  case measure => simp [intOf] <;> omega
                · have hki : ¬ (k : Int) < (x.rq.length : Int) := by omega
                  obtain rfl : k = x.rq.length := by omega
                  rw [List.take_length] at HI
                  obtain ⟨ja, jc, rfl, hjs, -⟩ := SL.of_own HI.out (srows_wid _) (by simp [srows])
                  have HJS := Lib.hid hjs
                  clear hjs
                  go_wp2_with fail
                  clear p0 p2
                  rcases Classical.em (x.rq.map Rq.nm).Nodup with g5 | g5
                  · have t5 := twiceS_any (x.rq.map Rq.nm) ja jc _ HJS.out
                    rw [List.length_map, dec_f g5] at t5
                    refine t5.mono ?_
                    rintro e w10 ⟨rfl, hE10⟩
                    have HE10 := Lib.hid (HEI.out.trans hE10)
                    have HND := Lib.hid (all_take_nodup HDN.out HXM.out g5)
                    clear t5 hE10 g5
                    go_wp2_with fail
                    go_roundw
                    case rel =>
                      refine ⟨m + 1, by go_num, by omega, ?_, ?_, HTV.out.2.symm, HEU.out.trans HE10.out, HND.out⟩
                      · rw [HSN.out.1, srows_app, List.flatten_append, List.length_append]
                        exact ownsRow_ext HTV.out.1 HE10.out
                      · rw [HSN.out.2, irows_app, List.flatten_append, List.length_append]
                        exact ownsRow_ext HOU.out HE10.out
                    case measure => simp [intOf] <;> omega
                  · have t5 := twiceS_any (x.rq.map Rq.nm) ja jc _ HJS.out
                    rw [List.length_map, dec_t g5] at t5
                    refine t5.mono ?_
                    rintro e w10 ⟨rfl, hE10⟩
                    have HE10 := Lib.hid (HE4.out.trans (HEU.out.trans (HEI.out.trans hE10)))
                    clear t5 hE10
                    go_wp2_with fail
                    go_ret
                    exact ⟨ret_bool (HBT.out (fun h => g5 (h.2.2.2.2.1 x (List.mem_of_getElem? HXM.out)))).symm, HE10.out⟩
            · have hmi : ¬ (m : Int) < (c.pg.length : Int) := by omega
              obtain rfl : m = c.pg.length := by omega
              rw [List.take_length] at HN HU HDN
              obtain ⟨na, nc, rfl, hns, -⟩ := SL.of_own HN.out (srows_wid _) (by simp [srows])
              obtain ⟨ua, uc, rfl, hus, -⟩ := SL.of_own HU.out (irows_wid _) (by simp [irows])
              have HNS := Lib.hid hns
              have HUS := Lib.hid hus
              have HE5 := Lib.hid (HE4.out.trans HE.out)
              have HCB5 := Lib.hid (HCB.out.kpC HE.out.kpC)
              clear hns hus HCB
              have HCB := HCB5
              have HO9 := Lib.hid (own_empty wr wr.heap.size (Nat.le_refl _) 9 1)
              obtain ⟨w6, rfl⟩ : ∃ w6, w6 = wr := ⟨_, rfl⟩
              go_wp2_with fail
              clear b2
              go_loopw [9, 10] (fun v iv wr => ∃ k : Nat, iv = .int .i64 k ∧ k ≤ c.fe.length ∧ wr.ownsRow w6.heap.size 9 1 v ((c.fe.take k).map Fe.nm).length (srows ((c.fe.take k).map Fe.nm)).flatten ∧ Ext w6 wr) (fun _ iv _ => c.fe.length - (intOf iv).toNat)
              case atStart => exact ⟨0, rfl, by omega, HO9.out, (Ext.refl w6).alloc _⟩
              case round =>
                obtain ⟨k, rfl, hk, hI, hEI⟩ := hrel
                have HI := Lib.hid hI
                have HEI := Lib.hid hEI
                have b4 := (HCB.out.kpC hEI.kpC).cell (j := 4) rfl
                clear hI hEI
                by_cases hlk : k < c.fe.length
                · have hki : (k : Int) < (c.fe.length : Int) := by omega
                  obtain ⟨x, hx⟩ : ∃ x, c.fe[k]? = some x := ⟨_, List.getElem?_eq_getElem hlk⟩
                  obtain ⟨B2, o2, ea4, hcells⟩ := (HX.out.fe.ext (HE5.out.trans HEI.out)).rowAt (i := k) (r := x.cells) (by rw [List.getElem?_map, hx]; rfl) (by simp [Fe.cells])
                  have d0 : wr.cell? ⟨B2, o2 + k * 2, none⟩ = some (.string x.nm) := hcells 0 _ rfl
                  have HSK := Lib.hid (map_take_snoc (f := Fe.nm) hx)
                  have HLI : Hid (((c.fe.take k).map Fe.nm).length ≤ 100000) := Lib.hid (by rw [List.length_map, List.length_take]; have := HOK.out.n4; omega)
                  clear hcells hx
                  rw [ea4] at b4
                  rw [ea4]
                  go_wp2_with (at_builtin; refine wpList_append_S rfl _ _ 36 36 rfl w6.heap.size 9 is _ 1 16 Try.underlying36 HIS.out.1 HIS.out.2.1 HIS.out.2.2.1 HIS.out.2.2.2 rfl _ _ _ rfl (ownsRow_ext HI.out ((Ext.refl wr).alloc _)) _ 1 [.string x.nm] rfl (Src.ofSlice _ Try.underlying36 ⟨_, 0, none⟩ 1 1 _ rfl (one_cell (by simp)) (by simp [Value.oneCell'])) (by have := HLI.out; unfold maxLen; omega) (by have := HLI.out; omega) (by have := HEI.out.size; simp; omega) ?_; intro vo w9 ho9 hg9; have HO9 := Lib.hid ho9; have HE9 := Lib.hid (Ext.own_step (HEI.out.alloc _) hg9 (ownsRow_ext HI.out ((Ext.refl wr).alloc _))); clear ho9 hg9)
                  go_roundw
                  case rel =>
                    refine ⟨k + 1, by go_num, by omega, ?_, HE9.out⟩
                    rw [HSK.out, srows_app, List.flatten_append, List.length_append]
                    exact HO9.out
                  case measure => simp [intOf] <;> omega
                · have hki : ¬ (k : Int) < (c.fe.length : Int) := by omega
                  obtain rfl : k = c.fe.length := by omega
                  rw [List.take_length] at HI
                  obtain ⟨ja, jc, rfl, hjs, -⟩ := SL.of_own HI.out (srows_wid _) (by simp [srows])
                  have HJS := Lib.hid hjs
                  clear hjs
                  go_wp2_with fail
                  clear b4
                  have HXW := Lib.hid HE5.out
                  have HRR := Lib.hid (Ext.refl wr)
                  rcases Classical.em (c.pg.map Pg.nm).Nodup with g3 | g3
                  · have t := twiceS_any (c.pg.map Pg.nm) na nc _ (HNS.out.ext HEI.out)
                    rw [List.length_map, dec_f g3] at t
                    refine t.mono ?_
                    rintro e Wg3 ⟨rfl, hE⟩
                    have HEg3 := Lib.hid (HRR.out.trans hE)
                    clear t hE
                    go_wp2_with fail
                    rcases Classical.em (c.pg.map Pg.nu).Nodup with g4 | g4
                    · have t := twiceI_any (c.pg.map Pg.nu) ua uc _ (HUS.out.ext (HEI.out.trans HEg3.out))
                      rw [List.length_map, dec_f g4] at t
                      refine t.mono ?_
                      rintro e Wg4 ⟨rfl, hE⟩
                      have HEg4 := Lib.hid (HEg3.out.trans hE)
                      clear t hE
                      have b3 := (HCB.out.kpC (HEI.out.trans HEg4.out).kpC).cell (j := 3) rfl
                      go_wp2_with fail
                      refine (classes_any c.kl (by have := HOK.out.n3; omega) d.a3 d.k3 _ (HX.out.kl.ext (HE5.out.trans (HEI.out.trans HEg4.out)))).mono ?_
                      rintro e WC6 ⟨ya6, yc6, rfl, hy, hE⟩
                      have HY6 := Lib.hid hy
                      have HEC6 := Lib.hid (HEg4.out.trans hE)
                      clear hy hE b3
                      go_wp2_with fail
                      rcases Classical.em (c.kl.map Kl.nm).Nodup with g6 | g6
                      · have t := twiceS_any (c.kl.map Kl.nm) ya6 yc6 _ HY6.out
                        rw [List.length_map, dec_f g6] at t
                        refine t.mono ?_
                        rintro e Wg6 ⟨rfl, hE⟩
                        have HEg6 := Lib.hid (HEC6.out.trans hE)
                        clear t hE
                        go_wp2_with fail
                        rcases Classical.em (c.fe.map Fe.nm).Nodup with g7 | g7
                        · have t := twiceS_any (c.fe.map Fe.nm) ja jc _ (HJS.out.ext HEg6.out)
                          rw [List.length_map, dec_f g7] at t
                          refine t.mono ?_
                          rintro e Wg7 ⟨rfl, hE⟩
                          have HEg7 := Lib.hid (HEg6.out.trans hE)
                          clear t hE
                          have b5 := (HCB.out.kpC (HEI.out.trans HEg7.out).kpC).cell (j := 5) rfl
                          go_wp2_with fail
                          refine (classes_any c.ho (by have := HOK.out.n5; omega) d.a5 d.k5 _ (HX.out.ho.ext (HE5.out.trans (HEI.out.trans HEg7.out)))).mono ?_
                          rintro e WC8 ⟨ya8, yc8, rfl, hy, hE⟩
                          have HY8 := Lib.hid hy
                          have HEC8 := Lib.hid (HEg7.out.trans hE)
                          clear hy hE b5
                          go_wp2_with fail
                          rcases Classical.em (c.ho.map Kl.nm).Nodup with g8 | g8
                          · have t := twiceS_any (c.ho.map Kl.nm) ya8 yc8 _ HY8.out
                            rw [List.length_map, dec_f g8] at t
                            refine t.mono ?_
                            rintro e Wg8 ⟨rfl, hE⟩
                            have HEg8 := Lib.hid (HEC8.out.trans hE)
                            clear t hE
                            go_wp2_with fail
                            go_ret
                            exact ⟨ret_bool (HBF.out ⟨HG1.out.1, HG1.out.2, g3, g4, HDN.out, g6, g7, g8⟩).symm, HXW.out.trans (HEI.out.trans HEg8.out)⟩
                          · have t := twiceS_any (c.ho.map Kl.nm) ya8 yc8 _ HY8.out
                            rw [List.length_map, dec_t g8] at t
                            refine t.mono ?_
                            rintro e Wg8 ⟨rfl, hE⟩
                            have HEg8 := Lib.hid (HEC8.out.trans hE)
                            clear t hE
                            go_wp2_with fail
                            go_ret
                            exact ⟨ret_bool (HBT.out (fun h => g8 h.2.2.2.2.2.2.2)).symm, HXW.out.trans (HEI.out.trans HEg8.out)⟩
                        · have t := twiceS_any (c.fe.map Fe.nm) ja jc _ (HJS.out.ext HEg6.out)
                          rw [List.length_map, dec_t g7] at t
                          refine t.mono ?_
                          rintro e Wg7 ⟨rfl, hE⟩
                          have HEg7 := Lib.hid (HEg6.out.trans hE)
                          clear t hE
                          go_wp2_with fail
                          go_ret
                          exact ⟨ret_bool (HBT.out (fun h => g7 h.2.2.2.2.2.2.1)).symm, HXW.out.trans (HEI.out.trans HEg7.out)⟩
                      · have t := twiceS_any (c.kl.map Kl.nm) ya6 yc6 _ HY6.out
                        rw [List.length_map, dec_t g6] at t
                        refine t.mono ?_
                        rintro e Wg6 ⟨rfl, hE⟩
                        have HEg6 := Lib.hid (HEC6.out.trans hE)
                        clear t hE
                        go_wp2_with fail
                        go_ret
                        exact ⟨ret_bool (HBT.out (fun h => g6 h.2.2.2.2.2.1)).symm, HXW.out.trans (HEI.out.trans HEg6.out)⟩
                    · have t := twiceI_any (c.pg.map Pg.nu) ua uc _ (HUS.out.ext (HEI.out.trans HEg3.out))
                      rw [List.length_map, dec_t g4] at t
                      refine t.mono ?_
                      rintro e Wg4 ⟨rfl, hE⟩
                      have HEg4 := Lib.hid (HEg3.out.trans hE)
                      clear t hE
                      go_wp2_with fail
                      go_ret
                      exact ⟨ret_bool (HBT.out (fun h => g4 h.2.2.2.1)).symm, HXW.out.trans (HEI.out.trans HEg4.out)⟩
                  · have t := twiceS_any (c.pg.map Pg.nm) na nc _ (HNS.out.ext HEI.out)
                    rw [List.length_map, dec_t g3] at t
                    refine t.mono ?_
                    rintro e Wg3 ⟨rfl, hE⟩
                    have HEg3 := Lib.hid (HRR.out.trans hE)
                    clear t hE
                    go_wp2_with fail
                    go_ret
                    exact ⟨ret_bool (HBT.out (fun h => g3 h.2.2.1)).symm, HXW.out.trans (HEI.out.trans HEg3.out)⟩
        · have t2 := twiceI_any (c.cs.map Cr.nu) rb rd _ (HRU.out.ext HE3.out)
          rw [List.length_map, dec_t g2] at t2
          refine t2.mono ?_
          rintro e w4 ⟨rfl, hE4⟩
          have HE4 := Lib.hid (HXA.out.trans (HE.out.trans (HE3.out.trans hE4)))
          clear t2 hE4
          go_wp2_with fail
          go_ret
          exact ⟨ret_bool (HBT.out (fun h => g2 h.2.1)).symm, HE4.out⟩
      · have t1 := twiceS_any (c.cs.map Cr.nm) ra rc _ HRS.out
        rw [List.length_map, dec_t g1] at t1
        refine t1.mono ?_
        rintro e w3 ⟨rfl, hE3⟩
        have HE3 := Lib.hid (HXA.out.trans (HE.out.trans hE3))
        clear t1 hE3
        go_wp2_with fail
        go_ret
        exact ⟨ret_bool (HBT.out (fun h => g1 h.1)).symm, HE3.out⟩
theorem refTwice_any (c : Cat) (hk : c.Ok) (d : Adr) (w : World) (hX : RepX w d c) : Calls Try.prog 22 #[.agg (c.cells d).toArray] w fun e w' => e = .returned (.bool (decide (¬ c.once))) ∧ Ext w w' :=
  refTwice_b c hk d w hX _ (fun h => decide_eq_true h) (fun h => decide_eq_false fun k => k h)
end Go.Proofs.Ytimigpfoflilcaa
