/- Petitions: look, the iterator over what is looked at. -/
import Derived.Test.YtbniicobkhiniaaFC
import Derived.Test.YtbniicobkhiniaaRG4
namespace Go.Sz
open Go.RowKit
/-- the term behind a term, as the machine reckons it -/
def sucT (t : Int) : Int := IntKind.i64.wrap (t + 1)
theorem sucT_one (l : List Ft) (k : Ky) {t : Int} (kn : Int) (ht : inI64 t) : ptsF l k t (sucT t) kn = if 0 ≤ t ∧ t < 1024 ∧ 0 ≤ valF l k t kn then [(t, valF l k t kn)] else [] := by
  unfold inI64 at ht
  have hs : (t < 9223372036854775807 ∧ sucT t = t + 1) ∨ (t = 9223372036854775807 ∧ sucT t = -9223372036854775808) := by
    unfold sucT
    simp [IntKind.wrap, IntKind.bits, IntKind.signed]
    omega
  rcases hs with ⟨h1, h2⟩ | ⟨h1, h2⟩
  · rw [h2, ptsF_one]
  · rw [h2, if_neg (by omega)]
    unfold ptsF
    rw [rngF_nil (by omega)]
    rfl
/-- the last value of points -/
def lastV (ps : List (Int × Int)) : Int := match ps with
  | [] => 0
  | p :: _ => p.2
theorem lookF_last (l : List Ft) (k : Ky) {t : Int} (kn : Int) (ht : inI64 t) : lookF l k t kn = lastV (ptsF l k t (sucT t) kn) := by
  rw [sucT_one l k kn ht]
  unfold lookF
  split <;> rfl
theorem pts_cases (l : List Ft) (k : Ky) {t : Int} (kn : Int) (ht : inI64 t) : (ptsF l k t (sucT t) kn = [] ∧ lookF l k t kn = 0) ∨ (ptsF l k t (sucT t) kn = [(t, lookF l k t kn)] ∧ 0 ≤ lookF l k t kn) := by
  rw [sucT_one l k kn ht]
  unfold lookF
  split
  · rename_i h
    exact .inr ⟨rfl, h.2.2⟩
  · exact .inl ⟨rfl, rfl⟩
def krows (l : List Ky) : List (List Value) := l.map fun k => [.int .i64 k.k, .int .i64 k.s, .int .i64 k.o]
theorem krows_length (l : List Ky) : (krows l).length = l.length := List.length_map _
def RepK (w : World) (ao : Option Addr) (cap : Nat) (l : List Ky) : Prop := SL w 3 ao cap (krows l)
theorem RepK.max {w : World} {ao : Option Addr} {cap : Nat} {l : List Ky} (h : RepK w ao cap l) : (l.length : Int) ≤ 9223372036854775807 := by
  have h1 := SL.max h; have h2 := SL.le h; rw [krows_length] at h2; omega
theorem k_at {w W : World} {ao : Option Addr} {cap : Nat} {l : List Ky} (h : RepK w ao cap l) (hE : Ext w W) {i : Nat} {x : Ky} (hx : l[i]? = some x) : ∃ b o, ao = some ⟨b, o, none⟩ ∧
    W.cell? ⟨b, o + i * 3, none⟩ = some (.int .i64 x.k) ∧ W.cell? ⟨b, o + i * 3 + 1, none⟩ = some (.int .i64 x.s) ∧ W.cell? ⟨b, o + i * 3 + 2, none⟩ = some (.int .i64 x.o) := by
  obtain ⟨hi, rfl⟩ := List.getElem?_eq_some_iff.1 hx
  have hr : (krows l)[i]? = some [.int .i64 l[i].k, .int .i64 l[i].s, .int .i64 l[i].o] := by simp [krows, hi]
  obtain ⟨b, o, rfl, _⟩ := SL.at h (by omega) i (by rw [krows_length]; exact hi)
  exact ⟨b, o, rfl, by simpa using hE.cell (SL.cellAt h hr (j := 0) rfl), hE.cell (SL.cellAt h hr (j := 1) rfl), hE.cell (SL.cellAt h hr (j := 2) rfl)⟩
theorem RepK.keep {w w' : World} {ao : Option Addr} {cap : Nat} {l : List Ky} (h : RepK w ao cap l) (hk : ∀ x, ao = some x → l ≠ [] → w'.heap[x.block]? = w.heap[x.block]?) : RepK w' ao cap l := by
  refine ⟨SL.le h, SL.max h, SL.nil h, SL.wid h, fun i j r v hr hv => ?_⟩
  obtain ⟨b, o, e, hc⟩ := SL.cells h i j r v hr hv
  refine ⟨b, o, e, ?_⟩
  have hne : l ≠ [] := by rintro rfl; simp [krows] at hr
  rw [← hc]
  exact World.cell?_of_block (a := ⟨b, o + i * 3 + j, none⟩) (hk ⟨b, o, none⟩ e hne)
/-- what is yielded: the index, the key and the value -/
structure Lk where
  i : Nat
  k : Ky
  v : Int
def lkOf (l : List Ft) (t kn : Int) (i : Nat) (k : Ky) : Lk := ⟨i, k, lookF l k t kn⟩
def lksF (l : List Ft) (ks : List Ky) (t kn : Int) : List Lk := (ks.zipIdx).map fun p => lkOf l t kn p.2 p.1
theorem lksF_next {l : List Ft} {ks : List Ky} (t kn : Int) {m : Nat} {x : Ky} (hx : ks[m]? = some x) : (lksF l ks t kn).take (m + 1) = (lksF l ks t kn).take m ++ [lkOf l t kn m x] := by
  rw [List.take_add_one]
  congr 1
  unfold lksF
  rw [List.getElem?_map, List.getElem?_zipIdx, hx]
  simp
theorem lksF_length (l : List Ft) (ks : List Ky) (t kn : Int) : (lksF l ks t kn).length = ks.length := by unfold lksF; rw [List.length_map, List.length_zipIdx]
/-- what the iterator reads -/
structure LkH (W : World) (gk gt gw gn : Nat) (t kn : Int) (ko : Option Addr) (kc : Nat) (ks : List Ky) (ao : Option Addr) (cap : Nat) (l : List Ft) : Prop where
  sk : W.cell? ⟨gk, 0, none⟩ = some (.slice ko ks.length kc)
  t : W.cell? ⟨gt, 0, none⟩ = some (.int .i64 t)
  sl : W.cell? ⟨gw, 3, none⟩ = some (.slice ao l.length cap)
  n : W.cell? ⟨gn, 0, none⟩ = some (.int .i64 kn)
  k : RepK W ko kc ks
  a : RepF W ao cap l
theorem LkH.ext {W W' : World} {gk gt gw gn : Nat} {t kn : Int} {ko : Option Addr} {kc : Nat} {ks : List Ky} {ao : Option Addr} {cap : Nat} {l : List Ft} (h : LkH W gk gt gw gn t kn ko kc ks ao cap l) (hE : Ext W W') : LkH W' gk gt gw gn t kn ko kc ks ao cap l :=
  ⟨hE.cell h.sk, hE.cell h.t, hE.cell h.sl, hE.cell h.n, SL.ext h.k hE, h.a.ext hE⟩
theorem LkH.kp {W W' : World} {gk gt gw gn n1 B4 B5 : Nat} {t kn : Int} {ko : Option Addr} {kc : Nat} {ks : List Ky} {ao : Option Addr} {cap : Nat} {l : List Ft} (h : LkH W gk gt gw gn t kn ko kc ks ao cap l) (hK : KpY n1 B4 B5 W W')
    (h1 : ∀ b, b = gk ∨ b = gt ∨ b = gw ∨ b = gn → b < n1 ∧ b ≠ B4 ∧ b ≠ B5) (h3 : ∀ x, ko = some x → ks ≠ [] → x.block < n1 ∧ x.block ≠ B4 ∧ x.block ≠ B5) (h4 : ∀ x, ao = some x → l ≠ [] → x.block < n1 ∧ x.block ≠ B4 ∧ x.block ≠ B5) : LkH W' gk gt gw gn t kn ko kc ks ao cap l :=
  have hb : ∀ b, b = gk ∨ b = gt ∨ b = gw ∨ b = gn → W'.heap[b]? = W.heap[b]? := fun b hb => hK.2 _ (h1 b hb).1 (h1 b hb).2.1 (h1 b hb).2.2
  ⟨(World.cell?_of_block (hb _ (.inl rfl))).trans h.sk, (World.cell?_of_block (hb _ (.inr (.inl rfl)))).trans h.t, (World.cell?_of_block (hb _ (.inr (.inr (.inl rfl))))).trans h.sl, (World.cell?_of_block (hb _ (.inr (.inr (.inr rfl))))).trans h.n,
    h.k.keep fun x hx hne => hK.2 _ (h3 x hx hne).1 (h3 x hx hne).2.1 (h3 x hx hne).2.2, h.a.keep fun x hx hne => hK.2 _ (h4 x hx hne).1 (h4 x hx hne).2.1 (h4 x hx hne).2.2⟩
end Go.Sz
namespace Go.Proofs.Ytbniicobkhiniaa
open Go.RowKit Go.Sz Go.Shelf
attribute [local go_sem] Oper.semAt_some
theorem look_any (ko : Option Addr) (n kc : Nat) (bv : Value) (b1 b2 b3 : Value) (t kn : Int) (w : World) : Calls Try.prog 29 #[.agg #[b1, b2, b3, bv], .slice ko n kc, .int .i64 t, .int .i64 kn] w fun e w' =>
    e = .returned (.func (.func 42) #[] #[.pointer (some ⟨w.heap.size + 1, 0, none⟩), .pointer (some ⟨w.heap.size + 2, 0, none⟩), .pointer (some ⟨w.heap.size, 0, none⟩), .pointer (some ⟨w.heap.size + 3, 0, none⟩)]) ∧ w' = (((w.alloc (.cells #[b1, b2, b3, bv] 41)).alloc (.cells #[.slice ko n kc] 68)).alloc (.cells #[.int .i64 t] 3)).alloc (.cells #[.int .i64 kn] 3) := by
  go_enter Try.func29, Try.ntmps29
  go_wp2_with fail
  go_ret
  exact ⟨rfl, rfl⟩
set_option maxRecDepth 100000 in
set_option maxHeartbeats 6400000 in
theorem look1_in (n : Nat) (hn : 1 ≤ n) (yl gk gt gw gn n1 B4 B5 : Nat) (t kn : Int) (ht : inI64 t) (ko : Option Addr) (kc : Nat) (ks : List Ky) (ao : Option Addr) (cap : Nat) (l : List Ft) (J Jx : List Lk → World → Prop)
    (hJ : ∀ pre A B, J pre A → Ext A B → J pre B)
    (hY : ∀ pre x W, J pre W → pre.length < ks.length → YieldAt Fence.wide (n - 1) Try.prog yl #[.int .i64 x.i, .agg #[.int .i64 x.k.k, .int .i64 x.k.s, .int .i64 x.k.o, .int .i64 t, .int .i64 (sucT t), .int .i64 x.v]] W fun e W' =>
      (e = .returned (.bool true) ∧ J (pre ++ [x]) W' ∧ KpY n1 B4 B5 W W') ∨ (e = .returned (.bool false) ∧ Jx (pre ++ [x]) W'))
    (h1 : ∀ b, b = gk ∨ b = gt ∨ b = gw ∨ b = gn → b < n1 ∧ b ≠ B4 ∧ b ≠ B5) (h3 : ∀ x, ko = some x → ks ≠ [] → x.block < n1 ∧ x.block ≠ B4 ∧ x.block ≠ B5) (h4 : ∀ x, ao = some x → l ≠ [] → x.block < n1 ∧ x.block ≠ B4 ∧ x.block ≠ B5)
    (W : World) (hH : LkH W gk gt gw gn t kn ko kc ks ao cap l) (h0 : J [] W) :
    CallsIn Fence.wide n Try.prog 42 #[.func (.yield yl) #[] #[], .pointer (some ⟨gk, 0, none⟩), .pointer (some ⟨gt, 0, none⟩), .pointer (some ⟨gw, 0, none⟩), .pointer (some ⟨gn, 0, none⟩)] W fun e W' => (∃ v, e = .returned v) ∧
      ((∃ xs, xs = lksF l ks t kn ∧ J xs W') ∨ (∃ pre, True ∧ Jx pre W')) := by
  have hwf : Fence.wide.fn 39 := trivial
  have HJ := Lib.hid hJ
  have HYY := Lib.hid hY
  have HKP := Lib.hid fun (A B : World) (hA : LkH A gk gt gw gn t kn ko kc ks ao cap l) (hK : KpY n1 B4 B5 A B) => hA.kp hK h1 h3 h4
  have hs1 := hH.k.max
  have HH := Lib.hid hH
  have H0 := Lib.hid h0
  have HT := Lib.hid ht
  clear hJ hY h1 h3 h4 h0 ht
  obtain ⟨hsk, ht0, hsl, hn0, _, _⟩ := hH
  obtain ⟨t1, ht1⟩ : ∃ t1, IntKind.i64.wrap (t + 1) = t1 := ⟨_, rfl⟩
  have HT1 : Hid (sucT t = t1) := Lib.hid ht1
  refine callsIn_of_wp Try.func42 rfl trivial ?_ rfl
  simp only [Try.ntmps42, List.size_toArray, List.length_cons, List.length_nil, Nat.reduceAdd, Nat.reduceSub, Array.replicate_succ, Array.replicate_zero, List.push_toArray, List.append_toArray, List.nil_append, List.cons_append]
  gi_wp2
  gi_loopw [13] (fun i wr => ∃ m : Nat, i = .int .i64 m ∧ m ≤ ks.length ∧ J ((lksF l ks t kn).take m) wr ∧ LkH wr gk gt gw gn t kn ko kc ks ao cap l) (fun i _ => ks.length - (intOf i).toNat)
  case atStart => exact ⟨0, rfl, by omega, by simpa using H0.out, HH.out⟩
  case round =>
    clear hsk ht0 hsl hn0
    obtain ⟨m, rfl, hm, hJm, hHm⟩ := hrel
    have HJM := Lib.hid hJm
    have HHM := Lib.hid hHm
    clear hJm hHm
    by_cases hlt : m < ks.length
    · have hlti : (m : Int) < (ks.length : Int) := by omega
      obtain ⟨x, hx⟩ : ∃ x, ks[m]? = some x := ⟨_, List.getElem?_eq_getElem hlt⟩
      obtain ⟨b, o, rfl, c0, c1, c2⟩ := k_at HHM.out.k (Ext.refl _) hx
      have HTK := Lib.hid (lksF_next (l := l) t kn hx)
      clear hx
      have hA : Ext wr ((wr.alloc (.cells #[.int .i64 x.k, .int .i64 x.s, .int .i64 x.o] 26)).alloc (.cells #[.int .i64 x.k, .int .i64 x.s, .int .i64 x.o, .int .i64 t, .int .i64 t1, .int .i64 0] 72)) := ((Ext.refl wr).alloc _).alloc _
      have HA := Lib.hid hA
      have hsk := hA.cell HHM.out.sk
      have ht0 := hA.cell HHM.out.t
      have hsl := hA.cell HHM.out.sl
      have hn0 := hA.cell HHM.out.n
      have HPC := Lib.hid (points_any l x t t1 kn ao cap _ (HHM.out.a.ext hA))
      have HCS := Lib.hid (pts_cases l x kn HT.out)
      rw [HT1.out] at HCS
      obtain ⟨ps, hps⟩ : ∃ ps, ptsF l x t t1 kn = ps := ⟨_, rfl⟩
      rw [hps] at HPC HCS
      obtain ⟨vv, hvv⟩ : ∃ v, lookF l x t kn = v := ⟨_, rfl⟩
      rw [hvv] at HCS
      have HV := Lib.hid hvv
      clear hps hvv
      have ht2 : (wr.alloc (.cells #[.int .i64 x.k, .int .i64 x.s, .int .i64 x.o] 26)).cell? ⟨gt, 0, none⟩ = some (.int .i64 t) := ((Ext.refl wr).alloc _).cell HHM.out.t
      clear hA
      have HEL : Hid (lkOf l t kn m x = ⟨m, x, vv⟩) := Lib.hid (by unfold lkOf; rw [HV.out])
      rw [HEL.out] at HTK
      clear HEL HV
      rcases HCS.out with ⟨rfl, rfl⟩ | ⟨rfl, hv0⟩
      · gi_wp2_with (gi_at_call 39; refine (callsIn_wide.2 HPC.out).mono ?_; rintro e w9 ⟨a9, c9, rfl, hR9, hE9⟩; have HE9 := Lib.hid hE9; clear hE9 hR9)
        have f0 : w9.cell? ⟨wr.heap.size + 1, 0, none⟩ = some (.int .i64 x.k) := HE9.out.cell (by simp)
        have f1 : w9.cell? ⟨wr.heap.size + 1, 1, none⟩ = some (.int .i64 x.s) := HE9.out.cell (by simp)
        have f2 : w9.cell? ⟨wr.heap.size + 1, 2, none⟩ = some (.int .i64 x.o) := HE9.out.cell (by simp)
        have f3 : w9.cell? ⟨wr.heap.size + 1, 3, none⟩ = some (.int .i64 t) := HE9.out.cell (by simp)
        have f4 : w9.cell? ⟨wr.heap.size + 1, 4, none⟩ = some (.int .i64 t1) := HE9.out.cell (by simp)
        have f5 : w9.cell? ⟨wr.heap.size + 1, 5, none⟩ = some (.int .i64 0) := HE9.out.cell (by simp)
        have HX9 := Lib.hid (HA.out.trans HE9.out)
        clear hsk ht0 hsl hn0 ht2 c0 c1 c2 HPC HE9
        obtain ⟨wb, hwb⟩ : ∃ wb, wb = wr := ⟨_, rfl⟩
        subst hwb
        gi_loopw [33] (fun iv wq => iv = .int .i64 0 ∧ wq = w9) (fun _ _ => 0)
        case atStart => exact ⟨rfl, rfl⟩
        case round =>
          obtain ⟨rfl, rfl⟩ := hrel
          obtain ⟨fn, tmps, assign, body, hy, hR⟩ := HYY.out _ ⟨m, x, 0⟩ _ (HJ.out _ _ _ HJM.out HX9.out) (by rw [List.length_take, lksF_length]; omega)
          dsimp only at hy
          rw [HT1.out] at hy
          gi_wp2
          refine hR.mono ?_
          rintro e W6 (⟨rfl, hJ6, hk6⟩ | ⟨rfl, hJx6⟩)
          · gi_wp2
            go_roundw
            case rel => exact ⟨m + 1, by go_num, by omega, by rw [HTK.out]; exact hJ6, HKP.out _ _ (HHM.out.ext HX9.out) hk6⟩
            case measure => simp [intOf] <;> omega
          · gi_wp2
            refine bodyPost_ret (results_none rfl _ _ _) rfl ?_
            exact ⟨⟨_, rfl⟩, .inr ⟨_, trivial, hJx6⟩⟩
      · gi_wp2_with (gi_at_call 39; refine (callsIn_wide.2 HPC.out).mono ?_; rintro e w9 ⟨a9, c9, rfl, hR9, hE9⟩; have HE9 := Lib.hid hE9; have HR9 := Lib.hid hR9; clear hE9 hR9)
        have f0 : w9.cell? ⟨wr.heap.size + 1, 0, none⟩ = some (.int .i64 x.k) := HE9.out.cell (by simp)
        have f1 : w9.cell? ⟨wr.heap.size + 1, 1, none⟩ = some (.int .i64 x.s) := HE9.out.cell (by simp)
        have f2 : w9.cell? ⟨wr.heap.size + 1, 2, none⟩ = some (.int .i64 x.o) := HE9.out.cell (by simp)
        have f3 : w9.cell? ⟨wr.heap.size + 1, 3, none⟩ = some (.int .i64 t) := HE9.out.cell (by simp)
        have f4 : w9.cell? ⟨wr.heap.size + 1, 4, none⟩ = some (.int .i64 t1) := HE9.out.cell (by simp)
        have f5 : w9.cell? ⟨wr.heap.size + 1, 5, none⟩ = some (.int .i64 0) := HE9.out.cell (by simp)
        have fz : ∀ i, w9.frozen? ⟨wr.heap.size + 1, i, none⟩ = false := by
          have := ((cb_new (wr.alloc (.cells #[.int .i64 x.k, .int .i64 x.s, .int .i64 x.o] 26)) [.int .i64 x.k, .int .i64 x.s, .int .i64 x.o, .int .i64 t, .int .i64 t1, .int .i64 0] 72).ext (by simp) HE9.out).fz
          rwa [World.size_alloc] at this
        have HX9 := Lib.hid (HA.out.trans HE9.out)
        obtain ⟨b9, o9, rfl, d0, d1⟩ := p_at HR9.out (Ext.refl _) (i := 0) (x := (t, vv)) rfl
        rw [Nat.zero_mul, Nat.add_zero] at d0 d1
        dsimp only at d0 d1
        clear hsk ht0 hsl hn0 ht2 c0 c1 c2 HPC HE9
        obtain ⟨wb, hwb⟩ : ∃ wb, wb = wr := ⟨_, rfl⟩
        subst hwb
        gi_loopw [33] (fun iv wq => (iv = .int .i64 0 ∧ wq = w9) ∨ (iv = .int .i64 1 ∧ Ext wb wq ∧ wq.cell? ⟨wb.heap.size + 1, 0, none⟩ = some (.int .i64 x.k) ∧ wq.cell? ⟨wb.heap.size + 1, 1, none⟩ = some (.int .i64 x.s) ∧ wq.cell? ⟨wb.heap.size + 1, 2, none⟩ = some (.int .i64 x.o) ∧ wq.cell? ⟨wb.heap.size + 1, 3, none⟩ = some (.int .i64 t) ∧ wq.cell? ⟨wb.heap.size + 1, 4, none⟩ = some (.int .i64 t1) ∧ wq.cell? ⟨wb.heap.size + 1, 5, none⟩ = some (.int .i64 vv))) (fun iv _ => 1 - (intOf iv).toNat)
        case atStart => exact .inl ⟨rfl, rfl⟩
        case round =>
          rcases hrel with ⟨rfl, rfl⟩ | ⟨rfl, hX1, g0, g1, g2, g3, g4, g5⟩
          · have q0 := ((Ext.refl wr).alloc (.cells #[.int .i64 t, .int .i64 vv] 83)).cell f0
            have q1 := ((Ext.refl wr).alloc (.cells #[.int .i64 t, .int .i64 vv] 83)).cell f1
            have q2 := ((Ext.refl wr).alloc (.cells #[.int .i64 t, .int .i64 vv] 83)).cell f2
            have q3 := ((Ext.refl wr).alloc (.cells #[.int .i64 t, .int .i64 vv] 83)).cell f3
            have q4 := ((Ext.refl wr).alloc (.cells #[.int .i64 t, .int .i64 vv] 83)).cell f4
            have q5 := ((Ext.refl wr).alloc (.cells #[.int .i64 t, .int .i64 vv] 83)).cell f5
            have HXA := Lib.hid (HX9.out.alloc (.cells #[.int .i64 t, .int .i64 vv] 83))
            have fz5 : (wr.alloc (.cells #[.int .i64 t, .int .i64 vv] 83)).frozen? ⟨wb.heap.size + 1, 5, none⟩ = false := by
              have hb := World.block_lt_of_cell? _ _ f0
              simp only [World.frozen?, heap_al]
              rw [if_neg (by dsimp only at hb; omega)]
              exact fz 5
            gi_wp2
            go_roundw
            case rel => exact .inr ⟨rfl, HXA.out.setCell (show wb.heap.size ≤ wb.heap.size + 1 by omega) _, (World.cell?_setCell_other _ _ _ _ (by intro e; injection e with _ e; cases e)).trans q0, (World.cell?_setCell_other _ _ _ _ (by intro e; injection e with _ e; cases e)).trans q1, (World.cell?_setCell_other _ _ _ _ (by intro e; injection e with _ e; cases e)).trans q2, (World.cell?_setCell_other _ _ _ _ (by intro e; injection e with _ e; cases e)).trans q3, (World.cell?_setCell_other _ _ _ _ (by intro e; injection e with _ e; cases e)).trans q4, World.cell?_setCell_same' _ _ _ (by rw [q5]; rfl)⟩
            case measure => simp [intOf]
          · clear f0 f1 f2 f3 f4 f5 fz d0 d1
            obtain ⟨fn, tmps, assign, body, hy, hR⟩ := HYY.out _ ⟨m, x, vv⟩ _ (HJ.out _ _ _ HJM.out hX1) (by rw [List.length_take, lksF_length]; omega)
            dsimp only at hy
            rw [HT1.out] at hy
            gi_wp2
            refine hR.mono ?_
            rintro e W6 (⟨rfl, hJ6, hk6⟩ | ⟨rfl, hJx6⟩)
            · gi_wp2
              go_roundw
              case rel => exact ⟨m + 1, by go_num, by omega, by rw [HTK.out]; exact hJ6, HKP.out _ _ (HHM.out.ext hX1) hk6⟩
              case measure => simp [intOf] <;> omega
            · gi_wp2
              refine bodyPost_ret (results_none rfl _ _ _) rfl ?_
              exact ⟨⟨_, rfl⟩, .inr ⟨_, trivial, hJx6⟩⟩
    · have hlti : ¬ (m : Int) < (ks.length : Int) := by omega
      have HEND : Hid (J (lksF l ks t kn) wr) := Lib.hid (by have := HJM.out; rwa [List.take_of_length_le (by rw [lksF_length]; omega)] at this)
      gi_wp2
      go_end0
      exact ⟨⟨_, rfl⟩, .inl HEND.out⟩
end Go.Proofs.Ytbniicobkhiniaa
