/- Requests: must, ints. -/
import Derived.Test.YtahaplioegeloaaDoorQD
import Derived.Test.YtahaplioegeloaaDoorQC
namespace Go.Sz
open Go.RowKit
def V.k : V → Int | .mk k _ _ _ => k
def V.n : V → Int | .mk _ n _ _ => n
def V.l : V → List V | .mk _ _ _ l => l
/-- the cells of a block -/
structure CB (w : World) (B : Nat) (vs : List Value) : Prop where
  at_ : ∀ (i : Nat) (v : Value), vs[i]? = some v → w.cell? ⟨B, i, none⟩ = some v
  fz : ∀ i, w.frozen? ⟨B, i, none⟩ = false
theorem CB.keep {w w' : World} {B : Nat} {vs : List Value} (h : CB w B vs) (hk : w'.heap[B]? = w.heap[B]?) : CB w' B vs :=
  ⟨fun i v hv => by simp only [World.cell?, hk]; exact h.at_ i v hv, fun i => by simp only [World.frozen?, hk]; exact h.fz i⟩
theorem CB.ext {w w' : World} {B : Nat} {vs : List Value} (h : CB w B vs) (hB : B < w.heap.size) (hE : Ext w w') : CB w' B vs := h.keep (hE.block B hB)
theorem CB.set {w : World} {B : Nat} {vs : List Value} (h : CB w B vs) {i : Nat} (hi : i < vs.length) (u : Value) : CB (w.setCell ⟨B, i, none⟩ u) B (vs.set i u) := by
  refine ⟨fun j v hv => ?_, fun j => by simp [h.fz]⟩
  rw [List.getElem?_set] at hv
  by_cases hij : i = j
  · subst hij
    rw [if_pos rfl, if_pos hi] at hv
    cases hv
    have hc := h.at_ i vs[i] (List.getElem?_eq_getElem hi)
    exact World.cell?_setCell_same' _ _ _ (by rw [hc]; rfl)
  · rw [if_neg hij] at hv
    rw [World.cell?_setCell_other _ _ _ _ (by intro e; cases e; exact hij rfl)]
    exact h.at_ j v hv
def putL (vs : List Value) (l : List (Nat × Int)) : List Value := l.foldl (fun vs p => vs.set p.1 (.int .i64 p.2)) vs
theorem putL_length (vs : List Value) (l : List (Nat × Int)) : (putL vs l).length = vs.length := by
  unfold putL
  induction l generalizing vs with
  | nil => rfl
  | cons x xs ih => rw [List.foldl_cons, ih]; simp
theorem putL_succ (vs : List Value) {l : List (Nat × Int)} {j : Nat} (hj : j < l.length) : putL vs (l.take (j + 1)) = (putL vs (l.take j)).set l[j].1 (.int .i64 l[j].2) := by
  rw [List.take_succ_eq_append_getElem hj]; unfold putL; rw [List.foldl_append]; rfl
/-- the numbers of a list of so many numbers -/
def intsV (xs : List V) (m : Nat) : Option (List Int) := if xs.length = m ∧ xs.all (fun x => x.k == 1) = true then some (xs.map V.n) else none
theorem intsV_bad {xs : List V} {m j : Nat} (hj : j < xs.length) (h : xs[j].k ≠ 1) : intsV xs m = none := by
  unfold intsV
  rw [if_neg]
  rintro ⟨_, hall⟩
  have := List.all_eq_true.1 hall _ (List.getElem_mem hj)
  simp at this
  exact h this
theorem intsV_len {xs : List V} {m : Nat} (h : xs.length ≠ m) : intsV xs m = none := by
  unfold intsV
  rw [if_neg (fun hh => h hh.1)]
theorem intsV_good {xs : List V} {m : Nat} (h : xs.length = m) (hk : ∀ j (hj : j < xs.length), xs[j].k = 1) : intsV xs m = some (xs.map V.n) := by
  unfold intsV
  refine if_pos ⟨h, ?_⟩
  rw [List.all_eq_true]
  intro x hx
  obtain ⟨j, hj, rfl⟩ := List.mem_iff_getElem.1 hx
  simp [hk j hj]
end Go.Sz
namespace Go.Proofs.YtahaplioegeloaaDoor
open Go.RowKit Go.Sz
/-- the package's own panic -/
abbrev panQ : List PanicEntry := [{ v := .iface 30 (.int .i64 290), recovered := false }]
theorem must_true (w : World) : Calls Tryd.prog 39 #[.bool true] w fun e w' => e = .returned (.tuple #[]) ∧ w = w' := by
  go_enter Tryd.func39, Tryd.ntmps39
  go_wp2_with fail
  go_end0
  exact ⟨rfl, rfl⟩
theorem must_false (w : World) : Calls Tryd.prog 39 #[.bool false] w fun e w' => e = .panicked panQ ∧ w = w' := by
  go_enter Tryd.func39, Tryd.ntmps39
  go_wp2_with fail
  exact ⟨rfl, rfl, rfl⟩
theorem must_t (w : World) {b : Bool} (hb : b = true) : Calls Tryd.prog 39 #[.bool b] w fun e w' => e = .returned (.tuple #[]) ∧ w = w' := by subst hb; exact must_true w
theorem must_f (w : World) {b : Bool} (hb : b = false) : Calls Tryd.prog 39 #[.bool b] w fun e w' => e = .panicked panQ ∧ w = w' := by subst hb; exact must_false w
def intsPost (w : World) (B : Nat) (vs : List Value) (offs : List Nat) (r : Option (List Int)) (e : Ending) (w' : World) : Prop := Turn B w w' ∧ match r with
  | some ns => e = .returned (.tuple #[]) ∧ CB w' B (putL vs (offs.zip ns))
  | none => e = .panicked panQ ∧ ∃ vs' : List Value, vs'.length = vs.length ∧ CB w' B vs'
set_option maxRecDepth 100000 in
set_option maxHeartbeats 6400000 in
theorem ints_any (xs : List V) (rows : List (List Value)) (offs : List Nat) (vs : List Value) (B : Nat) (ao : Option Addr) (cap : Nat) (po : Option Addr) (pcap : Nat) (w : World) (hs : SL w 4 ao cap rows) (hlen : rows.length = xs.length)
    (hsh : ∀ (i : Nat) (r : List Value) (x : V), rows[i]? = some r → xs[i]? = some x → ∃ (s : ByteArray) (a : Option Addr) (m d : Nat), r = [.int .i64 x.k, .int .i64 x.n, .string s, .slice a m d]) (hne : ∀ a, ao = some a → rows ≠ [] → a.block ≠ B)
    (hp : SL w 1 po pcap (offs.map fun i => [.pointer (some ⟨B, i, none⟩)])) (hpne : ∀ a, po = some a → a.block ≠ B) (hv : CB w B vs) (hB : B < w.heap.size) (hoff : ∀ i ∈ offs, i < vs.length) :
    Calls Tryd.prog 40 #[.slice ao xs.length cap, .slice po offs.length pcap] w (intsPost w B vs offs (intsV xs offs.length)) := by
  have hs63 : (xs.length : Int) ≤ 9223372036854775807 := by have h1 := hs.le; have h2 := hs.max; rw [hlen] at h1; omega
  by_cases hq : xs.length = offs.length
  · have hqb : (((xs.length : Nat) : Int) == ((offs.length : Nat) : Int)) = true := by rw [beq_iff_eq]; omega
    have HS := Lib.hid hs
    have HP := Lib.hid hp
    have HV := Lib.hid hv
    have HF := Lib.hid hoff
    have HSH := Lib.hid hsh
    have HLN := Lib.hid hlen
    clear hs hp hv hoff hsh hlen
    go_enter Tryd.func40, Tryd.ntmps40
    go_wp2_with (go_at_call 39; refine (must_t _ (by first | rfl | assumption | (simp; omega))).mono ?_; rintro e w' ⟨rfl, rfl⟩)
    go_loopw [14] (fun iv wr => ∃ j : Nat, iv = .int .i64 j ∧ j ≤ xs.length ∧ (∀ i (h : i < xs.length), i < j → xs[i].k = 1) ∧ Turn B w wr ∧ CB wr B (putL vs ((offs.zip (xs.map V.n)).take j))) (fun iv _ => xs.length - (intOf iv).toNat)
    case atStart => exact ⟨0, rfl, by omega, fun i h hi => by omega, Turn.refl _ _, HV.out⟩
    case round =>
      obtain ⟨j, rfl, hj, hk1, hT, hC⟩ := hrel
      have HT := Lib.hid hT
      have HC := Lib.hid hC
      have HK := Lib.hid hk1
      clear hT hC hk1
      by_cases hlt : j < xs.length
      · have hji : (j : Int) < (xs.length : Int) := by omega
        have hjr : j < rows.length := by rw [HLN.out]; exact hlt
        obtain ⟨s0, a0, m0, d0', hrj⟩ := HSH.out j rows[j] xs[j] (List.getElem?_eq_getElem hjr) (List.getElem?_eq_getElem hlt)
        have hr? : rows[j]? = some [.int .i64 xs[j].k, .int .i64 xs[j].n, .string s0, .slice a0 m0 d0'] := by rw [← hrj]; exact List.getElem?_eq_getElem hjr
        obtain ⟨b, o, hao, _⟩ := SL.at HS.out (by omega) j hjr
        subst hao
        have hbB : b ≠ B := hne _ rfl (fun e => by rw [e] at hjr; simp at hjr)
        have c0 : wr.cell? ⟨b, o + j * 4, none⟩ = some (.int .i64 xs[j].k) := by simpa using HT.out.cell (HS.out.cellAt hr? (j := 0) rfl) hbB
        have c1 := HT.out.cell (HS.out.cellAt hr? (j := 1) rfl) hbB
        have c2 := HT.out.cell (HS.out.cellAt hr? (j := 2) rfl) hbB
        have c3 := HT.out.cell (HS.out.cellAt hr? (j := 3) rfl) hbB
        have hoj : j < offs.length := by omega
        have hp? : (offs.map fun i => [Value.pointer (some ⟨B, i, none⟩)])[j]? = some [.pointer (some ⟨B, offs[j], none⟩)] := by simp [hoj]
        obtain ⟨b', o', hpo, _⟩ := SL.at HP.out (by omega) j (by simpa using hoj)
        subst hpo
        have hbB' : b' ≠ B := hpne _ rfl
        have d0 : wr.cell? ⟨b', o' + j, none⟩ = some (.pointer (some ⟨B, offs[j], none⟩)) := by simpa using HT.out.cell (HP.out.cellAt hp? (j := 0) rfl) hbB'
        have hz : (offs.zip (xs.map V.n))[j]? = some (offs[j], xs[j].n) := by rw [List.getElem?_zip_eq_some]; simp [hoj, hlt]
        have hzl : j < (offs.zip (xs.map V.n)).length := by simp; omega
        have hPS := putL_succ vs hzl
        rw [List.getElem?_eq_getElem hzl] at hz
        rw [Option.some.inj hz] at hPS
        have HPS := Lib.hid hPS
        have HIB := Lib.hid (fun (h : xs[j].k ≠ 1) => intsV_bad (m := offs.length) hlt h)
        have HKS : Hid (xs[j].k = 1 → ∀ i (h : i < xs.length), i < j + 1 → xs[i].k = 1) := Lib.hid fun h i hi hij => by
          by_cases he : i = j
          · subst he; exact h
          · exact HK.out i hi (by omega)
        have HOFF := Lib.hid (HF.out offs[j] (List.getElem_mem hoj))
        clear hPS hz hr? hp? hrj
        generalize xs[j].k = xk at *
        generalize xs[j].n = xn at *
        generalize offs[j] = f at *
        have hji2 : (j : Int) < (offs.length : Int) := by omega
        have hA : Ext wr (wr.alloc (.cells #[.int .i64 xk, .int .i64 xn, .string s0, .slice a0 m0 d0'] 59)) := (Ext.refl wr).alloc _
        have hBX := Box.new wr (.int .i64 xk) (.int .i64 xn) (.string s0) (.slice a0 m0 d0') 59
        have hBr : B < wr.heap.size := by have := HT.out.size; omega
        have hCA := HC.out.ext hBr hA
        have hTA := HT.out.trans (Turn.of_ext hA)
        by_cases hk : xk = 1
        · subst hk
          have gd0 := grow_cell (hA.cell d0)
          have ge1 := grow_cell hBX.c1
          have HCA := Lib.hid hCA
          have HTA := Lib.hid hTA
          go_wp2_with (go_at_call 39; refine (must_t _ (by first | rfl | assumption | (simp; omega))).mono ?_; rintro e w' ⟨rfl, rfl⟩)
          have hBx : B < (wr.alloc (.cells #[.int .i64 1, .int .i64 xn, .string s0, .slice a0 m0 d0'] 59)).heap.size := Nat.lt_of_lt_of_le hBr hA.size
          generalize (wr.alloc (.cells #[.int .i64 1, .int .i64 xn, .string s0, .slice a0 m0 d0'] 59)) = wx at *
          refine wp_region_rel (fun _ => none) 7 1 (by kernel_rfl) (by kernel_rfl) ?_
          simp only [List.take_succ_cons, List.take_zero]
          repeat (first
            | (refine wpRel_quick ?_ ?_ ?_ ?_
               · rfl
               · rfl
               · first | exact noEnter rfl | (intro f args W W'; go_simp)
               intro K hK
               go_big_quiet_op
               go_big_quiet_on)
            | (refine wpRel_skip ?_ ?_
               · rfl
               simp only [Act.put, List.setIfInBounds_toArray, List.set_cons_zero, List.set_cons_succ]))
          refine wpRel_nil ?_
          intro W hW
          have hEW : Ext wx W := (Ext.refl wx).drew.trans hW.1
          have hCW := HCA.out.ext hBx hEW
          have hfl : f < (putL vs ((offs.zip (xs.map V.n)).take j)).length := by rw [putL_length]; exact HOFF.out
          have hcf := hCW.at_ f _ (List.getElem?_eq_getElem hfl)
          have hzf := hCW.fz f
          have HCS := Lib.hid (hCW.set hfl (.int .i64 xn))
          have HTS := Lib.hid ((HTA.out.trans (Turn.of_ext hEW)).trans (Turn.setCell W ⟨B, f, none⟩ (.int .i64 xn)))
          clear hCW hW hCA hTA
          refine wpAny_ready (rs := [7]) (by kernel_rfl) (by simp) ?_
          refine AllReady.cons rfl (fun K hK => ?_) AllReady.nil
          go_simp
          refine hK _ _ ?_
          clear hK K
          refine wpAny_done (by kernel_rfl) ?_ _
          go_wp2_with fail
          go_roundw
          case rel => exact ⟨j + 1, by go_num, by omega, HKS.out trivial, HTS.out, by rw [HPS.out]; exact HCS.out⟩
          case measure => simp [intOf] <;> omega
        · have q1 : (xk == 1) = false := by rw [beq_eq_false_iff_ne]; exact hk
          go_wp2_with (go_at_call 39; refine (must_f _ (by first | rfl | assumption | (simp; omega))).mono ?_; rintro e w' ⟨rfl, rfl⟩)
          refine ⟨rfl, hTA, ?_⟩
          rw [HIB.out hk]
          exact ⟨rfl, _, putL_length _ _, hCA⟩
      · have hji : ¬ (j : Int) < (xs.length : Int) := by omega
        have hji2 : ¬ (j : Int) < (offs.length : Int) := by omega
        go_wp2_with fail
        go_end0
        refine ⟨HT.out, ?_⟩
        rw [intsV_good hq (fun i hi => HK.out i hi (by omega))]
        refine ⟨rfl, ?_⟩
        have := HC.out
        rwa [List.take_of_length_le (by simp; omega)] at this
  · have hqb : (((xs.length : Nat) : Int) == ((offs.length : Nat) : Int)) = false := by rw [beq_eq_false_iff_ne]; omega
    rw [intsV_len hq]
    go_enter Tryd.func40, Tryd.ntmps40
    go_wp2_with (go_at_call 39; refine (must_f _ (by first | rfl | assumption | (simp; omega))).mono ?_; rintro e w' ⟨rfl, rfl⟩)
    exact ⟨rfl, Turn.refl _ _, rfl, vs, rfl, hv⟩
end Go.Proofs.YtahaplioegeloaaDoor
namespace Go.Sz
open Go.RowKit
def zeroQ : List Value := [.int .i64 0, .int .i64 0, .int .i64 0, .int .i64 0, .int .i64 0, .slice none 0 0, .int .i64 0, .int .i64 0, .int .i64 0]
theorem set_all9 {l : List Value} (h : l.length = 9) (a0 a1 a2 a3 a4 a5 a6 a7 a8 : Value) : ((((((((l.set 0 a0).set 1 a1).set 2 a2).set 3 a3).set 4 a4).set 5 a5).set 6 a6).set 7 a7).set 8 a8 = [a0, a1, a2, a3, a4, a5, a6, a7, a8] := by
  match l, h with
  | [_, _, _, _, _, _, _, _, _], _ => rfl
end Go.Sz
namespace Go.Proofs.YtahaplioegeloaaDoor
open Go.RowKit Go.Sz
theorem decodeQ1_idle (p q : Addr) (w : World) :
    CallsD Tryd.prog 38 #[.pointer (some p), .pointer (some q)] .returning w fun e u' w' => e = .returned (.tuple #[]) ∧ u' = .returning ∧ w' = w := by
  refine callsD_of_wpS Tryd.func38 rfl fun c₀ cs hu => ?_
  apply wpS_seq
  apply wpS_region
  simp [wpOpsS, go_sem, recoverD, hu, Tryd.ntmps38, Exit.thenS]
  refine wpS_of_wp ?_
  rw [show (#[Value.pointer (some p), Value.pointer (some q)] ++ ((Array.replicate 7 undef).setIfInBounds 1 Value.nilIface).setIfInBounds 0 Value.nilIface) = #[Value.pointer (some p), Value.pointer (some q), .nilIface, .nilIface, undef, undef, undef, undef, undef] from rfl]
  go_wp2_with fail
  cases c₀
  simp_all [bodyPostS, results, Tryd.results38]
set_option maxRecDepth 100000 in
set_option maxHeartbeats 6400000 in
theorem decodeQ1_panicking (B C : Nat) (vs : List Value) (a4 : Value) (older : List PanicEntry) (w : World) (hB : CB w B vs) (hl : vs.length = 9) (hc : w.cell? ⟨C, 0, none⟩ = some a4) (hz : w.frozen? ⟨C, 0, none⟩ = false) (hne : B ≠ C) :
    CallsD Tryd.prog 38 #[.pointer (some ⟨B, 0, none⟩), .pointer (some ⟨C, 0, none⟩)] (.panicking ({ v := .iface 30 (.int .i64 290), recovered := false } :: older)) w fun e u' w' =>
      e = .returned (.tuple #[]) ∧ u' = .panicking ({ v := .iface 30 (.int .i64 290), recovered := true } :: older) ∧ CB w' B zeroQ ∧ w'.cell? ⟨C, 0, none⟩ = some (.int .i64 290) ∧
        ∀ w0, Ext w0 w → w0.heap.size ≤ B → w0.heap.size ≤ C → Ext w0 w' := by
  refine callsD_of_wpS Tryd.func38 rfl fun c₀ cs hu => ?_
  apply wpS_seq
  apply wpS_region
  simp [wpOpsS, go_sem, recoverD, hu, Tryd.ntmps38, Exit.thenS]
  refine wpS_of_wp ?_
  rw [show (#[Value.pointer (some ⟨B, 0, none⟩), Value.pointer (some ⟨C, 0, none⟩)] ++ ((Array.replicate 7 undef).setIfInBounds 1 (Value.iface 30 (.int .i64 290))).setIfInBounds 0 (Value.iface 30 (.int .i64 290))) = #[Value.pointer (some ⟨B, 0, none⟩), Value.pointer (some ⟨C, 0, none⟩), Value.iface 30 (.int .i64 290), Value.iface 30 (.int .i64 290), undef, undef, undef, undef, undef] from rfl]
  go_wp2_with fail
  have hn2 : ¬ C = B := fun e => hne e.symm
  have hta := errno_assert 290
  have hfar : ∀ i, (⟨C, 0, none⟩ : Addr) ≠ ⟨B, i, none⟩ := fun i e => by cases e; exact hne rfl
  have hc0 : C < w.heap.size := World.block_lt_of_cell? _ _ hc
  have hb0 : B < w.heap.size := World.block_lt_of_cell? _ _ (hB.at_ 0 _ (List.getElem?_eq_getElem (by omega)))
  refine wp_region_relE (fun _ => none) 0 3 [0, 1] (by kernel_rfl) (by kernel_rfl) (fun c a d v w h => by cases d <;> exact h) ?_
  apply earlyOK.cons (.agg #[.int .i64 0, .int .i64 0, .int .i64 0, .int .i64 0, .int .i64 0, .slice none 0 0, .int .i64 0, .int .i64 0, .int .i64 0])
  · simp only [List.getElem?_toArray, List.getElem?_cons_zero]
    rfl
  · exact .inl ⟨rfl, fun w => by go_simp⟩
  simp only [Act.put, List.setIfInBounds_toArray, List.set_cons_zero, List.set_cons_succ]
  apply earlyOK.cons (.iface 30 (.int .i64 290))
  · simp only [List.getElem?_toArray, List.getElem?_cons_succ, List.getElem?_cons_zero]
    rfl
  · exact .inl ⟨rfl, fun w => by go_simp⟩
  simp only [Act.put, List.setIfInBounds_toArray, List.set_cons_zero, List.set_cons_succ]
  simp only [earlyOK, List.take_zero]
  refine wpRel_nil ?_
  intro W hW
  have hEW : Ext w W := (Ext.refl w).drew.trans hW.1
  have hBW := hB.ext hb0 hEW
  have hcW := hEW.cell hc
  have hzW : W.frozen? ⟨C, 0, none⟩ = false := by rw [World.frozen?_of_block (w := w) (hEW.block C hc0)]; exact hz
  clear hW
  refine wpAny_ready (rs := [2, 3]) (by kernel_rfl) (by simp) ?_
  refine AllReady.cons rfl (fun K hK => ?_) (AllReady.cons rfl (fun K hK => ?_) AllReady.nil)
  · go_simp
    refine hK _ _ ?_
    clear hK K
    have b0 := hBW.at_ 0 _ (List.getElem?_eq_getElem (by omega))
    have z0 := hBW.fz 0
    have b1 := hBW.at_ 1 _ (List.getElem?_eq_getElem (by omega))
    have z1 := hBW.fz 1
    have b2 := hBW.at_ 2 _ (List.getElem?_eq_getElem (by omega))
    have z2 := hBW.fz 2
    have b3 := hBW.at_ 3 _ (List.getElem?_eq_getElem (by omega))
    have z3 := hBW.fz 3
    have b4 := hBW.at_ 4 _ (List.getElem?_eq_getElem (by omega))
    have z4 := hBW.fz 4
    have b5 := hBW.at_ 5 _ (List.getElem?_eq_getElem (by omega))
    have z5 := hBW.fz 5
    have b6 := hBW.at_ 6 _ (List.getElem?_eq_getElem (by omega))
    have z6 := hBW.fz 6
    have b7 := hBW.at_ 7 _ (List.getElem?_eq_getElem (by omega))
    have z7 := hBW.fz 7
    have b8 := hBW.at_ 8 _ (List.getElem?_eq_getElem (by omega))
    have z8 := hBW.fz 8
    refine wpAny_ready (rs := [3]) (by kernel_rfl) (by simp) ?_
    refine AllReady.cons rfl (fun K hK => ?_) AllReady.nil
    go_simp
    refine hK _ _ ?_
    clear hK K
    have hB3 := (((((((((hBW.set (i := 0) (by simp [hl]) (.int .i64 0)).set (i := 1) (by simp [hl]) (.int .i64 0)).set (i := 2) (by simp [hl]) (.int .i64 0)).set (i := 3) (by simp [hl]) (.int .i64 0)).set (i := 4) (by simp [hl]) (.int .i64 0)).set (i := 5) (by simp [hl]) (.slice none 0 0)).set (i := 6) (by simp [hl]) (.int .i64 0)).set (i := 7) (by simp [hl]) (.int .i64 0)).set (i := 8) (by simp [hl]) (.int .i64 0))
    rw [set_all9 hl] at hB3
    have hc3 : (((((((((W.setCell ⟨B, 0, none⟩ (.int .i64 0)).setCell ⟨B, 1, none⟩ (.int .i64 0)).setCell ⟨B, 2, none⟩ (.int .i64 0)).setCell ⟨B, 3, none⟩ (.int .i64 0)).setCell ⟨B, 4, none⟩ (.int .i64 0)).setCell ⟨B, 5, none⟩ (.slice none 0 0)).setCell ⟨B, 6, none⟩ (.int .i64 0)).setCell ⟨B, 7, none⟩ (.int .i64 0)).setCell ⟨B, 8, none⟩ (.int .i64 0)).cell? ⟨C, 0, none⟩ = some a4 := by
      repeat rw [World.cell?_setCell_other _ _ _ _ (by first | exact hfar _ | exact (hfar _).symm)]
      exact hcW
    have hz3 : (((((((((W.setCell ⟨B, 0, none⟩ (.int .i64 0)).setCell ⟨B, 1, none⟩ (.int .i64 0)).setCell ⟨B, 2, none⟩ (.int .i64 0)).setCell ⟨B, 3, none⟩ (.int .i64 0)).setCell ⟨B, 4, none⟩ (.int .i64 0)).setCell ⟨B, 5, none⟩ (.slice none 0 0)).setCell ⟨B, 6, none⟩ (.int .i64 0)).setCell ⟨B, 7, none⟩ (.int .i64 0)).setCell ⟨B, 8, none⟩ (.int .i64 0)).frozen? ⟨C, 0, none⟩ = false := by simp [hzW]
    have hex3 : ∀ w0, Ext w0 W → w0.heap.size ≤ B → Ext w0 (((((((((W.setCell ⟨B, 0, none⟩ (.int .i64 0)).setCell ⟨B, 1, none⟩ (.int .i64 0)).setCell ⟨B, 2, none⟩ (.int .i64 0)).setCell ⟨B, 3, none⟩ (.int .i64 0)).setCell ⟨B, 4, none⟩ (.int .i64 0)).setCell ⟨B, 5, none⟩ (.slice none 0 0)).setCell ⟨B, 6, none⟩ (.int .i64 0)).setCell ⟨B, 7, none⟩ (.int .i64 0)).setCell ⟨B, 8, none⟩ (.int .i64 0)) := fun w0 h0 hB => (((((((((h0.setCell (p := ⟨B, 0, none⟩) hB _).setCell (p := ⟨B, 1, none⟩) hB _).setCell (p := ⟨B, 2, none⟩) hB _).setCell (p := ⟨B, 3, none⟩) hB _).setCell (p := ⟨B, 4, none⟩) hB _).setCell (p := ⟨B, 5, none⟩) hB _).setCell (p := ⟨B, 6, none⟩) hB _).setCell (p := ⟨B, 7, none⟩) hB _).setCell (p := ⟨B, 8, none⟩) hB _)
    clear b0 b1 b2 b3 b4 b5 b6 b7 b8 z0 z1 z2 z3 z4 z5 z6 z7 z8
    generalize (((((((((W.setCell ⟨B, 0, none⟩ (.int .i64 0)).setCell ⟨B, 1, none⟩ (.int .i64 0)).setCell ⟨B, 2, none⟩ (.int .i64 0)).setCell ⟨B, 3, none⟩ (.int .i64 0)).setCell ⟨B, 4, none⟩ (.int .i64 0)).setCell ⟨B, 5, none⟩ (.slice none 0 0)).setCell ⟨B, 6, none⟩ (.int .i64 0)).setCell ⟨B, 7, none⟩ (.int .i64 0)).setCell ⟨B, 8, none⟩ (.int .i64 0)) = W3 at *
    refine wpAny_ready (rs := [4]) (by kernel_rfl) (by simp) ?_
    refine AllReady.cons rfl (fun K hK => ?_) AllReady.nil
    go_simp
    refine hK _ _ ?_
    clear hK K
    refine wpAny_done (by kernel_rfl) ?_ _
    have hB4 := hB3.keep (heap_setCell_far _ ⟨C, 0, none⟩ (.int .i64 290) _ hne)
    have hc4 : (W3.setCell ⟨C, 0, none⟩ (.int .i64 290)).cell? ⟨C, 0, none⟩ = some (.int .i64 290) := World.cell?_setCell_same' _ _ _ (by rw [hc3]; rfl)
    have hex4 : ∀ w0, Ext w0 w → w0.heap.size ≤ B → w0.heap.size ≤ C → Ext w0 (W3.setCell ⟨C, 0, none⟩ (.int .i64 290)) := fun w0 h0 hB hC => (hex3 w0 (h0.trans hEW) hB).setCell (p := ⟨C, 0, none⟩) hC _
    generalize (W3.setCell ⟨C, 0, none⟩ (.int .i64 290)) = W4 at *
    cases c₀
    simp +zetaDelta [bodyPostS, results, Tryd.results38]
    exact ⟨hB4, hc4, hex4⟩
  · skip
    have b0 := hBW.at_ 0 _ (List.getElem?_eq_getElem (by omega))
    have z0 := hBW.fz 0
    have b1 := hBW.at_ 1 _ (List.getElem?_eq_getElem (by omega))
    have z1 := hBW.fz 1
    have b2 := hBW.at_ 2 _ (List.getElem?_eq_getElem (by omega))
    have z2 := hBW.fz 2
    have b3 := hBW.at_ 3 _ (List.getElem?_eq_getElem (by omega))
    have z3 := hBW.fz 3
    have b4 := hBW.at_ 4 _ (List.getElem?_eq_getElem (by omega))
    have z4 := hBW.fz 4
    have b5 := hBW.at_ 5 _ (List.getElem?_eq_getElem (by omega))
    have z5 := hBW.fz 5
    have b6 := hBW.at_ 6 _ (List.getElem?_eq_getElem (by omega))
    have z6 := hBW.fz 6
    have b7 := hBW.at_ 7 _ (List.getElem?_eq_getElem (by omega))
    have z7 := hBW.fz 7
    have b8 := hBW.at_ 8 _ (List.getElem?_eq_getElem (by omega))
    have z8 := hBW.fz 8
    go_simp
    refine hK _ _ ?_
    clear hK K
    have hB3 := (((((((((hBW.set (i := 0) (by simp [hl]) (.int .i64 0)).set (i := 1) (by simp [hl]) (.int .i64 0)).set (i := 2) (by simp [hl]) (.int .i64 0)).set (i := 3) (by simp [hl]) (.int .i64 0)).set (i := 4) (by simp [hl]) (.int .i64 0)).set (i := 5) (by simp [hl]) (.slice none 0 0)).set (i := 6) (by simp [hl]) (.int .i64 0)).set (i := 7) (by simp [hl]) (.int .i64 0)).set (i := 8) (by simp [hl]) (.int .i64 0))
    rw [set_all9 hl] at hB3
    have hc3 : (((((((((W.setCell ⟨B, 0, none⟩ (.int .i64 0)).setCell ⟨B, 1, none⟩ (.int .i64 0)).setCell ⟨B, 2, none⟩ (.int .i64 0)).setCell ⟨B, 3, none⟩ (.int .i64 0)).setCell ⟨B, 4, none⟩ (.int .i64 0)).setCell ⟨B, 5, none⟩ (.slice none 0 0)).setCell ⟨B, 6, none⟩ (.int .i64 0)).setCell ⟨B, 7, none⟩ (.int .i64 0)).setCell ⟨B, 8, none⟩ (.int .i64 0)).cell? ⟨C, 0, none⟩ = some a4 := by
      repeat rw [World.cell?_setCell_other _ _ _ _ (by first | exact hfar _ | exact (hfar _).symm)]
      exact hcW
    have hz3 : (((((((((W.setCell ⟨B, 0, none⟩ (.int .i64 0)).setCell ⟨B, 1, none⟩ (.int .i64 0)).setCell ⟨B, 2, none⟩ (.int .i64 0)).setCell ⟨B, 3, none⟩ (.int .i64 0)).setCell ⟨B, 4, none⟩ (.int .i64 0)).setCell ⟨B, 5, none⟩ (.slice none 0 0)).setCell ⟨B, 6, none⟩ (.int .i64 0)).setCell ⟨B, 7, none⟩ (.int .i64 0)).setCell ⟨B, 8, none⟩ (.int .i64 0)).frozen? ⟨C, 0, none⟩ = false := by simp [hzW]
    have hex3 : ∀ w0, Ext w0 W → w0.heap.size ≤ B → Ext w0 (((((((((W.setCell ⟨B, 0, none⟩ (.int .i64 0)).setCell ⟨B, 1, none⟩ (.int .i64 0)).setCell ⟨B, 2, none⟩ (.int .i64 0)).setCell ⟨B, 3, none⟩ (.int .i64 0)).setCell ⟨B, 4, none⟩ (.int .i64 0)).setCell ⟨B, 5, none⟩ (.slice none 0 0)).setCell ⟨B, 6, none⟩ (.int .i64 0)).setCell ⟨B, 7, none⟩ (.int .i64 0)).setCell ⟨B, 8, none⟩ (.int .i64 0)) := fun w0 h0 hB => (((((((((h0.setCell (p := ⟨B, 0, none⟩) hB _).setCell (p := ⟨B, 1, none⟩) hB _).setCell (p := ⟨B, 2, none⟩) hB _).setCell (p := ⟨B, 3, none⟩) hB _).setCell (p := ⟨B, 4, none⟩) hB _).setCell (p := ⟨B, 5, none⟩) hB _).setCell (p := ⟨B, 6, none⟩) hB _).setCell (p := ⟨B, 7, none⟩) hB _).setCell (p := ⟨B, 8, none⟩) hB _)
    clear b0 b1 b2 b3 b4 b5 b6 b7 b8 z0 z1 z2 z3 z4 z5 z6 z7 z8
    generalize (((((((((W.setCell ⟨B, 0, none⟩ (.int .i64 0)).setCell ⟨B, 1, none⟩ (.int .i64 0)).setCell ⟨B, 2, none⟩ (.int .i64 0)).setCell ⟨B, 3, none⟩ (.int .i64 0)).setCell ⟨B, 4, none⟩ (.int .i64 0)).setCell ⟨B, 5, none⟩ (.slice none 0 0)).setCell ⟨B, 6, none⟩ (.int .i64 0)).setCell ⟨B, 7, none⟩ (.int .i64 0)).setCell ⟨B, 8, none⟩ (.int .i64 0)) = W3 at *
    refine wpAny_ready (rs := [2]) (by kernel_rfl) (by simp) ?_
    refine AllReady.cons rfl (fun K hK => ?_) AllReady.nil
    go_simp
    refine hK _ _ ?_
    clear hK K
    refine wpAny_ready (rs := [4]) (by kernel_rfl) (by simp) ?_
    refine AllReady.cons rfl (fun K hK => ?_) AllReady.nil
    go_simp
    refine hK _ _ ?_
    clear hK K
    refine wpAny_done (by kernel_rfl) ?_ _
    have hB4 := hB3.keep (heap_setCell_far _ ⟨C, 0, none⟩ (.int .i64 290) _ hne)
    have hc4 : (W3.setCell ⟨C, 0, none⟩ (.int .i64 290)).cell? ⟨C, 0, none⟩ = some (.int .i64 290) := World.cell?_setCell_same' _ _ _ (by rw [hc3]; rfl)
    have hex4 : ∀ w0, Ext w0 w → w0.heap.size ≤ B → w0.heap.size ≤ C → Ext w0 (W3.setCell ⟨C, 0, none⟩ (.int .i64 290)) := fun w0 h0 hB hC => (hex3 w0 (h0.trans hEW) hB).setCell (p := ⟨C, 0, none⟩) hC _
    generalize (W3.setCell ⟨C, 0, none⟩ (.int .i64 290)) = W4 at *
    cases c₀
    simp +zetaDelta [bodyPostS, results, Tryd.results38]
    exact ⟨hB4, hc4, hex4⟩
end Go.Proofs.YtahaplioegeloaaDoor
namespace Go.Sz
open Go.RowKit Go.Proofs.YtahaplioegeloaaDoor
theorem SL.less {w : World} {n : Nat} {ao : Option Addr} {cap : Nat} {rows : List (List Value)} (h : SL w n ao cap rows) (k : Nat) : SL w n ao cap (rows.take k) :=
  ⟨by have := h.le; simp; omega, h.max, h.nil, fun r hr => h.wid r (List.mem_of_mem_take hr), fun i j r v hr hv => h.cells i j r v (by
    rw [List.getElem?_take] at hr
    split at hr
    · exact hr
    · cases hr) hv⟩
theorem setCell_id9 {w : World} {B : Nat} {u0 u1 u2 u3 u4 u5 u6 u7 u8 : Value} (h : CB w B [u0, u1, u2, u3, u4, u5, u6, u7, u8]) : ((((((((w.setCell ⟨B, 0, none⟩ u0).setCell ⟨B, 1, none⟩ u1).setCell ⟨B, 2, none⟩ u2).setCell ⟨B, 3, none⟩ u3).setCell ⟨B, 4, none⟩ u4).setCell ⟨B, 5, none⟩ u5).setCell ⟨B, 6, none⟩ u6).setCell ⟨B, 7, none⟩ u7).setCell ⟨B, 8, none⟩ u8 = w := by
  rw [setCell_id (h.at_ 0 _ rfl), setCell_id (h.at_ 1 _ rfl), setCell_id (h.at_ 2 _ rfl), setCell_id (h.at_ 3 _ rfl), setCell_id (h.at_ 4 _ rfl), setCell_id (h.at_ 5 _ rfl), setCell_id (h.at_ 6 _ rfl), setCell_id (h.at_ 7 _ rfl), setCell_id (h.at_ 8 _ rfl)]
theorem heap_far {w : World} {p : Addr} {u : Value} {b : Nat} (h : b ≠ p.block) : (w.setCell p u).heap[b]? = w.heap[b]? := heap_setCell_far _ _ _ _ h
def rq0 : Rq := ⟨0, 0, 0, 0, 0, [], 0, 0, 0⟩
def v0 : V := .mk 0 0 ⟨#[]⟩ []
/-- the bundle of a value -/
def bdOf (x : V) : Option Bd := if x.k = 3 then match intsV x.l 2 with
    | some ns => some (ns.getD 0 0, ns.getD 1 0)
    | none => none
  else none
def bdsOf : List V → Option (List Bd)
  | [] => some []
  | x :: xs => match bdOf x, bdsOf xs with
    | some b, some bs => some (b :: bs)
    | _, _ => none
/-- the request of a value, not yet checked -/
def rawV (l : List V) : Option Rq := match intsV (l.take 5) 5, intsV (l.drop 6) 3, bdsOf (l.getD 5 v0).l with
  | some f, some g, some ch => some ⟨f.getD 0 0, f.getD 1 0, f.getD 2 0, f.getD 3 0, f.getD 4 0, ch, g.getD 0 0, g.getD 1 0, g.getD 2 0⟩
  | _, _, _ => none
def reqV (v : V) : Option Rq := if v.k = 3 ∧ v.l.length = 9 ∧ (v.l.getD 5 v0).k = 3 then match rawV v.l with
    | some r => if validQ r = true then some r else none
    | none => none
  else none
def fromV (v : V) : Rq × Int := match reqV v with
  | some r => (r, 0)
  | none => (rq0, 290)
def decQ (bs : List UInt8) : Rq × Int := if (decOut bs).2 = 0 then fromV (decOut bs).1 else (rq0, (decOut bs).2)
theorem bdsOf_append (l : List V) (x : V) : bdsOf (l ++ [x]) = match bdsOf l, bdOf x with
    | some bs, some b => some (bs ++ [b])
    | _, _ => none := by
  induction l with
  | nil => simp only [List.nil_append, bdsOf]; cases bdOf x <;> rfl
  | cons y ys ih =>
    simp only [List.cons_append, bdsOf, ih]
    cases bdOf y <;> cases bdsOf ys <;> cases bdOf x <;> rfl
theorem bdsOf_bad {l : List V} {x : V} (hx : x ∈ l) (h : bdOf x = none) : bdsOf l = none := by
  induction l with
  | nil => cases hx
  | cons y ys ih =>
    rcases List.mem_cons.1 hx with rfl | hx
    · simp only [bdsOf, h]
    · simp only [bdsOf, ih hx]; cases bdOf y <;> rfl
theorem intsV_two {l : List V} {ns : List Int} {m : Nat} (h : intsV l m = some ns) : ns.length = m := by
  unfold intsV at h
  split at h
  · rename_i hh
    cases h
    rw [List.length_map, hh.1]
  · cases h
theorem fromV_none {v : V} (h : reqV v = none) : fromV v = (rq0, 290) := by unfold fromV; rw [h]
theorem fromV_some {v : V} {r : Rq} (h : reqV v = some r) : fromV v = (r, 0) := by unfold fromV; rw [h]
theorem reqV_shape {v : V} (h : ¬ (v.k = 3 ∧ v.l.length = 9 ∧ (v.l.getD 5 v0).k = 3)) : reqV v = none := by unfold reqV; rw [if_neg h]
theorem reqV_raw {v : V} (h : v.k = 3 ∧ v.l.length = 9 ∧ (v.l.getD 5 v0).k = 3) (hr : rawV v.l = none) : reqV v = none := by unfold reqV; rw [if_pos h, hr]
theorem reqV_bad {v : V} {r : Rq} (h : v.k = 3 ∧ v.l.length = 9 ∧ (v.l.getD 5 v0).k = 3) (hr : rawV v.l = some r) (hv : validQ r = false) : reqV v = none := by
  unfold reqV; rw [if_pos h, hr]; simp [hv]
theorem reqV_good {v : V} {r : Rq} (h : v.k = 3 ∧ v.l.length = 9 ∧ (v.l.getD 5 v0).k = 3) (hr : rawV v.l = some r) (hv : validQ r = true) : reqV v = some r := by
  unfold reqV; rw [if_pos h, hr]; simp [hv]
theorem rawV_first {l : List V} (h : intsV (l.take 5) 5 = none) : rawV l = none := by unfold rawV; rw [h]
theorem rawV_last {l : List V} (h : intsV (l.drop 6) 3 = none) : rawV l = none := by unfold rawV; rw [h]; cases intsV (l.take 5) 5 <;> rfl
theorem rawV_mid {l : List V} (h : bdsOf (l.getD 5 v0).l = none) : rawV l = none := by unfold rawV; rw [h]; cases intsV (l.take 5) 5 <;> cases intsV (l.drop 6) 3 <;> rfl
theorem rawV_all {l : List V} {f g : List Int} {ch : List Bd} (h1 : intsV (l.take 5) 5 = some f) (h2 : intsV (l.drop 6) 3 = some g) (h3 : bdsOf (l.getD 5 v0).l = some ch) :
    rawV l = some ⟨f.getD 0 0, f.getD 1 0, f.getD 2 0, f.getD 3 0, f.getD 4 0, ch, g.getD 0 0, g.getD 1 0, g.getD 2 0⟩ := by unfold rawV; rw [h1, h2, h3]
/-- decoding undoes encoding -/
theorem bdOf_bdV (x : Bd) : bdOf (bdV x) = some x := rfl
theorem bdsOf_map (l : List Bd) : bdsOf (l.map bdV) = some l := by
  induction l with
  | nil => rfl
  | cons x xs ih => rw [List.map_cons, bdsOf, bdOf_bdV, ih]
theorem reqV_encV {r : Rq} (h : validQ r = true) : reqV (encV r) = some r := by
  refine reqV_good ⟨rfl, rfl, rfl⟩ ?_ h
  exact rawV_all (f := [r.c, r.n, r.s, r.k, r.t]) (g := [r.g, r.h, r.y]) rfl rfl (bdsOf_map r.ch)
end Go.Sz
namespace Go.Sz
open Go.RowKit Go.Proofs.YtahaplioegeloaaDoor
def decPost (w : World) (r : Rq × Int) (e : Ending) (w' : World) : Prop := ∃ a d, e = .returned (.tuple #[.agg (r.1.cells a d).toArray, .int .i64 r.2]) ∧ RepB w' a d r.1.ch ∧ Ext w w'
theorem cb_new (w : World) (vs : List Value) (t : TypeId) : CB (w.alloc (.cells vs.toArray t)) w.heap.size vs := ⟨fun i v h => by simp [h], fun i => by simp⟩
end Go.Sz
namespace Go.Proofs.YtahaplioegeloaaDoor
open Go.RowKit Go.Sz
set_option maxRecDepth 100000 in
set_option maxHeartbeats 6400000 in
theorem decodeQ_err (bs : List UInt8) (ao : Option Addr) (cap : Nat) (w : World) (hs : SL w 1 ao cap (br bs)) (hl : bs.length ≤ 1000000) (he : (decOut bs).2 ≠ 0) : Calls Tryd.prog 19 #[.slice ao bs.length cap] w (decPost w (rq0, (decOut bs).2)) := by
  have hE0 : Ext w ((w.alloc (.cells #[.int .i64 0, .int .i64 0, .int .i64 0, .int .i64 0, .int .i64 0, .slice none 0 0, .int .i64 0, .int .i64 0, .int .i64 0] 26)).alloc (.cells #[.int .i64 0] 30)) := ((Ext.refl w).alloc _).alloc _
  have HDEC := Lib.hid (decode_any bs ao cap ((w.alloc (.cells #[.int .i64 0, .int .i64 0, .int .i64 0, .int .i64 0, .int .i64 0, .slice none 0 0, .int .i64 0, .int .i64 0, .int .i64 0] 26)).alloc (.cells #[.int .i64 0] 30)) (hs.ext hE0) hl)
  have HQ : Hid (CB ((w.alloc (.cells #[.int .i64 0, .int .i64 0, .int .i64 0, .int .i64 0, .int .i64 0, .slice none 0 0, .int .i64 0, .int .i64 0, .int .i64 0] 26)).alloc (.cells #[.int .i64 0] 30)) w.heap.size zeroQ) := Lib.hid ((cb_new w zeroQ 26).ext (by simp) ((Ext.refl _).alloc _))
  have HC0 : Hid (((w.alloc (.cells #[.int .i64 0, .int .i64 0, .int .i64 0, .int .i64 0, .int .i64 0, .slice none 0 0, .int .i64 0, .int .i64 0, .int .i64 0] 26)).alloc (.cells #[.int .i64 0] 30)).cell? ⟨w.heap.size + 1, 0, none⟩ = some (.int .i64 0) ∧ ((w.alloc (.cells #[.int .i64 0, .int .i64 0, .int .i64 0, .int .i64 0, .int .i64 0, .slice none 0 0, .int .i64 0, .int .i64 0, .int .i64 0] 26)).alloc (.cells #[.int .i64 0] 30)).frozen? ⟨w.heap.size + 1, 0, none⟩ = false) := Lib.hid ⟨cell_new _ _ _ _ (by simp), frozen_new _ _ _ _ (by simp)⟩
  have HE0 := Lib.hid hE0
  have HSZ : Hid (((w.alloc (.cells #[.int .i64 0, .int .i64 0, .int .i64 0, .int .i64 0, .int .i64 0, .slice none 0 0, .int .i64 0, .int .i64 0, .int .i64 0] 26)).alloc (.cells #[.int .i64 0] 30)).heap.size = w.heap.size + 2) := Lib.hid (by simp)
  clear hE0 hs hl
  generalize decOut bs = o at *
  obtain ⟨v, er⟩ := o
  dsimp only at *
  go_enter_defers Tryd.func19, Tryd.ntmps19
  go_wp2_with fail
  generalize ((w.alloc (.cells #[.int .i64 0, .int .i64 0, .int .i64 0, .int .i64 0, .int .i64 0, .slice none 0 0, .int .i64 0, .int .i64 0, .int .i64 0] 26)).alloc (.cells #[.int .i64 0] 30)) = w1 at *
  refine HDEC.out.mono ?_
  rintro e w2 ⟨cs, F, rfl, hR, hF, hE2⟩
  obtain ⟨vk, vn, vs, vl⟩ := v
  obtain ⟨ao2, cap2, rows2, hcs, _⟩ := hR.open
  obtain ⟨cl⟩ := cs
  simp only at hcs
  subst hcs
  have hq1 : w.heap.size + 1 < w2.heap.size := by have h1 := hE2.size; have h2 := HSZ.out; omega
  have hc2 : w2.cell? ⟨w.heap.size + 1, 0, none⟩ = some (.int .i64 0) := hE2.cell HC0.out.1
  have hz2 : w2.frozen? ⟨w.heap.size + 1, 0, none⟩ = false := by
    rw [World.frozen?_of_block (w := w1) (hE2.block (w.heap.size + 1) (by have := HSZ.out; omega))]; exact HC0.out.2
  have hb2 : CB w2 w.heap.size zeroQ := HQ.out.ext (by have := HSZ.out; omega) hE2
  have hA : Ext (w2.setCell ⟨w.heap.size + 1, 0, none⟩ (.int .i64 er)) ((w2.setCell ⟨w.heap.size + 1, 0, none⟩ (.int .i64 er)).alloc (.cells #[.int .i64 vk, .int .i64 vn, .string vs, .slice ao2 vl.length cap2] 59)) := (Ext.refl _).alloc _
  have hbS : CB ((w2.setCell ⟨w.heap.size + 1, 0, none⟩ (.int .i64 er)).alloc (.cells #[.int .i64 vk, .int .i64 vn, .string vs, .slice ao2 vl.length cap2] 59)) w.heap.size zeroQ := (hb2.keep (heap_far (by show w.heap.size ≠ w.heap.size + 1; omega))).ext (by simp [World.setCell]; omega) hA
  have hcS0 : (w2.setCell ⟨w.heap.size + 1, 0, none⟩ (.int .i64 er)).cell? ⟨w.heap.size + 1, 0, none⟩ = some (.int .i64 er) := World.cell?_setCell_same' _ _ _ (by rw [hc2]; rfl)
  have hcS := hA.cell hcS0
  have hzS : ((w2.setCell ⟨w.heap.size + 1, 0, none⟩ (.int .i64 er)).alloc (.cells #[.int .i64 vk, .int .i64 vn, .string vs, .slice ao2 vl.length cap2] 59)).frozen? ⟨w.heap.size + 1, 0, none⟩ = false := by
    rw [World.frozen?_of_block (w := w2.setCell ⟨w.heap.size + 1, 0, none⟩ (.int .i64 er)) (hA.block (w.heap.size + 1) (by simp [World.setCell]; omega))]; simp [hz2]
  have hxS : Ext w ((w2.setCell ⟨w.heap.size + 1, 0, none⟩ (.int .i64 er)).alloc (.cells #[.int .i64 vk, .int .i64 vn, .string vs, .slice ao2 vl.length cap2] 59)) := ((HE0.out.trans hE2).setCell (by show w.heap.size ≤ w.heap.size + 1; omega) _).trans hA
  have HBS := Lib.hid hbS
  have HXS := Lib.hid hxS
  have q1 : (er == 0) = false := by rw [beq_eq_false_iff_ne]; exact he
  clear hbS hxS hR hF hb2 hA
  go_wp2_with fail
  generalize ((w2.setCell ⟨w.heap.size + 1, 0, none⟩ (.int .i64 er)).alloc (.cells #[.int .i64 vk, .int .i64 vn, .string vs, .slice ao2 vl.length cap2] 59)) = w3 at *
  have gc := grow_cell hcS
  have gb0 := grow_cell (HBS.out.at_ 0 _ rfl)
  have gb1 := grow_cell (HBS.out.at_ 1 _ rfl)
  have gb2 := grow_cell (HBS.out.at_ 2 _ rfl)
  have gb3 := grow_cell (HBS.out.at_ 3 _ rfl)
  have gb4 := grow_cell (HBS.out.at_ 4 _ rfl)
  have gb5 := grow_cell (HBS.out.at_ 5 _ rfl)
  have gb6 := grow_cell (HBS.out.at_ 6 _ rfl)
  have gb7 := grow_cell (HBS.out.at_ 7 _ rfl)
  have gb8 := grow_cell (HBS.out.at_ 8 _ rfl)
  have hC3lt : w.heap.size + 1 < w3.heap.size := World.block_lt_of_cell? _ _ hcS
  have hB3lt : w.heap.size < w3.heap.size := by omega
  have HCL : Hid (∀ W, Ext w3 W → W.cell? ⟨w.heap.size + 1, 0, none⟩ = some (.int .i64 er) ∧ W.frozen? ⟨w.heap.size + 1, 0, none⟩ = false) := Lib.hid fun W hE => ⟨hE.cell hcS, by rw [World.frozen?_of_block (w := w3) (hE.block _ hC3lt)]; exact hzS⟩
  refine wp_region_rel_all (fun _ => none) (by kernel_rfl) (by kernel_rfl) ?_
  repeat (first
    | (refine wpRel_quick ?_ ?_ ?_ ?_
       · rfl
       · rfl
       · first | exact noEnter rfl | (intro f args W W'; go_simp)
       intro K hK
       go_big_quiet_op
       go_big_quiet_on)
    | (refine wpRel_skip ?_ ?_
       · rfl
       simp only [Act.put, List.setIfInBounds_toArray, List.set_cons_zero, List.set_cons_succ]))
  refine wpRel_quiet undef rfl rfl (fun W hW => ?_) ?_
  · have hB := HBS.out.ext hB3lt ((Ext.refl w3).drew.trans hW.1)
    have b0 := hB.at_ 0 _ rfl
    have z0 := hB.fz 0
    have b1 := hB.at_ 1 _ rfl
    have z1 := hB.fz 1
    have b2 := hB.at_ 2 _ rfl
    have z2 := hB.fz 2
    have b3 := hB.at_ 3 _ rfl
    have z3 := hB.fz 3
    have b4 := hB.at_ 4 _ rfl
    have z4 := hB.fz 4
    have b5 := hB.at_ 5 _ rfl
    have z5 := hB.fz 5
    have b6 := hB.at_ 6 _ rfl
    have z6 := hB.fz 6
    have b7 := hB.at_ 7 _ rfl
    have z7 := hB.fz 7
    have b8 := hB.at_ 8 _ rfl
    have z8 := hB.fz 8
    go_simp
    exact ⟨setCell_id9 hB, rfl⟩
  simp only [Act.put]
  repeat (first
    | (refine wpRel_quick ?_ ?_ ?_ ?_
       · rfl
       · rfl
       · first | exact noEnter rfl | (intro f args W W'; go_simp)
       intro K hK
       go_big_quiet_op
       go_big_quiet_on)
    | (refine wpRel_skip ?_ ?_
       · rfl
       simp only [Act.put, List.setIfInBounds_toArray, List.set_cons_zero, List.set_cons_succ]))
  refine wpRel_quiet undef rfl rfl (fun W hW => ?_) ?_
  · obtain ⟨hc, hz⟩ := HCL.out W ((Ext.refl w3).drew.trans hW.1)
    go_simp
    exact ⟨setCell_id hc, rfl⟩
  simp only [Act.put]
  repeat (first
    | (refine wpRel_quick ?_ ?_ ?_ ?_
       · rfl
       · rfl
       · first | exact noEnter rfl | (intro f args W W'; go_simp)
       intro K hK
       go_big_quiet_op
       go_big_quiet_on)
    | (refine wpRel_skip ?_ ?_
       · rfl
       simp only [Act.put, List.setIfInBounds_toArray, List.set_cons_zero, List.set_cons_succ]))
  refine wpRel_nil ?_
  intro W hW
  have hE7 := (Ext.refl w3).drew.trans hW.1
  have hB := HBS.out.ext hB3lt hE7
  have hc := (HCL.out W hE7).1
  have b0 := hB.at_ 0 _ rfl
  have b1 := hB.at_ 1 _ rfl
  have b2 := hB.at_ 2 _ rfl
  have b3 := hB.at_ 3 _ rfl
  have b4 := hB.at_ 4 _ rfl
  have b5 := hB.at_ 5 _ rfl
  have b6 := hB.at_ 6 _ rfl
  have b7 := hB.at_ 7 _ rfl
  have b8 := hB.at_ 8 _ rfl
  have HX7 := Lib.hid (HXS.out.trans hE7)
  clear hW
  go_wp2_with fail
  simp [bodyPostD, Leaves, results, Tryd.results19, go_sem, b0, b1, b2, b3, b4, b5, b6, b7, b8, hc]
  exact ⟨none, 0, rfl, SL.empty _ _, HX7.out⟩
end Go.Proofs.YtahaplioegeloaaDoor
namespace Go.Sz
open Go.RowKit Go.Proofs.YtahaplioegeloaaDoor
theorem V.enc3 (n : Int) (s : ByteArray) (l : List V) : (V.mk 3 n s l).enc = 3 :: (digits l.length ++ V.encL l) := by
  unfold V.enc
  rw [if_neg (by omega), if_neg (by omega)]
theorem V.encL_mem {l : List V} {x : V} (h : x ∈ l) : x.enc.length ≤ (V.encL l).length := by
  induction l with
  | nil => cases h
  | cons y ys ih =>
    simp only [V.encL, List.length_append]
    rcases List.mem_cons.1 h with rfl | h
    · omega
    · have := ih h; omega
theorem V.wf_cases {k n : Int} {s : ByteArray} {l : List V} (h : (V.mk k n s l).wf = true) : (k = 1 ∧ s = ⟨#[]⟩ ∧ l = []) ∨ (k = 2 ∧ n = 0 ∧ l = []) ∨ (k = 3 ∧ n = 0 ∧ s = ⟨#[]⟩ ∧ V.wfL l = true) := by
  unfold V.wf at h
  split at h
  · rename_i h1
    simp only [Bool.and_eq_true, beq_iff_eq, List.isEmpty_iff] at h
    exact Or.inl ⟨h1, bytes_empty h.1, h.2⟩
  · split at h
    · rename_i h1
      simp only [Bool.and_eq_true, beq_iff_eq, List.isEmpty_iff] at h
      exact Or.inr (Or.inl ⟨h1, h.1, h.2⟩)
    · split at h
      · rename_i h1
        simp only [Bool.and_eq_true, beq_iff_eq] at h
        exact Or.inr (Or.inr ⟨h1, h.1.1, bytes_empty h.1.2, h.2⟩)
      · cases h
theorem V.wf_len {v : V} (h : v.wf = true) : v.l.length ≤ v.enc.length := by
  obtain ⟨k, n, s, l⟩ := v
  show l.length ≤ _
  rcases V.wf_cases h with ⟨_, _, rfl⟩ | ⟨_, _, rfl⟩ | ⟨rfl, _, _, _⟩
  · exact Nat.zero_le _
  · exact Nat.zero_le _
  · rw [V.enc3]
    have := V.encL_len l
    simp only [List.length_cons, List.length_append]
    omega
theorem V.wf_mem {v x : V} (h : v.wf = true) (hx : x ∈ v.l) : x.wf = true ∧ x.enc.length ≤ v.enc.length := by
  obtain ⟨k, n, s, l⟩ := v
  change x ∈ l at hx
  rcases V.wf_cases h with ⟨_, _, rfl⟩ | ⟨_, _, rfl⟩ | ⟨rfl, _, _, hw⟩
  · cases hx
  · cases hx
  · rw [V.enc3]
    have := V.encL_mem hx
    refine ⟨?_, by simp only [List.length_cons, List.length_append]; omega⟩
    rw [V.wfL_all, List.all_eq_true] at hw
    exact hw x hx
theorem decOut_inv {bs : List UInt8} (h : (decOut bs).2 = 0) : (decOut bs).1.wf = true ∧ (decOut bs).1.enc = bs := by
  unfold decOut at h ⊢
  split at h
  · rename_i x hx
    obtain ⟨h1, h2, _⟩ := valP_inv 16 bs x [] hx
    exact ⟨h2, by rw [h1, List.append_nil]⟩
  · exact absurd h (by decide)
theorem decOut_err {bs : List UInt8} (h : (decOut bs).2 ≠ 0) : (decOut bs).2 = 10 := by
  unfold decOut at h ⊢
  split at h
  · exact absurd rfl h
  · rfl
theorem decOut_len {bs : List UInt8} (h : (decOut bs).2 = 0) (h5 : 5 < (decOut bs).1.l.length) : ((decOut bs).1.l.getD 5 v0).l.length ≤ bs.length ∧ ∀ x ∈ ((decOut bs).1.l.getD 5 v0).l, x.l.length ≤ bs.length := by
  obtain ⟨hw, he⟩ := decOut_inv h
  generalize (decOut bs).1 = v at *
  rw [List.getD, List.getElem?_eq_getElem h5, Option.getD_some]
  obtain ⟨h1, h2⟩ := V.wf_mem hw (List.getElem_mem h5)
  rw [he] at h2
  refine ⟨Nat.le_trans (V.wf_len h1) h2, fun x hx => ?_⟩
  obtain ⟨h3, h4⟩ := V.wf_mem h1 hx
  exact Nat.le_trans (V.wf_len h3) (Nat.le_trans h4 h2)
theorem numV_of {x : V} (hw : x.wf = true) (hk : x.k = 1) : x = numV x.n := by
  obtain ⟨k, n, s, l⟩ := x
  change k = 1 at hk
  subst hk
  rcases V.wf_cases hw with ⟨_, rfl, rfl⟩ | ⟨h, _⟩ | ⟨h, _⟩
  · rfl
  · omega
  · omega
theorem listV_of {x : V} (hw : x.wf = true) (hk : x.k = 3) : x = listV x.l := by
  obtain ⟨k, n, s, l⟩ := x
  change k = 3 at hk
  subst hk
  rcases V.wf_cases hw with ⟨h, _⟩ | ⟨h, _⟩ | ⟨_, rfl, rfl, _⟩
  · omega
  · omega
  · rfl
theorem intsV_of {xs : List V} {m : Nat} {ns : List Int} (hw : ∀ x ∈ xs, x.wf = true) (h : intsV xs m = some ns) : xs = ns.map numV := by
  unfold intsV at h
  split at h
  · rename_i hh
    cases h
    rw [List.map_map]
    have h2 := List.all_eq_true.1 hh.2
    apply List.ext_getElem
    · simp
    · intro i h3 h4
      rw [List.getElem_map]
      have hm := List.getElem_mem h3
      exact numV_of (hw _ hm) (by have := h2 _ hm; simpa using this)
  · cases h
theorem two_of {ns : List Int} (h : ns.length = 2) : ns = [ns.getD 0 0, ns.getD 1 0] := by
  match ns, h with
  | [a, b], _ => rfl
theorem wfL_mem {v x : V} (h : v.wf = true) (hx : x ∈ v.l) : x.wf = true := (V.wf_mem h hx).1
theorem bdV_of {x : V} {b : Bd} (hw : x.wf = true) (h : bdOf x = some b) : x = bdV b := by
  unfold bdOf at h
  split at h
  · rename_i hk
    split at h
    · rename_i ns hn
      cases h
      have h1 := intsV_of (fun y hy => wfL_mem hw hy) hn
      rw [two_of (intsV_two hn)] at h1
      rw [listV_of hw hk, h1]
      rfl
    · cases h
  · cases h
theorem bdsV_of : ∀ {l : List V} {ch : List Bd}, (∀ x ∈ l, x.wf = true) → bdsOf l = some ch → l = ch.map bdV
  | [], ch, _, h => by
    unfold bdsOf at h
    cases h
    rfl
  | x :: xs, ch, hw, h => by
    unfold bdsOf at h
    split at h
    · rename_i b bs h1 h2
      cases h
      rw [List.map_cons, ← bdV_of (hw x (by simp)) h1, ← bdsV_of (fun y hy => hw y (List.mem_cons_of_mem _ hy)) h2]
    · cases h
theorem reqV_of {v : V} {r : Rq} (hw : v.wf = true) (h : reqV v = some r) : v = encV r ∧ validQ r = true := by
  unfold reqV at h
  split at h
  · rename_i hs
    obtain ⟨h1, h2, h3⟩ := hs
    split at h
    · rename_i r' hr
      split at h
      · rename_i hv
        cases h
        refine ⟨?_, hv⟩
        unfold rawV at hr
        split at hr
        · rename_i f g ch hf hg hc
          have hf2 := intsV_two hf
          have hg2 := intsV_two hg
          have e1 := intsV_of (fun x hx => wfL_mem hw (List.mem_of_mem_take hx)) hf
          have e2 := intsV_of (fun x hx => wfL_mem hw (List.mem_of_mem_drop hx)) hg
          have h5 : 5 < v.l.length := by omega
          have h5e : v.l.getD 5 v0 = v.l[5] := by rw [List.getD, List.getElem?_eq_getElem h5]; rfl
          rw [h5e] at hc h3
          have hw5 := wfL_mem hw (List.getElem_mem h5)
          have e3 := bdsV_of (fun x hx => wfL_mem hw5 hx) hc
          have e4 := listV_of hw5 h3
          rw [listV_of hw h1]
          have e5 : v.l = v.l.take 5 ++ v.l[5] :: v.l.drop 6 := by
            rw [← List.drop_eq_getElem_cons h5, List.take_append_drop]
          rw [e5, e4, e3, e1, e2]
          match f, hf2, g, hg2, hr with
          | [a, b, c, d, e], _, [x, y, z], _, hr => cases hr; rfl
        · cases hr
      · cases h
    · cases h
  · cases h
theorem decOut_encV {r : Rq} (h : validQ r = true) : decOut (encV r).enc = (encV r, 0) := by
  obtain ⟨h1, h2, h3⟩ := validQ_in h
  have hc := encV_check r
  unfold checkV at hc
  have hwd : (encV r).wf = true ∧ (encV r).dep ≤ 16 := by
    split at hc
    · rename_i hw
      split at hc
      · rename_i hd; exact ⟨hw, hd⟩
      · exact absurd hc (by decide)
    · exact absurd hc (by decide)
  have := valP_enc 16 (encV r) [] hwd.1 (encV_ok h1 h2 h3) hwd.2
  rw [List.append_nil] at this
  unfold decOut
  rw [this]
theorem decQ_encV {r : Rq} (h : validQ r = true) : decQ (encV r).enc = (r, 0) := by
  unfold decQ
  rw [decOut_encV h, if_pos rfl, fromV_some (reqV_encV h)]
theorem decQ_good {bs : List UInt8} (h : (decQ bs).2 = 0) : validQ (decQ bs).1 = true ∧ (encV (decQ bs).1).enc = bs := by
  unfold decQ at h ⊢
  split at h
  · rename_i he
    rw [if_pos he]
    obtain ⟨hw, hb⟩ := decOut_inv he
    unfold fromV at h ⊢
    split at h
    · rename_i r hr
      obtain ⟨h1, h2⟩ := reqV_of hw hr
      refine ⟨h2, ?_⟩
      show (encV r).enc = bs
      rw [← h1, hb]
    · exact absurd h (by decide)
  · rename_i he; exact absurd h he
theorem decQ_bad {bs : List UInt8} (h : (decQ bs).2 ≠ 0) : (decQ bs).1 = rq0 := by
  unfold decQ at h ⊢
  split at h
  · rename_i he
    rw [if_pos he]
    unfold fromV at h ⊢
    split at h
    · exact absurd rfl h
    · rfl
  · rename_i he; rw [if_neg he]
theorem encV_inj {r s : Rq} (hr : validQ r = true) (hs : validQ s = true) : (encV r).enc = (encV s).enc ↔ r = s := by
  constructor
  · intro h
    have h1 := decQ_encV hr
    rw [h, decQ_encV hs] at h1
    cases h1
    rfl
  · intro h; rw [h]
end Go.Sz
namespace Go.Proofs.YtahaplioegeloaaDoor
open Go.RowKit Go.Sz
set_option maxRecDepth 100000 in
set_option maxHeartbeats 6400000 in
theorem decodeQ_shape (bs : List UInt8) (ao : Option Addr) (cap : Nat) (w : World) (hs : SL w 1 ao cap (br bs)) (hl : bs.length ≤ 1000000) (he : (decOut bs).2 = 0) (hv : ¬ ((decOut bs).1.k = 3 ∧ (decOut bs).1.l.length = 9 ∧ ((decOut bs).1.l.getD 5 v0).k = 3)) : Calls Tryd.prog 19 #[.slice ao bs.length cap] w (decPost w (fromV (decOut bs).1)) := by
  rw [fromV_none (reqV_shape hv)]
  have hE0 : Ext w ((w.alloc (.cells #[.int .i64 0, .int .i64 0, .int .i64 0, .int .i64 0, .int .i64 0, .slice none 0 0, .int .i64 0, .int .i64 0, .int .i64 0] 26)).alloc (.cells #[.int .i64 0] 30)) := ((Ext.refl w).alloc _).alloc _
  have HDEC := Lib.hid (decode_any bs ao cap ((w.alloc (.cells #[.int .i64 0, .int .i64 0, .int .i64 0, .int .i64 0, .int .i64 0, .slice none 0 0, .int .i64 0, .int .i64 0, .int .i64 0] 26)).alloc (.cells #[.int .i64 0] 30)) (hs.ext hE0) hl)
  have HQ : Hid (CB ((w.alloc (.cells #[.int .i64 0, .int .i64 0, .int .i64 0, .int .i64 0, .int .i64 0, .slice none 0 0, .int .i64 0, .int .i64 0, .int .i64 0] 26)).alloc (.cells #[.int .i64 0] 30)) w.heap.size zeroQ) := Lib.hid ((cb_new w zeroQ 26).ext (by simp) ((Ext.refl _).alloc _))
  have HC0 : Hid (((w.alloc (.cells #[.int .i64 0, .int .i64 0, .int .i64 0, .int .i64 0, .int .i64 0, .slice none 0 0, .int .i64 0, .int .i64 0, .int .i64 0] 26)).alloc (.cells #[.int .i64 0] 30)).cell? ⟨w.heap.size + 1, 0, none⟩ = some (.int .i64 0) ∧ ((w.alloc (.cells #[.int .i64 0, .int .i64 0, .int .i64 0, .int .i64 0, .int .i64 0, .slice none 0 0, .int .i64 0, .int .i64 0, .int .i64 0] 26)).alloc (.cells #[.int .i64 0] 30)).frozen? ⟨w.heap.size + 1, 0, none⟩ = false) := Lib.hid ⟨cell_new _ _ _ _ (by simp), frozen_new _ _ _ _ (by simp)⟩
  have HE0 := Lib.hid hE0
  have HSZ : Hid (((w.alloc (.cells #[.int .i64 0, .int .i64 0, .int .i64 0, .int .i64 0, .int .i64 0, .slice none 0 0, .int .i64 0, .int .i64 0, .int .i64 0] 26)).alloc (.cells #[.int .i64 0] 30)).heap.size = w.heap.size + 2) := Lib.hid (by simp)
  clear hE0 hs hl
  generalize decOut bs = o at *
  obtain ⟨v, er⟩ := o
  dsimp only at *
  subst he
  have hmf : ∀ (fn : Fn) (first cap : Array Value) (w : World), (Instr.makeFunc fn first cap).run Tryd.prog w = .ok (.func fn first cap) w := fun _ _ _ _ => rfl
  go_enter_defers Tryd.func19, Tryd.ntmps19
  go_wp2_with fail
  generalize ((w.alloc (.cells #[.int .i64 0, .int .i64 0, .int .i64 0, .int .i64 0, .int .i64 0, .slice none 0 0, .int .i64 0, .int .i64 0, .int .i64 0] 26)).alloc (.cells #[.int .i64 0] 30)) = w1 at *
  refine HDEC.out.mono ?_
  rintro e w2 ⟨cs, F, rfl, hR, hF, hE2⟩
  obtain ⟨vk, vn, vs, vl⟩ := v
  obtain ⟨ao2, cap2, rows2, hcs, hik, hin, hss, hsl, hFa, hrl, hel⟩ := hR.open
  obtain ⟨cl⟩ := cs
  simp only at hcs
  subst hcs
  have hq1 : w.heap.size + 1 < w2.heap.size := by have h1 := hE2.size; have h2 := HSZ.out; omega
  have hc2 : w2.cell? ⟨w.heap.size + 1, 0, none⟩ = some (.int .i64 0) := hE2.cell HC0.out.1
  have hz2 : w2.frozen? ⟨w.heap.size + 1, 0, none⟩ = false := by
    rw [World.frozen?_of_block (w := w1) (hE2.block (w.heap.size + 1) (by have := HSZ.out; omega))]; exact HC0.out.2
  have hb2 : CB w2 w.heap.size zeroQ := HQ.out.ext (by have := HSZ.out; omega) hE2
  have hbox := Box.new (w2.setCell ⟨w.heap.size + 1, 0, none⟩ (.int .i64 0)) (.int .i64 vk) (.int .i64 vn) (.string vs) (.slice ao2 vl.length cap2) 59
  rw [show (w2.setCell ⟨w.heap.size + 1, 0, none⟩ (.int .i64 0)).heap.size = w2.heap.size by simp [World.setCell]] at hbox
  have hA : Ext (w2.setCell ⟨w.heap.size + 1, 0, none⟩ (.int .i64 0)) ((w2.setCell ⟨w.heap.size + 1, 0, none⟩ (.int .i64 0)).alloc (.cells #[.int .i64 vk, .int .i64 vn, .string vs, .slice ao2 vl.length cap2] 59)) := (Ext.refl _).alloc _
  have hbS : CB ((w2.setCell ⟨w.heap.size + 1, 0, none⟩ (.int .i64 0)).alloc (.cells #[.int .i64 vk, .int .i64 vn, .string vs, .slice ao2 vl.length cap2] 59)) w.heap.size zeroQ := (hb2.keep (heap_far (by show w.heap.size ≠ w.heap.size + 1; omega))).ext (by simp [World.setCell]; omega) hA
  have hcS0 : (w2.setCell ⟨w.heap.size + 1, 0, none⟩ (.int .i64 0)).cell? ⟨w.heap.size + 1, 0, none⟩ = some (.int .i64 0) := World.cell?_setCell_same' _ _ _ (by rw [hc2]; rfl)
  have hcS := hA.cell hcS0
  have hzS : ((w2.setCell ⟨w.heap.size + 1, 0, none⟩ (.int .i64 0)).alloc (.cells #[.int .i64 vk, .int .i64 vn, .string vs, .slice ao2 vl.length cap2] 59)).frozen? ⟨w.heap.size + 1, 0, none⟩ = false := by
    rw [World.frozen?_of_block (w := w2.setCell ⟨w.heap.size + 1, 0, none⟩ (.int .i64 0)) (hA.block (w.heap.size + 1) (by simp [World.setCell]; omega))]; simp [hz2]
  have hxS : Ext w ((w2.setCell ⟨w.heap.size + 1, 0, none⟩ (.int .i64 0)).alloc (.cells #[.int .i64 vk, .int .i64 vn, .string vs, .slice ao2 vl.length cap2] 59)) := ((HE0.out.trans hE2).setCell (by show w.heap.size ≤ w.heap.size + 1; omega) _).trans hA
  have hfar : ∀ b, F b → b ≠ w.heap.size + 1 := fun b hb => by have h1 := hF b hb; have h2 := HSZ.out; omega
  have hRS : RepV ((w2.setCell ⟨w.heap.size + 1, 0, none⟩ (.int .i64 0)).alloc (.cells #[.int .i64 vk, .int .i64 vn, .string vs, .slice ao2 vl.length cap2] 59)) (fun b => F b ∧ b < w2.heap.size) [.int .i64 vk, .int .i64 vn, .string vs, .slice ao2 vl.length cap2] (.mk vk vn vs vl) := ((RepV.bound hR).keep fun b hb => heap_far (hfar b hb.1)).ext hA
  clear hsl hFa hel hR
  obtain ⟨ao3, cap3, rows, hcs, _, _, _, hsl, hFa, hrl, hel⟩ := hRS.open
  obtain ⟨rfl, rfl⟩ : ao2 = ao3 ∧ cap2 = cap3 := by simp at hcs; exact ⟨hcs.1, hcs.2⟩
  clear hcs hRS
  have hlt3 : w2.heap.size < ((w2.setCell ⟨w.heap.size + 1, 0, none⟩ (.int .i64 0)).alloc (.cells #[.int .i64 vk, .int .i64 vn, .string vs, .slice ao2 vl.length cap2] 59)).heap.size := by simp [World.setCell]
  clear hA hcS0
  have HF : Hid (∀ b, (F b ∧ b < w2.heap.size) → w.heap.size + 2 ≤ b ∧ b < w2.heap.size) := Lib.hid fun b hb => ⟨by have h1 := hF b hb.1; have h2 := HSZ.out; omega, hb.2⟩
  have hb0 := hbox.c0
  have hb3 := hbox.c3
  have HBS := Lib.hid hbS
  have HXS := Lib.hid hxS
  have hl9 : zeroQ.length = 9 := rfl
  clear hbS hxS hbox
  by_cases h1 : vk = 3
  · subst h1
    by_cases h2 : vl.length = 9
    · have h3 : (vl.getD 5 v0).k ≠ 3 := fun h => hv ⟨rfl, h2, h⟩
      have h5 : 5 < rows.length := by rw [hrl]; omega
      obtain ⟨bb, oo, hao, _⟩ := SL.at hsl (by omega) 5 h5
      subst hao
      have h5v : 5 < vl.length := by omega
      have hx := hel 5 rows[5] vl[5] (List.getElem?_eq_getElem h5) (List.getElem?_eq_getElem h5v)
      have hx3 : vl[5].k ≠ 3 := fun h => h3 (by rw [List.getD, List.getElem?_eq_getElem h5v]; exact h)
      rcases hxe : vl[5] with ⟨xk, xn, xs, xl⟩
      rw [hxe] at hx hx3
      obtain ⟨ao5, cap5, rows5, hr5, _⟩ := hx.open
      have c5 : ((w2.setCell ⟨w.heap.size + 1, 0, none⟩ (.int .i64 0)).alloc (.cells #[.int .i64 3, .int .i64 vn, .string vs, .slice (some ⟨bb, oo, none⟩) vl.length cap2] 59)).cell? ⟨bb, oo + 20, none⟩ = some (.int .i64 xk) := by simpa using hsl.cellAt (i := 5) (j := 0) (by rw [List.getElem?_eq_getElem h5, hr5]) rfl
      have hq : (xk == 3) = false := by rw [beq_eq_false_iff_ne]; exact hx3
      have hq9 : (((vl.length : Nat) : Int) == 9) = true := by rw [beq_iff_eq]; omega
      have hq5 : (5 : Int) < (vl.length : Int) := by omega
      clear h2
      go_wp2_with (go_at_call 39; refine (must_f _ (by first | rfl | assumption | (simp; omega))).mono ?_; rintro e w9 ⟨rfl, rfl⟩)
      refine leaves_cons (f := 38) (args := #[.pointer (some ⟨w.heap.size, 0, none⟩), .pointer (some ⟨w.heap.size + 1, 0, none⟩)]) (by simp) (by simp [go_sem]) ?_
      refine (decodeQ1_panicking w.heap.size (w.heap.size + 1) _ _ [] _ HBS.out hl9 hcS hzS (by omega)).mono ?_
      rintro e u' w9 ⟨rfl, rfl, hB9, hC9, hE9⟩
      have hE := hE9 w HXS.out (by omega) (by omega)
      have e0 := hB9.at_ 0 _ rfl
      have e1 := hB9.at_ 1 _ rfl
      have e2 := hB9.at_ 2 _ rfl
      have e3 := hB9.at_ 3 _ rfl
      have e4 := hB9.at_ 4 _ rfl
      have e5 := hB9.at_ 5 _ rfl
      have e6 := hB9.at_ 6 _ rfl
      have e7 := hB9.at_ 7 _ rfl
      have e8 := hB9.at_ 8 _ rfl
      simp [Leaves, settle, results, Tryd.results19, go_sem, e0, e1, e2, e3, e4, e5, e6, e7, e8, hC9]
      exact ⟨none, 0, rfl, SL.empty _ _, hE⟩
    · have hq : (((vl.length : Nat) : Int) == 9) = false := by rw [beq_eq_false_iff_ne]; omega
      go_wp2_with (go_at_call 39; refine (must_f _ (by first | rfl | assumption | (simp; omega))).mono ?_; rintro e w9 ⟨rfl, rfl⟩)
      refine leaves_cons (f := 38) (args := #[.pointer (some ⟨w.heap.size, 0, none⟩), .pointer (some ⟨w.heap.size + 1, 0, none⟩)]) (by simp) (by simp [go_sem]) ?_
      refine (decodeQ1_panicking w.heap.size (w.heap.size + 1) _ _ [] _ HBS.out hl9 hcS hzS (by omega)).mono ?_
      rintro e u' w9 ⟨rfl, rfl, hB9, hC9, hE9⟩
      have hE := hE9 w HXS.out (by omega) (by omega)
      have e0 := hB9.at_ 0 _ rfl
      have e1 := hB9.at_ 1 _ rfl
      have e2 := hB9.at_ 2 _ rfl
      have e3 := hB9.at_ 3 _ rfl
      have e4 := hB9.at_ 4 _ rfl
      have e5 := hB9.at_ 5 _ rfl
      have e6 := hB9.at_ 6 _ rfl
      have e7 := hB9.at_ 7 _ rfl
      have e8 := hB9.at_ 8 _ rfl
      simp [Leaves, settle, results, Tryd.results19, go_sem, e0, e1, e2, e3, e4, e5, e6, e7, e8, hC9]
      exact ⟨none, 0, rfl, SL.empty _ _, hE⟩
  · have hq : (vk == 3) = false := by rw [beq_eq_false_iff_ne]; exact h1
    go_wp2_with (go_at_call 39; refine (must_f _ (by first | rfl | assumption | (simp; omega))).mono ?_; rintro e w9 ⟨rfl, rfl⟩)
    refine leaves_cons (f := 38) (args := #[.pointer (some ⟨w.heap.size, 0, none⟩), .pointer (some ⟨w.heap.size + 1, 0, none⟩)]) (by simp) (by simp [go_sem]) ?_
    refine (decodeQ1_panicking w.heap.size (w.heap.size + 1) _ _ [] _ HBS.out hl9 hcS hzS (by omega)).mono ?_
    rintro e u' w9 ⟨rfl, rfl, hB9, hC9, hE9⟩
    have hE := hE9 w HXS.out (by omega) (by omega)
    have e0 := hB9.at_ 0 _ rfl
    have e1 := hB9.at_ 1 _ rfl
    have e2 := hB9.at_ 2 _ rfl
    have e3 := hB9.at_ 3 _ rfl
    have e4 := hB9.at_ 4 _ rfl
    have e5 := hB9.at_ 5 _ rfl
    have e6 := hB9.at_ 6 _ rfl
    have e7 := hB9.at_ 7 _ rfl
    have e8 := hB9.at_ 8 _ rfl
    simp [Leaves, settle, results, Tryd.results19, go_sem, e0, e1, e2, e3, e4, e5, e6, e7, e8, hC9]
    exact ⟨none, 0, rfl, SL.empty _ _, hE⟩
end Go.Proofs.YtahaplioegeloaaDoor
