/- Requests: a set of names (campus and number), kept in a map. -/
import Derived.Test.YtahaplioegeloaaDoorQB
import Derived.DeepKeys4
import Derived.Maps.OwnSet
import Derived.Test.YtahaplioegeloaaDoorQH
namespace Go.Sz
open Go.RowKit
abbrev Nm := Int × Int
def okPl (p : Nm) : Prop := inI64 p.1 ∧ inI64 p.2
def plV (p : Nm) : Value := .agg #[.int .i64 p.1, .int .i64 p.2]
set_option maxRecDepth 100000 in
theorem plV_inj {p q : Nm} (h : plV p = plV q) : p = q := by
  obtain ⟨a, b⟩ := p
  obtain ⟨d, e⟩ := q
  simp [plV] at h
  simp [h]
set_option maxRecDepth 100000 in
theorem ext_grown {w W W' : World} {B : Nat} (h : Ext w W) (hB : w.heap.size ≤ B) (hg : W.grownBy W' (some B)) : Ext w W' :=
  Below.grown h hg h.size (fun x hx => by cases hx; exact hB)
end Go.Sz
namespace Go.Proofs.YtahaplioegeloaaDoor
open Go.RowKit Go.Sz
open Go.Maps (Keyed setOf setOf_snoc has_setOf)
set_option maxRecDepth 100000 in
theorem placeWide : (match Tryd.prog.underlying 53 with | some (.array _ _) | some (.struct _) => true | _ => false) = true := by kernel_rfl
set_option maxRecDepth 100000 in
theorem placeLaw : Keyed Tryd.prog 53 := Keyed.of_law (deep_law_laid (by kernel_rfl) (m := 3) (by omega) (of_decide_eq_true (by kernel_rfl)) (by kernel_rfl) placeWide)
set_option maxRecDepth 100000 in
theorem place_wf {n : Int} (h : inI64 n) : (Lit.int .i64 n).wf = true := by
  obtain ⟨h1, h2⟩ := h
  exact WalkArith.wf_i64 (by omega)
set_option maxRecDepth 100000 in
theorem key_some {p : Nm} (h : okPl p) : ∃ l, keyOf Tryd.prog 53 (plV p) = some l := by
  obtain ⟨h1, h2⟩ := h
  have k1 := place_wf h1
  have k2 := place_wf h2
  have hf : (plV p).formed Tryd.prog 53 = true := by
    have : Tryd.prog.cellsOf 53 = 2 := by kernel_rfl
    simp [plV, Value.formed, Tryd.underlying53, this]
  have ht : Tryd.prog.keyType 53 = true := by kernel_rfl
  obtain ⟨n, hn⟩ : ∃ n, Tryd.prog.types.size + 1 = n + 3 := ⟨Tryd.prog.types.size - 2, by
    have : 2 ≤ Tryd.prog.types.size := of_decide_eq_true (by kernel_rfl)
    omega⟩
  have c1 : Tryd.prog.cellsOf 53 = 2 := by kernel_rfl
  have c3 : Tryd.prog.cellsOf 3 = 1 := by kernel_rfl
  unfold keyOf
  rw [ht, hf, hn, Tryd.underlying53]
  simp [plV, Value.cells, Program.keyLits, Tryd.underlying53, Tryd.underlying3, c1, c3, k1, k2]
noncomputable def plL (p : Nm) : Lit := (keyOf Tryd.prog 53 (plV p)).getD (.bool false)
set_option maxRecDepth 100000 in
theorem plL_key {p : Nm} (h : okPl p) : keyOf Tryd.prog 53 (plV p) = some (plL p) := by
  obtain ⟨l, hl⟩ := key_some h
  unfold plL
  rw [hl]
  rfl
set_option maxRecDepth 100000 in
theorem plL_inj {p q : Nm} (h : okPl p) (k : okPl q) (he : plL p = plL q) : p = q := plV_inj (placeLaw.inj (plL_key h) (he ▸ plL_key k))
/-- block B is a map that holds true at just the places ks -/
def MetW (w : World) (B n : Nat) (ks : List Nm) : Prop := w.ownsMap (H := Unit) Tryd.prog 53 (plainElem Tryd.prog 4) B n (setOf (.lit (.bool true)) (ks.map plL)) ∧ ∀ p ∈ ks, okPl p
set_option maxRecDepth 100000 in
theorem MetW.made (w : World) : MetW (w.alloc (.map #[] 0)) w.heap.size 0 [] := ⟨World.ownsMap_made _ _ _ _, by simp⟩
set_option maxRecDepth 100000 in
theorem MetW.ext {w W : World} {B n : Nat} {ks : List Nm} (h : MetW w B n ks) (hE : Ext w W) : MetW W B n ks := by
  obtain ⟨⟨es, clock, hb, r⟩, h2⟩ := h
  exact ⟨⟨es, clock, by rw [hE.block B (Array.getElem?_eq_some_iff.1 hb).1]; exact hb, r⟩, h2⟩
set_option maxRecDepth 100000 in
theorem MetW.lt {w : World} {B n : Nat} {ks : List Nm} (h : MetW w B n ks) : B < w.heap.size := h.1.lt
set_option maxRecDepth 100000 in
theorem zeroB (w : World) : (zeroValue 4).run Tryd.prog w = .ok (.bool false) w := by kernel_rfl
set_option maxRecDepth 100000 in
theorem atKey_setOf (ks : List Nm) (h : ∀ p ∈ ks, okPl p) (p : Nm) (hp : okPl p) : ((setOf (.lit (.bool true)) (ks.map plL) : DataW Unit).atKey (plL p) (.lit (.bool false))) = .lit (.bool (ks.contains p)) := by
  obtain ⟨n, hn⟩ : ∃ n, ks.length = n := ⟨_, rfl⟩
  induction n generalizing ks with
  | zero => rw [List.length_eq_zero_iff.1 hn]; rfl
  | succ n ih =>
    obtain rfl | ⟨ks, q, rfl⟩ := List.eq_nil_or_concat ks
    · cases hn
    rw [List.concat_eq_append] at *
    have hks : ∀ p ∈ ks, okPl p := fun p hp => h p (by simp [hp])
    have hq := h q (by simp)
    have hm : Maps.IsMap (setOf (.lit (.bool true)) (ks.map plL) : DataW Unit) := (Maps.tidy_setOf _ _ (fun x hx => by
      obtain ⟨y, hy, rfl⟩ := List.mem_map.1 hx
      exact placeLaw.key (plL_key (hks y hy)))).isMap
    rw [List.map_append, List.map_singleton, setOf_snoc]
    by_cases e : p = q
    · subst e
      rw [Maps.atKey_put_same hm (placeLaw.key (plL_key hq))]
      simp
    · rw [Maps.atKey_put_other (fun he => e (plL_inj hp hq he)), ih ks hks (by simpa using hn)]
      simp [e]
set_option maxRecDepth 100000 in
theorem MetW.look {w : World} {B n : Nat} {ks : List Nm} (h : MetW w B n ks) {p : Nm} (hp : okPl p) : (Instr.lookup 51 (.map (some B)) (plV p) false).run Tryd.prog w = .ok (.bool (ks.contains p)) w := by
  obtain ⟨v, ps, hr, hv⟩ := h.1.lookup placeLaw Tryd.underlying51 (zeroB w) (plainElem_bool Tryd.underlying4 false) (plL_key hp)
  rw [atKey_setOf ks h.2 p hp] at hv
  rw [hr]
  unfold plainElem at hv
  rw [Tryd.underlying4] at hv
  cases v <;> simp at hv
  rw [hv.1]
  simp
set_option maxRecDepth 100000 in
theorem MetW.store {w : World} {B n : Nat} {ks : List Nm} (h : MetW w B n ks) {p : Nm} (hp : okPl p) (hn : n < maxLen) : ∃ w', (Instr.mapUpdate 51 (.map (some B)) (plV p) (.bool true)).run Tryd.prog w = .ok () w' ∧ MetW w' B (n + 1) (ks ++ [p]) ∧ w.grownBy w' (some B) := by
  obtain ⟨w', hr, ho, hg⟩ := h.1.update placeLaw Tryd.underlying51 hn (plL_key hp) (plainElem_bool Tryd.underlying4 true)
  refine ⟨w', hr, ⟨?_, ?_⟩, hg⟩
  · rw [List.map_append, List.map_singleton, setOf_snoc]
    exact ho
  · intro q hq
    rcases List.mem_append.1 hq with hq | hq
    · exact h.2 q hq
    · obtain rfl := List.mem_singleton.1 hq
      exact hp
end Go.Proofs.YtahaplioegeloaaDoor
namespace Go.Sz
open Go.RowKit Go.Proofs.YtahaplioegeloaaDoor
def nmO (o : Oc) : Nm := (o.c, o.n)
def pickO (l : List Oc) (k : UInt8) : Oc := l.getD (k.toNat % l.length) oc0
def allO (l : List Oc) (ks : List UInt8) (j : Nat) : List Oc := l ++ (ks.take j).map (pickO l)
def stepO (N : List Oc) (o : Oc) : List Oc := if okC o = true ∧ (N.map nmO).contains (nmO o) = false then N ++ [o] else N
def foldO (A : List Oc) : List Oc := A.foldl stepO []
theorem allO_zero (l : List Oc) (ks : List UInt8) : allO l ks 0 = l := by simp [allO]
theorem allO_succ {l : List Oc} {ks : List UInt8} {j : Nat} (h : j < ks.length) : allO l ks (j + 1) = allO l ks j ++ [pickO l ks[j]] := by
  unfold allO
  rw [List.take_succ_eq_append_getElem h, List.map_append, List.append_assoc]
  rfl
theorem allO_length (l : List Oc) {ks : List UInt8} {j : Nat} (h : j ≤ ks.length) : (allO l ks j).length = l.length + j := by simp [allO]; omega
theorem allO_mem {l : List Oc} (hl : l.length ≠ 0) {ks : List UInt8} {j : Nat} {o : Oc} (h : o ∈ allO l ks j) : o ∈ l := by
  unfold allO at h
  rcases List.mem_append.1 h with h | h
  · exact h
  · obtain ⟨k, _, rfl⟩ := List.mem_map.1 h
    have hk : k.toNat % l.length < l.length := Nat.mod_lt _ (by omega)
    unfold pickO
    rw [List.getD, List.getElem?_eq_getElem hk]
    exact List.getElem_mem hk
theorem foldO_succ {A : List Oc} {j : Nat} (h : j < A.length) : foldO (A.take (j + 1)) = stepO (foldO (A.take j)) A[j] := by
  unfold foldO
  rw [List.take_succ_eq_append_getElem h, List.foldl_append]
  rfl
theorem stepO_new {N : List Oc} {o : Oc} (h1 : okC o = true) (h2 : (N.map nmO).contains (nmO o) = false) : stepO N o = N ++ [o] := if_pos ⟨h1, h2⟩
theorem stepO_met {N : List Oc} {o : Oc} (h2 : (N.map nmO).contains (nmO o) = true) : stepO N o = N := if_neg (fun h => by rw [h2] at h; cases h.2)
theorem stepO_bad {N : List Oc} {o : Oc} (h1 : okC o = false) : stepO N o = N := if_neg (fun h => by rw [h1] at h; cases h.1)
theorem doneL_has (N : List Oc) (o : Oc) : (doneL N o.c o.n).2 = (N.map nmO).contains (nmO o) := by
  unfold doneL
  cases h : N.find? (isOc o.c o.n) with
  | some y =>
    have h1 := List.find?_some h
    have h2 := List.mem_of_find?_eq_some h
    symm
    rw [List.contains_iff_mem]
    unfold isOc at h1
    simp only [Bool.and_eq_true, beq_iff_eq] at h1
    exact List.mem_map.2 ⟨y, h2, by unfold nmO; rw [h1.1, h1.2]⟩
  | none =>
    have h1 := List.find?_eq_none.1 h
    symm
    rw [Bool.eq_false_iff]
    intro h2
    obtain ⟨y, hy, he⟩ := List.mem_map.1 (List.contains_iff_mem.1 h2)
    apply h1 y hy
    unfold isOc
    unfold nmO at he
    simp only [Prod.mk.injEq] at he
    simp [he.1, he.2]
structure GoodO (N : List Oc) : Prop where
  nd : (N.map nmO).Nodup
  ok : ∀ o ∈ N, okC o = true
theorem goodO_step {N : List Oc} (h : GoodO N) (o : Oc) : GoodO (stepO N o) := by
  unfold stepO
  split
  · rename_i hc
    refine ⟨?_, fun x hx => ?_⟩
    · rw [List.map_append, List.nodup_append]
      refine ⟨h.nd, by simp, ?_⟩
      intro a ha b hb
      simp at hb
      subst hb
      intro e
      subst e
      have := List.contains_iff_mem.2 ha
      rw [hc.2] at this
      cases this
    · rcases List.mem_append.1 hx with hx | hx
      · exact h.ok x hx
      · obtain rfl := List.mem_singleton.1 hx
        exact hc.1
  · exact h
theorem goodO_fold (A : List Oc) : GoodO (foldO A) := by
  unfold foldO
  have h : ∀ (A N : List Oc), GoodO N → GoodO (A.foldl stepO N) := by
    intro A
    induction A with
    | nil => intro N h; exact h
    | cons x A ih => intro N h; exact ih _ (goodO_step h x)
  exact h A [] ⟨by simp, by simp⟩
theorem foldO_length (A : List Oc) : (foldO A).length ≤ A.length := by
  have h : ∀ (A N : List Oc), (A.foldl stepO N).length ≤ N.length + A.length := by
    intro A
    induction A with
    | nil => intro N; simp
    | cons x A ih =>
      intro N
      refine Nat.le_trans (ih _) ?_
      unfold stepO
      split <;> simp <;> omega
  have := h A []
  simpa [foldO] using this
theorem foldO_mem {A : List Oc} {o : Oc} (h : o ∈ foldO A) : o ∈ A := by
  have hh : ∀ (A N : List Oc), o ∈ A.foldl stepO N → o ∈ N ∨ o ∈ A := by
    intro A
    induction A with
    | nil => intro N h; exact Or.inl h
    | cons x A ih =>
      intro N h
      rcases ih _ h with h | h
      · unfold stepO at h
        split at h
        · rcases List.mem_append.1 h with h | h
          · exact Or.inl h
          · exact Or.inr (by simp at h; simp [h])
        · exact Or.inl h
      · exact Or.inr (by simp [h])
  rcases hh A [] h with h | h
  · cases h
  · exact h
theorem named_eq {N : List Oc} (h : (N.map nmO).Nodup) {o p : Oc} (ho : o ∈ N) (hp : p ∈ N) (he : nmO o = nmO p) : o = p := by
  induction N with
  | nil => cases ho
  | cons x N ih =>
    rw [List.map_cons, List.nodup_cons] at h
    rcases List.mem_cons.1 ho with ho1 | ho1
    · rcases List.mem_cons.1 hp with hp1 | hp1
      · rw [ho1, hp1]
      · exact (h.1 (List.mem_map.2 ⟨p, hp1, by rw [← he, ho1]⟩)).elim
    · rcases List.mem_cons.1 hp with hp1 | hp1
      · exact (h.1 (List.mem_map.2 ⟨o, ho1, by rw [he, hp1]⟩)).elim
      · exact ih h.2 ho1 hp1
theorem doneL_self {N : List Oc} (h : GoodO N) {o : Oc} (ho : o ∈ N) : doneL N o.c o.n = (o, true) := by
  have h1 : (doneL N o.c o.n).2 = true := by rw [doneL_has]; exact List.contains_iff_mem.2 (List.mem_map.2 ⟨o, ho, rfl⟩)
  unfold doneL at *
  cases hf : N.find? (isOc o.c o.n) with
  | none => rw [hf] at h1; cases h1
  | some y =>
    have h2 := List.find?_some hf
    have h3 := List.mem_of_find?_eq_some hf
    unfold isOc at h2
    simp only [Bool.and_eq_true, beq_iff_eq] at h2
    rw [named_eq h.nd h3 ho (by unfold nmO; rw [h2.1, h2.2])]
theorem bad_named {N : List Oc} (h : GoodO N) {o : Oc} (hc : (N.map nmO).contains (nmO o) = true) (hk : okC o = false) : o.r < 1 ∨ 7 < o.r := by
  obtain ⟨y, hy, he⟩ := List.mem_map.1 (List.contains_iff_mem.1 hc)
  have h1 := h.ok y hy
  unfold nmO at he
  simp only [Prod.mk.injEq] at he
  have h2 : ¬ okC o = true := by rw [hk]; simp
  unfold okC at h1 h2
  simp only [Bool.and_eq_true, decide_eq_true_eq] at h1 h2
  omega
/-- the rows of these outcomes, whose own memory lies in w0 -/
def RowsO (w0 : World) (R : List (List Value)) (N : List Oc) : Prop := R.length = N.length ∧ ∀ (i : Nat) (r : List Value) (o : Oc), R[i]? = some r → N[i]? = some o → RepO1 w0 r o
theorem RowsO.nil (w0 : World) : RowsO w0 [] [] := ⟨rfl, by simp⟩
theorem RowsO.snoc {w0 : World} {R : List (List Value)} {N : List Oc} (h : RowsO w0 R N) {r : List Value} {o : Oc} (ho : RepO1 w0 r o) : RowsO w0 (R ++ [r]) (N ++ [o]) := by
  refine ⟨by simp [h.1], fun i x y h1 h2 => ?_⟩
  rcases Nat.lt_or_ge i R.length with hi | hi
  · rw [List.getElem?_append_left hi] at h1
    rw [List.getElem?_append_left (by rw [← h.1]; exact hi)] at h2
    exact h.2 i x y h1 h2
  · have hi0 : i = R.length := by
      have := (List.getElem?_eq_some_iff.1 h1).1
      simp at this; omega
    subst hi0
    rw [List.getElem?_append_right (Nat.le_refl _)] at h1
    rw [h.1, List.getElem?_append_right (Nat.le_refl _)] at h2
    simp at h1 h2
    subst h1 h2
    exact ho
theorem RowsO.wid {w0 : World} {R : List (List Value)} {N : List Oc} (h : RowsO w0 R N) : ∀ r ∈ R, r.length = 7 := fun r hr => by
  obtain ⟨i, hi, rfl⟩ := List.mem_iff_getElem.1 hr
  exact (h.2 i R[i] (N[i]'(by rw [← h.1]; exact hi)) (List.getElem?_eq_getElem hi) (List.getElem?_eq_getElem _)).length
theorem RowsO.ol {w0 W : World} {R : List (List Value)} {N : List Oc} (h : RowsO w0 R N) (hE : Ext w0 W) {a : Option Addr} {d : Nat} (hs : SL W 7 a d R) : RepOL W a d R N := ⟨hs, h.1, fun i r o h1 h2 => (h.2 i r o h1 h2).ext hE⟩
theorem RepOL.rowsO {w : World} {a : Option Addr} {d : Nat} {R : List (List Value)} {N : List Oc} (h : RepOL w a d R N) : RowsO w R N := ⟨h.len, h.el⟩
theorem own_lt {w : World} {D e size n : Nat} {v : Value} {xs : List Value} (h : w.ownsRow D e size v n xs) : ∀ k, v.ownBlock = some k → k < w.heap.size := fun k hk => by
  rcases h.2 with ⟨rfl, _⟩ | ⟨g, cap, cur, rfl, _, hb, _⟩
  · simp [Value.ownBlock] at hk
  · simp [Value.ownBlock] at hk
    subst hk
    exact (Array.getElem?_eq_some_iff.1 hb).1
end Go.Sz
namespace Go.Proofs.YtahaplioegeloaaDoor
open Go.RowKit Go.Sz
set_option maxRecDepth 100000 in
set_option maxHeartbeats 6400000 in
theorem note_new (c n r s l e : Int) (nm : List Int) (a : Option Addr) (d : Nat) (ll : List Oc) (rows : List (List Value)) (ao : Option Addr) (cap : Nat) (w : World) (hL : RepOL w ao cap rows ll) (hb : ll.length ≤ 100000) (hnm : SL w 1 a d (irows nm)) (h1 : 0 ≤ c) (h2 : c < 7) (h3 : 1 ≤ n) (h4 : n ≤ 1048576) (h5 : 1 ≤ r) (h6 : r ≤ 7) (hdn : (doneL ll c n).2 = false) : Calls Tryd.prog 24 #[.slice ao ll.length cap, .agg #[.int .i64 c, .int .i64 n, .int .i64 r, .int .i64 s, .int .i64 l, .int .i64 e, .slice a nm.length d]] w (fun ee w' => ∃ a1 d1, ee = .returned (.tuple #[.slice a1 (ll.length + 1) d1, .int .i64 0]) ∧ SL w' 7 a1 d1 (rows ++ [[.int .i64 c, .int .i64 n, .int .i64 r, .int .i64 s, .int .i64 l, .int .i64 e, .slice a nm.length d]]) ∧ Ext w w' ∧ ∀ x, a1 = some x → w.heap.size ≤ x.block) := by
  have hX : Ext w (w.alloc (.cells #[.int .i64 c, .int .i64 n, .int .i64 r, .int .i64 s, .int .i64 l, .int .i64 e, .slice a nm.length d] 42)) := (Ext.refl w).alloc _
  have HDN := Lib.hid (done_any ll rows c n ao cap (w.alloc (.cells #[.int .i64 c, .int .i64 n, .int .i64 r, .int .i64 s, .int .i64 l, .int .i64 e, .slice a nm.length d] 42)) (hL.ext hX))
  have HBX := Lib.hid (BoxC.new w ⟨c, n, r, s, l, e, nm⟩ a d 42 _ rfl)
  obtain ⟨b0, b1, b2, b3, b4, b5, b6, bz⟩ := BoxC.new w ⟨c, n, r, s, l, e, nm⟩ a d 42 _ rfl
  unfold Oc.cells at b0 b1 b2
  dsimp only at b0 b1 b2
  clear b3 b4 b5 b6 bz
  have h1' : ¬ c < 0 := by omega
  have h2' : ¬ (7 : Int) ≤ c := by omega
  have h3' : ¬ n < 1 := by omega
  have h4' : ¬ (1048576 : Int) < n := by omega
  have h5' : ¬ r < 1 := by omega
  have h6' : ¬ (7 : Int) < r := by omega
  have HX := Lib.hid hX
  have HL := Lib.hid hL
  have HB := Lib.hid hb
  have HNM := Lib.hid hnm
  clear hX hL hb hnm
  generalize doneL ll c n = dd at *
  obtain ⟨dx, db⟩ := dd
  have HDB := Lib.hid hdn
  clear hdn
  go_enter Tryd.func24, Tryd.ntmps24
  go_wp2_with fail
  refine HDN.out.mono ?_
  rintro e9 w2 ⟨cs, rfl, ⟨a2, d2, rfl, hnm2⟩, hE⟩
  have HXE := Lib.hid (HX.out.trans hE)
  have HBE := Lib.hid (HBX.out.ext hE)
  unfold Oc.cells
  clear hnm2 hE b0 b1 b2
  cases db with
  | true => exact absurd HDB.out (by simp)
  | false =>
    go_wp2_with fail
    have HX3 : Hid (Ext w2 (w2.alloc (.cells #[.int .i64 dx.c, .int .i64 dx.n, .int .i64 dx.r, .int .i64 dx.s, .int .i64 dx.l, .int .i64 dx.e, .slice a2 dx.nm.length d2] 42))) := Lib.hid ((Ext.refl w2).alloc _)
    generalize (w2.alloc (.cells #[.int .i64 dx.c, .int .i64 dx.n, .int .i64 dx.r, .int .i64 dx.s, .int .i64 dx.l, .int .i64 dx.e, .slice a2 dx.nm.length d2] 42)) = w3 at *
    have HXW := Lib.hid (HXE.out.trans HX3.out)
    have hlw : w.heap.size ≤ w3.heap.size := HXW.out.size
    obtain ⟨e0, e1, e2, e3, e4, e5, e6, -⟩ := HBE.out.ext HX3.out
    dsimp only at e0 e1 e2 e3 e4 e5 e6
    have ge0 := grow_cell e0
    have ge1 := grow_cell e1
    have ge2 := grow_cell e2
    have ge3 := grow_cell e3
    have ge4 := grow_cell e4
    have ge5 := grow_cell e5
    have ge6 := grow_cell e6
    obtain ⟨i0, hi, hz0, hz1, hz2⟩ := info_parts infoC
    refine wp_region_rel (fun k => if k = 1 then some (spOwn w.heap.size 42 7 ll.length rows) else if k = 3 then some (spSL 7 1 1 [[.int .i64 c, .int .i64 n, .int .i64 r, .int .i64 s, .int .i64 l, .int .i64 e, .slice a nm.length d]]) else none) 4 3 (by kernel_rfl) (by kernel_rfl) ?_
    simp only [List.take_succ_cons, List.take_zero]
    repeat (first
      | (refine wpRel_quick ?_ ?_ ?_ ?_
         · rfl
         · rfl
         · first | exact noEnter rfl | (intro f args W W'; go_simp)
         intro K hK
         go_big_quiet_op
         go_big_quiet_on)
      | (refine wpRel_skip ?_ ?_
         · rfl
         simp only [Act.put, List.setIfInBounds_toArray, List.set_cons_zero, List.set_cons_succ]))
    refine wpRel_rich _ rfl rfl (fun W hW => ?_) (fun v W1 hW1 hv => ?_)
    · have hEW : Ext w3 W := (Ext.refl w3).drew.trans hW.1
      have hc := cloneC_any ll rows ao cap W (HL.out.ext (HXW.out.trans hEW)) HB.out
      go_simp
      refine Calls.mono hc ?_
      rintro e w' ⟨v, rfl, ho, hE⟩
      exact ⟨_, rfl, ownsRow_base ho (Nat.le_trans hlw hEW.size), hE⟩
    obtain ⟨ac, cc, rfl, _, _⟩ := SL.of_own hv HL.out.sl.wid HL.out.len
    clear hW1 hv
    simp only [Act.put, List.setIfInBounds_toArray, List.set_cons_zero, List.set_cons_succ]
    repeat (first
      | (refine wpRel_quick ?_ ?_ ?_ ?_
         · rfl
         · rfl
         · first | exact noEnter rfl | (intro f args W W'; go_simp)
         intro K hK
         go_big_quiet_op
         go_big_quiet_on)
      | (refine wpRel_skip ?_ ?_
         · rfl
         simp only [Act.put, List.setIfInBounds_toArray, List.set_cons_zero, List.set_cons_succ]))
    refine wpRel_rich _ rfl rfl (fun W hW => ?_) (fun v3 W3 hW3 hv3 => ?_)
    · go_simp
      exact ⟨⟨_, rfl, sl_new W [.int .i64 c, .int .i64 n, .int .i64 r, .int .i64 s, .int .i64 l, .int .i64 e, .slice a nm.length d] 7 _ rfl⟩, (Ext.refl _).alloc _⟩
    obtain ⟨ap, rfl, _⟩ := hv3
    clear hW3
    simp only [Act.put, List.setIfInBounds_toArray, List.set_cons_zero, List.set_cons_succ]
    refine wpRel_nil ?_
    intro W hW
    have ho3 := hW.2 1 trivial _ _ rfl rfl
    obtain ⟨ap', hap, hs5⟩ := hW.2 3 trivial _ _ rfl rfl
    cases hap
    have hEW : Ext w3 W := (Ext.refl w3).drew.trans hW.1
    have hXW := HXW.out.trans hEW
    have HRB := Lib.hid (ownsRow_blocks ho3)
    refine wpAny_ready (rs := [4]) (by kernel_rfl) (by simp) ?_
    refine AllReady.cons rfl (fun K hK => ?_) AllReady.nil
    refine step_append_S rfl _ _ 39 39 rfl w.heap.size 42 i0 _ 7 72 Tryd.underlying39 hi hz0 hz1 hz2 rfl _ ll.length rows.flatten rfl ho3 (.slice ap 1 1) 1 [.int .i64 c, .int .i64 n, .int .i64 r, .int .i64 s, .int .i64 l, .int .i64 e, .slice a nm.length d] rfl ?_ (by have := HB.out; unfold maxLen; omega) (by have := HB.out; omega) hXW.size ?_
    · have := hs5.src (P := Tryd.prog) (by omega) Tryd.underlying39 (by simp [Value.oneCell'])
      simpa using this
    intro v6 w6 ho6 hg6
    have hX6 : Ext w w6 := hXW.trans' hg6 (fun k hk => HRB.out k hk)
    have ho6' : w6.ownsRow w.heap.size 42 7 v6 (ll.length + 1) (rows ++ ([[.int .i64 c, .int .i64 n, .int .i64 r, .int .i64 s, .int .i64 l, .int .i64 e, .slice a nm.length d]] : List (List Value))).flatten := by simpa using ho6
    obtain ⟨ao3, cap3, rfl, hs6, hfar⟩ := SL.of_own ho6' (by have := HL.out.sl.wid; intro r hr; rcases List.mem_append.1 hr with h | h; exact this r h; simp at h; subst h; rfl) (by simp [HL.out.len])
    have HS6 := Lib.hid hs6
    have HFAR := Lib.hid hfar
    have HX6 := Lib.hid hX6
    clear ho6 ho6' ho3 hs5 hfar hs6 hg6 hX6
    refine hK _ _ ?_
    clear hK K
    simp only [Act.put, List.setIfInBounds_toArray]
    refine wpAny_ready (rs := [5]) (by kernel_rfl) (by simp) ?_
    refine AllReady.cons rfl (fun K hK => ?_) AllReady.nil
    go_simp
    refine hK _ _ ?_
    clear hK K
    refine wpAny_ready (rs := [6]) (by kernel_rfl) (by simp) ?_
    refine AllReady.cons rfl (fun K hK => ?_) AllReady.nil
    go_simp
    refine hK _ _ ?_
    clear hK K
    refine wpAny_done (by kernel_rfl) ?_ _
    clear hW e0 e1 e2 e3 e4 e5 e6 ge0 ge1 ge2 ge3 ge4 ge5 ge6
    go_wp2_with fail
    go_ret2
    exact ⟨ao3, cap3, rfl, HS6.out, HX6.out, HFAR.out⟩
theorem nw_as {l : List Oc} {o : Oc} (hok : okC o = true) (hd : (doneL l o.c o.n).2 = false) {rows : List (List Value)} {ao : Option Addr} {cap : Nat} {w : World} (h : RepOL w ao cap rows l) (hb : l.length ≤ 100000) {a : Option Addr} {d : Nat} (hn : SL w 1 a d (irows o.nm)) : Calls Tryd.prog 24 #[.slice ao l.length cap, .agg (o.cells a d).toArray] w (fun ee w' => ∃ a1 d1, ee = .returned (.tuple #[.slice a1 (l.length + 1) d1, .int .i64 0]) ∧ SL w' 7 a1 d1 (rows ++ [o.cells a d]) ∧ Ext w w' ∧ ∀ x, a1 = some x → w.heap.size ≤ x.block) := by
  obtain ⟨c, n, r, s, b1, e, nm⟩ := o
  unfold okC at hok
  simp only [Bool.and_eq_true, decide_eq_true_eq] at hok
  obtain ⟨⟨⟨⟨⟨h1, h2⟩, h3⟩, h4⟩, h5⟩, h6⟩ := hok
  exact note_new c n r s b1 e nm a d l rows ao cap w h hb hn h1 h2 h3 h4 h5 h6 hd
end Go.Proofs.YtahaplioegeloaaDoor
namespace Go.Sz
open Go.RowKit Go.Proofs.YtahaplioegeloaaDoor
theorem byte_cell {w W : World} {ko : Option Addr} {kc : Nat} {ks : List UInt8} (h : SL w 1 ko kc (br ks)) (hE : Ext w W) {j : Nat} (hj : j < ks.length) : ∃ b o, ko = some ⟨b, o, none⟩ ∧ W.cell? ⟨b, o + j, none⟩ = some (.int .u8 ks[j].toNat) := by
  have hr : (br ks)[j]? = some [.int .u8 ks[j].toNat] := by simp [br, hj]
  obtain ⟨b, o, rfl, _⟩ := SL.at h (by omega) j (by rw [br_length]; exact hj)
  exact ⟨b, o, rfl, by simpa using hE.cell (SL.cellAt h hr (j := 0) rfl)⟩
theorem pickO_at {l : List Oc} (hl : l.length ≠ 0) (k : UInt8) : ∃ p x, k.toNat % l.length = p ∧ p < l.length ∧ l[p]? = some x ∧ pickO l k = x := by
  have hk : k.toNat % l.length < l.length := Nat.mod_lt _ (by omega)
  refine ⟨_, _, rfl, hk, List.getElem?_eq_getElem hk, ?_⟩
  unfold pickO
  rw [List.getD, List.getElem?_eq_getElem hk]
  rfl
theorem oc_at {w W : World} {ao : Option Addr} {cap : Nat} {rows : List (List Value)} {l : List Oc} (h : RepOL w ao cap rows l) (hE : Ext w W) {i : Nat} {x : Oc} (hx : l[i]? = some x) : ∃ b o a d, ao = some ⟨b, o, none⟩ ∧ rows[i]? = some (x.cells a d) ∧ SL w 1 a d (irows x.nm) ∧
    W.cell? ⟨b, o + i * 7, none⟩ = some (.int .i64 x.c) ∧ W.cell? ⟨b, o + i * 7 + 1, none⟩ = some (.int .i64 x.n) ∧ W.cell? ⟨b, o + i * 7 + 2, none⟩ = some (.int .i64 x.r) ∧ W.cell? ⟨b, o + i * 7 + 3, none⟩ = some (.int .i64 x.s) ∧ W.cell? ⟨b, o + i * 7 + 4, none⟩ = some (.int .i64 x.l) ∧ W.cell? ⟨b, o + i * 7 + 5, none⟩ = some (.int .i64 x.e) ∧ W.cell? ⟨b, o + i * 7 + 6, none⟩ = some (.slice a x.nm.length d) := by
  obtain ⟨hi, rfl⟩ := List.getElem?_eq_some_iff.1 hx
  have hi' : i < rows.length := by rw [h.len]; exact hi
  obtain ⟨a, d, hr0, hnm⟩ := h.el i rows[i] l[i] (List.getElem?_eq_getElem hi') (List.getElem?_eq_getElem hi)
  have hr : rows[i]? = some (l[i].cells a d) := by rw [List.getElem?_eq_getElem hi', hr0]
  obtain ⟨b, o, rfl, _⟩ := SL.at h.sl (by omega) i hi'
  exact ⟨b, o, a, d, rfl, hr, hnm, by simpa using hE.cell (SL.cellAt h.sl hr (j := 0) rfl), by simpa using hE.cell (SL.cellAt h.sl hr (j := 1) rfl), by simpa using hE.cell (SL.cellAt h.sl hr (j := 2) rfl), by simpa using hE.cell (SL.cellAt h.sl hr (j := 3) rfl), by simpa using hE.cell (SL.cellAt h.sl hr (j := 4) rfl), by simpa using hE.cell (SL.cellAt h.sl hr (j := 5) rfl), by simpa using hE.cell (SL.cellAt h.sl hr (j := 6) rfl)⟩
theorem own_keep {w W : World} {D e size n : Nat} {v : Value} {xs : List Value} (h : w.ownsRow D e size v n xs) (hk : ∀ k, v.ownBlock = some k → W.heap[k]? = w.heap[k]?) : W.ownsRow D e size v n xs := by
  refine ⟨h.1, ?_⟩
  rcases h.2 with hn | ⟨g, cap, cur, rfl, hb, hgg, rest⟩
  · exact .inl hn
  · exact .inr ⟨g, cap, cur, rfl, hb, by rw [hk g rfl]; exact hgg, rest⟩
theorem MetW.keep {w W : World} {B n : Nat} {ks : List Nm} (h : MetW w B n ks) (hk : W.heap[B]? = w.heap[B]?) : MetW W B n ks := by
  obtain ⟨⟨es, clock, hb, r⟩, h2⟩ := h
  exact ⟨⟨es, clock, by rw [hk]; exact hb, r⟩, h2⟩
theorem wpList_mapUpdate_run {P : Program} (w w' : World) {ops : Array Oper} {rest : List Oper} {o : Oper} {a : Act} {Q : Exit → Act → World → Prop} (hg : o.guard = none) (m x v : Operand) (t : TypeId) (hop : o.op = Op.mapUpdate t m x v) (mv key val : Value)
    (hm : a.eval m = mv) (hx : a.eval x = key) (hv : a.eval v = val) (hrun : (Instr.mapUpdate t mv key val).run P w = .ok () w') (hK : wpList P ops Q rest (a.put o.dst undef) w') : wpList P ops Q (o :: rest) a w := by
  refine wpList_plain hg fun K' hK' => ?_
  unfold Oper.wp
  simp [execOp, hop, hm, hx, hv, hrun, Result.andThen]
  exact hK' _ _ hK
theorem set_eq_push {R : List (List Value)} {r : List Value} : (R ++ [r]).flatten = R.flatten ++ r := by simp
end Go.Sz
namespace Go.Proofs.YtahaplioegeloaaDoor
open Go.RowKit Go.Sz
set_option maxRecDepth 100000 in
set_option maxHeartbeats 25600000 in
theorem lawq_once (l : List Oc) (rows : List (List Value)) (ao : Option Addr) (cap : Nat) (ks : List UInt8) (ko : Option Addr) (kc : Nat) (w : World) (hL : RepOL w ao cap rows l) (hB : ∀ o ∈ l, inI64 o.c ∧ inI64 o.n) (hk8 : SL w 1 ko kc (br ks)) (hk : Kinds w) : Calls Tryd.prog 7 #[.slice ao l.length cap, .slice ko ks.length kc] w fun e w' => e = .returned (.bool true) ∧ Ext w w' := by
  have HK := Lib.hid hk
  have HL := Lib.hid hL
  have HK8 := Lib.hid hk8
  have HBD := Lib.hid hB
  have HX := Lib.hid (Ext.refl w)
  clear hL hB hk8 hk
  go_enter Tryd.func7, Tryd.ntmps7
  go_wp2_with fail
  refine (saneQ_any _ HK.out).mono ?_
  rintro e v1 ⟨rfl, hE⟩
  have HX := Lib.hid (HX.out.trans hE)
  clear hE HK
  by_cases hl0 : l.length = 0
  · have q1 : ((l.length : Int) == 0) = true := by rw [beq_iff_eq]; omega
    have HL0 := Lib.hid hl0
    clear hl0
    go_wp2_with fail
    go_ret
    exact ⟨rfl, HX.out⟩
  have q1 : ((l.length : Int) == 0) = false := by rw [beq_eq_false_iff_ne]; omega
  by_cases hl1 : l.length ≤ 20
  case neg =>
    have q2 : (20 : Int) < (l.length : Int) := by omega
    go_wp2_with fail
    go_ret
    exact ⟨rfl, HX.out⟩
  have q2 : ¬ (20 : Int) < (l.length : Int) := by omega
  by_cases hl2 : ks.length ≤ 20
  case neg =>
    have q3 : (20 : Int) < (ks.length : Int) := by omega
    go_wp2_with fail
    go_ret
    exact ⟨rfl, HX.out⟩
  have q3 : ¬ (20 : Int) < (ks.length : Int) := by omega
  obtain ⟨i0, hi, hz0, hz1, hz2⟩ := info_parts infoC
  have HLB : Hid (l.length ≤ 20 ∧ ks.length ≤ 20) := Lib.hid ⟨hl1, hl2⟩
  have HL0 := Lib.hid hl0
  clear hl0 hl1 hl2
  cases ao with
  | none => exact absurd (by rw [HL.out.isnil.2.2]; rfl) HL0.out
  | some a =>
  have hX : Ext v1 (v1.alloc (.cells #[] 42)) := (Ext.refl v1).alloc _
  have HSRC : Hid (Src Tryd.prog 7 39 (.slice (some a) l.length cap) l.length rows.flatten (v1.alloc (.cells #[] 42))) := Lib.hid (by
    have := SL.src (P := Tryd.prog) (HL.out.sl.ext (HX.out.trans hX)) (by omega) (tx := 39) Tryd.underlying39 HL.out.one
    rwa [HL.out.len] at this)
  have HOE := Lib.hid (own_empty v1 v1.heap.size (Nat.le_refl _) 42 7)
  have HXA := Lib.hid (HX.out.trans hX)
  have HVX := Lib.hid hX
  clear hX
  go_wp2_with (at_builtin; refine wpList_append_S rfl _ _ 39 39 rfl v1.heap.size 42 i0 _ 7 72 Tryd.underlying39 hi hz0 hz1 hz2 rfl _ _ _ rfl HOE.out (.slice (some a) l.length cap) l.length rows.flatten rfl HSRC.out (by have := HLB.out; unfold maxLen; omega) (by have := HLB.out; omega) (by simp) ?_; intro v6 w6 ho6 hg6)
  have HO6 : Hid (w6.ownsRow v1.heap.size 42 7 v6 (l.length + 0) rows.flatten) := Lib.hid (by simpa using ho6)
  have HX6 : Hid (Ext w w6) := Lib.hid (HXA.out.trans' hg6 (fun k hk => by have h1 : some v1.heap.size = some k := hk; injection h1 with h1; have := HX.out.size; omega))
  have hs6 : v1.heap.size ≤ w6.heap.size := by have h1 := hg6.by_.size; have h2 := HVX.out.size; omega
  clear ho6 hg6 HOE HSRC HXA HVX
  go_loopw [5, 40] (fun av iv wr => ∃ (j : Nat) (R : List (List Value)), iv = .int .i64 j ∧ j ≤ ks.length ∧ RowsO w R (allO l ks j) ∧ wr.ownsRow v1.heap.size 42 7 av (l.length + j) R.flatten ∧ Ext w wr ∧ v1.heap.size ≤ wr.heap.size) (fun _ iv _ => ks.length - (intOf iv).toNat)
  case atStart => exact ⟨0, rows, rfl, by omega, by rw [allO_zero]; exact HL.out.rowsO, HO6.out, HX6.out, hs6⟩
  case round =>
    obtain ⟨j, R, rfl, hj, hR, hO, hE, hsz⟩ := hrel
    have HR := Lib.hid hR
    have HO := Lib.hid hO
    have HE := Lib.hid hE
    clear hR hO hE
    by_cases hlt : j < ks.length
    · have hji : (j : Int) < (ks.length : Int) := by omega
      obtain ⟨kb, kf, rfl, kcell⟩ := byte_cell HK8.out HE.out hlt
      obtain ⟨p, ⟨xc, xn, xr, xs, xl, xe, xm⟩, hpp, hp, hx, hpk⟩ := pickO_at HL0.out ks[j]
      have HPK := Lib.hid (allO_succ (l := l) hlt)
      rw [hpk] at HPK
      clear hpk
      obtain ⟨kk, hkk⟩ : ∃ k, ks[j].toNat = k := ⟨_, rfl⟩
      have hk256 : kk < 256 := by rw [← hkk]; exact UInt8.toNat_lt _
      rw [hkk] at kcell hpp
      have hrem : Int.tmod (kk : Int) (l.length : Int) = (p : Int) := by rw [← hpp]; rfl
      clear hkk hpp
      obtain ⟨b, o, xa, xd, hao, hrow, hnm, c0, c1, c2, c3, c4, c5, c6⟩ := oc_at HL.out HE.out hx
      cases hao
      dsimp only at c0 c1 c2 c3 c4 c5 c6
      have HNM := Lib.hid hnm
      have hpi : (p : Int) < (l.length : Int) := by omega
      have hA : Ext wr (wr.alloc (.cells #[.int .i64 xc, .int .i64 xn, .int .i64 xr, .int .i64 xs, .int .i64 xl, .int .i64 xe, .slice xa xm.length xd] 42)) := (Ext.refl wr).alloc _
      have HSRC : Hid (Src Tryd.prog 7 39 (.slice (some ⟨wr.heap.size, 0, none⟩) 1 1) 1 [.int .i64 xc, .int .i64 xn, .int .i64 xr, .int .i64 xs, .int .i64 xl, .int .i64 xe, .slice xa xm.length xd] (wr.alloc (.cells #[.int .i64 xc, .int .i64 xn, .int .i64 xr, .int .i64 xs, .int .i64 xl, .int .i64 xe, .slice xa xm.length xd] 42))) := Lib.hid (by
        have := (sl_new wr [.int .i64 xc, .int .i64 xn, .int .i64 xr, .int .i64 xs, .int .i64 xl, .int .i64 xe, .slice xa xm.length xd] 7 42 rfl).src (P := Tryd.prog) (by omega) (tx := 39) Tryd.underlying39 (by simp [Value.oneCell'])
        simpa using this)
      have HOA := Lib.hid (ownsRow_ext HO.out hA)
      have HEA := Lib.hid (HE.out.trans hA)
      have HSA : Hid (v1.heap.size ≤ (wr.alloc (.cells #[.int .i64 xc, .int .i64 xn, .int .i64 xr, .int .i64 xs, .int .i64 xl, .int .i64 xe, .slice xa xm.length xd] 42)).heap.size) := Lib.hid (by have := hA.size; omega)
      have HBK := Lib.hid (ownsRow_blocks HO.out)
      have HJ := Lib.hid hlt
      have hjb : (ks.length : Int) ≤ 20 := by have := HLB.out; omega
      clear hA hx hrow hnm
      go_wp2_with (at_builtin; refine wpList_append_S rfl _ _ 39 39 rfl v1.heap.size 42 i0 _ 7 72 Tryd.underlying39 hi hz0 hz1 hz2 rfl _ _ _ rfl HOA.out (.slice (some ⟨wr.heap.size, 0, none⟩) 1 1) 1 [.int .i64 xc, .int .i64 xn, .int .i64 xr, .int .i64 xs, .int .i64 xl, .int .i64 xe, .slice xa xm.length xd] rfl HSRC.out (by have := HLB.out; have := HJ.out; unfold maxLen; omega) (by have := HLB.out; have := HJ.out; omega) HSA.out ?_; intro v7 w7 ho7 hg7)
      have hX7 : Ext w w7 := HEA.out.trans' hg7 (fun k hk => by have h1 := HBK.out k hk; have := HX.out.size; omega)
      have hs7 : v1.heap.size ≤ w7.heap.size := by have h1 := hg7.by_.size; have h2 := HSA.out; omega
      go_roundw
      case rel => exact ⟨j + 1, R ++ [[.int .i64 xc, .int .i64 xn, .int .i64 xr, .int .i64 xs, .int .i64 xl, .int .i64 xe, .slice xa xm.length xd]], by go_num, by have := HJ.out; omega, by rw [HPK.out]; exact HR.out.snoc ⟨xa, xd, rfl, HNM.out⟩, by rw [set_eq_push]; exact ho7, hX7, hs7⟩
      case measure => simp [intOf] <;> (have := HJ.out; omega)
    · have hji : ¬ (j : Int) < (ks.length : Int) := by omega
      obtain rfl : j = ks.length := by omega
      obtain ⟨m, hm⟩ : ∃ m, l.length + ks.length = m := ⟨_, rfl⟩
      obtain ⟨A, hAA⟩ : ∃ A, allO l ks ks.length = A := ⟨_, rfl⟩
      have hAL : A.length = m := by rw [← hAA, allO_length _ (Nat.le_refl _), hm]
      have hO := HO.out
      rw [hm] at hO
      have HRA : Hid (RowsO w R A) := Lib.hid (hAA ▸ HR.out)
      have HAB : Hid (∀ o ∈ A, inI64 o.c ∧ inI64 o.n) := Lib.hid fun o ho => HBD.out o (allO_mem HL0.out (hAA ▸ ho))
      obtain ⟨aA, cA, rfl, hsA, _⟩ := SL.of_own hO HRA.out.wid (by rw [HRA.out.1, hAL])
      have HSA := Lib.hid hsA
      have HAL := Lib.hid hAL
      have hmb : (m : Int) ≤ 40 := by have := HLB.out; omega
      have hmc : m ≤ cA := by have := hsA.le; rw [HRA.out.1, hAL] at this; exact this
      obtain ⟨wb, hwb⟩ : ∃ wb, wb = wr := ⟨_, rfl⟩
      subst hwb
      clear hm hAA hAL hO hsA HO HR
      have hmm := @run_makeMap Tryd.prog
      have hM0 := MetW.made wb
      have hE0 : Ext wb (wb.alloc (.map #[] 0)) := (Ext.refl wb).alloc _
      have hz0' : (wb.alloc (.map #[] 0)).heap.size = wb.heap.size + 1 := by simp
      go_wp2_with fail
      clear hmm
      generalize wb.alloc (.map #[] 0) = wm at *
      obtain ⟨B, hB⟩ : ∃ B, wb.heap.size = B := ⟨_, rfl⟩
      rw [hB] at hM0 hz0' ⊢
      have HBB := Lib.hid hB
      have HWM := Lib.hid hz0'
      have HM0 := Lib.hid hM0
      have HE0 := Lib.hid hE0
      clear hM0 hE0 hB hz0'
      go_loopw [8, 9, 59] (fun nv tv iv wr => ∃ (j : Nat) (N : List Oc) (R' : List (List Value)) (an : Option Addr) (dn : Nat), iv = .int .i64 j ∧ j ≤ m ∧ N = foldO (A.take j) ∧ nv = .slice an N.length dn ∧ RowsO w R' N ∧ SL wr 7 an dn R' ∧ wr.ownsRow wm.heap.size 42 7 tv N.length R'.flatten ∧ MetW wr B N.length (N.map nmO) ∧ Ext wb wr ∧ wm.heap.size ≤ wr.heap.size) (fun _ _ iv _ => m - (intOf iv).toNat)
      case atStart => exact ⟨0, [], [], none, 0, rfl, by omega, by simp [foldO], rfl, RowsO.nil w, SL.empty _ _, World.ownsRow_nil _ _ _ _, HM0.out, HE0.out, Nat.le_refl _⟩
      case round =>
        obtain ⟨j, N, R', an, dn, rfl, hj, hN, rfl, hR, hS, hO, hM, hE2, hsz2⟩ := hrel
        have HN := Lib.hid hN
        have HG : Hid (GoodO N) := Lib.hid (hN ▸ goodO_fold _)
        have HNM : Hid (∀ o ∈ N, o ∈ A) := Lib.hid fun o ho => List.mem_of_mem_take (foldO_mem (hN ▸ ho))
        have HNB : Hid (N.length ≤ 40) := Lib.hid (by
          have h1 := foldO_length (A.take j)
          rw [← hN] at h1
          have h2 := List.length_take_le j A
          have := HLB.out
          omega)
        have HR := Lib.hid hR
        have HS := Lib.hid hS
        have HO := Lib.hid hO
        have HM := Lib.hid hM
        have HE2 := Lib.hid hE2
        clear hN hR hS hO hM hE2
        by_cases hlt : j < m
        · have hji : (j : Int) < (m : Int) := by omega
          have HJ := Lib.hid hlt
          have hjA : j < A.length := by rw [HAL.out]; exact hlt
          obtain ⟨⟨xc, xn, xr, xs, xl, xe, xm⟩, hx⟩ : ∃ x, A[j]? = some x := ⟨_, List.getElem?_eq_getElem hjA⟩
          have HST : Hid (foldO (A.take (j + 1)) = stepO N ⟨xc, xn, xr, xs, xl, xe, xm⟩) := Lib.hid (by
            rw [foldO_succ hjA, ← HN.out]
            congr 1
            rw [List.getElem?_eq_getElem hjA] at hx
            exact Option.some.inj hx)
          have HPL : Hid (okPl (nmO ⟨xc, xn, xr, xs, xl, xe, xm⟩)) := Lib.hid (HAB.out _ (List.mem_of_getElem? hx))
          obtain ⟨b, o, xa, xd, hao, hrow, hnm, c0, c1, c2, c3, c4, c5, c6⟩ := oc_at (HRA.out.ol HE.out HSA.out) HE2.out hx
          cases hao
          dsimp only at c0 c1 c2 c3 c4 c5 c6
          have HRX : Hid (RepO1 w [.int .i64 xc, .int .i64 xn, .int .i64 xr, .int .i64 xs, .int .i64 xl, .int .i64 xe, .slice xa xm.length xd] ⟨xc, xn, xr, xs, xl, xe, xm⟩) := Lib.hid (HRA.out.2 j _ _ hrow hx)
          have HNX := Lib.hid (SL.ext hnm HE2.out)
          have hA : Ext wr (wr.alloc (.cells #[.int .i64 xc, .int .i64 xn, .int .i64 xr, .int .i64 xs, .int .i64 xl, .int .i64 xe, .slice xa xm.length xd] 42)) := (Ext.refl wr).alloc _
          have hBX := BoxC.new wr ⟨xc, xn, xr, xs, xl, xe, xm⟩ xa xd 42 _ rfl
          have hW1 : (wr.alloc (.cells #[.int .i64 xc, .int .i64 xn, .int .i64 xr, .int .i64 xs, .int .i64 xl, .int .i64 xe, .slice xa xm.length xd] 42)).heap.size = wr.heap.size + 1 := by simp
          clear hx hrow hnm hjA
          go_wp2_with fail
          clear c0 c1 c2 c3 c4 c5 c6
          have HBX : Hid (BoxC (wr.alloc (.cells #[.int .i64 xc, .int .i64 xn, .int .i64 xr, .int .i64 xs, .int .i64 xl, .int .i64 xe, .slice xa xm.length xd] 42)) wr.heap.size ⟨xc, xn, xr, xs, xl, xe, xm⟩ xa xd) := Lib.hid hBX
          clear hBX
          generalize (wr.alloc (.cells #[.int .i64 xc, .int .i64 xn, .int .i64 xr, .int .i64 xs, .int .i64 xl, .int .i64 xe, .slice xa xm.length xd] 42)) = u1 at *
          have HA := Lib.hid hA
          have HW1 := Lib.hid hW1
          clear hA hW1
          cases hok : okC ⟨xc, xn, xr, xs, xl, xe, xm⟩ with
          | true =>
            cases hc : (N.map nmO).contains (nmO ⟨xc, xn, xr, xs, xl, xe, xm⟩) with
            | false =>
              have hd : (doneL N (Oc.mk xc xn xr xs xl xe xm).c (Oc.mk xc xn xr xs xl xe xm).n).2 = false := by rw [doneL_has]; exact hc
              refine (nw_as (o := ⟨xc, xn, xr, xs, xl, xe, xm⟩) hok hd ((HR.out.ol (HE.out.trans HE2.out) HS.out).ext HA.out) (by have := HNB.out; omega) (HNX.out.ext HA.out)).mono ?_
              rintro e w12 ⟨a1, d1, rfl, hs1, hE3, hfar⟩
              have HU := Lib.hid (HA.out.trans hE3)
              have HST2 : Hid (foldO (A.take (j + 1)) = N ++ [⟨xc, xn, xr, xs, xl, xe, xm⟩]) := Lib.hid (by rw [HST.out]; exact stepO_new hok hc)
              have hbx := HBX.out.ext hE3
              obtain ⟨b0, b1, -⟩ := hbx
              dsimp only at b0 b1
              have hAN : Ext w12 (w12.alloc (.cells #[.int .i64 xc, .int .i64 xn] 53)) := (Ext.refl w12).alloc _
              have hlk : (Instr.lookup 51 (.map (some B)) (.agg #[.int .i64 xc, .int .i64 xn]) false).run Tryd.prog (w12.alloc (.cells #[.int .i64 xc, .int .i64 xn] 53)) = .ok (.bool false) (w12.alloc (.cells #[.int .i64 xc, .int .i64 xn] 53)) := by
                have h := (HM.out.ext (HU.out.trans hAN)).look HPL.out
                rw [hc] at h
                exact h
              obtain ⟨w4, hr4, hm4, hg4⟩ := (HM.out.ext (HU.out.trans hAN)).store HPL.out (by have := HNB.out; unfold maxLen; omega)
              have hr4' : (Instr.mapUpdate 51 (.map (some B)) (.agg #[.int .i64 xc, .int .i64 xn]) (.bool true)).run Tryd.prog (w12.alloc (.cells #[.int .i64 xc, .int .i64 xn] 53)) = .ok () w4 := hr4
              have HR4 := Lib.hid hr4'
              have hBlt : B < wr.heap.size := HM.out.lt
              have hszu : wr.heap.size + 1 ≤ w12.heap.size := by have h1 := HW1.out; have h2 := hE3.size; omega
              have hszn : (w12.alloc (.cells #[.int .i64 xc, .int .i64 xn] 53)).heap.size = w12.heap.size + 1 := by simp
              have HBE4 : Hid (∀ k, k < w12.heap.size + 1 → k ≠ B → w4.heap[k]? = (w12.alloc (.cells #[.int .i64 xc, .int .i64 xn] 53)).heap[k]?) := Lib.hid fun k h1 h2 => hg4.block k (by omega) (fun h => by injection h with h; exact h2 h)
              have HE4 : Hid (Ext wb w4) := Lib.hid (ext_grown (HE2.out.trans (HU.out.trans hAN)) (by rw [HBB.out]; exact Nat.le_refl _) hg4)
              have hsz4 : w12.heap.size + 1 ≤ w4.heap.size := by have := hg4.size; omega
              obtain ⟨e0, e1, e2, e3, e4, e5, e6, -⟩ := ((HBX.out.ext hE3).ext hAN).keep (HBE4.out wr.heap.size (by omega) (by omega))
              dsimp only at e0 e1 e2 e3 e4 e5 e6
              have HOBK := Lib.hid (ownsRow_blocks HO.out)
              have HOLT := Lib.hid (own_lt HO.out)
              have hBm : B < wm.heap.size := by have := HWM.out; omega
              have ho4 : w4.ownsRow wm.heap.size 42 7 u9 N.length R'.flatten := own_keep (ownsRow_ext HO.out (HU.out.trans hAN)) (fun k hk => HBE4.out k (by have := HOLT.out k hk; omega) (by have := HOBK.out k hk; omega))
              have hA5 : Ext w4 (w4.alloc (.cells #[.int .i64 xc, .int .i64 xn, .int .i64 xr, .int .i64 xs, .int .i64 xl, .int .i64 xe, .slice xa xm.length xd] 42)) := (Ext.refl w4).alloc _
              have HO5 := Lib.hid (ownsRow_ext ho4 hA5)
              have HSRC : Hid (Src Tryd.prog 7 39 (.slice (some ⟨w4.heap.size, 0, none⟩) 1 1) 1 [.int .i64 xc, .int .i64 xn, .int .i64 xr, .int .i64 xs, .int .i64 xl, .int .i64 xe, .slice xa xm.length xd] (w4.alloc (.cells #[.int .i64 xc, .int .i64 xn, .int .i64 xr, .int .i64 xs, .int .i64 xl, .int .i64 xe, .slice xa xm.length xd] 42))) := Lib.hid (by
                have := (sl_new w4 [.int .i64 xc, .int .i64 xn, .int .i64 xr, .int .i64 xs, .int .i64 xl, .int .i64 xe, .slice xa xm.length xd] 7 42 rfl).src (P := Tryd.prog) (by omega) (tx := 39) Tryd.underlying39 (by simp [Value.oneCell'])
                simpa using this)
              have HSZ5 : Hid (wm.heap.size ≤ (w4.alloc (.cells #[.int .i64 xc, .int .i64 xn, .int .i64 xr, .int .i64 xs, .int .i64 xl, .int .i64 xe, .slice xa xm.length xd] 42)).heap.size) := Lib.hid (by have := hA5.size; omega)
              have HS1 := Lib.hid hs1
              have HFAR := Lib.hid hfar
              have HM4 := Lib.hid hm4
              have HA5 := Lib.hid hA5
              have HAN := Lib.hid hAN
              have HE3 := Lib.hid hE3
              have HSZN := Lib.hid hszn
              have HCC := Lib.hid hc
              clear hok hc hd hs1 hfar hr4 hr4' hm4 hg4 hA5 hAN ho4 hE3 hszn
              go_wp2_with (first
                | (at_mapUpdate; refine wpList_mapUpdate_run _ _ rfl _ _ _ _ rfl _ _ _ rfl rfl rfl HR4.out ?_)
                | (at_builtin; refine wpList_append_S rfl _ _ 39 39 rfl wm.heap.size 42 i0 _ 7 72 Tryd.underlying39 hi hz0 hz1 hz2 rfl _ _ _ rfl HO5.out (.slice (some ⟨w4.heap.size, 0, none⟩) 1 1) 1 [.int .i64 xc, .int .i64 xn, .int .i64 xr, .int .i64 xs, .int .i64 xl, .int .i64 xe, .slice xa xm.length xd] rfl HSRC.out (by have := HNB.out; unfold maxLen; omega) (by have := HNB.out; omega) HSZ5.out ?_; intro v7 w7 ho7 hg7))
              have HKP : Hid (∀ k, k < w4.heap.size → u9.ownBlock ≠ some k → w7.heap[k]? = w4.heap[k]?) := Lib.hid fun k h1 h2 => by
                rw [hg7.by_.block k (by have := HA5.out.size; omega) (fun h => h2 h.symm), HA5.out.block k h1]
              have hX7 : Ext wb w7 := (HE4.out.trans HA5.out).trans' hg7 (fun k hk => by have h1 := HOBK.out k hk; have := HBB.out; omega)
              have hs7 : SL w7 7 a1 d1 (R' ++ [[.int .i64 xc, .int .i64 xn, .int .i64 xr, .int .i64 xs, .int .i64 xl, .int .i64 xe, .slice xa xm.length xd]]) := (SL.ext HS1.out HAN.out).keep fun x hx hne => by
                have h1 := HFAR.out x hx
                have h2 := SL.blk HS1.out (by omega) x hx hne
                have h3 := HW1.out
                rw [HKP.out x.block (by omega) (fun h => by have h4 := HOLT.out x.block h; omega), HBE4.out x.block (by omega) (by omega)]
              have hm7 : MetW w7 B (N ++ [(⟨xc, xn, xr, xs, xl, xe, xm⟩ : Oc)]).length ((N ++ [(⟨xc, xn, xr, xs, xl, xe, xm⟩ : Oc)]).map nmO) := by
                have h1 : MetW w7 B (N.length + 1) (N.map nmO ++ [nmO ⟨xc, xn, xr, xs, xl, xe, xm⟩]) := MetW.keep HM4.out (HKP.out B (by omega) (fun h => by have h4 := HOBK.out B h; omega))
                rw [List.length_append, List.map_append]
                exact h1
              have hsz7 : wm.heap.size ≤ w7.heap.size := by have h1 := hg7.by_.size; have h2 := HSZ5.out; omega
              go_roundw
              case rel => exact ⟨j + 1, N ++ [⟨xc, xn, xr, xs, xl, xe, xm⟩], R' ++ [[.int .i64 xc, .int .i64 xn, .int .i64 xr, .int .i64 xs, .int .i64 xl, .int .i64 xe, .slice xa xm.length xd]], a1, d1, by go_num, by have := HJ.out; omega, HST2.out.symm, by rw [List.length_append]; rfl, HR.out.snoc HRX.out, hs7, by rw [set_eq_push, List.length_append]; exact ho7, hm7, hX7, hsz7⟩
              case measure => simp [intOf] <;> (have := HJ.out; omega)
            | true =>
              have hd : (doneL N (Oc.mk xc xn xr xs xl xe xm).c (Oc.mk xc xn xr xs xl xe xm).n).2 = true := by rw [doneL_has]; exact hc
              refine (nt_as (o := ⟨xc, xn, xr, xs, xl, xe, xm⟩) (noteL_met hok hd) ((HR.out.ol (HE.out.trans HE2.out) HS.out).ext HA.out) (by have := HNB.out; omega) (HNX.out.ext HA.out)).mono ?_
              rintro e w12 ⟨a1, d1, rows1, rfl, -, hE3⟩
              have HST2 : Hid (foldO (A.take (j + 1)) = N) := Lib.hid (by rw [HST.out]; exact stepO_met hc)
              have HU := Lib.hid (HA.out.trans hE3)
              obtain ⟨b0, b1, -⟩ := HBX.out.ext hE3
              dsimp only at b0 b1
              have hAN : Ext w12 (w12.alloc (.cells #[.int .i64 xc, .int .i64 xn] 53)) := (Ext.refl w12).alloc _
              obtain ⟨f0, f1, f2, -⟩ := (HBX.out.ext hE3).ext hAN
              dsimp only at f0 f1 f2
              have hlk : (Instr.lookup 51 (.map (some B)) (.agg #[.int .i64 xc, .int .i64 xn]) false).run Tryd.prog (w12.alloc (.cells #[.int .i64 xc, .int .i64 xn] 53)) = .ok (.bool true) (w12.alloc (.cells #[.int .i64 xc, .int .i64 xn] 53)) := by
                have h := (HM.out.ext (HU.out.trans hAN)).look HPL.out
                rw [hc] at h
                exact h
              have HUN := Lib.hid (HU.out.trans hAN)
              have HOK := Lib.hid hok
              have HCC := Lib.hid hc
              clear hd hok hc hAN hE3
              go_wp2_with fail
              go_roundw
              case rel => exact ⟨j + 1, N, R', an, dn, by go_num, by have := HJ.out; omega, HST2.out.symm, rfl, HR.out, HS.out.ext HUN.out, ownsRow_ext HO.out HUN.out, HM.out.ext HUN.out, HE2.out.trans HUN.out, Nat.le_trans hsz2 HUN.out.size⟩
              case measure => simp [intOf] <;> (have := HJ.out; omega)
          | false =>
            refine (nt_as (o := ⟨xc, xn, xr, xs, xl, xe, xm⟩) (noteL_bad hok) ((HR.out.ol (HE.out.trans HE2.out) HS.out).ext HA.out) (by have := HNB.out; omega) (HNX.out.ext HA.out)).mono ?_
            rintro e w12 ⟨a1, d1, rows1, rfl, -, hE3⟩
            have HST2 : Hid (foldO (A.take (j + 1)) = N) := Lib.hid (by rw [HST.out]; exact stepO_bad hok)
            cases hc : (N.map nmO).contains (nmO ⟨xc, xn, xr, xs, xl, xe, xm⟩) with
            | false =>
              have HU := Lib.hid (HA.out.trans hE3)
              obtain ⟨b0, b1, -⟩ := HBX.out.ext hE3
              dsimp only at b0 b1
              have hAN : Ext w12 (w12.alloc (.cells #[.int .i64 xc, .int .i64 xn] 53)) := (Ext.refl w12).alloc _
              obtain ⟨f0, f1, f2, -⟩ := (HBX.out.ext hE3).ext hAN
              dsimp only at f0 f1 f2
              have hlk : (Instr.lookup 51 (.map (some B)) (.agg #[.int .i64 xc, .int .i64 xn]) false).run Tryd.prog (w12.alloc (.cells #[.int .i64 xc, .int .i64 xn] 53)) = .ok (.bool false) (w12.alloc (.cells #[.int .i64 xc, .int .i64 xn] 53)) := by
                have h := (HM.out.ext (HU.out.trans hAN)).look HPL.out
                rw [hc] at h
                exact h
              have HUN := Lib.hid (HU.out.trans hAN)
              have HOK := Lib.hid hok
              have HCC := Lib.hid hc
              clear hok hc hAN hE3
              go_wp2_with fail
              go_roundw
              case rel => exact ⟨j + 1, N, R', an, dn, by go_num, by have := HJ.out; omega, HST2.out.symm, rfl, HR.out, HS.out.ext HUN.out, ownsRow_ext HO.out HUN.out, HM.out.ext HUN.out, HE2.out.trans HUN.out, Nat.le_trans hsz2 HUN.out.size⟩
              case measure => simp [intOf] <;> (have := HJ.out; omega)
            | true =>
              have hbr := bad_named HG.out hc hok
              dsimp only at hbr
              have HU := Lib.hid (HA.out.trans hE3)
              obtain ⟨b0, b1, -⟩ := HBX.out.ext hE3
              dsimp only at b0 b1
              have hAN : Ext w12 (w12.alloc (.cells #[.int .i64 xc, .int .i64 xn] 53)) := (Ext.refl w12).alloc _
              obtain ⟨f0, f1, f2, -⟩ := (HBX.out.ext hE3).ext hAN
              dsimp only at f0 f1 f2
              have hlk : (Instr.lookup 51 (.map (some B)) (.agg #[.int .i64 xc, .int .i64 xn]) false).run Tryd.prog (w12.alloc (.cells #[.int .i64 xc, .int .i64 xn] 53)) = .ok (.bool true) (w12.alloc (.cells #[.int .i64 xc, .int .i64 xn] 53)) := by
                have h := (HM.out.ext (HU.out.trans hAN)).look HPL.out
                rw [hc] at h
                exact h
              have HUN := Lib.hid (HU.out.trans hAN)
              have HOK := Lib.hid hok
              have HCC := Lib.hid hc
              clear hok hc hAN hE3
              rcases hbr with hbr | hbr
              · have k1 : ¬ (1 : Int) ≤ xr := by omega
                go_wp2_with fail
                go_roundw
                case rel => exact ⟨j + 1, N, R', an, dn, by go_num, by have := HJ.out; omega, HST2.out.symm, rfl, HR.out, HS.out.ext HUN.out, ownsRow_ext HO.out HUN.out, HM.out.ext HUN.out, HE2.out.trans HUN.out, Nat.le_trans hsz2 HUN.out.size⟩
                case measure => simp [intOf] <;> (have := HJ.out; omega)
              · have k1 : (1 : Int) ≤ xr := by omega
                have k2 : ¬ xr ≤ 7 := by omega
                go_wp2_with fail
                go_roundw
                case rel => exact ⟨j + 1, N, R', an, dn, by go_num, by have := HJ.out; omega, HST2.out.symm, rfl, HR.out, HS.out.ext HUN.out, ownsRow_ext HO.out HUN.out, HM.out.ext HUN.out, HE2.out.trans HUN.out, Nat.le_trans hsz2 HUN.out.size⟩
                case measure => simp [intOf] <;> (have := HJ.out; omega)
        · have hji : ¬ (j : Int) < (m : Int) := by omega
          obtain rfl : j = m := by omega
          obtain ⟨aw, cw, hwv, hsw, _⟩ := SL.of_own HO.out HR.out.wid HR.out.1
          subst hwv
          have HRN : Hid (RepOL wr an dn R' N) := Lib.hid (HR.out.ol (HE.out.trans HE2.out) HS.out)
          have HRW : Hid (RepOL wr aw cw R' N) := Lib.hid (HR.out.ol (HE.out.trans HE2.out) hsw)
          have hNb : (N.length : Int) ≤ 40 := by have := HNB.out; omega
          have hNc : N.length ≤ cw := by have := hsw.le; rw [HR.out.1] at this; exact this
          obtain ⟨wc, hwc⟩ : ∃ wc, wc = wr := ⟨_, rfl⟩
          subst hwc
          have HXC := Lib.hid (HE.out.trans HE2.out)
          clear hsw HO HS HM HRA HSA
          go_wp2_with fail
          go_loopw [125] (fun iv wr => ∃ j : Nat, iv = .int .i64 j ∧ j ≤ N.length ∧ Ext wc wr) (fun iv _ => N.length - (intOf iv).toNat)
          case atStart => exact ⟨0, rfl, by omega, Ext.refl _⟩
          case round =>
            obtain ⟨j, rfl, hj, hE3⟩ := hrel
            have HE3 := Lib.hid hE3
            clear hE3
            by_cases hlt : j < N.length
            · have hji : (j : Int) < (N.length : Int) := by omega
              have HJ := Lib.hid hlt
              obtain ⟨⟨xc, xn, xr, xs, xl, xe, xm⟩, hx⟩ : ∃ x, N[j]? = some x := ⟨_, List.getElem?_eq_getElem hlt⟩
              obtain ⟨b, o, xa, xd, hao, -, hnm, c0, c1, c2, c3, c4, c5, c6⟩ := oc_at HRW.out HE3.out hx
              cases hao
              dsimp only at c0 c1 c2 c3 c4 c5 c6
              have HDS : Hid (doneL N xc xn = (⟨xc, xn, xr, xs, xl, xe, xm⟩, true)) := Lib.hid (doneL_self HG.out (List.mem_of_getElem? hx))
              have hA : Ext wr (wr.alloc (.cells #[.int .i64 xc, .int .i64 xn, .int .i64 xr, .int .i64 xs, .int .i64 xl, .int .i64 xe, .slice xa xm.length xd] 42)) := (Ext.refl wr).alloc _
              have HBX := Lib.hid (BoxC.new wr ⟨xc, xn, xr, xs, xl, xe, xm⟩ xa xd 42 _ rfl)
              have HNX := Lib.hid ((SL.ext hnm HE3.out).ext hA)
              clear hx hnm
              go_wp2_with fail
              clear c0 c1 c2 c3 c4 c5 c6
              have HBX : Hid (BoxC (wr.alloc (.cells #[.int .i64 xc, .int .i64 xn, .int .i64 xr, .int .i64 xs, .int .i64 xl, .int .i64 xe, .slice xa xm.length xd] 42)) wr.heap.size ⟨xc, xn, xr, xs, xl, xe, xm⟩ xa xd) := HBX
              generalize (wr.alloc (.cells #[.int .i64 xc, .int .i64 xn, .int .i64 xr, .int .i64 xs, .int .i64 xl, .int .i64 xe, .slice xa xm.length xd] 42)) = u1 at *
              have HA := Lib.hid hA
              clear hA
              refine (show Calls Tryd.prog 22 #[.slice an N.length dn, .int .i64 xc, .int .i64 xn] u1 (fun e w' => ∃ a d, e = .returned (.tuple #[.agg #[.int .i64 xc, .int .i64 xn, .int .i64 xr, .int .i64 xs, .int .i64 xl, .int .i64 xe, .slice a xm.length d], .bool true]) ∧ SL w' 1 a d (irows xm) ∧ Ext u1 w') from do_as HDS.out (HRN.out.ext (HE3.out.trans HA.out))).mono ?_
              rintro e v2 ⟨a2, d2, rfl, hn2, hE4⟩
              have hA2 : Ext v2 (v2.alloc (.cells #[.int .i64 xc, .int .i64 xn, .int .i64 xr, .int .i64 xs, .int .i64 xl, .int .i64 xe, .slice a2 xm.length d2] 42)) := (Ext.refl v2).alloc _
              have HU := Lib.hid ((HA.out.trans hE4).trans hA2)
              have HN2 := Lib.hid (SL.ext hn2 hA2)
              have HNX := Lib.hid (SL.ext HNX.out (hE4.trans hA2))
              obtain ⟨z0, z1, z2, z3, z4, z5, z6, -⟩ := HBX.out.ext (hE4.trans hA2)
              dsimp only at z0 z1 z2 z3 z4 z5 z6
              clear hn2 hE4 hA2
              go_wp2_with fail
              clear z0 z1 z2 z3 z4 z5 z6
              generalize (v2.alloc (.cells #[.int .i64 xc, .int .i64 xn, .int .i64 xr, .int .i64 xs, .int .i64 xl, .int .i64 xe, .slice a2 xm.length d2] 42)) = u2 at *
              refine (smc_as (o := ⟨xc, xn, xr, xs, xl, xe, xm⟩) (p := ⟨xc, xn, xr, xs, xl, xe, xm⟩) (decide_eq_true rfl) HNX.out HN2.out).mono ?_
              rintro e v3 ⟨rfl, hE5⟩
              have HE6 := Lib.hid (HE3.out.trans (HU.out.trans hE5))
              clear hE5
              go_wp2_with fail
              go_roundw
              case rel => exact ⟨j + 1, by go_num, by have := HJ.out; omega, HE6.out⟩
              case measure => simp [intOf] <;> (have := HJ.out; omega)
            · have hji : ¬ (j : Int) < (N.length : Int) := by omega
              go_wp2_with fail
              refine (sml_as (l := N) (l' := N) (decide_eq_true rfl) (HRN.out.ext HE3.out) (HRW.out.ext HE3.out)).mono ?_
              rintro e v4 ⟨rfl, hE7⟩
              go_wp2_with fail
              go_ret
              exact ⟨rfl, HXC.out.trans (HE3.out.trans hE7)⟩
end Go.Proofs.YtahaplioegeloaaDoor
namespace Go.Proofs.YtahaplioegeloaaDoor
open Go.RowKit Go.Sz Go.ChangeShapes Go.WideShapes
set_option maxRecDepth 100000 in
theorem trod_ocB {H : Type} (enc : TypeId × Value → H) (w : World) (sp : Nat → Bool) (held : Bool) (fuel : Nat) (cs : List Value) (x : DataW H × List MemPlace) (h : DataW.trod enc Tryd.prog w 0 sp held fuel 42 cs = some x) : ∃ o a d, cs = Oc.cells o a d ∧ SL w 1 a d (irows o.nm) ∧ inI64 o.c ∧ inI64 o.n := by
  obtain ⟨xs, n, hn, hx, hl, hlen, hf⟩ := DataW.trod_struct Tryd.underlying42 h
  rw [cellsOc] at hl
  match cs, hl with
  | [c0, c1, c2, c3, c4, c5, c6], _ =>
  have f0 : DataW.trod enc Tryd.prog w 0 sp held n 3 (([c0, c1, c2, c3, c4, c5, c6].drop 0).take (Tryd.prog.cellsOf 3)) = xs[0]? := hf 0 _ rfl
  have f1 : DataW.trod enc Tryd.prog w 0 sp held n 3 (([c0, c1, c2, c3, c4, c5, c6].drop 1).take (Tryd.prog.cellsOf 3)) = xs[1]? := hf 1 _ rfl
  have f2 : DataW.trod enc Tryd.prog w 0 sp held n 3 (([c0, c1, c2, c3, c4, c5, c6].drop 2).take (Tryd.prog.cellsOf 3)) = xs[2]? := hf 2 _ rfl
  have f3 : DataW.trod enc Tryd.prog w 0 sp held n 24 (([c0, c1, c2, c3, c4, c5, c6].drop 3).take (Tryd.prog.cellsOf 24)) = xs[3]? := hf 3 _ rfl
  have f4 : DataW.trod enc Tryd.prog w 0 sp held n 30 (([c0, c1, c2, c3, c4, c5, c6].drop 5).take (Tryd.prog.cellsOf 30)) = xs[4]? := hf 4 _ rfl
  have f5 : DataW.trod enc Tryd.prog w 0 sp held n 40 (([c0, c1, c2, c3, c4, c5, c6].drop 6).take (Tryd.prog.cellsOf 40)) = xs[5]? := hf 5 _ rfl
  simp only [cellsI, cellsLI, cellsBu, cellsE, List.drop_zero, List.drop_succ_cons, List.take_succ_cons, List.take_zero] at f0 f1 f2 f3 f4 f5
  rw [List.getElem?_eq_getElem (by rw [hlen]; simp)] at f0 f1 f2 f3 f4 f5
  obtain ⟨n0, e0, _, w0⟩ := DataW.trod_int Tryd.underlying3 f0
  obtain ⟨n1, e1, _, w1⟩ := DataW.trod_int Tryd.underlying3 f1
  obtain ⟨n2, e2, _, w2⟩ := DataW.trod_int Tryd.underlying3 f2
  obtain ⟨n4, e4, _, w4⟩ := DataW.trod_int Tryd.underlying30 f4
  obtain ⟨⟨gs, gl⟩, e3, wg, wh⟩ := trod_bun enc w sp held n _ _ f3
  obtain ⟨ao, l, cap, e5, hs⟩ := trod_ints enc w sp held n c6 _ f5
  simp only [List.cons.injEq, and_true] at e0 e1 e2 e3 e4
  obtain ⟨e3, e6⟩ := e3
  subst e0 e1 e2 e3 e4 e5 e6
  exact ⟨⟨n0, n1, n2, gs, gl, n4, l⟩, ao, cap, rfl, hs, wf_i64 w0, wf_i64 w1⟩
set_option maxRecDepth 100000 in
theorem trod_ocsB {H : Type} (enc : TypeId × Value → H) (w : World) (sp : Nat → Bool) (held : Bool) (fuel : Nat) (v : Value) (x : DataW H × List MemPlace) (h : DataW.trod enc Tryd.prog w 0 sp held fuel 39 [v] = some x) :
    ∃ ao l cap rows, v = .slice ao (List.length l) cap ∧ RepOL w ao cap rows l ∧ ∀ o ∈ l, inI64 o.c ∧ inI64 o.n := by
  rcases DataW.trod_slice Tryd.underlying39 h with ⟨e3, _⟩ | ⟨a, len, cap, elems, rest, n2, hn2, e3, _, _, hlc, hcm, hel, hrow, _⟩
  · simp only [List.cons.injEq, and_true] at e3
    subst e3
    exact ⟨none, [], 0, [], rfl, RepOL.nil _, by simp⟩
  · simp only [List.cons.injEq, and_true] at e3
    subst e3
    rw [cellsOc] at hrow
    obtain ⟨rows, q, h1, h2, h3⟩ := list_of (R := fun i (r : List Value) (p : Oc) => w.cells? 0 (a.add (i * 7)) 7 = some r ∧ RepO1 w r p ∧ inI64 p.c ∧ inI64 p.n) len fun i hi => by
      have h4 := hrow i hi
      rw [List.getElem?_eq_getElem (by omega)] at h4
      obtain ⟨r, h5, h6⟩ := Option.bind_eq_some_iff.1 h4
      obtain ⟨p, a1, d1, hp, hs, hb⟩ := trod_ocB enc w sp held n2 r _ h6
      exact ⟨r, p, h5, ⟨a1, d1, hp, hs⟩, hb⟩
    exact ⟨some a, q, cap, rows, by rw [h2], ⟨sl_of_cells (by omega) hlc hcm h1 fun i r hr => (h3 i r (q[i]'(by have := (List.getElem?_eq_some_iff.1 hr).1; omega)) hr (List.getElem?_eq_getElem _)).1, by omega, fun i r p hr hp => (h3 i r p hr hp).2.1⟩, fun o ho => by
      obtain ⟨i, hi, rfl⟩ := List.mem_iff_getElem.1 ho
      exact (h3 i (rows[i]'(by omega)) q[i] (List.getElem?_eq_getElem _) (List.getElem?_eq_getElem _)).2.2⟩
end Go.Proofs.YtahaplioegeloaaDoor
