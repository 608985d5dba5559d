/- Names: unique. -/
import Derived.Test.YtimigpfoflilcaaYI
import Derived.Test.YtimigpfoflilcaaNB
import Derived.Maps.OwnSet
import Derived.Maps.OwnOps
import Derived.Maps.Keyed
namespace Go.Sz
open Go.RowKit
open Go.Maps (Keyed)
/-- block B is a map whose keys are those that came -/
def MetU (P : Program) (w : World) (K E : TypeId) (B : Nat) (ks : List Lit) : Prop := ∃ D : DataW Unit, w.ownsMap P K (plainElem P E) B ks.length D ∧ (∀ k, WideAt.IsKeyLit k → (Maps.has D k = true ↔ k ∈ ks)) ∧ (Maps.size D = ks.length ↔ ks.Nodup) ∧ Maps.size D ≤ ks.length
theorem MetU.made (P : Program) (w : World) (K E : TypeId) : MetU P (w.alloc (.map #[] 0)) K E w.heap.size [] := ⟨.map [], World.ownsMap_made _ _ _ _, fun k _ => by simp [Maps.has], by simp [Maps.size], by simp [Maps.size]⟩
theorem MetU.ext {P : Program} {w W : World} {K E : TypeId} {B : Nat} {ks : List Lit} (h : MetU P w K E B ks) (hE : Ext w W) : MetU P W K E B ks := by
  obtain ⟨D, ⟨es, clock, hb, r⟩, h2⟩ := h
  exact ⟨D, ⟨es, clock, by rw [hE.block B (Array.getElem?_eq_some_iff.1 hb).1]; exact hb, r⟩, h2⟩
theorem MetU.lt {P : Program} {w : World} {K E : TypeId} {B : Nat} {ks : List Lit} (h : MetU P w K E B ks) : B < w.heap.size := by
  obtain ⟨D, h1, _⟩ := h
  exact h1.lt
theorem MetU.put {P : Program} {w w' : World} {K E : TypeId} {B : Nat} {ks : List Lit} (KD : Keyed P K) {D : DataW Unit} {k : Lit} {d : DataW Unit} (h : w.ownsMap P K (plainElem P E) B ks.length D) (h2 : (∀ k, WideAt.IsKeyLit k → (Maps.has D k = true ↔ k ∈ ks)) ∧ (Maps.size D = ks.length ↔ ks.Nodup) ∧ Maps.size D ≤ ks.length) (hk : WideAt.IsKeyLit k)
    (h' : w'.ownsMap P K (plainElem P E) B (ks.length + 1) (D.put k d)) : MetU P w' K E B (ks ++ [k]) := by
  obtain ⟨h3, h4, h5⟩ := h2
  have ht := h.tidy KD
  have hs := Maps.size_put (k := k) ht d
  refine ⟨D.put k d, by rw [List.length_append, List.length_singleton]; exact h', fun q hq => ?_, ?_, ?_⟩
  · rw [List.mem_append, List.mem_singleton]
    by_cases e : q = k
    · subst e
      rw [Maps.has_put_same ht.isMap hk]
      simp
    · rw [Maps.has_put_other e, h3 q hq]
      simp [e]
  · rw [hs, List.length_append, List.length_singleton, List.nodup_append]
    by_cases e : Maps.has D k = true
    · rw [if_pos e]
      have hm := (h3 k hk).1 e
      exact ⟨fun h => by omega, fun h => absurd rfl (h.2.2 k hm k (List.mem_singleton.2 rfl))⟩
    · rw [if_neg e]
      have hm : k ∉ ks := fun hm => e ((h3 k hk).2 hm)
      exact ⟨fun h => ⟨h4.1 (by omega), by simp, fun a ha b hb hab => by
        obtain rfl := List.mem_singleton.1 hb
        exact hm (hab ▸ ha)⟩, fun h => by have := h4.2 h.1; omega⟩
  · rw [hs, List.length_append, List.length_singleton]
    split <;> omega
/-- the keys as the map keeps them -/
def sLit (s : ByteArray) : Lit := .string s.data.toList
def iLit (n : Int) : Lit := .int .i64 n
theorem sLit_inj {a b : ByteArray} (h : sLit a = sLit b) : a = b := by
  unfold sLit at h
  injection h with h
  cases a
  cases b
  simp at h
  simp [h]
theorem iLit_inj {a b : Int} (h : iLit a = iLit b) : a = b := by
  unfold iLit at h
  injection h
theorem nodup_map {α β : Type} {f : α → β} (hf : ∀ a b, f a = f b → a = b) {l : List α} : (l.map f).Nodup ↔ l.Nodup := by
  induction l with
  | nil => simp
  | cons a l ih =>
    rw [List.map_cons, List.nodup_cons, List.nodup_cons, ih]
    constructor
    · exact fun h => ⟨fun hm => h.1 (List.mem_map_of_mem hm), h.2⟩
    · exact fun h => ⟨fun hm => by
        obtain ⟨b, hb, e⟩ := List.mem_map.1 hm
        exact h.1 (hf _ _ e ▸ hb), h.2⟩
end Go.Sz
namespace Go.Proofs.Ytimigpfoflilcaa
open Go.RowKit Go.Sz
open Go.Maps (Keyed)
theorem keyS : Keyed Try.prog 9 := Maps.string_keyed Try.underlying9
theorem keyI : Keyed Try.prog 3 := Maps.int_keyed Try.underlying3
theorem keyOf_s {s : ByteArray} (h : s.size ≤ maxLen) : keyOf Try.prog 9 (.string s) = some (sLit s) := by
  simp [keyOf, mapKey, Try.underlying9, h, sLit]
theorem keyOf_i {n : Int} (h : inI64 n) : keyOf Try.prog 3 (.int .i64 n) = some (iLit n) :=
  Maps.keyOf_int_mk Try.underlying3 (WalkArith.wf_i64 (by obtain ⟨h1, h2⟩ := h; omega))
theorem zeroInt (w : World) : (zeroValue 3).run Try.prog w = .ok (.int .i64 0) w := by kernel_rfl
/-- what unique does -/
def uniPost (b : Prop) (w : World) (e : Ending) (w' : World) : Prop := ((b ∧ e = .returned (.tuple #[])) ∨ (¬ b ∧ e = .panicked (panF 111))) ∧ Ext w w'
set_option maxRecDepth 100000 in
set_option maxHeartbeats 6400000 in
theorem uniCs (l : List ByteArray) (rows : List (List Value)) (hl : rows.length = l.length) (hr : ∀ (i : Nat) x, l[i]? = some x → ∃ (v1 : Int) (v2 : Int) (v3 : Int) (v4 : Int) (v5 : Int) (v6 : ByteArray) (v7 : Int) (v8 : Int) (a9 : Option Addr) (n9 c9c : Nat) (v10 : Int) (v11 : Int) (v12 : ByteArray) (v13 : Int) (v14 : Int) (a15 : Option Addr) (n15 c15c : Nat), rows[i]? = some [.string x, .int .i64 v1, .int .i64 v2, .int .i64 v3, .int .i64 v4, .int .i64 v5, .string v6, .int .i64 v7, .int .i64 v8, .slice a9 n9 c9c, .int .i64 v10, .int .i64 v11, .string v12, .int .i64 v13, .int .i64 v14, .slice a15 n15 c15c]) (hok : ∀ x ∈ l, x.size ≤ maxLen) (ao : Option Addr) (cap : Nat) (w : World) (h : SL w 16 ao cap rows) (h8 : l.length ≤ 100000) :
    Calls Try.prog 30 #[.slice ao l.length cap, .func (Fn.func 31) #[] #[]] w (uniPost l.Nodup w) := by
  have HR := Lib.hid hr
  have HOK := Lib.hid hok
  have HS := Lib.hid h
  have H8 := Lib.hid h8
  have hs1 : (l.length : Int) ≤ 9223372036854775807 := by omega
  have hmm := @run_makeMap Try.prog
  have hM0 := MetU.made Try.prog w 9 3
  have hE0 : Ext w (w.alloc (.map #[] 0)) := (Ext.refl w).alloc _
  have HM0 := Lib.hid hM0
  have HE0 := Lib.hid hE0
  have HND : Hid ((l.map sLit).Nodup ↔ l.Nodup) := Lib.hid (nodup_map fun _ _ => sLit_inj)
  clear hr hok h h8 hl hM0 hE0
  go_enter Try.func30, Try.ntmps30
  go_wp2_with fail
  generalize w.alloc (.map #[] 0) = w0 at *
  obtain ⟨B, hB⟩ : ∃ B, w.heap.size = B := ⟨_, rfl⟩
  rw [hB] at HM0 ⊢
  clear hmm
  go_loopw [10] (fun iv wr => ∃ m : Nat, iv = .int .i64 m ∧ m ≤ l.length ∧ MetU Try.prog wr 9 3 B ((l.take m).map sLit) ∧ Ext w wr) (fun iv _ => l.length - (intOf iv).toNat)
  case atStart => exact ⟨0, rfl, by omega, HM0.out, HE0.out⟩
  case round =>
    obtain ⟨m, rfl, hm, hM, hE⟩ := hrel
    have HM := Lib.hid hM
    have HE := Lib.hid hE
    clear hM hE
    by_cases hlt : m < l.length
    · have hki : (m : Int) < (l.length : Int) := by omega
      obtain ⟨x, hx⟩ : ∃ x, l[m]? = some x := ⟨_, List.getElem?_eq_getElem hlt⟩
      obtain ⟨v1, v2, v3, v4, v5, v6, v7, v8, a9, n9, c9c, v10, v11, v12, v13, v14, a15, n15, c15c, hrw⟩ := HR.out m x hx
      have HX := Lib.hid (HOK.out x (List.mem_of_getElem? hx))
      have HSN := Lib.hid (map_take_snoc (f := sLit) hx)
      obtain ⟨b, o, rfl, -⟩ := HS.out.cells m 0 _ _ hrw rfl
      have hrow : ∀ (j : Nat) (v : Value), [.string x, .int .i64 v1, .int .i64 v2, .int .i64 v3, .int .i64 v4, .int .i64 v5, .string v6, .int .i64 v7, .int .i64 v8, .slice a9 n9 c9c, .int .i64 v10, .int .i64 v11, .string v12, .int .i64 v13, .int .i64 v14, .slice a15 n15 c15c][j]? = some v → wr.cell? ⟨b, o + m * 16 + j, none⟩ = some v := fun j v hj => by
        obtain ⟨b', o', e, hw⟩ := HS.out.cells m j _ _ hrw hj
        cases e
        exact HE.out.cell hw
      have c0 : wr.cell? ⟨b, o + m * 16, none⟩ = some (.string x) := by have := hrow 0 _ rfl; simpa using this
      have c1 : wr.cell? ⟨b, o + m * 16 + 1, none⟩ = some (.int .i64 v1) := by have := hrow 1 _ rfl; simpa using this
      have c2 : wr.cell? ⟨b, o + m * 16 + 2, none⟩ = some (.int .i64 v2) := by have := hrow 2 _ rfl; simpa using this
      have c3 : wr.cell? ⟨b, o + m * 16 + 3, none⟩ = some (.int .i64 v3) := by have := hrow 3 _ rfl; simpa using this
      have c4 : wr.cell? ⟨b, o + m * 16 + 4, none⟩ = some (.int .i64 v4) := by have := hrow 4 _ rfl; simpa using this
      have c5 : wr.cell? ⟨b, o + m * 16 + 5, none⟩ = some (.int .i64 v5) := by have := hrow 5 _ rfl; simpa using this
      have c6 : wr.cell? ⟨b, o + m * 16 + 6, none⟩ = some (.string v6) := by have := hrow 6 _ rfl; simpa using this
      have c7 : wr.cell? ⟨b, o + m * 16 + 7, none⟩ = some (.int .i64 v7) := by have := hrow 7 _ rfl; simpa using this
      have c8 : wr.cell? ⟨b, o + m * 16 + 8, none⟩ = some (.int .i64 v8) := by have := hrow 8 _ rfl; simpa using this
      have c9 : wr.cell? ⟨b, o + m * 16 + 9, none⟩ = some (.slice a9 n9 c9c) := by have := hrow 9 _ rfl; simpa using this
      have c10 : wr.cell? ⟨b, o + m * 16 + 10, none⟩ = some (.int .i64 v10) := by have := hrow 10 _ rfl; simpa using this
      have c11 : wr.cell? ⟨b, o + m * 16 + 11, none⟩ = some (.int .i64 v11) := by have := hrow 11 _ rfl; simpa using this
      have c12 : wr.cell? ⟨b, o + m * 16 + 12, none⟩ = some (.string v12) := by have := hrow 12 _ rfl; simpa using this
      have c13 : wr.cell? ⟨b, o + m * 16 + 13, none⟩ = some (.int .i64 v13) := by have := hrow 13 _ rfl; simpa using this
      have c14 : wr.cell? ⟨b, o + m * 16 + 14, none⟩ = some (.int .i64 v14) := by have := hrow 14 _ rfl; simpa using this
      have c15 : wr.cell? ⟨b, o + m * 16 + 15, none⟩ = some (.slice a15 n15 c15c) := by have := hrow 15 _ rfl; simpa using this
      have HLN : Hid (((l.take m).map sLit).length = m) := Lib.hid (by rw [List.length_map, List.length_take]; omega)
      clear hrow hrw hx
      go_wp2_with (first
        | (go_at_call 31; refine (key2_any x (.int .i64 v1) (.int .i64 v2) (.int .i64 v3) (.int .i64 v4) (.int .i64 v5) (.string v6) (.int .i64 v7) (.int .i64 v8) (.slice a9 n9 c9c) (.int .i64 v10) (.int .i64 v11) (.string v12) (.int .i64 v13) (.int .i64 v14) (.slice a15 n15 c15c) _).mono ?_; rintro e w5 ⟨rfl, hE5⟩; have HE5 := Lib.hid (((Ext.refl wr).alloc _).trans hE5); have HM5 := Lib.hid (HM.out.ext HE5.out); obtain ⟨D, hD1, hD2⟩ := HM5.out; have HD := Lib.hid (And.intro hD1 hD2); clear hE5 hD1 hD2)
        | (at_lookup; refine wpList_lookup_own_int _ rfl _ _ 125 rfl 9 3 .i64 keyS Try.underlying125 Try.underlying3 (zeroInt _) B _ D rfl HD.out.1 _ _ rfl (keyOf_s HX.out) ?_; intro cn hat hwc; clear hat hwc)
        | (at_mapUpdate; refine wpList_mapUpdate_own _ rfl _ _ _ 125 rfl 9 3 keyS Try.underlying125 (plainElem Try.prog 3) B _ D rfl HD.out.1 (by have := HLN.out; have := H8.out; unfold maxLen; omega) _ _ _ rfl rfl (keyOf_s HX.out) _ [] (plainElem_int Try.underlying3 (wrap64_wf _)) ?_; intro w6 hown6 hgr6; have HM6 := Lib.hid (MetU.put keyS HD.out.1 HD.out.2 (keyS.key (keyOf_s HX.out)) hown6); have HE6 := Lib.hid (Below.grown (HE.out.trans HE5.out) hgr6 (HE.out.trans HE5.out).size (fun x hx => by cases hx; omega)); clear hown6 hgr6))
      go_roundw
      case rel =>
        refine ⟨m + 1, by go_num, by omega, ?_, HE6.out⟩
        rw [HSN.out]
        exact HM6.out
      case measure => simp [intOf] <;> omega
    · have hki : ¬ (m : Int) < (l.length : Int) := by omega
      obtain rfl : m = l.length := by omega
      rw [List.take_length] at HM
      obtain ⟨D, hD1, -, hD2, -⟩ := HM.out
      have HD := Lib.hid hD1
      have hsz : (Maps.size D = l.length) ↔ l.Nodup := by
        have := hD2
        rw [List.length_map] at this
        exact this.trans HND.out
      have HSZ := Lib.hid hsz
      clear hD1 hD2 hsz
      go_wp2_with (at_len; refine wpList_len_own _ rfl _ 125 rfl 9 3 Try.underlying125 _ B _ D rfl HD.out ?_)
      by_cases hn : l.Nodup
      · refine (demand_t _ _ _ (by have := HSZ.out.2 hn; simp [this])).mono ?_
        rintro e w7 ⟨rfl, rfl⟩
        go_wp2_with fail
        go_end0
        exact ⟨.inl ⟨hn, rfl⟩, HE.out⟩
      · refine (demand_f _ _ _ (by have h1 : ¬ Maps.size D = l.length := fun h => hn (HSZ.out.1 h); simp; omega)).mono ?_
        rintro e w7 ⟨rfl, rfl⟩
        exact ⟨rfl, .inr ⟨hn, rfl⟩, HE.out⟩
set_option maxRecDepth 100000 in
set_option maxHeartbeats 6400000 in
theorem uniCi (l : List Int) (rows : List (List Value)) (hl : rows.length = l.length) (hr : ∀ (i : Nat) x, l[i]? = some x → ∃ (v0 : ByteArray) (v2 : Int) (v3 : Int) (v4 : Int) (v5 : Int) (v6 : ByteArray) (v7 : Int) (v8 : Int) (a9 : Option Addr) (n9 c9c : Nat) (v10 : Int) (v11 : Int) (v12 : ByteArray) (v13 : Int) (v14 : Int) (a15 : Option Addr) (n15 c15c : Nat), rows[i]? = some [.string v0, .int .i64 x, .int .i64 v2, .int .i64 v3, .int .i64 v4, .int .i64 v5, .string v6, .int .i64 v7, .int .i64 v8, .slice a9 n9 c9c, .int .i64 v10, .int .i64 v11, .string v12, .int .i64 v13, .int .i64 v14, .slice a15 n15 c15c]) (hok : ∀ x ∈ l, inI64 x) (ao : Option Addr) (cap : Nat) (w : World) (h : SL w 16 ao cap rows) (h8 : l.length ≤ 100000) :
    Calls Try.prog 32 #[.slice ao l.length cap, .func (Fn.func 33) #[] #[]] w (uniPost l.Nodup w) := by
  have HR := Lib.hid hr
  have HOK := Lib.hid hok
  have HS := Lib.hid h
  have H8 := Lib.hid h8
  have hs1 : (l.length : Int) ≤ 9223372036854775807 := by omega
  have hmm := @run_makeMap Try.prog
  have hM0 := MetU.made Try.prog w 3 3
  have hE0 : Ext w (w.alloc (.map #[] 0)) := (Ext.refl w).alloc _
  have HM0 := Lib.hid hM0
  have HE0 := Lib.hid hE0
  have HND : Hid ((l.map iLit).Nodup ↔ l.Nodup) := Lib.hid (nodup_map fun _ _ => iLit_inj)
  clear hr hok h h8 hl hM0 hE0
  go_enter Try.func32, Try.ntmps32
  go_wp2_with fail
  generalize w.alloc (.map #[] 0) = w0 at *
  obtain ⟨B, hB⟩ : ∃ B, w.heap.size = B := ⟨_, rfl⟩
  rw [hB] at HM0 ⊢
  clear hmm
  go_loopw [10] (fun iv wr => ∃ m : Nat, iv = .int .i64 m ∧ m ≤ l.length ∧ MetU Try.prog wr 3 3 B ((l.take m).map iLit) ∧ Ext w wr) (fun iv _ => l.length - (intOf iv).toNat)
  case atStart => exact ⟨0, rfl, by omega, HM0.out, HE0.out⟩
  case round =>
    obtain ⟨m, rfl, hm, hM, hE⟩ := hrel
    have HM := Lib.hid hM
    have HE := Lib.hid hE
    clear hM hE
    by_cases hlt : m < l.length
    · have hki : (m : Int) < (l.length : Int) := by omega
      obtain ⟨x, hx⟩ : ∃ x, l[m]? = some x := ⟨_, List.getElem?_eq_getElem hlt⟩
      obtain ⟨v0, v2, v3, v4, v5, v6, v7, v8, a9, n9, c9c, v10, v11, v12, v13, v14, a15, n15, c15c, hrw⟩ := HR.out m x hx
      have HX := Lib.hid (HOK.out x (List.mem_of_getElem? hx))
      have HSN := Lib.hid (map_take_snoc (f := iLit) hx)
      obtain ⟨b, o, rfl, -⟩ := HS.out.cells m 0 _ _ hrw rfl
      have hrow : ∀ (j : Nat) (v : Value), [.string v0, .int .i64 x, .int .i64 v2, .int .i64 v3, .int .i64 v4, .int .i64 v5, .string v6, .int .i64 v7, .int .i64 v8, .slice a9 n9 c9c, .int .i64 v10, .int .i64 v11, .string v12, .int .i64 v13, .int .i64 v14, .slice a15 n15 c15c][j]? = some v → wr.cell? ⟨b, o + m * 16 + j, none⟩ = some v := fun j v hj => by
        obtain ⟨b', o', e, hw⟩ := HS.out.cells m j _ _ hrw hj
        cases e
        exact HE.out.cell hw
      have c0 : wr.cell? ⟨b, o + m * 16, none⟩ = some (.string v0) := by have := hrow 0 _ rfl; simpa using this
      have c1 : wr.cell? ⟨b, o + m * 16 + 1, none⟩ = some (.int .i64 x) := by have := hrow 1 _ rfl; simpa using this
      have c2 : wr.cell? ⟨b, o + m * 16 + 2, none⟩ = some (.int .i64 v2) := by have := hrow 2 _ rfl; simpa using this
      have c3 : wr.cell? ⟨b, o + m * 16 + 3, none⟩ = some (.int .i64 v3) := by have := hrow 3 _ rfl; simpa using this
      have c4 : wr.cell? ⟨b, o + m * 16 + 4, none⟩ = some (.int .i64 v4) := by have := hrow 4 _ rfl; simpa using this
      have c5 : wr.cell? ⟨b, o + m * 16 + 5, none⟩ = some (.int .i64 v5) := by have := hrow 5 _ rfl; simpa using this
      have c6 : wr.cell? ⟨b, o + m * 16 + 6, none⟩ = some (.string v6) := by have := hrow 6 _ rfl; simpa using this
      have c7 : wr.cell? ⟨b, o + m * 16 + 7, none⟩ = some (.int .i64 v7) := by have := hrow 7 _ rfl; simpa using this
      have c8 : wr.cell? ⟨b, o + m * 16 + 8, none⟩ = some (.int .i64 v8) := by have := hrow 8 _ rfl; simpa using this
      have c9 : wr.cell? ⟨b, o + m * 16 + 9, none⟩ = some (.slice a9 n9 c9c) := by have := hrow 9 _ rfl; simpa using this
      have c10 : wr.cell? ⟨b, o + m * 16 + 10, none⟩ = some (.int .i64 v10) := by have := hrow 10 _ rfl; simpa using this
      have c11 : wr.cell? ⟨b, o + m * 16 + 11, none⟩ = some (.int .i64 v11) := by have := hrow 11 _ rfl; simpa using this
      have c12 : wr.cell? ⟨b, o + m * 16 + 12, none⟩ = some (.string v12) := by have := hrow 12 _ rfl; simpa using this
      have c13 : wr.cell? ⟨b, o + m * 16 + 13, none⟩ = some (.int .i64 v13) := by have := hrow 13 _ rfl; simpa using this
      have c14 : wr.cell? ⟨b, o + m * 16 + 14, none⟩ = some (.int .i64 v14) := by have := hrow 14 _ rfl; simpa using this
      have c15 : wr.cell? ⟨b, o + m * 16 + 15, none⟩ = some (.slice a15 n15 c15c) := by have := hrow 15 _ rfl; simpa using this
      have HLN : Hid (((l.take m).map iLit).length = m) := Lib.hid (by rw [List.length_map, List.length_take]; omega)
      clear hrow hrw hx
      go_wp2_with (first
        | (go_at_call 33; refine (key3_any x (.string v0) (.int .i64 v2) (.int .i64 v3) (.int .i64 v4) (.int .i64 v5) (.string v6) (.int .i64 v7) (.int .i64 v8) (.slice a9 n9 c9c) (.int .i64 v10) (.int .i64 v11) (.string v12) (.int .i64 v13) (.int .i64 v14) (.slice a15 n15 c15c) _).mono ?_; rintro e w5 ⟨rfl, hE5⟩; have HE5 := Lib.hid (((Ext.refl wr).alloc _).trans hE5); have HM5 := Lib.hid (HM.out.ext HE5.out); obtain ⟨D, hD1, hD2⟩ := HM5.out; have HD := Lib.hid (And.intro hD1 hD2); clear hE5 hD1 hD2)
        | (at_lookup; refine wpList_lookup_own_int _ rfl _ _ 126 rfl 3 3 .i64 keyI Try.underlying126 Try.underlying3 (zeroInt _) B _ D rfl HD.out.1 _ _ rfl (keyOf_i HX.out) ?_; intro cn hat hwc; clear hat hwc)
        | (at_mapUpdate; refine wpList_mapUpdate_own _ rfl _ _ _ 126 rfl 3 3 keyI Try.underlying126 (plainElem Try.prog 3) B _ D rfl HD.out.1 (by have := HLN.out; have := H8.out; unfold maxLen; omega) _ _ _ rfl rfl (keyOf_i HX.out) _ [] (plainElem_int Try.underlying3 (wrap64_wf _)) ?_; intro w6 hown6 hgr6; have HM6 := Lib.hid (MetU.put keyI HD.out.1 HD.out.2 (keyI.key (keyOf_i HX.out)) hown6); have HE6 := Lib.hid (Below.grown (HE.out.trans HE5.out) hgr6 (HE.out.trans HE5.out).size (fun x hx => by cases hx; omega)); clear hown6 hgr6))
      go_roundw
      case rel =>
        refine ⟨m + 1, by go_num, by omega, ?_, HE6.out⟩
        rw [HSN.out]
        exact HM6.out
      case measure => simp [intOf] <;> omega
    · have hki : ¬ (m : Int) < (l.length : Int) := by omega
      obtain rfl : m = l.length := by omega
      rw [List.take_length] at HM
      obtain ⟨D, hD1, -, hD2, -⟩ := HM.out
      have HD := Lib.hid hD1
      have hsz : (Maps.size D = l.length) ↔ l.Nodup := by
        have := hD2
        rw [List.length_map] at this
        exact this.trans HND.out
      have HSZ := Lib.hid hsz
      clear hD1 hD2 hsz
      go_wp2_with (at_len; refine wpList_len_own _ rfl _ 126 rfl 3 3 Try.underlying126 _ B _ D rfl HD.out ?_)
      by_cases hn : l.Nodup
      · refine (demand_t _ _ _ (by have := HSZ.out.2 hn; simp [this])).mono ?_
        rintro e w7 ⟨rfl, rfl⟩
        go_wp2_with fail
        go_end0
        exact ⟨.inl ⟨hn, rfl⟩, HE.out⟩
      · refine (demand_f _ _ _ (by have h1 : ¬ Maps.size D = l.length := fun h => hn (HSZ.out.1 h); simp; omega)).mono ?_
        rintro e w7 ⟨rfl, rfl⟩
        exact ⟨rfl, .inr ⟨hn, rfl⟩, HE.out⟩
set_option maxRecDepth 100000 in
set_option maxHeartbeats 6400000 in
theorem uniPs (l : List ByteArray) (rows : List (List Value)) (hl : rows.length = l.length) (hr : ∀ (i : Nat) x, l[i]? = some x → ∃ (v1 : Int) (v2 : Int) (v3 : Int) (v4 : Int) (v5 : Int) (a6 : Option Addr) (n6 c6c : Nat), rows[i]? = some [.string x, .int .i64 v1, .int .i64 v2, .int .i64 v3, .int .i64 v4, .int .i64 v5, .slice a6 n6 c6c]) (hok : ∀ x ∈ l, x.size ≤ maxLen) (ao : Option Addr) (cap : Nat) (w : World) (h : SL w 7 ao cap rows) (h8 : l.length ≤ 100000) :
    Calls Try.prog 34 #[.slice ao l.length cap, .func (Fn.func 35) #[] #[]] w (uniPost l.Nodup w) := by
  have HR := Lib.hid hr
  have HOK := Lib.hid hok
  have HS := Lib.hid h
  have H8 := Lib.hid h8
  have hs1 : (l.length : Int) ≤ 9223372036854775807 := by omega
  have hmm := @run_makeMap Try.prog
  have hM0 := MetU.made Try.prog w 9 3
  have hE0 : Ext w (w.alloc (.map #[] 0)) := (Ext.refl w).alloc _
  have HM0 := Lib.hid hM0
  have HE0 := Lib.hid hE0
  have HND : Hid ((l.map sLit).Nodup ↔ l.Nodup) := Lib.hid (nodup_map fun _ _ => sLit_inj)
  clear hr hok h h8 hl hM0 hE0
  go_enter Try.func34, Try.ntmps34
  go_wp2_with fail
  generalize w.alloc (.map #[] 0) = w0 at *
  obtain ⟨B, hB⟩ : ∃ B, w.heap.size = B := ⟨_, rfl⟩
  rw [hB] at HM0 ⊢
  clear hmm
  go_loopw [10] (fun iv wr => ∃ m : Nat, iv = .int .i64 m ∧ m ≤ l.length ∧ MetU Try.prog wr 9 3 B ((l.take m).map sLit) ∧ Ext w wr) (fun iv _ => l.length - (intOf iv).toNat)
  case atStart => exact ⟨0, rfl, by omega, HM0.out, HE0.out⟩
  case round =>
    obtain ⟨m, rfl, hm, hM, hE⟩ := hrel
    have HM := Lib.hid hM
    have HE := Lib.hid hE
    clear hM hE
    by_cases hlt : m < l.length
    · have hki : (m : Int) < (l.length : Int) := by omega
      obtain ⟨x, hx⟩ : ∃ x, l[m]? = some x := ⟨_, List.getElem?_eq_getElem hlt⟩
      obtain ⟨v1, v2, v3, v4, v5, a6, n6, c6c, hrw⟩ := HR.out m x hx
      have HX := Lib.hid (HOK.out x (List.mem_of_getElem? hx))
      have HSN := Lib.hid (map_take_snoc (f := sLit) hx)
      obtain ⟨b, o, rfl, -⟩ := HS.out.cells m 0 _ _ hrw rfl
      have hrow : ∀ (j : Nat) (v : Value), [.string x, .int .i64 v1, .int .i64 v2, .int .i64 v3, .int .i64 v4, .int .i64 v5, .slice a6 n6 c6c][j]? = some v → wr.cell? ⟨b, o + m * 7 + j, none⟩ = some v := fun j v hj => by
        obtain ⟨b', o', e, hw⟩ := HS.out.cells m j _ _ hrw hj
        cases e
        exact HE.out.cell hw
      have c0 : wr.cell? ⟨b, o + m * 7, none⟩ = some (.string x) := by have := hrow 0 _ rfl; simpa using this
      have c1 : wr.cell? ⟨b, o + m * 7 + 1, none⟩ = some (.int .i64 v1) := by have := hrow 1 _ rfl; simpa using this
      have c2 : wr.cell? ⟨b, o + m * 7 + 2, none⟩ = some (.int .i64 v2) := by have := hrow 2 _ rfl; simpa using this
      have c3 : wr.cell? ⟨b, o + m * 7 + 3, none⟩ = some (.int .i64 v3) := by have := hrow 3 _ rfl; simpa using this
      have c4 : wr.cell? ⟨b, o + m * 7 + 4, none⟩ = some (.int .i64 v4) := by have := hrow 4 _ rfl; simpa using this
      have c5 : wr.cell? ⟨b, o + m * 7 + 5, none⟩ = some (.int .i64 v5) := by have := hrow 5 _ rfl; simpa using this
      have c6 : wr.cell? ⟨b, o + m * 7 + 6, none⟩ = some (.slice a6 n6 c6c) := by have := hrow 6 _ rfl; simpa using this
      have HLN : Hid (((l.take m).map sLit).length = m) := Lib.hid (by rw [List.length_map, List.length_take]; omega)
      clear hrow hrw hx
      go_wp2_with (first
        | (go_at_call 35; refine (key4_any x (.int .i64 v1) (.int .i64 v2) (.int .i64 v3) (.int .i64 v4) (.int .i64 v5) (.slice a6 n6 c6c) _).mono ?_; rintro e w5 ⟨rfl, hE5⟩; have HE5 := Lib.hid (((Ext.refl wr).alloc _).trans hE5); have HM5 := Lib.hid (HM.out.ext HE5.out); obtain ⟨D, hD1, hD2⟩ := HM5.out; have HD := Lib.hid (And.intro hD1 hD2); clear hE5 hD1 hD2)
        | (at_lookup; refine wpList_lookup_own_int _ rfl _ _ 125 rfl 9 3 .i64 keyS Try.underlying125 Try.underlying3 (zeroInt _) B _ D rfl HD.out.1 _ _ rfl (keyOf_s HX.out) ?_; intro cn hat hwc; clear hat hwc)
        | (at_mapUpdate; refine wpList_mapUpdate_own _ rfl _ _ _ 125 rfl 9 3 keyS Try.underlying125 (plainElem Try.prog 3) B _ D rfl HD.out.1 (by have := HLN.out; have := H8.out; unfold maxLen; omega) _ _ _ rfl rfl (keyOf_s HX.out) _ [] (plainElem_int Try.underlying3 (wrap64_wf _)) ?_; intro w6 hown6 hgr6; have HM6 := Lib.hid (MetU.put keyS HD.out.1 HD.out.2 (keyS.key (keyOf_s HX.out)) hown6); have HE6 := Lib.hid (Below.grown (HE.out.trans HE5.out) hgr6 (HE.out.trans HE5.out).size (fun x hx => by cases hx; omega)); clear hown6 hgr6))
      go_roundw
      case rel =>
        refine ⟨m + 1, by go_num, by omega, ?_, HE6.out⟩
        rw [HSN.out]
        exact HM6.out
      case measure => simp [intOf] <;> omega
    · have hki : ¬ (m : Int) < (l.length : Int) := by omega
      obtain rfl : m = l.length := by omega
      rw [List.take_length] at HM
      obtain ⟨D, hD1, -, hD2, -⟩ := HM.out
      have HD := Lib.hid hD1
      have hsz : (Maps.size D = l.length) ↔ l.Nodup := by
        have := hD2
        rw [List.length_map] at this
        exact this.trans HND.out
      have HSZ := Lib.hid hsz
      clear hD1 hD2 hsz
      go_wp2_with (at_len; refine wpList_len_own _ rfl _ 125 rfl 9 3 Try.underlying125 _ B _ D rfl HD.out ?_)
      by_cases hn : l.Nodup
      · refine (demand_t _ _ _ (by have := HSZ.out.2 hn; simp [this])).mono ?_
        rintro e w7 ⟨rfl, rfl⟩
        go_wp2_with fail
        go_end0
        exact ⟨.inl ⟨hn, rfl⟩, HE.out⟩
      · refine (demand_f _ _ _ (by have h1 : ¬ Maps.size D = l.length := fun h => hn (HSZ.out.1 h); simp; omega)).mono ?_
        rintro e w7 ⟨rfl, rfl⟩
        exact ⟨rfl, .inr ⟨hn, rfl⟩, HE.out⟩
set_option maxRecDepth 100000 in
set_option maxHeartbeats 6400000 in
theorem uniPi (l : List Int) (rows : List (List Value)) (hl : rows.length = l.length) (hr : ∀ (i : Nat) x, l[i]? = some x → ∃ (v0 : ByteArray) (v2 : Int) (v3 : Int) (v4 : Int) (v5 : Int) (a6 : Option Addr) (n6 c6c : Nat), rows[i]? = some [.string v0, .int .i64 x, .int .i64 v2, .int .i64 v3, .int .i64 v4, .int .i64 v5, .slice a6 n6 c6c]) (hok : ∀ x ∈ l, inI64 x) (ao : Option Addr) (cap : Nat) (w : World) (h : SL w 7 ao cap rows) (h8 : l.length ≤ 100000) :
    Calls Try.prog 36 #[.slice ao l.length cap, .func (Fn.func 37) #[] #[]] w (uniPost l.Nodup w) := by
  have HR := Lib.hid hr
  have HOK := Lib.hid hok
  have HS := Lib.hid h
  have H8 := Lib.hid h8
  have hs1 : (l.length : Int) ≤ 9223372036854775807 := by omega
  have hmm := @run_makeMap Try.prog
  have hM0 := MetU.made Try.prog w 3 3
  have hE0 : Ext w (w.alloc (.map #[] 0)) := (Ext.refl w).alloc _
  have HM0 := Lib.hid hM0
  have HE0 := Lib.hid hE0
  have HND : Hid ((l.map iLit).Nodup ↔ l.Nodup) := Lib.hid (nodup_map fun _ _ => iLit_inj)
  clear hr hok h h8 hl hM0 hE0
  go_enter Try.func36, Try.ntmps36
  go_wp2_with fail
  generalize w.alloc (.map #[] 0) = w0 at *
  obtain ⟨B, hB⟩ : ∃ B, w.heap.size = B := ⟨_, rfl⟩
  rw [hB] at HM0 ⊢
  clear hmm
  go_loopw [10] (fun iv wr => ∃ m : Nat, iv = .int .i64 m ∧ m ≤ l.length ∧ MetU Try.prog wr 3 3 B ((l.take m).map iLit) ∧ Ext w wr) (fun iv _ => l.length - (intOf iv).toNat)
  case atStart => exact ⟨0, rfl, by omega, HM0.out, HE0.out⟩
  case round =>
    obtain ⟨m, rfl, hm, hM, hE⟩ := hrel
    have HM := Lib.hid hM
    have HE := Lib.hid hE
    clear hM hE
    by_cases hlt : m < l.length
    · have hki : (m : Int) < (l.length : Int) := by omega
      obtain ⟨x, hx⟩ : ∃ x, l[m]? = some x := ⟨_, List.getElem?_eq_getElem hlt⟩
      obtain ⟨v0, v2, v3, v4, v5, a6, n6, c6c, hrw⟩ := HR.out m x hx
      have HX := Lib.hid (HOK.out x (List.mem_of_getElem? hx))
      have HSN := Lib.hid (map_take_snoc (f := iLit) hx)
      obtain ⟨b, o, rfl, -⟩ := HS.out.cells m 0 _ _ hrw rfl
      have hrow : ∀ (j : Nat) (v : Value), [.string v0, .int .i64 x, .int .i64 v2, .int .i64 v3, .int .i64 v4, .int .i64 v5, .slice a6 n6 c6c][j]? = some v → wr.cell? ⟨b, o + m * 7 + j, none⟩ = some v := fun j v hj => by
        obtain ⟨b', o', e, hw⟩ := HS.out.cells m j _ _ hrw hj
        cases e
        exact HE.out.cell hw
      have c0 : wr.cell? ⟨b, o + m * 7, none⟩ = some (.string v0) := by have := hrow 0 _ rfl; simpa using this
      have c1 : wr.cell? ⟨b, o + m * 7 + 1, none⟩ = some (.int .i64 x) := by have := hrow 1 _ rfl; simpa using this
      have c2 : wr.cell? ⟨b, o + m * 7 + 2, none⟩ = some (.int .i64 v2) := by have := hrow 2 _ rfl; simpa using this
      have c3 : wr.cell? ⟨b, o + m * 7 + 3, none⟩ = some (.int .i64 v3) := by have := hrow 3 _ rfl; simpa using this
      have c4 : wr.cell? ⟨b, o + m * 7 + 4, none⟩ = some (.int .i64 v4) := by have := hrow 4 _ rfl; simpa using this
      have c5 : wr.cell? ⟨b, o + m * 7 + 5, none⟩ = some (.int .i64 v5) := by have := hrow 5 _ rfl; simpa using this
      have c6 : wr.cell? ⟨b, o + m * 7 + 6, none⟩ = some (.slice a6 n6 c6c) := by have := hrow 6 _ rfl; simpa using this
      have HLN : Hid (((l.take m).map iLit).length = m) := Lib.hid (by rw [List.length_map, List.length_take]; omega)
      clear hrow hrw hx
      go_wp2_with (first
        | (go_at_call 37; refine (key5_any x (.string v0) (.int .i64 v2) (.int .i64 v3) (.int .i64 v4) (.int .i64 v5) (.slice a6 n6 c6c) _).mono ?_; rintro e w5 ⟨rfl, hE5⟩; have HE5 := Lib.hid (((Ext.refl wr).alloc _).trans hE5); have HM5 := Lib.hid (HM.out.ext HE5.out); obtain ⟨D, hD1, hD2⟩ := HM5.out; have HD := Lib.hid (And.intro hD1 hD2); clear hE5 hD1 hD2)
        | (at_lookup; refine wpList_lookup_own_int _ rfl _ _ 126 rfl 3 3 .i64 keyI Try.underlying126 Try.underlying3 (zeroInt _) B _ D rfl HD.out.1 _ _ rfl (keyOf_i HX.out) ?_; intro cn hat hwc; clear hat hwc)
        | (at_mapUpdate; refine wpList_mapUpdate_own _ rfl _ _ _ 126 rfl 3 3 keyI Try.underlying126 (plainElem Try.prog 3) B _ D rfl HD.out.1 (by have := HLN.out; have := H8.out; unfold maxLen; omega) _ _ _ rfl rfl (keyOf_i HX.out) _ [] (plainElem_int Try.underlying3 (wrap64_wf _)) ?_; intro w6 hown6 hgr6; have HM6 := Lib.hid (MetU.put keyI HD.out.1 HD.out.2 (keyI.key (keyOf_i HX.out)) hown6); have HE6 := Lib.hid (Below.grown (HE.out.trans HE5.out) hgr6 (HE.out.trans HE5.out).size (fun x hx => by cases hx; omega)); clear hown6 hgr6))
      go_roundw
      case rel =>
        refine ⟨m + 1, by go_num, by omega, ?_, HE6.out⟩
        rw [HSN.out]
        exact HM6.out
      case measure => simp [intOf] <;> omega
    · have hki : ¬ (m : Int) < (l.length : Int) := by omega
      obtain rfl : m = l.length := by omega
      rw [List.take_length] at HM
      obtain ⟨D, hD1, -, hD2, -⟩ := HM.out
      have HD := Lib.hid hD1
      have hsz : (Maps.size D = l.length) ↔ l.Nodup := by
        have := hD2
        rw [List.length_map] at this
        exact this.trans HND.out
      have HSZ := Lib.hid hsz
      clear hD1 hD2 hsz
      go_wp2_with (at_len; refine wpList_len_own _ rfl _ 126 rfl 3 3 Try.underlying126 _ B _ D rfl HD.out ?_)
      by_cases hn : l.Nodup
      · refine (demand_t _ _ _ (by have := HSZ.out.2 hn; simp [this])).mono ?_
        rintro e w7 ⟨rfl, rfl⟩
        go_wp2_with fail
        go_end0
        exact ⟨.inl ⟨hn, rfl⟩, HE.out⟩
      · refine (demand_f _ _ _ (by have h1 : ¬ Maps.size D = l.length := fun h => hn (HSZ.out.1 h); simp; omega)).mono ?_
        rintro e w7 ⟨rfl, rfl⟩
        exact ⟨rfl, .inr ⟨hn, rfl⟩, HE.out⟩
set_option maxRecDepth 100000 in
set_option maxHeartbeats 6400000 in
theorem uniRs (l : List ByteArray) (rows : List (List Value)) (hl : rows.length = l.length) (hr : ∀ (i : Nat) x, l[i]? = some x → ∃ (v1 : Int) (v2 : Int) (v3 : Bool) (a4 : Option Addr) (n4 c4c : Nat) (a5 : Option Addr) (n5 c5c : Nat), rows[i]? = some [.string x, .int .i64 v1, .int .i64 v2, .bool v3, .slice a4 n4 c4c, .slice a5 n5 c5c]) (hok : ∀ x ∈ l, x.size ≤ maxLen) (ao : Option Addr) (cap : Nat) (w : World) (h : SL w 6 ao cap rows) (h8 : l.length ≤ 100000) :
    Calls Try.prog 38 #[.slice ao l.length cap, .func (Fn.func 39) #[] #[]] w (uniPost l.Nodup w) := by
  have HR := Lib.hid hr
  have HOK := Lib.hid hok
  have HS := Lib.hid h
  have H8 := Lib.hid h8
  have hs1 : (l.length : Int) ≤ 9223372036854775807 := by omega
  have hmm := @run_makeMap Try.prog
  have hM0 := MetU.made Try.prog w 9 3
  have hE0 : Ext w (w.alloc (.map #[] 0)) := (Ext.refl w).alloc _
  have HM0 := Lib.hid hM0
  have HE0 := Lib.hid hE0
  have HND : Hid ((l.map sLit).Nodup ↔ l.Nodup) := Lib.hid (nodup_map fun _ _ => sLit_inj)
  clear hr hok h h8 hl hM0 hE0
  go_enter Try.func38, Try.ntmps38
  go_wp2_with fail
  generalize w.alloc (.map #[] 0) = w0 at *
  obtain ⟨B, hB⟩ : ∃ B, w.heap.size = B := ⟨_, rfl⟩
  rw [hB] at HM0 ⊢
  clear hmm
  go_loopw [10] (fun iv wr => ∃ m : Nat, iv = .int .i64 m ∧ m ≤ l.length ∧ MetU Try.prog wr 9 3 B ((l.take m).map sLit) ∧ Ext w wr) (fun iv _ => l.length - (intOf iv).toNat)
  case atStart => exact ⟨0, rfl, by omega, HM0.out, HE0.out⟩
  case round =>
    obtain ⟨m, rfl, hm, hM, hE⟩ := hrel
    have HM := Lib.hid hM
    have HE := Lib.hid hE
    clear hM hE
    by_cases hlt : m < l.length
    · have hki : (m : Int) < (l.length : Int) := by omega
      obtain ⟨x, hx⟩ : ∃ x, l[m]? = some x := ⟨_, List.getElem?_eq_getElem hlt⟩
      obtain ⟨v1, v2, v3, a4, n4, c4c, a5, n5, c5c, hrw⟩ := HR.out m x hx
      have HX := Lib.hid (HOK.out x (List.mem_of_getElem? hx))
      have HSN := Lib.hid (map_take_snoc (f := sLit) hx)
      obtain ⟨b, o, rfl, -⟩ := HS.out.cells m 0 _ _ hrw rfl
      have hrow : ∀ (j : Nat) (v : Value), [.string x, .int .i64 v1, .int .i64 v2, .bool v3, .slice a4 n4 c4c, .slice a5 n5 c5c][j]? = some v → wr.cell? ⟨b, o + m * 6 + j, none⟩ = some v := fun j v hj => by
        obtain ⟨b', o', e, hw⟩ := HS.out.cells m j _ _ hrw hj
        cases e
        exact HE.out.cell hw
      have c0 : wr.cell? ⟨b, o + m * 6, none⟩ = some (.string x) := by have := hrow 0 _ rfl; simpa using this
      have c1 : wr.cell? ⟨b, o + m * 6 + 1, none⟩ = some (.int .i64 v1) := by have := hrow 1 _ rfl; simpa using this
      have c2 : wr.cell? ⟨b, o + m * 6 + 2, none⟩ = some (.int .i64 v2) := by have := hrow 2 _ rfl; simpa using this
      have c3 : wr.cell? ⟨b, o + m * 6 + 3, none⟩ = some (.bool v3) := by have := hrow 3 _ rfl; simpa using this
      have c4 : wr.cell? ⟨b, o + m * 6 + 4, none⟩ = some (.slice a4 n4 c4c) := by have := hrow 4 _ rfl; simpa using this
      have c5 : wr.cell? ⟨b, o + m * 6 + 5, none⟩ = some (.slice a5 n5 c5c) := by have := hrow 5 _ rfl; simpa using this
      have HLN : Hid (((l.take m).map sLit).length = m) := Lib.hid (by rw [List.length_map, List.length_take]; omega)
      clear hrow hrw hx
      go_wp2_with (first
        | (go_at_call 39; refine (key6_any x (.int .i64 v1) (.int .i64 v2) (.bool v3) (.slice a4 n4 c4c) (.slice a5 n5 c5c) _).mono ?_; rintro e w5 ⟨rfl, hE5⟩; have HE5 := Lib.hid (((Ext.refl wr).alloc _).trans hE5); have HM5 := Lib.hid (HM.out.ext HE5.out); obtain ⟨D, hD1, hD2⟩ := HM5.out; have HD := Lib.hid (And.intro hD1 hD2); clear hE5 hD1 hD2)
        | (at_lookup; refine wpList_lookup_own_int _ rfl _ _ 125 rfl 9 3 .i64 keyS Try.underlying125 Try.underlying3 (zeroInt _) B _ D rfl HD.out.1 _ _ rfl (keyOf_s HX.out) ?_; intro cn hat hwc; clear hat hwc)
        | (at_mapUpdate; refine wpList_mapUpdate_own _ rfl _ _ _ 125 rfl 9 3 keyS Try.underlying125 (plainElem Try.prog 3) B _ D rfl HD.out.1 (by have := HLN.out; have := H8.out; unfold maxLen; omega) _ _ _ rfl rfl (keyOf_s HX.out) _ [] (plainElem_int Try.underlying3 (wrap64_wf _)) ?_; intro w6 hown6 hgr6; have HM6 := Lib.hid (MetU.put keyS HD.out.1 HD.out.2 (keyS.key (keyOf_s HX.out)) hown6); have HE6 := Lib.hid (Below.grown (HE.out.trans HE5.out) hgr6 (HE.out.trans HE5.out).size (fun x hx => by cases hx; omega)); clear hown6 hgr6))
      go_roundw
      case rel =>
        refine ⟨m + 1, by go_num, by omega, ?_, HE6.out⟩
        rw [HSN.out]
        exact HM6.out
      case measure => simp [intOf] <;> omega
    · have hki : ¬ (m : Int) < (l.length : Int) := by omega
      obtain rfl : m = l.length := by omega
      rw [List.take_length] at HM
      obtain ⟨D, hD1, -, hD2, -⟩ := HM.out
      have HD := Lib.hid hD1
      have hsz : (Maps.size D = l.length) ↔ l.Nodup := by
        have := hD2
        rw [List.length_map] at this
        exact this.trans HND.out
      have HSZ := Lib.hid hsz
      clear hD1 hD2 hsz
      go_wp2_with (at_len; refine wpList_len_own _ rfl _ 125 rfl 9 3 Try.underlying125 _ B _ D rfl HD.out ?_)
      by_cases hn : l.Nodup
      · refine (demand_t _ _ _ (by have := HSZ.out.2 hn; simp [this])).mono ?_
        rintro e w7 ⟨rfl, rfl⟩
        go_wp2_with fail
        go_end0
        exact ⟨.inl ⟨hn, rfl⟩, HE.out⟩
      · refine (demand_f _ _ _ (by have h1 : ¬ Maps.size D = l.length := fun h => hn (HSZ.out.1 h); simp; omega)).mono ?_
        rintro e w7 ⟨rfl, rfl⟩
        exact ⟨rfl, .inr ⟨hn, rfl⟩, HE.out⟩
set_option maxRecDepth 100000 in
set_option maxHeartbeats 6400000 in
theorem uniKs (l : List ByteArray) (rows : List (List Value)) (hl : rows.length = l.length) (hr : ∀ (i : Nat) x, l[i]? = some x → ∃ (v1 : Int) (v2 : Int) (v3 : Int), rows[i]? = some [.string x, .int .i64 v1, .int .i64 v2, .int .i64 v3]) (hok : ∀ x ∈ l, x.size ≤ maxLen) (ao : Option Addr) (cap : Nat) (w : World) (h : SL w 4 ao cap rows) (h8 : l.length ≤ 100000) :
    Calls Try.prog 40 #[.slice ao l.length cap, .func (Fn.func 41) #[] #[]] w (uniPost l.Nodup w) := by
  have HR := Lib.hid hr
  have HOK := Lib.hid hok
  have HS := Lib.hid h
  have H8 := Lib.hid h8
  have hs1 : (l.length : Int) ≤ 9223372036854775807 := by omega
  have hmm := @run_makeMap Try.prog
  have hM0 := MetU.made Try.prog w 9 3
  have hE0 : Ext w (w.alloc (.map #[] 0)) := (Ext.refl w).alloc _
  have HM0 := Lib.hid hM0
  have HE0 := Lib.hid hE0
  have HND : Hid ((l.map sLit).Nodup ↔ l.Nodup) := Lib.hid (nodup_map fun _ _ => sLit_inj)
  clear hr hok h h8 hl hM0 hE0
  go_enter Try.func40, Try.ntmps40
  go_wp2_with fail
  generalize w.alloc (.map #[] 0) = w0 at *
  obtain ⟨B, hB⟩ : ∃ B, w.heap.size = B := ⟨_, rfl⟩
  rw [hB] at HM0 ⊢
  clear hmm
  go_loopw [10] (fun iv wr => ∃ m : Nat, iv = .int .i64 m ∧ m ≤ l.length ∧ MetU Try.prog wr 9 3 B ((l.take m).map sLit) ∧ Ext w wr) (fun iv _ => l.length - (intOf iv).toNat)
  case atStart => exact ⟨0, rfl, by omega, HM0.out, HE0.out⟩
  case round =>
    obtain ⟨m, rfl, hm, hM, hE⟩ := hrel
    have HM := Lib.hid hM
    have HE := Lib.hid hE
    clear hM hE
    by_cases hlt : m < l.length
    · have hki : (m : Int) < (l.length : Int) := by omega
      obtain ⟨x, hx⟩ : ∃ x, l[m]? = some x := ⟨_, List.getElem?_eq_getElem hlt⟩
      obtain ⟨v1, v2, v3, hrw⟩ := HR.out m x hx
      have HX := Lib.hid (HOK.out x (List.mem_of_getElem? hx))
      have HSN := Lib.hid (map_take_snoc (f := sLit) hx)
      obtain ⟨b, o, rfl, -⟩ := HS.out.cells m 0 _ _ hrw rfl
      have hrow : ∀ (j : Nat) (v : Value), [.string x, .int .i64 v1, .int .i64 v2, .int .i64 v3][j]? = some v → wr.cell? ⟨b, o + m * 4 + j, none⟩ = some v := fun j v hj => by
        obtain ⟨b', o', e, hw⟩ := HS.out.cells m j _ _ hrw hj
        cases e
        exact HE.out.cell hw
      have c0 : wr.cell? ⟨b, o + m * 4, none⟩ = some (.string x) := by have := hrow 0 _ rfl; simpa using this
      have c1 : wr.cell? ⟨b, o + m * 4 + 1, none⟩ = some (.int .i64 v1) := by have := hrow 1 _ rfl; simpa using this
      have c2 : wr.cell? ⟨b, o + m * 4 + 2, none⟩ = some (.int .i64 v2) := by have := hrow 2 _ rfl; simpa using this
      have c3 : wr.cell? ⟨b, o + m * 4 + 3, none⟩ = some (.int .i64 v3) := by have := hrow 3 _ rfl; simpa using this
      have HLN : Hid (((l.take m).map sLit).length = m) := Lib.hid (by rw [List.length_map, List.length_take]; omega)
      clear hrow hrw hx
      go_wp2_with (first
        | (go_at_call 41; refine (keyC_any x (.int .i64 v1) (.int .i64 v2) (.int .i64 v3) _).mono ?_; rintro e w5 ⟨rfl, hE5⟩; have HE5 := Lib.hid (((Ext.refl wr).alloc _).trans hE5); have HM5 := Lib.hid (HM.out.ext HE5.out); obtain ⟨D, hD1, hD2⟩ := HM5.out; have HD := Lib.hid (And.intro hD1 hD2); clear hE5 hD1 hD2)
        | (at_lookup; refine wpList_lookup_own_int _ rfl _ _ 125 rfl 9 3 .i64 keyS Try.underlying125 Try.underlying3 (zeroInt _) B _ D rfl HD.out.1 _ _ rfl (keyOf_s HX.out) ?_; intro cn hat hwc; clear hat hwc)
        | (at_mapUpdate; refine wpList_mapUpdate_own _ rfl _ _ _ 125 rfl 9 3 keyS Try.underlying125 (plainElem Try.prog 3) B _ D rfl HD.out.1 (by have := HLN.out; have := H8.out; unfold maxLen; omega) _ _ _ rfl rfl (keyOf_s HX.out) _ [] (plainElem_int Try.underlying3 (wrap64_wf _)) ?_; intro w6 hown6 hgr6; have HM6 := Lib.hid (MetU.put keyS HD.out.1 HD.out.2 (keyS.key (keyOf_s HX.out)) hown6); have HE6 := Lib.hid (Below.grown (HE.out.trans HE5.out) hgr6 (HE.out.trans HE5.out).size (fun x hx => by cases hx; omega)); clear hown6 hgr6))
      go_roundw
      case rel =>
        refine ⟨m + 1, by go_num, by omega, ?_, HE6.out⟩
        rw [HSN.out]
        exact HM6.out
      case measure => simp [intOf] <;> omega
    · have hki : ¬ (m : Int) < (l.length : Int) := by omega
      obtain rfl : m = l.length := by omega
      rw [List.take_length] at HM
      obtain ⟨D, hD1, -, hD2, -⟩ := HM.out
      have HD := Lib.hid hD1
      have hsz : (Maps.size D = l.length) ↔ l.Nodup := by
        have := hD2
        rw [List.length_map] at this
        exact this.trans HND.out
      have HSZ := Lib.hid hsz
      clear hD1 hD2 hsz
      go_wp2_with (at_len; refine wpList_len_own _ rfl _ 125 rfl 9 3 Try.underlying125 _ B _ D rfl HD.out ?_)
      by_cases hn : l.Nodup
      · refine (demand_t _ _ _ (by have := HSZ.out.2 hn; simp [this])).mono ?_
        rintro e w7 ⟨rfl, rfl⟩
        go_wp2_with fail
        go_end0
        exact ⟨.inl ⟨hn, rfl⟩, HE.out⟩
      · refine (demand_f _ _ _ (by have h1 : ¬ Maps.size D = l.length := fun h => hn (HSZ.out.1 h); simp; omega)).mono ?_
        rintro e w7 ⟨rfl, rfl⟩
        exact ⟨rfl, .inr ⟨hn, rfl⟩, HE.out⟩
set_option maxRecDepth 100000 in
set_option maxHeartbeats 6400000 in
theorem uniFs (l : List ByteArray) (rows : List (List Value)) (hl : rows.length = l.length) (hr : ∀ (i : Nat) x, l[i]? = some x → ∃ (v1 : Int), rows[i]? = some [.string x, .int .i64 v1]) (hok : ∀ x ∈ l, x.size ≤ maxLen) (ao : Option Addr) (cap : Nat) (w : World) (h : SL w 2 ao cap rows) (h8 : l.length ≤ 100000) :
    Calls Try.prog 42 #[.slice ao l.length cap, .func (Fn.func 43) #[] #[]] w (uniPost l.Nodup w) := by
  have HR := Lib.hid hr
  have HOK := Lib.hid hok
  have HS := Lib.hid h
  have H8 := Lib.hid h8
  have hs1 : (l.length : Int) ≤ 9223372036854775807 := by omega
  have hmm := @run_makeMap Try.prog
  have hM0 := MetU.made Try.prog w 9 3
  have hE0 : Ext w (w.alloc (.map #[] 0)) := (Ext.refl w).alloc _
  have HM0 := Lib.hid hM0
  have HE0 := Lib.hid hE0
  have HND : Hid ((l.map sLit).Nodup ↔ l.Nodup) := Lib.hid (nodup_map fun _ _ => sLit_inj)
  clear hr hok h h8 hl hM0 hE0
  go_enter Try.func42, Try.ntmps42
  go_wp2_with fail
  generalize w.alloc (.map #[] 0) = w0 at *
  obtain ⟨B, hB⟩ : ∃ B, w.heap.size = B := ⟨_, rfl⟩
  rw [hB] at HM0 ⊢
  clear hmm
  go_loopw [10] (fun iv wr => ∃ m : Nat, iv = .int .i64 m ∧ m ≤ l.length ∧ MetU Try.prog wr 9 3 B ((l.take m).map sLit) ∧ Ext w wr) (fun iv _ => l.length - (intOf iv).toNat)
  case atStart => exact ⟨0, rfl, by omega, HM0.out, HE0.out⟩
  case round =>
    obtain ⟨m, rfl, hm, hM, hE⟩ := hrel
    have HM := Lib.hid hM
    have HE := Lib.hid hE
    clear hM hE
    by_cases hlt : m < l.length
    · have hki : (m : Int) < (l.length : Int) := by omega
      obtain ⟨x, hx⟩ : ∃ x, l[m]? = some x := ⟨_, List.getElem?_eq_getElem hlt⟩
      obtain ⟨v1, hrw⟩ := HR.out m x hx
      have HX := Lib.hid (HOK.out x (List.mem_of_getElem? hx))
      have HSN := Lib.hid (map_take_snoc (f := sLit) hx)
      obtain ⟨b, o, rfl, -⟩ := HS.out.cells m 0 _ _ hrw rfl
      have hrow : ∀ (j : Nat) (v : Value), [.string x, .int .i64 v1][j]? = some v → wr.cell? ⟨b, o + m * 2 + j, none⟩ = some v := fun j v hj => by
        obtain ⟨b', o', e, hw⟩ := HS.out.cells m j _ _ hrw hj
        cases e
        exact HE.out.cell hw
      have c0 : wr.cell? ⟨b, o + m * 2, none⟩ = some (.string x) := by have := hrow 0 _ rfl; simpa using this
      have c1 : wr.cell? ⟨b, o + m * 2 + 1, none⟩ = some (.int .i64 v1) := by have := hrow 1 _ rfl; simpa using this
      have HLN : Hid (((l.take m).map sLit).length = m) := Lib.hid (by rw [List.length_map, List.length_take]; omega)
      clear hrow hrw hx
      go_wp2_with (first
        | (go_at_call 43; refine (key7_any x (.int .i64 v1) _).mono ?_; rintro e w5 ⟨rfl, hE5⟩; have HE5 := Lib.hid (((Ext.refl wr).alloc _).trans hE5); have HM5 := Lib.hid (HM.out.ext HE5.out); obtain ⟨D, hD1, hD2⟩ := HM5.out; have HD := Lib.hid (And.intro hD1 hD2); clear hE5 hD1 hD2)
        | (at_lookup; refine wpList_lookup_own_int _ rfl _ _ 125 rfl 9 3 .i64 keyS Try.underlying125 Try.underlying3 (zeroInt _) B _ D rfl HD.out.1 _ _ rfl (keyOf_s HX.out) ?_; intro cn hat hwc; clear hat hwc)
        | (at_mapUpdate; refine wpList_mapUpdate_own _ rfl _ _ _ 125 rfl 9 3 keyS Try.underlying125 (plainElem Try.prog 3) B _ D rfl HD.out.1 (by have := HLN.out; have := H8.out; unfold maxLen; omega) _ _ _ rfl rfl (keyOf_s HX.out) _ [] (plainElem_int Try.underlying3 (wrap64_wf _)) ?_; intro w6 hown6 hgr6; have HM6 := Lib.hid (MetU.put keyS HD.out.1 HD.out.2 (keyS.key (keyOf_s HX.out)) hown6); have HE6 := Lib.hid (Below.grown (HE.out.trans HE5.out) hgr6 (HE.out.trans HE5.out).size (fun x hx => by cases hx; omega)); clear hown6 hgr6))
      go_roundw
      case rel =>
        refine ⟨m + 1, by go_num, by omega, ?_, HE6.out⟩
        rw [HSN.out]
        exact HM6.out
      case measure => simp [intOf] <;> omega
    · have hki : ¬ (m : Int) < (l.length : Int) := by omega
      obtain rfl : m = l.length := by omega
      rw [List.take_length] at HM
      obtain ⟨D, hD1, -, hD2, -⟩ := HM.out
      have HD := Lib.hid hD1
      have hsz : (Maps.size D = l.length) ↔ l.Nodup := by
        have := hD2
        rw [List.length_map] at this
        exact this.trans HND.out
      have HSZ := Lib.hid hsz
      clear hD1 hD2 hsz
      go_wp2_with (at_len; refine wpList_len_own _ rfl _ 125 rfl 9 3 Try.underlying125 _ B _ D rfl HD.out ?_)
      by_cases hn : l.Nodup
      · refine (demand_t _ _ _ (by have := HSZ.out.2 hn; simp [this])).mono ?_
        rintro e w7 ⟨rfl, rfl⟩
        go_wp2_with fail
        go_end0
        exact ⟨.inl ⟨hn, rfl⟩, HE.out⟩
      · refine (demand_f _ _ _ (by have h1 : ¬ Maps.size D = l.length := fun h => hn (HSZ.out.1 h); simp; omega)).mono ?_
        rintro e w7 ⟨rfl, rfl⟩
        exact ⟨rfl, .inr ⟨hn, rfl⟩, HE.out⟩
end Go.Proofs.Ytimigpfoflilcaa
