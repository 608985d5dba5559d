/- Names: rules, courses and catalogues, in plain Lean and in memory. -/
import Derived.Test.YtimigpfoflilcaaNA
import Derived.Test.YtimigpfoflilcaaChecked
import Derived.Handy
import Derived.Laws.StructEq
namespace Go.Sz
open Go.RowKit
/-- a rule -/
inductive Rt where
  | mk (op co : Int) (nm : ByteArray) (n d : Int) (kids : List Rt)
def Rt.op : Rt → Int | .mk a _ _ _ _ _ => a
def Rt.co : Rt → Int | .mk _ a _ _ _ _ => a
def Rt.nm : Rt → ByteArray | .mk _ _ a _ _ _ => a
def Rt.n : Rt → Int | .mk _ _ _ a _ _ => a
def Rt.d : Rt → Int | .mk _ _ _ _ a _ => a
def Rt.kids : Rt → List Rt | .mk _ _ _ _ _ a => a
/-- the cells of a rule whose kids lie at ao -/
def Rt.cells (r : Rt) (ao : Option Addr) (cap : Nat) : List Value := [.int .i64 r.op, .int .i64 r.co, .string r.nm, .int .i64 r.n, .int .i64 r.d, .slice ao r.kids.length cap]
def Rt.ok (r : Rt) : Prop := inI64 r.op ∧ inI64 r.co ∧ inI64 r.n ∧ inI64 r.d
/-- a rule in memory: its cells, and its kids in memory where its last cell says -/
inductive RepU (w : World) : Rt → List Value → Prop
  | mk (r : Rt) (ao : Option Addr) (cap : Nat) (rows : List (List Value)) (hs : SL w 6 ao cap rows) (hl : rows.length = r.kids.length)
      (hk : ∀ (i : Nat) (k : Rt) (c : List Value), r.kids[i]? = some k → rows[i]? = some c → RepU w k c) (ho : r.ok) : RepU w r (r.cells ao cap)
theorem RepU.ext {w W : World} {r : Rt} {c : List Value} (h : RepU w r c) (hE : Ext w W) : RepU W r c := by
  induction h with
  | mk r ao cap rows hs hl _ ho ih => exact .mk r ao cap rows (hs.ext hE) hl ih ho
theorem RepU.len {w : World} {r : Rt} {c : List Value} (h : RepU w r c) : c.length = 6 := by
  cases h
  rfl
/-- a row of rules in memory -/
def RepR (w : World) (ao : Option Addr) (cap : Nat) (l : List Rt) : Prop :=
  ∃ rows, SL w 6 ao cap rows ∧ rows.length = l.length ∧ ∀ (i : Nat) (k : Rt) (c : List Value), l[i]? = some k → rows[i]? = some c → RepU w k c
theorem RepR.ext {w W : World} {ao : Option Addr} {cap : Nat} {l : List Rt} (h : RepR w ao cap l) (hE : Ext w W) : RepR W ao cap l := by
  obtain ⟨rows, h1, h2, h3⟩ := h
  exact ⟨rows, h1.ext hE, h2, fun i k c hk hc => (h3 i k c hk hc).ext hE⟩
theorem RepU.out {w : World} {r : Rt} {c : List Value} (h : RepU w r c) : ∃ ao cap, c = r.cells ao cap ∧ RepR w ao cap r.kids ∧ r.ok := by
  cases h with
  | mk _ ao cap rows hs hl hk ho => exact ⟨ao, cap, rfl, ⟨rows, hs, hl, hk⟩, ho⟩
theorem RepU.of {w : World} {r : Rt} {ao : Option Addr} {cap : Nat} (h : RepR w ao cap r.kids) (ho : r.ok) : RepU w r (r.cells ao cap) := by
  obtain ⟨rows, h1, h2, h3⟩ := h
  exact .mk r ao cap rows h1 h2 h3 ho
/-- the row of index i -/
theorem RepR.at {w : World} {ao : Option Addr} {cap : Nat} {l : List Rt} (h : RepR w ao cap l) {i : Nat} {k : Rt} (hk : l[i]? = some k) :
    ∃ c b o, ao = some ⟨b, o, none⟩ ∧ RepU w k c ∧ ∀ (j : Nat) (v : Value), c[j]? = some v → w.cell? ⟨b, o + i * 6 + j, none⟩ = some v := by
  obtain ⟨rows, h1, h2, h3⟩ := h
  have hi : i < rows.length := by
    rw [h2]
    exact (List.getElem?_eq_some_iff.1 hk).1
  have hc : rows[i]? = some rows[i] := List.getElem?_eq_getElem hi
  have hu := h3 i k _ hk hc
  have h6 := hu.len
  obtain ⟨v, hv⟩ : ∃ v, rows[i][0]? = some v := ⟨rows[i][0], List.getElem?_eq_getElem (by omega)⟩
  obtain ⟨b, o, e, -⟩ := h1.cells i 0 _ _ hc hv
  refine ⟨rows[i], b, o, e, hu, fun j u hj => ?_⟩
  obtain ⟨b', o', e', hw⟩ := h1.cells i j _ _ hc hj
  rw [e] at e'
  cases e'
  exact hw
mutual
/-- the parts of a rule, as names.parts yields them -/
def Rt.parts : Rt → List Rt
  | .mk op co nm n d kids => .mk op co nm n d kids :: partsL kids
def partsL : List Rt → List Rt
  | [] => []
  | k :: ks => k.parts ++ partsL ks
end
theorem Rt.parts_eq (r : Rt) : r.parts = r :: partsL r.kids := by
  cases r
  rw [Rt.parts]
  rfl
theorem partsL_eq (l : List Rt) : partsL l = (l.map Rt.parts).flatten := by
  induction l with
  | nil => rw [partsL]; rfl
  | cons k ks ih => rw [partsL, ih]; rfl
/-- a course -/
structure Cr where
  nm : ByteArray
  nu : Int
  cr : Int
  rp : Int
  need : Rt
  bar : Rt
def Cr.ok (c : Cr) : Prop := inI64 c.nu ∧ inI64 c.cr ∧ inI64 c.rp
def Cr.head (c : Cr) : List Value := [.string c.nm, .int .i64 c.nu, .int .i64 c.cr, .int .i64 c.rp]
/-- the courses of a catalogue in memory -/
def RepC (w : World) (ao : Option Addr) (cap : Nat) (l : List Cr) : Prop :=
  ∃ rows, SL w 16 ao cap rows ∧ rows.length = l.length ∧
    ∀ (i : Nat) (k : Cr) (c : List Value), l[i]? = some k → rows[i]? = some c → ∃ u v, c = k.head ++ u ++ v ∧ RepU w k.need u ∧ RepU w k.bar v ∧ k.ok
theorem RepC.ext {w W : World} {ao : Option Addr} {cap : Nat} {l : List Cr} (h : RepC w ao cap l) (hE : Ext w W) : RepC W ao cap l := by
  obtain ⟨rows, h1, h2, h3⟩ := h
  refine ⟨rows, h1.ext hE, h2, fun i k c hk hc => ?_⟩
  obtain ⟨u, v, e, hu, hv, ho⟩ := h3 i k c hk hc
  exact ⟨u, v, e, hu.ext hE, hv.ext hE, ho⟩
/-- the index of the course that a reference means -/
def meantN (l : List Cr) (nm : ByteArray) (nu : Int) : Option Nat := l.findIdx? fun x => if nm.toList.isEmpty then x.nu == nu else x.nm.toList == nm.toList
/-- the indices of the courses that a course needs, as they are mentioned -/
def needsN (l : List Cr) (c : Cr) : List Nat := c.need.parts.filterMap fun p => if p.op = 5 ∨ p.op = 6 then meantN l p.nm p.co else none
/-- the course i is ready, where `is` says which are listed -/
def readyN (l : List Cr) (is : List Bool) (i : Nat) : Bool := !(is.getD i true) && ((l[i]?.map fun c => (needsN l c).all fun n => is.getD n false).getD false)
def firstN (l : List Cr) (is : List Bool) : Option Nat := (List.range l.length).find? (readyN l is)
/-- the loop that starts afresh behind each course that it lists -/
def listN (l : List Cr) : Nat → List Nat → List Bool → List Nat × List Bool
  | 0, o, is => (o, is)
  | f + 1, o, is => match firstN l is with
    | none => (o, is)
    | some i => listN l f (o ++ [i]) (is.set i true)
def listedN (l : List Cr) : List Nat × List Bool := listN l (l.length + 1) [] (List.replicate l.length false)
end Go.Sz
namespace Go.Sz
open Go.RowKit
def findC (l : List Cr) (P : Cr → Bool) : Int := match l.findIdx? P with
  | some i => (i : Int)
  | none => -1
theorem findC_some {l : List Cr} {P : Cr → Bool} {k : Nat} (hk : k < l.length) (hb : ∀ j (h : j < k), P (l[j]'(by omega)) = false) (h : P l[k] = true) : findC l P = (k : Int) := by
  unfold findC
  rw [List.findIdx?_eq_some_iff_getElem.2 ⟨hk, h, fun j hj => by rw [hb j hj]; simp⟩]
theorem findC_none {l : List Cr} {P : Cr → Bool} (hb : ∀ j (h : j < l.length), P l[j] = false) : findC l P = -1 := by
  unfold findC
  rw [List.findIdx?_eq_none_iff.2 (fun x hx => by
    obtain ⟨j, hj, rfl⟩ := List.mem_iff_getElem.1 hx
    exact hb j hj)]
/-- the cells of a course -/
def Cr.cells (c : Cr) (a : Option Addr) (n : Nat) (b : Option Addr) (m : Nat) : List Value :=
  [.string c.nm, .int .i64 c.nu, .int .i64 c.cr, .int .i64 c.rp, .int .i64 c.need.op, .int .i64 c.need.co, .string c.need.nm, .int .i64 c.need.n, .int .i64 c.need.d, .slice a c.need.kids.length n,
   .int .i64 c.bar.op, .int .i64 c.bar.co, .string c.bar.nm, .int .i64 c.bar.n, .int .i64 c.bar.d, .slice b c.bar.kids.length m]
/-- the cells of the course of index i, the kids of its rules, and its numbers -/
theorem RepC.at {w : World} {ao : Option Addr} {cap : Nat} {l : List Cr} (h : RepC w ao cap l) {i : Nat} {k : Cr} (hk : l[i]? = some k) :
    ∃ B o a n b m, ao = some ⟨B, o, none⟩ ∧ RepR w a n k.need.kids ∧ RepR w b m k.bar.kids ∧ k.need.ok ∧ k.bar.ok ∧ k.ok ∧
      ∀ (j : Nat) (v : Value), (k.cells a n b m)[j]? = some v → w.cell? ⟨B, o + i * 16 + j, none⟩ = some v := by
  obtain ⟨rows, h1, h2, h3⟩ := h
  have hi : i < rows.length := by
    rw [h2]
    exact (List.getElem?_eq_some_iff.1 hk).1
  have hc : rows[i]? = some rows[i] := List.getElem?_eq_getElem hi
  obtain ⟨u, v, e, hu, hv, ho⟩ := h3 i k _ hk hc
  obtain ⟨a, n, rfl, ha, oa⟩ := hu.out
  obtain ⟨b, m, rfl, hb, ob⟩ := hv.out
  have e' : rows[i] = k.cells a n b m := e
  rw [e'] at hc
  obtain ⟨B, o, eB, -⟩ := h1.cells i 0 _ _ hc rfl
  refine ⟨B, o, a, n, b, m, eB, ha, hb, oa, ob, ho, fun j x hj => ?_⟩
  obtain ⟨b', o', e2, hw⟩ := h1.cells i j _ _ hc hj
  rw [eB] at e2
  cases e2
  exact hw
theorem RepC.max {w : World} {ao : Option Addr} {cap : Nat} {l : List Cr} (h : RepC w ao cap l) : l.length ≤ 9223372036854775807 := by
  obtain ⟨rows, h1, h2, -⟩ := h
  have := h1.le
  have := h1.max
  omega
def isF (nm : ByteArray) (x : Cr) : Bool := x.nm.toList == nm.toList
def isM (nm : ByteArray) (nu : Int) (x : Cr) : Bool := if nm.toList.isEmpty then x.nu == nu else x.nm.toList == nm.toList
theorem isM_none {nm : ByteArray} (h : nm.toList.isEmpty = true) (nu : Int) (x : Cr) : isM nm nu x = (x.nu == nu) := by simp [isM, h]
theorem isM_some {nm : ByteArray} (h : nm.toList.isEmpty = false) (nu : Int) (x : Cr) : isM nm nu x = (x.nm.toList == nm.toList) := by simp [isM, h]
theorem findC_meant (l : List Cr) (nm : ByteArray) (nu : Int) : findC l (isM nm nu) = match meantN l nm nu with
    | some i => (i : Int)
    | none => -1 := rfl
end Go.Sz
namespace Go.Proofs.Ytimigpfoflilcaa
open Go.RowKit Go.Sz
set_option maxRecDepth 100000 in
set_option maxHeartbeats 3200000 in
theorem find1_any (x : Cr) (a : Option Addr) (n : Nat) (b : Option Addr) (m : Nat) (nm : ByteArray) (b5 : Nat) (w : World) (h0 : w.cell? ⟨b5, 0, none⟩ = some (.string nm)) : Calls Try.prog 67 #[.agg (x.cells a n b m).toArray, .pointer (some ⟨b5, 0, none⟩)] w fun e w' => e = .returned (.bool (isF nm x)) ∧ Ext w w' := by
  have HI : Hid (isF nm x = (x.nm.toList == nm.toList)) := Lib.hid rfl
  have e0 := ((Ext.refl w).alloc (.cells (x.cells a n b m).toArray 41)).cell h0
  unfold Cr.cells at e0 ⊢
  go_enter Try.func67, Try.ntmps67
  go_wp2_with fail
  go_ret
  exact ⟨by rw [HI.out]; rfl, (Ext.refl _).alloc _⟩
set_option maxRecDepth 100000 in
set_option maxHeartbeats 3200000 in
theorem meant1_any (x : Cr) (a : Option Addr) (n : Nat) (b : Option Addr) (m : Nat) (nm : ByteArray) (nu : Int) (b5 b6 : Nat) (w : World) (h0 : w.cell? ⟨b5, 0, none⟩ = some (.string nm)) (h1 : w.cell? ⟨b6, 0, none⟩ = some (.int .i64 nu)) : Calls Try.prog 86 #[.agg (x.cells a n b m).toArray, .pointer (some ⟨b5, 0, none⟩), .pointer (some ⟨b6, 0, none⟩)] w fun e w' => e = .returned (.bool (isM nm nu x)) ∧ Ext w w' := by
  have e0 := ((Ext.refl w).alloc (.cells (x.cells a n b m).toArray 41)).cell h0
  have e1 := ((Ext.refl w).alloc (.cells (x.cells a n b m).toArray 41)).cell h1
  unfold Cr.cells at e0 e1 ⊢
  cases hn : nm.toList.isEmpty with
  | true =>
    have HI : Hid (isM nm nu x = (x.nu == nu)) := Lib.hid (isM_none hn nu x)
    go_enter Try.func86, Try.ntmps86
    go_wp2_with fail
    go_ret
    exact ⟨by rw [HI.out]; rfl, (Ext.refl _).alloc _⟩
  | false =>
    have HI : Hid (isM nm nu x = (x.nm.toList == nm.toList)) := Lib.hid (isM_some hn nu x)
    go_enter Try.func86, Try.ntmps86
    go_wp2_with fail
    go_ret
    exact ⟨by rw [HI.out]; rfl, (Ext.refl _).alloc _⟩
set_option maxRecDepth 100000 in
set_option maxHeartbeats 3200000 in
theorem indexF_any (l : List Cr) (nm : ByteArray) (b5 : Nat) (ao : Option Addr) (cap : Nat) (w : World) (h : RepC w ao cap l) (h0 : w.cell? ⟨b5, 0, none⟩ = some (.string nm)) : Calls Try.prog 66 #[.slice ao l.length cap, .func (Fn.func 67) #[] #[.pointer (some ⟨b5, 0, none⟩)]] w fun e w' => e = .returned (.int .i64 (findC l (isF nm))) ∧ Ext w w' := by
  have HL := Lib.hid h
  have hs1 := h.max
  have HT1 : Hid (∀ (x : Cr) (a : Option Addr) (n : Nat) (b : Option Addr) (m : Nat) (W : World), Ext w W → Calls Try.prog 67 #[.agg (x.cells a n b m).toArray, .pointer (some ⟨b5, 0, none⟩)] W fun e w' => e = .returned (.bool ((isF nm) x)) ∧ Ext W w') := Lib.hid fun x a n b m W hE => find1_any x a n b m nm b5 W (hE.cell h0)
  clear h h0
  go_enter Try.func66, Try.ntmps66
  go_wp2_with fail
  go_loopw [8] (fun iv wr => ∃ k : Nat, iv = .int .i64 k ∧ k ≤ l.length ∧ (∀ j (h : j < l.length), j < k → (isF nm) l[j] = false) ∧ Ext w wr) (fun iv _ => l.length - (intOf iv).toNat)
  case atStart => exact ⟨0, rfl, by omega, fun j _ h => by omega, Ext.refl _⟩
  case round =>
    obtain ⟨k, rfl, hk, ht, hB⟩ := hrel
    have HT := Lib.hid ht
    have HB := Lib.hid hB
    clear ht hB
    by_cases hlt : k < l.length
    · have hki : (k : Int) < (l.length : Int) := by omega
      obtain ⟨bb, o, a, n, b, m, rfl, -, -, -, -, -, hc⟩ := (HL.out.ext HB.out).at (List.getElem?_eq_getElem hlt)
      have HN : Hid ((isF nm) l[k] = false → ∀ j (h : j < l.length), j < k + 1 → (isF nm) l[j] = false) := Lib.hid fun hi j hj hjk => by
        by_cases hjk' : j = k
        · subst hjk'; exact hi
        · exact HT.out j hj (by omega)
      have HFD : Hid ((isF nm) l[k] = true → findC l (isF nm) = (k : Int)) := Lib.hid fun hi => findC_some hlt (fun j hj => HT.out j (by omega) hj) hi
      generalize l[k] = x at *
      have c0 : wr.cell? ⟨bb, o + k * 16, none⟩ = some (.string x.nm) := hc 0 _ rfl
      have c1 : wr.cell? ⟨bb, o + k * 16 + 1, none⟩ = some (.int .i64 x.nu) := hc 1 _ rfl
      have c2 : wr.cell? ⟨bb, o + k * 16 + 2, none⟩ = some (.int .i64 x.cr) := hc 2 _ rfl
      have c3 : wr.cell? ⟨bb, o + k * 16 + 3, none⟩ = some (.int .i64 x.rp) := hc 3 _ rfl
      have c4 : wr.cell? ⟨bb, o + k * 16 + 4, none⟩ = some (.int .i64 x.need.op) := hc 4 _ rfl
      have c5 : wr.cell? ⟨bb, o + k * 16 + 5, none⟩ = some (.int .i64 x.need.co) := hc 5 _ rfl
      have c6 : wr.cell? ⟨bb, o + k * 16 + 6, none⟩ = some (.string x.need.nm) := hc 6 _ rfl
      have c7 : wr.cell? ⟨bb, o + k * 16 + 7, none⟩ = some (.int .i64 x.need.n) := hc 7 _ rfl
      have c8 : wr.cell? ⟨bb, o + k * 16 + 8, none⟩ = some (.int .i64 x.need.d) := hc 8 _ rfl
      have c9 : wr.cell? ⟨bb, o + k * 16 + 9, none⟩ = some (.slice a x.need.kids.length n) := hc 9 _ rfl
      have c10 : wr.cell? ⟨bb, o + k * 16 + 10, none⟩ = some (.int .i64 x.bar.op) := hc 10 _ rfl
      have c11 : wr.cell? ⟨bb, o + k * 16 + 11, none⟩ = some (.int .i64 x.bar.co) := hc 11 _ rfl
      have c12 : wr.cell? ⟨bb, o + k * 16 + 12, none⟩ = some (.string x.bar.nm) := hc 12 _ rfl
      have c13 : wr.cell? ⟨bb, o + k * 16 + 13, none⟩ = some (.int .i64 x.bar.n) := hc 13 _ rfl
      have c14 : wr.cell? ⟨bb, o + k * 16 + 14, none⟩ = some (.int .i64 x.bar.d) := hc 14 _ rfl
      have c15 : wr.cell? ⟨bb, o + k * 16 + 15, none⟩ = some (.slice b x.bar.kids.length m) := hc 15 _ rfl
      clear hc
      cases hx : (isF nm) x with
      | true =>
        have HFX := Lib.hid (HFD.out hx)
        have HC := Lib.hid (hx ▸ HT1.out x a n b m wr HB.out)
        clear hx
        unfold Cr.cells at HC
        go_wp2_with (go_at_call 67; refine HC.out.mono ?_; rintro e w' ⟨rfl, hE⟩)
        go_ret
        exact ⟨by rw [HFX.out]; rfl, HB.out.trans hE⟩
      | false =>
        have HNX := Lib.hid (HN.out hx)
        have HC := Lib.hid (hx ▸ HT1.out x a n b m wr HB.out)
        clear hx
        unfold Cr.cells at HC
        go_wp2_with (go_at_call 67; refine HC.out.mono ?_; rintro e w' ⟨rfl, hE⟩)
        go_roundw
        case rel => exact ⟨k + 1, by go_num, by omega, HNX.out, HB.out.trans hE⟩
        case measure => simp [intOf] <;> omega
    · have hki : ¬ (k : Int) < (l.length : Int) := by omega
      have HR : Hid (findC l (isF nm) = -1) := Lib.hid (findC_none fun j hj => HT.out j hj (by omega))
      go_wp2_with fail
      go_ret
      exact ⟨by rw [HR.out]; rfl, HB.out⟩
set_option maxRecDepth 100000 in
set_option maxHeartbeats 3200000 in
theorem indexM_any (l : List Cr) (nm : ByteArray) (nu : Int) (b5 b6 : Nat) (ao : Option Addr) (cap : Nat) (w : World) (h : RepC w ao cap l) (h0 : w.cell? ⟨b5, 0, none⟩ = some (.string nm)) (h1 : w.cell? ⟨b6, 0, none⟩ = some (.int .i64 nu)) : Calls Try.prog 66 #[.slice ao l.length cap, .func (Fn.func 86) #[] #[.pointer (some ⟨b5, 0, none⟩), .pointer (some ⟨b6, 0, none⟩)]] w fun e w' => e = .returned (.int .i64 (findC l (isM nm nu))) ∧ Ext w w' := by
  have HL := Lib.hid h
  have hs1 := h.max
  have HT1 : Hid (∀ (x : Cr) (a : Option Addr) (n : Nat) (b : Option Addr) (m : Nat) (W : World), Ext w W → Calls Try.prog 86 #[.agg (x.cells a n b m).toArray, .pointer (some ⟨b5, 0, none⟩), .pointer (some ⟨b6, 0, none⟩)] W fun e w' => e = .returned (.bool ((isM nm nu) x)) ∧ Ext W w') := Lib.hid fun x a n b m W hE => meant1_any x a n b m nm nu b5 b6 W (hE.cell h0) (hE.cell h1)
  clear h h0 h1
  go_enter Try.func66, Try.ntmps66
  go_wp2_with fail
  go_loopw [8] (fun iv wr => ∃ k : Nat, iv = .int .i64 k ∧ k ≤ l.length ∧ (∀ j (h : j < l.length), j < k → (isM nm nu) l[j] = false) ∧ Ext w wr) (fun iv _ => l.length - (intOf iv).toNat)
  case atStart => exact ⟨0, rfl, by omega, fun j _ h => by omega, Ext.refl _⟩
  case round =>
    obtain ⟨k, rfl, hk, ht, hB⟩ := hrel
    have HT := Lib.hid ht
    have HB := Lib.hid hB
    clear ht hB
    by_cases hlt : k < l.length
    · have hki : (k : Int) < (l.length : Int) := by omega
      obtain ⟨bb, o, a, n, b, m, rfl, -, -, -, -, -, hc⟩ := (HL.out.ext HB.out).at (List.getElem?_eq_getElem hlt)
      have HN : Hid ((isM nm nu) l[k] = false → ∀ j (h : j < l.length), j < k + 1 → (isM nm nu) l[j] = false) := Lib.hid fun hi j hj hjk => by
        by_cases hjk' : j = k
        · subst hjk'; exact hi
        · exact HT.out j hj (by omega)
      have HFD : Hid ((isM nm nu) l[k] = true → findC l (isM nm nu) = (k : Int)) := Lib.hid fun hi => findC_some hlt (fun j hj => HT.out j (by omega) hj) hi
      generalize l[k] = x at *
      have c0 : wr.cell? ⟨bb, o + k * 16, none⟩ = some (.string x.nm) := hc 0 _ rfl
      have c1 : wr.cell? ⟨bb, o + k * 16 + 1, none⟩ = some (.int .i64 x.nu) := hc 1 _ rfl
      have c2 : wr.cell? ⟨bb, o + k * 16 + 2, none⟩ = some (.int .i64 x.cr) := hc 2 _ rfl
      have c3 : wr.cell? ⟨bb, o + k * 16 + 3, none⟩ = some (.int .i64 x.rp) := hc 3 _ rfl
      have c4 : wr.cell? ⟨bb, o + k * 16 + 4, none⟩ = some (.int .i64 x.need.op) := hc 4 _ rfl
      have c5 : wr.cell? ⟨bb, o + k * 16 + 5, none⟩ = some (.int .i64 x.need.co) := hc 5 _ rfl
      have c6 : wr.cell? ⟨bb, o + k * 16 + 6, none⟩ = some (.string x.need.nm) := hc 6 _ rfl
      have c7 : wr.cell? ⟨bb, o + k * 16 + 7, none⟩ = some (.int .i64 x.need.n) := hc 7 _ rfl
      have c8 : wr.cell? ⟨bb, o + k * 16 + 8, none⟩ = some (.int .i64 x.need.d) := hc 8 _ rfl
      have c9 : wr.cell? ⟨bb, o + k * 16 + 9, none⟩ = some (.slice a x.need.kids.length n) := hc 9 _ rfl
      have c10 : wr.cell? ⟨bb, o + k * 16 + 10, none⟩ = some (.int .i64 x.bar.op) := hc 10 _ rfl
      have c11 : wr.cell? ⟨bb, o + k * 16 + 11, none⟩ = some (.int .i64 x.bar.co) := hc 11 _ rfl
      have c12 : wr.cell? ⟨bb, o + k * 16 + 12, none⟩ = some (.string x.bar.nm) := hc 12 _ rfl
      have c13 : wr.cell? ⟨bb, o + k * 16 + 13, none⟩ = some (.int .i64 x.bar.n) := hc 13 _ rfl
      have c14 : wr.cell? ⟨bb, o + k * 16 + 14, none⟩ = some (.int .i64 x.bar.d) := hc 14 _ rfl
      have c15 : wr.cell? ⟨bb, o + k * 16 + 15, none⟩ = some (.slice b x.bar.kids.length m) := hc 15 _ rfl
      clear hc
      cases hx : (isM nm nu) x with
      | true =>
        have HFX := Lib.hid (HFD.out hx)
        have HC := Lib.hid (hx ▸ HT1.out x a n b m wr HB.out)
        clear hx
        unfold Cr.cells at HC
        go_wp2_with (go_at_call 86; refine HC.out.mono ?_; rintro e w' ⟨rfl, hE⟩)
        go_ret
        exact ⟨by rw [HFX.out]; rfl, HB.out.trans hE⟩
      | false =>
        have HNX := Lib.hid (HN.out hx)
        have HC := Lib.hid (hx ▸ HT1.out x a n b m wr HB.out)
        clear hx
        unfold Cr.cells at HC
        go_wp2_with (go_at_call 86; refine HC.out.mono ?_; rintro e w' ⟨rfl, hE⟩)
        go_roundw
        case rel => exact ⟨k + 1, by go_num, by omega, HNX.out, HB.out.trans hE⟩
        case measure => simp [intOf] <;> omega
    · have hki : ¬ (k : Int) < (l.length : Int) := by omega
      have HR : Hid (findC l (isM nm nu) = -1) := Lib.hid (findC_none fun j hj => HT.out j hj (by omega))
      go_wp2_with fail
      go_ret
      exact ⟨by rw [HR.out]; rfl, HB.out⟩
end Go.Proofs.Ytimigpfoflilcaa
namespace Go.Sz
open Go.RowKit
/-- what Find answers -/
def findR (l : List Cr) (nm : ByteArray) : Int × Bool := match l.find? (isF nm) with
  | some c => (c.nu, true)
  | none => (0, false)
theorem findC_lt {l : List Cr} {P : Cr → Bool} (h : 0 ≤ findC l P) : ∃ k : Nat, ∃ hk : k < l.length, findC l P = (k : Int) ∧ l.find? P = some l[k] := by
  unfold findC at h ⊢
  cases e : l.findIdx? P with
  | none => rw [e] at h; simp at h
  | some k =>
    obtain ⟨hk, hp, hb⟩ := List.findIdx?_eq_some_iff_getElem.1 e
    refine ⟨k, hk, rfl, ?_⟩
    rw [List.find?_eq_some_iff_getElem]
    exact ⟨hp, k, hk, rfl, fun j hj => by simpa using hb j hj⟩
theorem findC_no {l : List Cr} {P : Cr → Bool} (h : ¬ 0 ≤ findC l P) : l.find? P = none := by
  unfold findC at h
  cases e : l.findIdx? P with
  | some k => rw [e] at h; exact absurd (Int.natCast_nonneg k) h
  | none => rw [List.find?_eq_none]; intro x hx; simpa using List.findIdx?_eq_none_iff.1 e x hx
end Go.Sz
namespace Go.Proofs.Ytimigpfoflilcaa
open Go.RowKit Go.Sz
set_option maxRecDepth 100000 in
set_option maxHeartbeats 3200000 in
theorem meant_any (l : List Cr) (nm : ByteArray) (nu : Int) (ao : Option Addr) (cap : Nat) (v1 v2 v3 v4 v5 v6 : Value) (w : World) (h : RepC w ao cap l) : Calls Try.prog 80 #[.agg #[.slice ao l.length cap, v1, v2, v3, v4, v5, v6], .string nm, .int .i64 nu] w fun e w' => e = .returned (.int .i64 (findC l (isM nm nu))) ∧ Ext w w' := by
  have hX : Ext w (((w.alloc (.cells #[.slice ao l.length cap, v1, v2, v3, v4, v5, v6] 29)).alloc (.cells #[.string nm] 9)).alloc (.cells #[.int .i64 nu] 3)) := (((Ext.refl w).alloc _).alloc _).alloc _
  have h0 : (((w.alloc (.cells #[.slice ao l.length cap, v1, v2, v3, v4, v5, v6] 29)).alloc (.cells #[.string nm] 9)).alloc (.cells #[.int .i64 nu] 3)).cell? ⟨w.heap.size + 1, 0, none⟩ = some (.string nm) := ((Ext.refl _).alloc _).cell (cell_new _ _ _ _ (by simp))
  have h1 : (((w.alloc (.cells #[.slice ao l.length cap, v1, v2, v3, v4, v5, v6] 29)).alloc (.cells #[.string nm] 9)).alloc (.cells #[.int .i64 nu] 3)).cell? ⟨w.heap.size + 2, 0, none⟩ = some (.int .i64 nu) := cell_new _ _ _ _ (by simp)
  have HC := Lib.hid (indexM_any l nm nu (w.heap.size + 1) (w.heap.size + 2) ao cap _ (h.ext hX) h0 h1)
  have HX := Lib.hid hX
  clear hX h0 h1 h
  go_enter Try.func80, Try.ntmps80
  go_wp2_with fail
  generalize (((w.alloc (.cells #[.slice ao l.length cap, v1, v2, v3, v4, v5, v6] 29)).alloc (.cells #[.string nm] 9)).alloc (.cells #[.int .i64 nu] 3)) = w1 at *
  refine HC.out.mono ?_
  rintro e w2 ⟨rfl, hE⟩
  go_wp2_with fail
  go_ret
  exact ⟨rfl, HX.out.trans hE⟩
set_option maxRecDepth 100000 in
set_option maxHeartbeats 3200000 in
theorem find_any (l : List Cr) (nm : ByteArray) (ao : Option Addr) (cap : Nat) (v1 v2 v3 v4 v5 v6 : Value) (w : World) (h : RepC w ao cap l) : Calls Try.prog 15 #[.agg #[.slice ao l.length cap, v1, v2, v3, v4, v5, v6], .string nm] w fun e w' => e = .returned (.tuple #[.int .i64 (findR l nm).1, .bool (findR l nm).2]) ∧ Ext w w' := by
  have hX : Ext w ((w.alloc (.cells #[.slice ao l.length cap, v1, v2, v3, v4, v5, v6] 29)).alloc (.cells #[.string nm] 9)) := ((Ext.refl w).alloc _).alloc _
  have h0 : ((w.alloc (.cells #[.slice ao l.length cap, v1, v2, v3, v4, v5, v6] 29)).alloc (.cells #[.string nm] 9)).cell? ⟨w.heap.size + 1, 0, none⟩ = some (.string nm) := cell_new _ _ _ _ (by simp)
  have g0 : ((w.alloc (.cells #[.slice ao l.length cap, v1, v2, v3, v4, v5, v6] 29)).alloc (.cells #[.string nm] 9)).cell? ⟨w.heap.size, 0, none⟩ = some (.slice ao l.length cap) := by simp
  have HC := Lib.hid (indexF_any l nm (w.heap.size + 1) ao cap _ (h.ext hX) h0)
  have HG := Lib.hid g0
  have HX := Lib.hid hX
  have HL := Lib.hid h
  have hs1 := h.max
  clear hX h0 h g0
  go_enter Try.func15, Try.ntmps15
  go_wp2_with fail
  generalize ((w.alloc (.cells #[.slice ao l.length cap, v1, v2, v3, v4, v5, v6] 29)).alloc (.cells #[.string nm] 9)) = w1 at *
  refine HC.out.mono ?_
  rintro e w2 ⟨rfl, hE⟩
  have HE := Lib.hid hE
  have g0 := hE.cell HG.out
  clear hE
  by_cases hp : 0 ≤ findC l (isF nm)
  · obtain ⟨k, hk, e, hf⟩ := findC_lt hp
    have HF : Hid (findR l nm = (l[k].nu, true)) := Lib.hid (by unfold findR; rw [hf])
    obtain ⟨bb, o, a, n, b, m, rfl, -, -, -, -, -, hc⟩ := (HL.out.ext (HX.out.trans HE.out)).at (List.getElem?_eq_getElem hk)
    generalize l[k] = x at *
    have c1 : w2.cell? ⟨bb, o + k * 16 + 1, none⟩ = some (.int .i64 x.nu) := hc 1 _ rfl
    have hk0 : (k : Int) < (l.length : Int) := by omega
    clear hc hf hp
    rw [e]
    clear e
    go_wp2_with fail
    go_ret2
    exact ⟨by rw [HF.out]; rfl, HX.out.trans HE.out⟩
  · have HF : Hid (findR l nm = (0, false)) := Lib.hid (by unfold findR; rw [findC_no hp])
    generalize findC l (isF nm) = r at *
    have hr : r < 0 := by omega
    clear hp
    go_wp2_with fail
    go_ret2
    exact ⟨by rw [HF.out]; rfl, HX.out.trans HE.out⟩
end Go.Proofs.Ytimigpfoflilcaa
namespace Go.Sz
open Go.RowKit
/-- the number that a reference gets, or none if no course has its name -/
def numR (l : List Cr) (nm : ByteArray) (old : Int) : Option Int := if nm.toList.isEmpty then some old else (l.find? (isF nm)).map Cr.nu
theorem findC_congr {l : List Cr} {P Q : Cr → Bool} (h : ∀ x, P x = Q x) : findC l P = findC l Q := by rw [show P = Q from funext h]
end Go.Sz
namespace Go.Proofs.Ytimigpfoflilcaa
open Go.RowKit Go.Sz
/-- the panic of demand -/
abbrev panF (x : Int) : List PanicEntry := [{ v := .iface 124 (.agg #[.int .i64 x]), recovered := false }]
theorem demand_t (b : Bool) (x : Int) (w : World) (h : b = true) : Calls Try.prog 29 #[.bool b, .int .i64 x] w fun e w' => e = .returned (.tuple #[]) ∧ w = w' := by
  subst h
  go_enter Try.func29, Try.ntmps29
  go_wp2_with fail
  go_end0
  exact ⟨rfl, rfl⟩
theorem demand_f (b : Bool) (x : Int) (w : World) (h : b = false) : Calls Try.prog 29 #[.bool b, .int .i64 x] w fun e w' => e = .panicked (panF x) ∧ w = w' := by
  subst h
  go_enter Try.func29, Try.ntmps29
  go_wp2_with fail
  exact ⟨rfl, rfl, rfl⟩
def numPost (o : Option Int) (w : World) (e : Ending) (w' : World) : Prop := (match o with
  | some n => e = .returned (.int .i64 n)
  | none => e = .panicked (panF 110)) ∧ Ext w w'
set_option maxRecDepth 100000 in
set_option maxHeartbeats 3200000 in
theorem number_any (l : List Cr) (nm : ByteArray) (old : Int) (ao : Option Addr) (cap : Nat) (v1 v2 v3 v4 v5 v6 : Value) (w : World) (h : RepC w ao cap l) : Calls Try.prog 48 #[.agg #[.slice ao l.length cap, v1, v2, v3, v4, v5, v6], .string nm, .int .i64 old] w fun e w' => numPost (numR l nm old) w e w' := by
  have hX : Ext w (w.alloc (.cells #[.slice ao l.length cap, v1, v2, v3, v4, v5, v6] 29)) := (Ext.refl w).alloc _
  cases hn : nm.toList.isEmpty with
  | true =>
    have HF : Hid (numR l nm old = some old) := Lib.hid (by unfold numR; rw [if_pos hn])
    have HX := Lib.hid hX
    clear hX h
    go_enter Try.func48, Try.ntmps48
    go_wp2_with fail
    go_ret
    exact ⟨by rw [HF.out]; rfl, HX.out⟩
  | false =>
    have g0 : (w.alloc (.cells #[.slice ao l.length cap, v1, v2, v3, v4, v5, v6] 29)).cell? ⟨w.heap.size, 0, none⟩ = some (.slice ao l.length cap) := by simp
    have HC := Lib.hid (findC_congr (l := l) (isM_some hn 0) ▸ meant_any l nm 0 ao cap v1 v2 v3 v4 v5 v6 _ (h.ext hX))
    have HF : Hid (numR l nm old = (l.find? (isF nm)).map Cr.nu) := Lib.hid (by unfold numR; rw [if_neg (by rw [hn]; simp)])
    have HQ : Hid (findC l (fun x => x.nm.toList == nm.toList) = findC l (isF nm)) := Lib.hid rfl
    have HG := Lib.hid g0
    have HX := Lib.hid hX
    have HL := Lib.hid h
    have hs1 := h.max
    clear hX h g0
    go_enter Try.func48, Try.ntmps48
    go_wp2_with fail
    generalize (w.alloc (.cells #[.slice ao l.length cap, v1, v2, v3, v4, v5, v6] 29)) = w1 at *
    refine HC.out.mono ?_
    rintro e w2 ⟨rfl, hE⟩
    rw [HQ.out]
    have HE := Lib.hid hE
    have g0 := hE.cell HG.out
    clear hE
    by_cases hp : 0 ≤ findC l (isF nm)
    · obtain ⟨k, hk, e, hf⟩ := findC_lt hp
      have HR : Hid (numR l nm old = some l[k].nu) := Lib.hid (by rw [HF.out, hf]; rfl)
      obtain ⟨bb, o, a, n, b, m, rfl, -, -, -, -, -, hc⟩ := (HL.out.ext (HX.out.trans HE.out)).at (List.getElem?_eq_getElem hk)
      generalize l[k] = x at *
      have c1 : w2.cell? ⟨bb, o + k * 16 + 1, none⟩ = some (.int .i64 x.nu) := hc 1 _ rfl
      have hk0 : (k : Int) < (l.length : Int) := by omega
      clear hc hf hp
      rw [e]
      clear e
      go_wp2_with (go_at_call 29; refine (demand_t _ _ _ (by simp)).mono ?_; rintro e w' ⟨rfl, rfl⟩)
      go_ret
      exact ⟨by rw [HR.out]; rfl, HX.out.trans HE.out⟩
    · have HR : Hid (numR l nm old = none) := Lib.hid (by rw [HF.out, findC_no hp]; rfl)
      generalize findC l (isF nm) = r at *
      go_wp2_with fail
      refine (demand_f _ _ _ (by simp; omega)).mono ?_
      rintro e w' ⟨rfl, rfl⟩
      exact ⟨rfl, by rw [HR.out], HX.out.trans HE.out⟩
end Go.Proofs.Ytimigpfoflilcaa
namespace Go.Proofs.Ytimigpfoflilcaa
open Go.RowKit Go.Sz
theorem infoR : (Try.prog.info? 39).map (fun i => (i.zero, i.size, i.bytes)) = some (some (.agg #[.int .i64 0, .int .i64 0, .string ⟨#[]⟩, .int .i64 0, .int .i64 0, .slice none 0 0]), 6, 72) := by kernel_rfl
set_option maxRecDepth 100000 in
set_option maxHeartbeats 6400000 in
theorem cloneR_any (rows : List (List Value)) (ao : Option Addr) (cap : Nat) (w : World) (h : SL w 6 ao cap rows) (ho : ∀ r ∈ rows, ∀ u ∈ r, u.oneCell' = true) (hb : rows.length ≤ 100000) : Calls Try.prog 79 #[.slice ao rows.length cap] w fun e w' => ∃ v, e = .returned v ∧ w'.ownsRow w.heap.size 39 6 v rows.length rows.flatten ∧ Ext w w' := by
  have hs1 := h.max
  have hs2 := h.le
  obtain ⟨i0, hi, hz0, hz1, hz2⟩ := info_parts infoR
  have hnil := fun (w : World) (a : Option Addr) (n c : Nat) => Lib.run_eql_slice_nil (P := Try.prog) w 37 39 a n c 0 0 Try.underlying37
  cases ao with
  | none =>
    have hc := h.nil rfl
    subst hc
    have hr : rows = [] := List.length_eq_zero_iff.1 (by omega)
    subst hr
    clear h ho
    go_enter Try.func79, Try.ntmps79
    go_wp2_with fail
    go_ret
    exact ⟨_, rfl, World.ownsRow_nil _ _ _ _, Ext.refl _⟩
  | some a =>
    have hX : Ext w (w.alloc (.cells #[] 39)) := (Ext.refl w).alloc _
    have HSRC : Hid (Src Try.prog 6 37 (.slice (some a) rows.length cap) rows.length rows.flatten (w.alloc (.cells #[] 39))) := Lib.hid (SL.src (P := Try.prog) (h.ext hX) (by omega) (tx := 37) Try.underlying37 ho)
    have HOE := Lib.hid (own_empty w w.heap.size (Nat.le_refl _) 39 6)
    have HB := Lib.hid hb
    clear hb h ho hs2
    go_enter Try.func79, Try.ntmps79
    go_wp2_with (at_builtin; refine wpList_append_S rfl _ _ 37 37 rfl w.heap.size 39 i0 _ 6 72 Try.underlying37 hi hz0 hz1 hz2 rfl _ _ _ rfl HOE.out (.slice (some a) rows.length cap) rows.length rows.flatten rfl HSRC.out (by have := HB.out; unfold maxLen; omega) (by have := HB.out; omega) (by simp) ?_; intro v6 w6 ho6 hg6; have HO6 := Lib.hid ho6; have HG6 := Lib.hid hg6; clear ho6 hg6)
    go_ret
    refine ⟨_, rfl, ?_, Ext.trans' hX HG6.out (fun k hk => by have h1 : some w.heap.size = some k := hk; injection h1 with h1; omega)⟩
    have := HO6.out
    simpa using this
theorem infoP : (Try.prog.info? 51).map (fun i => (i.zero, i.size, i.bytes)) = some (some (.agg #[.string ⟨#[]⟩, .string ⟨#[]⟩, .int .i64 0, .int .i64 0]), 4, 48) := by kernel_rfl
set_option maxRecDepth 100000 in
set_option maxHeartbeats 6400000 in
theorem cloneP_any (rows : List (List Value)) (ao : Option Addr) (cap : Nat) (w : World) (h : SL w 4 ao cap rows) (ho : ∀ r ∈ rows, ∀ u ∈ r, u.oneCell' = true) (hb : rows.length ≤ 100000) : Calls Try.prog 45 #[.slice ao rows.length cap] w fun e w' => ∃ v, e = .returned v ∧ w'.ownsRow w.heap.size 51 4 v rows.length rows.flatten ∧ Ext w w' := by
  have hs1 := h.max
  have hs2 := h.le
  obtain ⟨i0, hi, hz0, hz1, hz2⟩ := info_parts infoP
  have hnil := fun (w : World) (a : Option Addr) (n c : Nat) => Lib.run_eql_slice_nil (P := Try.prog) w 23 51 a n c 0 0 Try.underlying23
  cases ao with
  | none =>
    have hc := h.nil rfl
    subst hc
    have hr : rows = [] := List.length_eq_zero_iff.1 (by omega)
    subst hr
    clear h ho
    go_enter Try.func45, Try.ntmps45
    go_wp2_with fail
    go_ret
    exact ⟨_, rfl, World.ownsRow_nil _ _ _ _, Ext.refl _⟩
  | some a =>
    have hX : Ext w (w.alloc (.cells #[] 51)) := (Ext.refl w).alloc _
    have HSRC : Hid (Src Try.prog 4 23 (.slice (some a) rows.length cap) rows.length rows.flatten (w.alloc (.cells #[] 51))) := Lib.hid (SL.src (P := Try.prog) (h.ext hX) (by omega) (tx := 23) Try.underlying23 ho)
    have HOE := Lib.hid (own_empty w w.heap.size (Nat.le_refl _) 51 4)
    have HB := Lib.hid hb
    clear hb h ho hs2
    go_enter Try.func45, Try.ntmps45
    go_wp2_with (at_builtin; refine wpList_append_S rfl _ _ 23 23 rfl w.heap.size 51 i0 _ 4 48 Try.underlying23 hi hz0 hz1 hz2 rfl _ _ _ rfl HOE.out (.slice (some a) rows.length cap) rows.length rows.flatten rfl HSRC.out (by have := HB.out; unfold maxLen; omega) (by have := HB.out; omega) (by simp) ?_; intro v6 w6 ho6 hg6; have HO6 := Lib.hid ho6; have HG6 := Lib.hid hg6; clear ho6 hg6)
    go_ret
    refine ⟨_, rfl, ?_, Ext.trans' hX HG6.out (fun k hk => by have h1 : some w.heap.size = some k := hk; injection h1 with h1; omega)⟩
    have := HO6.out
    simpa using this
theorem infoG : (Try.prog.info? 62).map (fun i => (i.zero, i.size, i.bytes)) = some (some (.agg #[.string ⟨#[]⟩, .int .i64 0, .int .i64 0, .int .i64 0, .int .i64 0, .int .i64 0, .slice none 0 0]), 7, 80) := by kernel_rfl
set_option maxRecDepth 100000 in
set_option maxHeartbeats 6400000 in
theorem cloneG_any (rows : List (List Value)) (ao : Option Addr) (cap : Nat) (w : World) (h : SL w 7 ao cap rows) (ho : ∀ r ∈ rows, ∀ u ∈ r, u.oneCell' = true) (hb : rows.length ≤ 100000) : Calls Try.prog 46 #[.slice ao rows.length cap] w fun e w' => ∃ v, e = .returned v ∧ w'.ownsRow w.heap.size 62 7 v rows.length rows.flatten ∧ Ext w w' := by
  have hs1 := h.max
  have hs2 := h.le
  obtain ⟨i0, hi, hz0, hz1, hz2⟩ := info_parts infoG
  have hnil := fun (w : World) (a : Option Addr) (n c : Nat) => Lib.run_eql_slice_nil (P := Try.prog) w 24 62 a n c 0 0 Try.underlying24
  cases ao with
  | none =>
    have hc := h.nil rfl
    subst hc
    have hr : rows = [] := List.length_eq_zero_iff.1 (by omega)
    subst hr
    clear h ho
    go_enter Try.func46, Try.ntmps46
    go_wp2_with fail
    go_ret
    exact ⟨_, rfl, World.ownsRow_nil _ _ _ _, Ext.refl _⟩
  | some a =>
    have hX : Ext w (w.alloc (.cells #[] 62)) := (Ext.refl w).alloc _
    have HSRC : Hid (Src Try.prog 7 24 (.slice (some a) rows.length cap) rows.length rows.flatten (w.alloc (.cells #[] 62))) := Lib.hid (SL.src (P := Try.prog) (h.ext hX) (by omega) (tx := 24) Try.underlying24 ho)
    have HOE := Lib.hid (own_empty w w.heap.size (Nat.le_refl _) 62 7)
    have HB := Lib.hid hb
    clear hb h ho hs2
    go_enter Try.func46, Try.ntmps46
    go_wp2_with (at_builtin; refine wpList_append_S rfl _ _ 24 24 rfl w.heap.size 62 i0 _ 7 80 Try.underlying24 hi hz0 hz1 hz2 rfl _ _ _ rfl HOE.out (.slice (some a) rows.length cap) rows.length rows.flatten rfl HSRC.out (by have := HB.out; unfold maxLen; omega) (by have := HB.out; omega) (by simp) ?_; intro v6 w6 ho6 hg6; have HO6 := Lib.hid ho6; have HG6 := Lib.hid hg6; clear ho6 hg6)
    go_ret
    refine ⟨_, rfl, ?_, Ext.trans' hX HG6.out (fun k hk => by have h1 : some w.heap.size = some k := hk; injection h1 with h1; omega)⟩
    have := HO6.out
    simpa using this
theorem infoQ : (Try.prog.info? 64).map (fun i => (i.zero, i.size, i.bytes)) = some (some (.agg #[.string ⟨#[]⟩, .int .i64 0, .int .i64 0, .bool false, .slice none 0 0, .slice none 0 0]), 6, 88) := by kernel_rfl
set_option maxRecDepth 100000 in
set_option maxHeartbeats 6400000 in
theorem cloneQ_any (rows : List (List Value)) (ao : Option Addr) (cap : Nat) (w : World) (h : SL w 6 ao cap rows) (ho : ∀ r ∈ rows, ∀ u ∈ r, u.oneCell' = true) (hb : rows.length ≤ 100000) : Calls Try.prog 49 #[.slice ao rows.length cap] w fun e w' => ∃ v, e = .returned v ∧ w'.ownsRow w.heap.size 64 6 v rows.length rows.flatten ∧ Ext w w' := by
  have hs1 := h.max
  have hs2 := h.le
  obtain ⟨i0, hi, hz0, hz1, hz2⟩ := info_parts infoQ
  have hnil := fun (w : World) (a : Option Addr) (n c : Nat) => Lib.run_eql_slice_nil (P := Try.prog) w 60 64 a n c 0 0 Try.underlying60
  cases ao with
  | none =>
    have hc := h.nil rfl
    subst hc
    have hr : rows = [] := List.length_eq_zero_iff.1 (by omega)
    subst hr
    clear h ho
    go_enter Try.func49, Try.ntmps49
    go_wp2_with fail
    go_ret
    exact ⟨_, rfl, World.ownsRow_nil _ _ _ _, Ext.refl _⟩
  | some a =>
    have hX : Ext w (w.alloc (.cells #[] 64)) := (Ext.refl w).alloc _
    have HSRC : Hid (Src Try.prog 6 60 (.slice (some a) rows.length cap) rows.length rows.flatten (w.alloc (.cells #[] 64))) := Lib.hid (SL.src (P := Try.prog) (h.ext hX) (by omega) (tx := 60) Try.underlying60 ho)
    have HOE := Lib.hid (own_empty w w.heap.size (Nat.le_refl _) 64 6)
    have HB := Lib.hid hb
    clear hb h ho hs2
    go_enter Try.func49, Try.ntmps49
    go_wp2_with (at_builtin; refine wpList_append_S rfl _ _ 60 60 rfl w.heap.size 64 i0 _ 6 88 Try.underlying60 hi hz0 hz1 hz2 rfl _ _ _ rfl HOE.out (.slice (some a) rows.length cap) rows.length rows.flatten rfl HSRC.out (by have := HB.out; unfold maxLen; omega) (by have := HB.out; omega) (by simp) ?_; intro v6 w6 ho6 hg6; have HO6 := Lib.hid ho6; have HG6 := Lib.hid hg6; clear ho6 hg6)
    go_ret
    refine ⟨_, rfl, ?_, Ext.trans' hX HG6.out (fun k hk => by have h1 : some w.heap.size = some k := hk; injection h1 with h1; omega)⟩
    have := HO6.out
    simpa using this
theorem infoC : (Try.prog.info? 41).map (fun i => (i.zero, i.size, i.bytes)) = some (some (.agg #[.string ⟨#[]⟩, .int .i64 0, .int .i64 0, .int .i64 0, .int .i64 0, .int .i64 0, .string ⟨#[]⟩, .int .i64 0, .int .i64 0, .slice none 0 0, .int .i64 0, .int .i64 0, .string ⟨#[]⟩, .int .i64 0, .int .i64 0, .slice none 0 0]), 16, 184) := by kernel_rfl
set_option maxRecDepth 100000 in
set_option maxHeartbeats 6400000 in
theorem cloneC_any (rows : List (List Value)) (ao : Option Addr) (cap : Nat) (w : World) (h : SL w 16 ao cap rows) (ho : ∀ r ∈ rows, ∀ u ∈ r, u.oneCell' = true) (hb : rows.length ≤ 100000) : Calls Try.prog 44 #[.slice ao rows.length cap] w fun e w' => ∃ v, e = .returned v ∧ w'.ownsRow w.heap.size 41 16 v rows.length rows.flatten ∧ Ext w w' := by
  have hs1 := h.max
  have hs2 := h.le
  obtain ⟨i0, hi, hz0, hz1, hz2⟩ := info_parts infoC
  have hnil := fun (w : World) (a : Option Addr) (n c : Nat) => Lib.run_eql_slice_nil (P := Try.prog) w 22 41 a n c 0 0 Try.underlying22
  cases ao with
  | none =>
    have hc := h.nil rfl
    subst hc
    have hr : rows = [] := List.length_eq_zero_iff.1 (by omega)
    subst hr
    clear h ho
    go_enter Try.func44, Try.ntmps44
    go_wp2_with fail
    go_ret
    exact ⟨_, rfl, World.ownsRow_nil _ _ _ _, Ext.refl _⟩
  | some a =>
    have hX : Ext w (w.alloc (.cells #[] 41)) := (Ext.refl w).alloc _
    have HSRC : Hid (Src Try.prog 16 22 (.slice (some a) rows.length cap) rows.length rows.flatten (w.alloc (.cells #[] 41))) := Lib.hid (SL.src (P := Try.prog) (h.ext hX) (by omega) (tx := 22) Try.underlying22 ho)
    have HOE := Lib.hid (own_empty w w.heap.size (Nat.le_refl _) 41 16)
    have HB := Lib.hid hb
    clear hb h ho hs2
    go_enter Try.func44, Try.ntmps44
    go_wp2_with (at_builtin; refine wpList_append_S rfl _ _ 22 22 rfl w.heap.size 41 i0 _ 16 184 Try.underlying22 hi hz0 hz1 hz2 rfl _ _ _ rfl HOE.out (.slice (some a) rows.length cap) rows.length rows.flatten rfl HSRC.out (by have := HB.out; unfold maxLen; omega) (by have := HB.out; omega) (by simp) ?_; intro v6 w6 ho6 hg6; have HO6 := Lib.hid ho6; have HG6 := Lib.hid hg6; clear ho6 hg6)
    go_ret
    refine ⟨_, rfl, ?_, Ext.trans' hX HG6.out (fun k hk => by have h1 : some w.heap.size = some k := hk; injection h1 with h1; omega)⟩
    have := HO6.out
    simpa using this
theorem infoI : (Try.prog.info? 3).map (fun i => (i.zero, i.size, i.bytes)) = some (some (.int .i64 0), 1, 8) := by kernel_rfl
set_option maxRecDepth 100000 in
set_option maxHeartbeats 6400000 in
theorem cloneI_any (rows : List (List Value)) (ao : Option Addr) (cap : Nat) (w : World) (h : SL w 1 ao cap rows) (ho : ∀ r ∈ rows, ∀ u ∈ r, u.oneCell' = true) (hb : rows.length ≤ 100000) : Calls Try.prog 50 #[.slice ao rows.length cap] w fun e w' => ∃ v, e = .returned v ∧ w'.ownsRow w.heap.size 3 1 v rows.length rows.flatten ∧ Ext w w' := by
  have hs1 := h.max
  have hs2 := h.le
  obtain ⟨i0, hi, hz0, hz1, hz2⟩ := info_parts infoI
  have hnil := fun (w : World) (a : Option Addr) (n c : Nat) => Lib.run_eql_slice_nil (P := Try.prog) w 45 3 a n c 0 0 Try.underlying45
  cases ao with
  | none =>
    have hc := h.nil rfl
    subst hc
    have hr : rows = [] := List.length_eq_zero_iff.1 (by omega)
    subst hr
    clear h ho
    go_enter Try.func50, Try.ntmps50
    go_wp2_with fail
    go_ret
    exact ⟨_, rfl, World.ownsRow_nil _ _ _ _, Ext.refl _⟩
  | some a =>
    have hX : Ext w (w.alloc (.cells #[] 3)) := (Ext.refl w).alloc _
    have HSRC : Hid (Src Try.prog 1 45 (.slice (some a) rows.length cap) rows.length rows.flatten (w.alloc (.cells #[] 3))) := Lib.hid (SL.src (P := Try.prog) (h.ext hX) (by omega) (tx := 45) Try.underlying45 ho)
    have HOE := Lib.hid (own_empty w w.heap.size (Nat.le_refl _) 3 1)
    have HB := Lib.hid hb
    clear hb h ho hs2
    go_enter Try.func50, Try.ntmps50
    go_wp2_with (at_builtin; refine wpList_append_S rfl _ _ 45 45 rfl w.heap.size 3 i0 _ 1 8 Try.underlying45 hi hz0 hz1 hz2 rfl _ _ _ rfl HOE.out (.slice (some a) rows.length cap) rows.length rows.flatten rfl HSRC.out (by have := HB.out; unfold maxLen; omega) (by have := HB.out; omega) (by simp) ?_; intro v6 w6 ho6 hg6; have HO6 := Lib.hid ho6; have HG6 := Lib.hid hg6; clear ho6 hg6)
    go_ret
    refine ⟨_, rfl, ?_, Ext.trans' hX HG6.out (fun k hk => by have h1 : some w.heap.size = some k := hk; injection h1 with h1; omega)⟩
    have := HO6.out
    simpa using this
end Go.Proofs.Ytimigpfoflilcaa
namespace Go.Sz
open Go.RowKit
/-- the number that the rule's own reference gets -/
def Rt.num (l : List Cr) (r : Rt) : Option Int := if r.op == 5 || r.op == 6 || r.op == 9 then numR l r.nm r.co else some r.co
def Rt.with (r : Rt) (c : Int) (ks : List Rt) : Rt := .mk r.op c r.nm r.n r.d ks
mutual
def Rt.res (l : List Cr) : Rt → Option Rt
  | .mk op co nm n d kids => ((Rt.mk op co nm n d []).num l).bind fun c => (resL l kids).map fun ks => .mk op c nm n d ks
def resL (l : List Cr) : List Rt → Option (List Rt)
  | [] => some []
  | k :: ks => (k.res l).bind fun x => (resL l ks).map fun xs => x :: xs
end
theorem Rt.res_eq (l : List Cr) (r : Rt) : r.res l = (r.num l).bind fun c => (resL l r.kids).map fun ks => r.with c ks := by
  cases r
  rw [Rt.res]
  rfl
theorem resL_len {l : List Cr} : ∀ {ks xs : List Rt}, resL l ks = some xs → xs.length = ks.length := by
  intro ks
  induction ks with
  | nil => intro xs h; rw [resL] at h; cases h; rfl
  | cons k ks ih =>
    intro xs h
    rw [resL] at h
    cases e : k.res l with
    | none => rw [e] at h; cases h
    | some x =>
      rw [e] at h
      cases e2 : resL l ks with
      | none => rw [e2] at h; cases h
      | some ys => rw [e2] at h; cases h; simp [ih e2]
/-- the rounds of the loop: the first k kids have numbers -/
theorem resL_snoc {l : List Cr} {ks : List Rt} {k : Rt} {xs : List Rt} {x : Rt} (h : resL l ks = some xs) (hx : k.res l = some x) : resL l (ks ++ [k]) = some (xs ++ [x]) := by
  induction ks generalizing xs with
  | nil => rw [resL] at h; cases h; simp [resL, hx]
  | cons a ks ih =>
    rw [resL] at h
    cases e : a.res l with
    | none => rw [e] at h; cases h
    | some y =>
      rw [e] at h
      cases e2 : resL l ks with
      | none => rw [e2] at h; cases h
      | some ys => rw [e2] at h; cases h; rw [List.cons_append, resL, e, ih e2]; rfl
theorem resL_bad {l : List Cr} {ks : List Rt} {k : Rt} {r : List Rt} (hx : k.res l = none) : resL l (ks ++ k :: r) = none := by
  induction ks with
  | nil => rw [List.nil_append, resL, hx]; rfl
  | cons a ks ih =>
    rw [List.cons_append, resL, ih]
    cases a.res l <;> rfl
end Go.Sz
namespace Go.Proofs.Ytimigpfoflilcaa
open Go.RowKit Go.Sz
set_option maxRecDepth 100000 in
set_option maxHeartbeats 3200000 in
theorem key2_any (nm : ByteArray) (v1 v2 v3 v4 v5 v6 v7 v8 v9 v10 v11 v12 v13 v14 v15 : Value) (w : World) : Calls Try.prog 31 #[.agg #[.string nm, v1, v2, v3, v4, v5, v6, v7, v8, v9, v10, v11, v12, v13, v14, v15]] w fun e w' => e = .returned (.string nm) ∧ Ext w w' := by
  go_enter Try.func31, Try.ntmps31
  go_wp2_with fail
  go_ret
  exact ⟨rfl, (Ext.refl _).alloc _⟩
set_option maxRecDepth 100000 in
set_option maxHeartbeats 3200000 in
theorem key3_any (nu : Int) (v0 v2 v3 v4 v5 v6 v7 v8 v9 v10 v11 v12 v13 v14 v15 : Value) (w : World) : Calls Try.prog 33 #[.agg #[v0, .int .i64 nu, v2, v3, v4, v5, v6, v7, v8, v9, v10, v11, v12, v13, v14, v15]] w fun e w' => e = .returned (.int .i64 nu) ∧ Ext w w' := by
  go_enter Try.func33, Try.ntmps33
  go_wp2_with fail
  go_ret
  exact ⟨rfl, (Ext.refl _).alloc _⟩
set_option maxRecDepth 100000 in
set_option maxHeartbeats 3200000 in
theorem key4_any (nm : ByteArray) (v1 v2 v3 v4 v5 v6 : Value) (w : World) : Calls Try.prog 35 #[.agg #[.string nm, v1, v2, v3, v4, v5, v6]] w fun e w' => e = .returned (.string nm) ∧ Ext w w' := by
  go_enter Try.func35, Try.ntmps35
  go_wp2_with fail
  go_ret
  exact ⟨rfl, (Ext.refl _).alloc _⟩
set_option maxRecDepth 100000 in
set_option maxHeartbeats 3200000 in
theorem key5_any (nu : Int) (v0 v2 v3 v4 v5 v6 : Value) (w : World) : Calls Try.prog 37 #[.agg #[v0, .int .i64 nu, v2, v3, v4, v5, v6]] w fun e w' => e = .returned (.int .i64 nu) ∧ Ext w w' := by
  go_enter Try.func37, Try.ntmps37
  go_wp2_with fail
  go_ret
  exact ⟨rfl, (Ext.refl _).alloc _⟩
set_option maxRecDepth 100000 in
set_option maxHeartbeats 3200000 in
theorem key6_any (nm : ByteArray) (v1 v2 v3 v4 v5 : Value) (w : World) : Calls Try.prog 39 #[.agg #[.string nm, v1, v2, v3, v4, v5]] w fun e w' => e = .returned (.string nm) ∧ Ext w w' := by
  go_enter Try.func39, Try.ntmps39
  go_wp2_with fail
  go_ret
  exact ⟨rfl, (Ext.refl _).alloc _⟩
set_option maxRecDepth 100000 in
set_option maxHeartbeats 3200000 in
theorem keyC_any (nm : ByteArray) (v1 v2 v3 : Value) (w : World) : Calls Try.prog 41 #[.agg #[.string nm, v1, v2, v3]] w fun e w' => e = .returned (.string nm) ∧ Ext w w' := by
  go_enter Try.func41, Try.ntmps41
  go_wp2_with fail
  go_ret
  exact ⟨rfl, (Ext.refl _).alloc _⟩
set_option maxRecDepth 100000 in
set_option maxHeartbeats 3200000 in
theorem key7_any (nm : ByteArray) (v1 : Value) (w : World) : Calls Try.prog 43 #[.agg #[.string nm, v1]] w fun e w' => e = .returned (.string nm) ∧ Ext w w' := by
  go_enter Try.func43, Try.ntmps43
  go_wp2_with fail
  go_ret
  exact ⟨rfl, (Ext.refl _).alloc _⟩
end Go.Proofs.Ytimigpfoflilcaa
namespace Go.Proofs.Ytimigpfoflilcaa
open Go.RowKit Go.Sz
theorem i_at {w W : World} {ao : Option Addr} {cap : Nat} {l : List Int} (h : SL w 1 ao cap (irows l)) (hE : Ext w W) {i : Nat} {x : Int} (hx : l[i]? = some x) : ∃ b o, ao = some ⟨b, o, none⟩ ∧ W.cell? ⟨b, o + i, none⟩ = some (.int .i64 x) := by
  obtain ⟨hi, rfl⟩ := List.getElem?_eq_some_iff.1 hx
  exact irows_cell h hE hi
theorem take_eq_next {α : Type} {l l' : List α} {k : Nat} {x y : α} (hx : l[k]? = some x) (hy : l'[k]? = some y) (h : l.take k = l'.take k) (he : x = y) : l.take (k + 1) = l'.take (k + 1) := by
  rw [List.take_add_one, List.take_add_one, h, hx, hy, he]
theorem ne_at {α : Type} {l l' : List α} {k : Nat} {x y : α} (hx : l[k]? = some x) (hy : l'[k]? = some y) (h : x ≠ y) : l ≠ l' := by
  rintro rfl
  rw [hx] at hy
  exact h (Option.some.inj hy)
theorem ret_bool {b c : Bool} (h : b = c) : Ending.returned (.bool b) = .returned (.bool c) := by rw [h]
set_option maxRecDepth 100000 in
set_option maxHeartbeats 6400000 in
theorem sameI_any (l l' : List Int) (ao ao' : Option Addr) (cap cap' : Nat) (w : World) (h : SL w 1 ao cap (irows l)) (h' : SL w 1 ao' cap' (irows l')) : Calls Try.prog 19 #[.slice ao l.length cap, .slice ao' l'.length cap'] w fun e w' => e = .returned (.bool (decide (l = l'))) ∧ Ext w w' := by
  have HL := Lib.hid h
  have HL' := Lib.hid h'
  have hs1 := irows_max h
  have hs2 := irows_max h'
  clear h h'
  by_cases hl : l.length = l'.length
  · have g1 : ((l.length : Int) != (l'.length : Int)) = false := by simp; omega
    have HLE := Lib.hid hl
    clear hl
    go_enter Try.func19, Try.ntmps19
    go_wp2_with fail
    go_loopw [5] (fun iv wr => ∃ k : Nat, iv = .int .i64 k ∧ k ≤ l.length ∧ l.take k = l'.take k ∧ Ext w wr) (fun iv _ => l.length - (intOf iv).toNat)
    case atStart => exact ⟨0, rfl, by omega, by simp, Ext.refl _⟩
    case round =>
      obtain ⟨k, rfl, hk, ht, hB⟩ := hrel
      have HT := Lib.hid ht
      have HB := Lib.hid hB
      clear ht hB
      by_cases hlt : k < l.length
      · have hki : (k : Int) < (l.length : Int) := by omega
        have hk' : k < l'.length := by have := HLE.out; omega
        have hki' : (k : Int) < (l'.length : Int) := by omega
        obtain ⟨x, hx⟩ : ∃ x, l[k]? = some x := ⟨_, List.getElem?_eq_getElem hlt⟩
        obtain ⟨y, hy⟩ : ∃ y, l'[k]? = some y := ⟨_, List.getElem?_eq_getElem hk'⟩
        obtain ⟨b, o, rfl, c0⟩ := i_at HL.out HB.out hx
        obtain ⟨b', o', rfl, d0⟩ := i_at HL'.out HB.out hy
        have HNX := Lib.hid (take_eq_next hx hy HT.out)
        have HNE := Lib.hid (ne_at hx hy)
        clear hx hy
        have he : True := trivial
        have gc0 := grow_cell c0
        have gd0 := grow_cell d0
        by_cases hc : x = y
        · have HXY := Lib.hid hc
          have q1 : (x != y) = false := by simpa using hc
          clear hc
          go_wp2_with fail
          refine wp_region_rel_all (fun _ => none) (by kernel_rfl) (by kernel_rfl) ?_
          repeat (first
            | (refine wpRel_quick ?_ ?_ ?_ ?_
               · rfl
               · rfl
               · first | exact noEnter rfl | (intro f args W W'; go_simp)
               intro K hK
               go_big_quiet_op
               go_big_quiet_on)
            | (refine wpRel_skip ?_ ?_
               · rfl
               simp only [Act.put, List.setIfInBounds_toArray, List.set_cons_zero, List.set_cons_succ]))
          refine wpRel_nil ?_
          intro W3 hW3
          have HE3 := Lib.hid (HB.out.trans ((Ext.refl _).drew.trans hW3.1))
          clear hW3 gc0 gd0 c0 d0 he
          go_wp2_with fail
          go_roundw
          case rel => exact ⟨k + 1, by go_num, by omega, HNX.out HXY.out, HE3.out⟩
          case measure => simp [intOf] <;> omega
        · have HXY := Lib.hid hc
          have q1 : (x != y) = true := by simpa using hc
          clear hc
          go_wp2_with fail
          refine wp_region_rel_all (fun _ => none) (by kernel_rfl) (by kernel_rfl) ?_
          repeat (first
            | (refine wpRel_quick ?_ ?_ ?_ ?_
               · rfl
               · rfl
               · first | exact noEnter rfl | (intro f args W W'; go_simp)
               intro K hK
               go_big_quiet_op
               go_big_quiet_on)
            | (refine wpRel_skip ?_ ?_
               · rfl
               simp only [Act.put, List.setIfInBounds_toArray, List.set_cons_zero, List.set_cons_succ]))
          refine wpRel_nil ?_
          intro W3 hW3
          have HE3 := Lib.hid (HB.out.trans ((Ext.refl _).drew.trans hW3.1))
          clear hW3 gc0 gd0 c0 d0 he
          go_wp2_with fail
          go_ret
          exact ⟨ret_bool (decide_eq_false (HNE.out HXY.out)).symm, HE3.out⟩
      · have hki : ¬ (k : Int) < (l.length : Int) := by omega
        have HEQ : Hid (l = l') := Lib.hid (by
          have h1 := HT.out
          rw [List.take_of_length_le (by omega), List.take_of_length_le (by have := HLE.out; omega)] at h1
          exact h1)
        go_wp2_with fail
        go_ret
        exact ⟨ret_bool (decide_eq_true HEQ.out).symm, HB.out⟩
  · have g1 : ((l.length : Int) != (l'.length : Int)) = true := by simp; omega
    have HLE : Hid (l ≠ l') := Lib.hid fun e => hl (by rw [e])
    clear hl
    go_enter Try.func19, Try.ntmps19
    go_wp2_with fail
    go_ret
    exact ⟨ret_bool (decide_eq_false HLE.out).symm, Ext.refl _⟩
set_option maxRecDepth 100000 in
set_option maxHeartbeats 6400000 in
theorem equalI_any (l l' : List Int) (ao ao' : Option Addr) (cap cap' : Nat) (w : World) (h : SL w 1 ao cap (irows l)) (h' : SL w 1 ao' cap' (irows l')) : Calls Try.prog 57 #[.slice ao l.length cap, .slice ao' l'.length cap'] w fun e w' => e = .returned (.bool (decide (l = l'))) ∧ Ext w w' := by
  have HL := Lib.hid h
  have HL' := Lib.hid h'
  have hs1 := irows_max h
  have hs2 := irows_max h'
  clear h h'
  by_cases hl : l.length = l'.length
  · have g1 : ((l.length : Int) != (l'.length : Int)) = false := by simp; omega
    have HLE := Lib.hid hl
    clear hl
    go_enter Try.func57, Try.ntmps57
    go_wp2_with fail
    go_loopw [13] (fun iv wr => ∃ k : Nat, iv = .int .i64 k ∧ k ≤ l.length ∧ l.take k = l'.take k ∧ Ext w wr) (fun iv _ => l.length - (intOf iv).toNat)
    case atStart => exact ⟨0, rfl, by omega, by simp, Ext.refl _⟩
    case round =>
      obtain ⟨k, rfl, hk, ht, hB⟩ := hrel
      have HT := Lib.hid ht
      have HB := Lib.hid hB
      clear ht hB
      by_cases hlt : k < l.length
      · have hki : (k : Int) < (l.length : Int) := by omega
        have hk' : k < l'.length := by have := HLE.out; omega
        have hki' : (k : Int) < (l'.length : Int) := by omega
        obtain ⟨x, hx⟩ : ∃ x, l[k]? = some x := ⟨_, List.getElem?_eq_getElem hlt⟩
        obtain ⟨y, hy⟩ : ∃ y, l'[k]? = some y := ⟨_, List.getElem?_eq_getElem hk'⟩
        obtain ⟨b, o, rfl, c0⟩ := i_at HL.out HB.out hx
        obtain ⟨b', o', rfl, d0⟩ := i_at HL'.out HB.out hy
        have HNX := Lib.hid (take_eq_next hx hy HT.out)
        have HNE := Lib.hid (ne_at hx hy)
        clear hx hy
        have he : True := trivial
        have gc0 := grow_cell c0
        have gd0 := grow_cell d0
        by_cases hc : x = y
        · have HXY := Lib.hid hc
          have q1 : (x != y) = false := by simpa using hc
          clear hc
          go_wp2_with fail
          refine wp_region_rel_all (fun _ => none) (by kernel_rfl) (by kernel_rfl) ?_
          repeat (first
            | (refine wpRel_quick ?_ ?_ ?_ ?_
               · rfl
               · rfl
               · first | exact noEnter rfl | (intro f args W W'; go_simp)
               intro K hK
               go_big_quiet_op
               go_big_quiet_on)
            | (refine wpRel_skip ?_ ?_
               · rfl
               simp only [Act.put, List.setIfInBounds_toArray, List.set_cons_zero, List.set_cons_succ]))
          refine wpRel_nil ?_
          intro W3 hW3
          have HE3 := Lib.hid (HB.out.trans ((Ext.refl _).drew.trans hW3.1))
          clear hW3 gc0 gd0 c0 d0 he
          go_wp2_with fail
          go_roundw
          case rel => exact ⟨k + 1, by go_num, by omega, HNX.out HXY.out, HE3.out⟩
          case measure => simp [intOf] <;> omega
        · have HXY := Lib.hid hc
          have q1 : (x != y) = true := by simpa using hc
          clear hc
          go_wp2_with fail
          refine wp_region_rel_all (fun _ => none) (by kernel_rfl) (by kernel_rfl) ?_
          repeat (first
            | (refine wpRel_quick ?_ ?_ ?_ ?_
               · rfl
               · rfl
               · first | exact noEnter rfl | (intro f args W W'; go_simp)
               intro K hK
               go_big_quiet_op
               go_big_quiet_on)
            | (refine wpRel_skip ?_ ?_
               · rfl
               simp only [Act.put, List.setIfInBounds_toArray, List.set_cons_zero, List.set_cons_succ]))
          refine wpRel_nil ?_
          intro W3 hW3
          have HE3 := Lib.hid (HB.out.trans ((Ext.refl _).drew.trans hW3.1))
          clear hW3 gc0 gd0 c0 d0 he
          go_wp2_with fail
          go_ret
          exact ⟨ret_bool (decide_eq_false (HNE.out HXY.out)).symm, HE3.out⟩
      · have hki : ¬ (k : Int) < (l.length : Int) := by omega
        have HEQ : Hid (l = l') := Lib.hid (by
          have h1 := HT.out
          rw [List.take_of_length_le (by omega), List.take_of_length_le (by have := HLE.out; omega)] at h1
          exact h1)
        go_wp2_with fail
        go_ret
        exact ⟨ret_bool (decide_eq_true HEQ.out).symm, HB.out⟩
  · have g1 : ((l.length : Int) != (l'.length : Int)) = true := by simp; omega
    have HLE : Hid (l ≠ l') := Lib.hid fun e => hl (by rw [e])
    clear hl
    go_enter Try.func57, Try.ntmps57
    go_wp2_with fail
    go_ret
    exact ⟨ret_bool (decide_eq_false HLE.out).symm, Ext.refl _⟩
end Go.Proofs.Ytimigpfoflilcaa
namespace Go.Sz
open Go.RowKit
def srows (l : List ByteArray) : List (List Value) := l.map fun x => [.string x]
theorem srows_length (l : List ByteArray) : (srows l).length = l.length := List.length_map _
theorem s_at {w W : World} {ao : Option Addr} {cap : Nat} {l : List ByteArray} (h : SL w 1 ao cap (srows l)) (hE : Ext w W) {i : Nat} {x : ByteArray} (hx : l[i]? = some x) : ∃ b o, ao = some ⟨b, o, none⟩ ∧ W.cell? ⟨b, o + i, none⟩ = some (.string x) := by
  have hr : (srows l)[i]? = some [.string x] := by simp [srows, hx]
  obtain ⟨b, o, e, hc⟩ := h.cells i 0 _ _ hr rfl
  exact ⟨b, o, e, by simpa using hE.cell hc⟩
theorem srows_max {w : World} {ao : Option Addr} {cap : Nat} {l : List ByteArray} (h : SL w 1 ao cap (srows l)) : (l.length : Int) ≤ 9223372036854775807 := by
  have h1 := h.max; have h2 := h.le; rw [srows_length] at h2; omega
theorem toList_inj' {x y : ByteArray} (h : x.toList = y.toList) : x = y := by
  rw [ByteArray.toList_eq, ByteArray.toList_eq] at h
  cases x
  cases y
  simp at h
  simp [h]
end Go.Sz
namespace Go.Proofs.Ytimigpfoflilcaa
open Go.RowKit Go.Sz
set_option maxRecDepth 100000 in
set_option maxHeartbeats 6400000 in
theorem equalS_any (l l' : List ByteArray) (ao ao' : Option Addr) (cap cap' : Nat) (w : World) (h : SL w 1 ao cap (srows l)) (h' : SL w 1 ao' cap' (srows l')) : Calls Try.prog 56 #[.slice ao l.length cap, .slice ao' l'.length cap'] w fun e w' => e = .returned (.bool (decide (l = l'))) ∧ Ext w w' := by
  have HL := Lib.hid h
  have HL' := Lib.hid h'
  have hs1 := srows_max h
  have hs2 := srows_max h'
  clear h h'
  by_cases hl : l.length = l'.length
  · have g1 : ((l.length : Int) != (l'.length : Int)) = false := by simp; omega
    have HLE := Lib.hid hl
    clear hl
    go_enter Try.func56, Try.ntmps56
    go_wp2_with fail
    go_loopw [13] (fun iv wr => ∃ k : Nat, iv = .int .i64 k ∧ k ≤ l.length ∧ l.take k = l'.take k ∧ Ext w wr) (fun iv _ => l.length - (intOf iv).toNat)
    case atStart => exact ⟨0, rfl, by omega, by simp, Ext.refl _⟩
    case round =>
      obtain ⟨k, rfl, hk, ht, hB⟩ := hrel
      have HT := Lib.hid ht
      have HB := Lib.hid hB
      clear ht hB
      by_cases hlt : k < l.length
      · have hki : (k : Int) < (l.length : Int) := by omega
        have hk' : k < l'.length := by have := HLE.out; omega
        have hki' : (k : Int) < (l'.length : Int) := by omega
        obtain ⟨x, hx⟩ : ∃ x, l[k]? = some x := ⟨_, List.getElem?_eq_getElem hlt⟩
        obtain ⟨y, hy⟩ : ∃ y, l'[k]? = some y := ⟨_, List.getElem?_eq_getElem hk'⟩
        obtain ⟨b, o, rfl, c0⟩ := s_at HL.out HB.out hx
        obtain ⟨b', o', rfl, d0⟩ := s_at HL'.out HB.out hy
        have HNX := Lib.hid (take_eq_next hx hy HT.out)
        have HNE := Lib.hid (ne_at hx hy)
        clear hx hy
        have he : True := trivial
        have gc0 := grow_cell c0
        have gd0 := grow_cell d0
        by_cases hc : x = y
        · have HXY := Lib.hid hc
          have q1 : (!(x.toList == y.toList)) = false := by simp [hc]
          clear hc
          go_wp2_with fail
          refine wp_region_rel_all (fun _ => none) (by kernel_rfl) (by kernel_rfl) ?_
          repeat (first
            | (refine wpRel_quick ?_ ?_ ?_ ?_
               · rfl
               · rfl
               · first | exact noEnter rfl | (intro f args W W'; go_simp)
               intro K hK
               go_big_quiet_op
               go_big_quiet_on)
            | (refine wpRel_skip ?_ ?_
               · rfl
               simp only [Act.put, List.setIfInBounds_toArray, List.set_cons_zero, List.set_cons_succ]))
          refine wpRel_nil ?_
          intro W3 hW3
          have HE3 := Lib.hid (HB.out.trans ((Ext.refl _).drew.trans hW3.1))
          clear hW3 gc0 gd0 c0 d0 he
          go_wp2_with fail
          go_roundw
          case rel => exact ⟨k + 1, by go_num, by omega, HNX.out HXY.out, HE3.out⟩
          case measure => simp [intOf] <;> omega
        · have HXY := Lib.hid hc
          have q1 : (!(x.toList == y.toList)) = true := by simpa using fun e => hc (toList_inj' e)
          clear hc
          go_wp2_with fail
          refine wp_region_rel_all (fun _ => none) (by kernel_rfl) (by kernel_rfl) ?_
          repeat (first
            | (refine wpRel_quick ?_ ?_ ?_ ?_
               · rfl
               · rfl
               · first | exact noEnter rfl | (intro f args W W'; go_simp)
               intro K hK
               go_big_quiet_op
               go_big_quiet_on)
            | (refine wpRel_skip ?_ ?_
               · rfl
               simp only [Act.put, List.setIfInBounds_toArray, List.set_cons_zero, List.set_cons_succ]))
          refine wpRel_nil ?_
          intro W3 hW3
          have HE3 := Lib.hid (HB.out.trans ((Ext.refl _).drew.trans hW3.1))
          clear hW3 gc0 gd0 c0 d0 he
          go_wp2_with fail
          go_ret
          exact ⟨ret_bool (decide_eq_false (HNE.out HXY.out)).symm, HE3.out⟩
      · have hki : ¬ (k : Int) < (l.length : Int) := by omega
        have HEQ : Hid (l = l') := Lib.hid (by
          have h1 := HT.out
          rw [List.take_of_length_le (by omega), List.take_of_length_le (by have := HLE.out; omega)] at h1
          exact h1)
        go_wp2_with fail
        go_ret
        exact ⟨ret_bool (decide_eq_true HEQ.out).symm, HB.out⟩
  · have g1 : ((l.length : Int) != (l'.length : Int)) = true := by simp; omega
    have HLE : Hid (l ≠ l') := Lib.hid fun e => hl (by rw [e])
    clear hl
    go_enter Try.func56, Try.ntmps56
    go_wp2_with fail
    go_ret
    exact ⟨ret_bool (decide_eq_false HLE.out).symm, Ext.refl _⟩
end Go.Proofs.Ytimigpfoflilcaa
namespace Go.Sz
open Go.RowKit
def findI (l : List Int) (x : Int) : Int := match l.findIdx? fun y => y == x with
  | some i => (i : Int)
  | none => -1
theorem findI_some {l : List Int} {x : Int} {k : Nat} (hk : k < l.length) (hb : ∀ j (h : j < k), (l[j]'(by omega)) ≠ x) (h : l[k] = x) : findI l x = (k : Int) := by
  unfold findI
  rw [List.findIdx?_eq_some_iff_getElem.2 ⟨hk, by simpa using h, fun j hj => by simpa using hb j hj⟩]
theorem findI_none {l : List Int} {x : Int} (hb : ∀ j (h : j < l.length), l[j] ≠ x) : findI l x = -1 := by
  unfold findI
  rw [List.findIdx?_eq_none_iff.2 (fun y hy => by
    obtain ⟨j, hj, rfl⟩ := List.mem_iff_getElem.1 hy
    simpa using hb j hj)]
theorem findI_mem (l : List Int) (x : Int) : decide (0 ≤ findI l x) = decide (x ∈ l) := by
  unfold findI
  cases e : l.findIdx? fun y => y == x with
  | some k =>
    obtain ⟨hk, hp, -⟩ := List.findIdx?_eq_some_iff_getElem.1 e
    have h1 : x ∈ l := by
      have : l[k] = x := by simpa using hp
      exact this ▸ List.getElem_mem hk
    simp [h1]
  | none =>
    have h1 : x ∉ l := fun h => by simpa using List.findIdx?_eq_none_iff.1 e x h
    simp [h1]
end Go.Sz
namespace Go.Proofs.Ytimigpfoflilcaa
open Go.RowKit Go.Sz
set_option maxRecDepth 100000 in
set_option maxHeartbeats 6400000 in
theorem indexI_any (l : List Int) (x : Int) (ao : Option Addr) (cap : Nat) (w : World) (h : SL w 1 ao cap (irows l)) : Calls Try.prog 73 #[.slice ao l.length cap, .int .i64 x] w fun e w' => e = .returned (.int .i64 (findI l x)) ∧ Ext w w' := by
  have HL := Lib.hid h
  have hs1 := irows_max h
  clear h
  go_enter Try.func73, Try.ntmps73
  go_wp2_with fail
  go_loopw [8] (fun iv wr => ∃ k : Nat, iv = .int .i64 k ∧ k ≤ l.length ∧ (∀ j (h : j < l.length), j < k → l[j] ≠ x) ∧ Ext w wr) (fun iv _ => l.length - (intOf iv).toNat)
  case atStart => exact ⟨0, rfl, by omega, fun j _ h => by omega, Ext.refl _⟩
  case round =>
    obtain ⟨k, rfl, hk, hn, hE⟩ := hrel
    have HN := Lib.hid hn
    have HE := Lib.hid hE
    clear hn hE
    by_cases hlt : k < l.length
    · have hki : (k : Int) < (l.length : Int) := by omega
      obtain ⟨bb, o, rfl, c0⟩ := irows_cell HL.out HE.out hlt
      have HNX : Hid (l[k] ≠ x → ∀ j (h : j < l.length), j < k + 1 → l[j] ≠ x) := Lib.hid fun hi j hj hjk => by
        by_cases hjk' : j = k
        · subst hjk'; exact hi
        · exact HN.out j hj (by omega)
      have HFD : Hid (l[k] = x → findI l x = (k : Int)) := Lib.hid fun hi => by
        have := findI_some hlt (fun j hj => HN.out j (by omega) hj) hi
        exact this
      generalize l[k] = z at *
      cases hc : (x == z) with
      | true =>
        have HR := Lib.hid (HFD.out ((eq_of_beq hc).symm))
        go_wp2_with fail
        go_ret
        exact ⟨by rw [HR.out]; rfl, HE.out⟩
      | false =>
        have HR := Lib.hid (HNX.out (fun e => by subst e; simp at hc))
        go_wp2_with fail
        go_roundw
        case rel => exact ⟨k + 1, by go_num, by omega, HR.out, HE.out⟩
        case measure => simp [intOf] <;> omega
    · have hki : ¬ (k : Int) < (l.length : Int) := by omega
      have HR : Hid (findI l x = -1) := Lib.hid (by
        have := findI_none (l := l) (x := x) fun j hj => HN.out j hj (by omega)
        exact this)
      go_wp2_with fail
      go_ret
      exact ⟨by rw [HR.out]; rfl, HE.out⟩
set_option maxRecDepth 100000 in
set_option maxHeartbeats 6400000 in
theorem has_any (l : List Int) (x : Int) (ao : Option Addr) (cap : Nat) (w : World) (h : SL w 1 ao cap (irows l)) : Calls Try.prog 74 #[.slice ao l.length cap, .int .i64 x] w fun e w' => e = .returned (.bool (decide (x ∈ l))) ∧ Ext w w' := by
  have HL := Lib.hid h
  have hs1 := irows_max h
  clear h
  go_enter Try.func74, Try.ntmps74
  go_wp2_with fail
  go_loopw [5] (fun iv wr => ∃ k : Nat, iv = .int .i64 k ∧ k ≤ l.length ∧ (∀ j (h : j < l.length), j < k → l[j] ≠ x) ∧ Ext w wr) (fun iv _ => l.length - (intOf iv).toNat)
  case atStart => exact ⟨0, rfl, by omega, fun j _ h => by omega, Ext.refl _⟩
  case round =>
    obtain ⟨k, rfl, hk, hn, hE⟩ := hrel
    have HN := Lib.hid hn
    have HE := Lib.hid hE
    clear hn hE
    by_cases hlt : k < l.length
    · have hki : (k : Int) < (l.length : Int) := by omega
      obtain ⟨bb, o, rfl, c0⟩ := irows_cell HL.out HE.out hlt
      have HNX : Hid (l[k] ≠ x → ∀ j (h : j < l.length), j < k + 1 → l[j] ≠ x) := Lib.hid fun hi j hj hjk => by
        by_cases hjk' : j = k
        · subst hjk'; exact hi
        · exact HN.out j hj (by omega)
      have HFD : Hid (l[k] = x → decide (x ∈ l) = true) := Lib.hid fun hi => by
        have := findI_some hlt (fun j hj => HN.out j (by omega) hj) hi
        rw [← findI_mem, this]; simp
      generalize l[k] = z at *
      cases hc : (z == x) with
      | true =>
        have HR := Lib.hid (HFD.out (eq_of_beq hc))
        go_wp2_with fail
        go_ret
        exact ⟨by rw [HR.out]; rfl, HE.out⟩
      | false =>
        have HR := Lib.hid (HNX.out (fun e => by subst e; simp at hc))
        go_wp2_with fail
        go_roundw
        case rel => exact ⟨k + 1, by go_num, by omega, HR.out, HE.out⟩
        case measure => simp [intOf] <;> omega
    · have hki : ¬ (k : Int) < (l.length : Int) := by omega
      have HR : Hid (decide (x ∈ l) = false) := Lib.hid (by
        have := findI_none (l := l) (x := x) fun j hj => HN.out j hj (by omega)
        rw [← findI_mem, this]; rfl)
      go_wp2_with fail
      go_ret
      exact ⟨by rw [HR.out]; rfl, HE.out⟩
set_option maxRecDepth 100000 in
set_option maxHeartbeats 6400000 in
theorem containsI_any (l : List Int) (x : Int) (ao : Option Addr) (cap : Nat) (w : World) (h : SL w 1 ao cap (irows l)) : Calls Try.prog 71 #[.slice ao l.length cap, .int .i64 x] w fun e w' => e = .returned (.bool (decide (x ∈ l))) ∧ Ext w w' := by
  have HC := Lib.hid (indexI_any l x ao cap w h)
  have HM := Lib.hid (findI_mem l x)
  clear h
  go_enter Try.func71, Try.ntmps71
  go_wp2_with fail
  refine HC.out.mono ?_
  rintro e w2 ⟨rfl, hE⟩
  generalize findI l x = r at *
  go_wp2_with fail
  go_ret
  exact ⟨by rw [← HM.out]; rfl, hE⟩
end Go.Proofs.Ytimigpfoflilcaa
