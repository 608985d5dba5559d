/- Waiting: find with its closure. -/
import Derived.Test.YtbhpeecebcihkaaW5
import Derived.Laws.StructEq
namespace Go.Sz
open Go.RowKit
def isW (s a b : Int) (o : Wt) : Bool := o.s == s && (o.a == a && o.b == b)
def findW (l : List Wt) (P : Wt → Bool) : Int := match l.findIdx? P with
  | some i => (i : Int)
  | none => -1
theorem findW_some {l : List Wt} {P : Wt → Bool} {k : Nat} (hk : k < l.length) (hb : ∀ j (h : j < k), P (l[j]'(by omega)) = false) (h : P l[k] = true) : findW l P = (k : Int) := by
  unfold findW
  rw [List.findIdx?_eq_some_iff_getElem.2 ⟨hk, h, fun j hj => by rw [hb j hj]; simp⟩]
theorem findW_none {l : List Wt} {P : Wt → Bool} (hb : ∀ j (h : j < l.length), P l[j] = false) : findW l P = -1 := by
  unfold findW
  rw [List.findIdx?_eq_none_iff.2 (fun x hx => by
    obtain ⟨j, hj, rfl⟩ := List.mem_iff_getElem.1 hx
    exact hb j hj)]
end Go.Sz
namespace Go.Proofs.Ytbhpeecebcihkaa
open Go.RowKit Go.Sz
theorem eqB (a b a' b' : Int) (w : World) : (Op.equalIn 10000 24 (.agg #[.int .i64 a, .int .i64 b]) (.agg #[.int .i64 a', .int .i64 b'])).run Try.prog w = .ok (a == a' && b == b') w := by
  rw [show (10000 : Nat) = 9998 + 1 + 1 from rfl, run_equalIn_struct w (9998 + 1) 24 _ _ (by kernel_rfl) (by kernel_rfl)]
  have h1 : ∀ w, (Op.equalIn 9999 3 (.int .i64 a) (.int .i64 a')).run Try.prog w = .ok (a == a') w := fun w => run_equalIn_int w 9998 _ .i64 .i64 a a' Try.underlying3
  have h2 : ∀ w, (Op.equalIn 9999 3 (.int .i64 b) (.int .i64 b')).run Try.prog w = .ok (b == b') w := fun w => run_equalIn_int w 9998 _ .i64 .i64 b b' Try.underlying3
  simp [Program.fieldsOf, Try.underlying24, Op.eqFields, part]
  rw [h1]
  by_cases ha : a = a' <;> by_cases hb : b = b' <;> simp only [h2, Result.andThen_ok] <;> simp [ha, hb]
set_option maxRecDepth 100000 in
set_option maxHeartbeats 3200000 in
theorem find1_any (x : Wt) (s a b : Int) (b5 b6 : Nat) (w : World) (h0 : w.cell? ⟨b5, 0, none⟩ = some (.int .i64 s)) (h1 : w.cell? ⟨b6, 0, none⟩ = some (.int .i64 a)) (h2 : w.cell? ⟨b6, 1, none⟩ = some (.int .i64 b)) : Calls Try.prog 41 #[.agg x.enc.toArray, .pointer (some ⟨b5, 0, none⟩), .pointer (some ⟨b6, 0, none⟩)] w fun e w' => e = .returned (.bool (isW s a b x)) ∧ Ext w w' := by
  have HI : Hid (isW s a b x = (x.s == s && (x.a == a && x.b == b))) := Lib.hid rfl
  have he := eqB x.a x.b a b
  have e0 := ((Ext.refl w).alloc (.cells #[.int .i64 x.s, .int .i64 x.a, .int .i64 x.b, .int .i64 x.k, .int .i64 x.t] 26)).cell h0
  have e1 := ((Ext.refl w).alloc (.cells #[.int .i64 x.s, .int .i64 x.a, .int .i64 x.b, .int .i64 x.k, .int .i64 x.t] 26)).cell h1
  have e2 := ((Ext.refl w).alloc (.cells #[.int .i64 x.s, .int .i64 x.a, .int .i64 x.b, .int .i64 x.k, .int .i64 x.t] 26)).cell h2
  unfold Wt.enc
  cases g1 : (x.s == s) with
  | true =>
    have HI2 : Hid (isW s a b x = (x.a == a && x.b == b)) := Lib.hid (by rw [HI.out, g1]; rfl)
    go_enter Try.func41, Try.ntmps41
    go_wp2_with fail
    go_ret
    exact ⟨by rw [HI2.out]; rfl, (Ext.refl _).alloc _⟩
  | false =>
    have HI2 : Hid (isW s a b x = false) := Lib.hid (by rw [HI.out, g1]; rfl)
    go_enter Try.func41, Try.ntmps41
    go_wp2_with fail
    go_ret
    exact ⟨by rw [HI2.out]; rfl, (Ext.refl _).alloc _⟩
set_option maxRecDepth 100000 in
set_option maxHeartbeats 3200000 in
theorem indexFunc_any (l : List Wt) (s a b : Int) (b5 b6 : Nat) (ao : Option Addr) (cap : Nat) (w : World) (h : RepW w ao cap l) (h0 : w.cell? ⟨b5, 0, none⟩ = some (.int .i64 s)) (h1 : w.cell? ⟨b6, 0, none⟩ = some (.int .i64 a)) (h2 : w.cell? ⟨b6, 1, none⟩ = some (.int .i64 b)) : Calls Try.prog 40 #[.slice ao l.length cap, .func (Fn.func 41) #[] #[.pointer (some ⟨b5, 0, none⟩), .pointer (some ⟨b6, 0, none⟩)]] w fun e w' => e = .returned (.int .i64 (findW l (isW s a b))) ∧ Ext w w' := by
  have HL := Lib.hid h
  have hs1 := h.max
  have HT1 : Hid (∀ (x : Wt) (W : World), Ext w W → Calls Try.prog 41 #[.agg x.enc.toArray, .pointer (some ⟨b5, 0, none⟩), .pointer (some ⟨b6, 0, none⟩)] W fun e w' => e = .returned (.bool (isW s a b x)) ∧ Ext W w') := Lib.hid fun x W hE => find1_any x s a b b5 b6 W (hE.cell h0) (hE.cell h1) (hE.cell h2)
  clear h h0 h1 h2
  go_enter Try.func40, Try.ntmps40
  go_wp2_with fail
  go_loopw [8] (fun iv wr => ∃ k : Nat, iv = .int .i64 k ∧ k ≤ l.length ∧ (∀ j (h : j < l.length), j < k → isW s a b l[j] = false) ∧ Ext w wr) (fun iv _ => l.length - (intOf iv).toNat)
  case atStart => exact ⟨0, rfl, by omega, fun j _ h => by omega, Ext.refl _⟩
  case round =>
    obtain ⟨k, rfl, hk, ht, hB⟩ := hrel
    have HT := Lib.hid ht
    have HB := Lib.hid hB
    clear ht hB
    by_cases hlt : k < l.length
    · have hki : (k : Int) < (l.length : Int) := by omega
      obtain ⟨bb, o, rfl, c0, c1, c2, c3, c4⟩ := w_cells HL.out HB.out hlt
      have HN : Hid (isW s a b l[k] = false → ∀ j (h : j < l.length), j < k + 1 → isW s a b l[j] = false) := Lib.hid fun hi j hj hjk => by
        by_cases hjk' : j = k
        · subst hjk'; exact hi
        · exact HT.out j hj (by omega)
      have HFD : Hid (isW s a b l[k] = true → findW l (isW s a b) = (k : Int)) := Lib.hid fun hi => findW_some hlt (fun j hj => HT.out j (by omega) hj) hi
      generalize l[k] = x at *
      cases hx : isW s a b x with
      | true =>
        have HFX := Lib.hid (HFD.out hx)
        have HC := Lib.hid (hx ▸ HT1.out x wr HB.out)
        clear hx
        go_wp2_with (go_at_call 41; refine HC.out.mono ?_; rintro e w' ⟨rfl, hE⟩)
        go_ret
        exact ⟨by rw [HFX.out]; rfl, HB.out.trans hE⟩
      | false =>
        have HNX := Lib.hid (HN.out hx)
        have HC := Lib.hid (hx ▸ HT1.out x wr HB.out)
        clear hx
        go_wp2_with (go_at_call 41; refine HC.out.mono ?_; rintro e w' ⟨rfl, hE⟩)
        go_roundw
        case rel => exact ⟨k + 1, by go_num, by omega, HNX.out, HB.out.trans hE⟩
        case measure => simp [intOf] <;> omega
    · have hki : ¬ (k : Int) < (l.length : Int) := by omega
      have HR : Hid (findW l (isW s a b) = -1) := Lib.hid (findW_none fun j hj => HT.out j hj (by omega))
      go_wp2_with fail
      go_ret
      exact ⟨by rw [HR.out]; rfl, HB.out⟩
set_option maxRecDepth 100000 in
set_option maxHeartbeats 3200000 in
theorem find_any (l : List Wt) (s a b : Int) (ao : Option Addr) (cap : Nat) (w : World) (h : RepW w ao cap l) : Calls Try.prog 29 #[.slice ao l.length cap, .int .i64 s, .agg #[.int .i64 a, .int .i64 b]] w fun e w' => e = .returned (.int .i64 (findW l (isW s a b))) ∧ Ext w w' := by
  have hX : Ext w ((w.alloc (.cells #[.int .i64 s] 3)).alloc (.cells #[.int .i64 a, .int .i64 b] 24)) := ((Ext.refl w).alloc _).alloc _
  have h0 : ((w.alloc (.cells #[.int .i64 s] 3)).alloc (.cells #[.int .i64 a, .int .i64 b] 24)).cell? ⟨w.heap.size, 0, none⟩ = some (.int .i64 s) := by simp
  have h1 : ((w.alloc (.cells #[.int .i64 s] 3)).alloc (.cells #[.int .i64 a, .int .i64 b] 24)).cell? ⟨w.heap.size + 1, 0, none⟩ = some (.int .i64 a) := by simp
  have h2 : ((w.alloc (.cells #[.int .i64 s] 3)).alloc (.cells #[.int .i64 a, .int .i64 b] 24)).cell? ⟨w.heap.size + 1, 1, none⟩ = some (.int .i64 b) := by simp
  have HC := Lib.hid (indexFunc_any l s a b w.heap.size (w.heap.size + 1) ao cap _ (h.ext hX) h0 h1 h2)
  have HX := Lib.hid hX
  clear hX h0 h1 h2 h
  go_enter Try.func29, Try.ntmps29
  go_wp2_with fail
  generalize ((w.alloc (.cells #[.int .i64 s] 3)).alloc (.cells #[.int .i64 a, .int .i64 b] 24)) = w1 at *
  refine HC.out.mono ?_
  rintro e w2 ⟨rfl, hE⟩
  go_wp2_with fail
  go_ret
  exact ⟨rfl, HX.out.trans hE⟩
end Go.Proofs.Ytbhpeecebcihkaa
