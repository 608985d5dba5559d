/- Offers: Expire of the reference. -/
import Derived.Test.YtbnaoefmjmlfbaaOE
namespace Go.Sz
open Go.RowKit
theorem expO_take {l : List Off} {k : Nat} (h : k < l.length) (now : Int) : expO (l.take (k + 1)) now = if now < l[k].u then ((expO (l.take k) now).1 ++ [l[k]], (expO (l.take k) now).2) else ((expO (l.take k) now).1, (expO (l.take k) now).2 ++ [l[k]]) := by
  unfold expO
  rw [List.take_succ_eq_append_getElem h, List.filter_append, List.filter_append]
  by_cases hc : now < l[k].u <;> simp [hc]
theorem expO_len (l : List Off) (now : Int) : (expO l now).1.length ≤ l.length ∧ (expO l now).2.length ≤ l.length := ⟨List.length_filter_le _ _, List.length_filter_le _ _⟩
/-- behind an append onto the first of two rows -/
theorem two_rows {W w1 : World} {D e size : Nat} {u v v' : Value} {j : Nat} {zs : List Value} {tmp : Obj} (hv : W.ownsRow D e size v j zs) (hap : Apart2 u v) (hg : Grows (W.alloc tmp) u w1 v') : w1.ownsRow D e size v j zs ∧ Apart2 v' v := by
  have hl := ownsRow_lt' hv
  refine ⟨ownsRow_heap (ownsRow_ext hv ((Ext.refl W).alloc tmp)) fun k hk => hg.by_.block k (by have := hl k hk; simp; omega) (fun e => hap k e.symm hk), fun k h1 h2 => ?_⟩
  rcases hg.own k h1 with h | h
  · exact hap k h h2
  · have := hl k h2
    rw [World.size_alloc] at h
    omega
end Go.Sz
namespace Go.Proofs.Ytbnaoefmjmlfbaa
open Go.RowKit Go.Sz
set_option maxRecDepth 100000 in
set_option maxHeartbeats 6400000 in
theorem refExpire_any (l : List Off) (now : Int) (ao : Option Addr) (cap : Nat) (w : World) (h : RepO w ao cap l) (hb : l.length ≤ 100000) : Calls Try.prog 18 #[.slice ao l.length cap, .int .i64 now] w (RetLL (expO l now) w) := by
  obtain ⟨i0, hi, hz0, hz1, hz2⟩ := info_parts infoO
  have HL := Lib.hid h
  have hs1 := h.max
  have HBB := Lib.hid hb
  clear h hb
  have hX : Ext w ((w.alloc (.cells #[] 26)).alloc (.cells #[] 26)) := ((Ext.refl w).alloc _).alloc _
  have ho1 : ((w.alloc (.cells #[] 26)).alloc (.cells #[] 26)).ownsRow w.heap.size 26 4 (.slice (some ⟨w.heap.size, 0, none⟩) 0 0) 0 [] := ownsRow_ext (own_empty w w.heap.size (Nat.le_refl _) 26 4) ((Ext.refl _).alloc _)
  have ho2 : ((w.alloc (.cells #[] 26)).alloc (.cells #[] 26)).ownsRow w.heap.size 26 4 (.slice (some ⟨w.heap.size + 1, 0, none⟩) 0 0) 0 [] := by
    have := own_empty (w.alloc (.cells #[] 26)) w.heap.size (by simp) 26 4
    rwa [World.size_alloc] at this
  have HO12 := Lib.hid (And.intro ho1 (And.intro ho2 hX))
  clear ho1 ho2 hX
  go_enter Try.func18, Try.ntmps18
  go_wp2_with fail
  go_loopw [6, 7, 8] (fun u v iv wr => ∃ k : Nat, iv = .int .i64 k ∧ k ≤ l.length ∧ wr.ownsRow w.heap.size 26 4 u (expO (l.take k) now).1.length (orows (expO (l.take k) now).1).flatten ∧ wr.ownsRow w.heap.size 26 4 v (expO (l.take k) now).2.length (orows (expO (l.take k) now).2).flatten ∧ Apart2 u v ∧ Ext w wr) (fun _ _ iv _ => l.length - (intOf iv).toNat)
  case atStart => exact ⟨0, rfl, by omega, HO12.out.1, HO12.out.2.1, fun k h1 h2 => by have e1 : some w.heap.size = some k := h1; have e2 : some (w.heap.size + 1) = some k := h2; injection e1 with e1; injection e2 with e2; omega, HO12.out.2.2⟩
  case round =>
    obtain ⟨k, rfl, hk, h3, h4, hap, hB⟩ := hrel
    have HB := Lib.hid hB
    have HAP := Lib.hid hap
    have H3 := Lib.hid h3
    have H4 := Lib.hid h4
    have HLE := Lib.hid (expO_len (l.take k) now)
    have HTL : Hid ((l.take k).length ≤ 100000) := Lib.hid (by have := HBB.out; rw [List.length_take]; omega)
    clear hB hap h3 h4
    by_cases hlt : k < l.length
    · have hki : (k : Int) < (l.length : Int) := by omega
      obtain ⟨b, o, rfl, c0, c1, c2, c3⟩ := o_cells HL.out HB.out hlt
      have HTK := Lib.hid (expO_take hlt now)
      generalize l[k] = x at *
      generalize expO (l.take k) now = E at *
      have HSZ : Hid (w.heap.size ≤ (wr.alloc (.cells #[.int .i64 x.s, .int .i64 x.a, .int .i64 x.b, .int .i64 x.u] 26)).heap.size) := Lib.hid (HB.out.alloc _).size
      by_cases hc : now < x.u
      · have HC := Lib.hid hc
        have HOA := Lib.hid (ownsRow_ext H3.out ((Ext.refl wr).alloc (.cells #[.int .i64 x.s, .int .i64 x.a, .int .i64 x.b, .int .i64 x.u] 26)))
        go_wp2_with (at_builtin; refine wpList_append_S rfl _ _ 22 22 rfl w.heap.size 26 i0 _ 4 32 Try.underlying22 hi hz0 hz1 hz2 rfl _ _ _ rfl HOA.out (.slice (some ⟨wr.heap.size, 0, none⟩) 1 1) 1 [.int .i64 x.s, .int .i64 x.a, .int .i64 x.b, .int .i64 x.u] rfl (Src.ofSlice _ Try.underlying22 ⟨wr.heap.size, 0, none⟩ 1 1 _ rfl (four_cells (by simp) (by simp) (by simp) (by simp)) (enc_one x)) (by have := HLE.out.1; have := HTL.out; unfold maxLen; omega) (by have := HLE.out.1; have := HTL.out; omega) HSZ.out ?_; intro v6 w6 ho6 hg6; have HO6 := Lib.hid ho6; have HG6 := Lib.hid hg6; clear ho6 hg6)
        obtain ⟨t1, t2⟩ := two_rows H4.out HAP.out HG6.out
        go_roundw
        case rel => exact ⟨k + 1, by go_num, by omega, by rw [HTK.out, if_pos HC.out]; simp only [orows_append, List.flatten_append, List.length_append]; exact HO6.out, by rw [HTK.out, if_pos HC.out]; exact t1, t2, Ext.trans' (HB.out.alloc (.cells #[.int .i64 x.s, .int .i64 x.a, .int .i64 x.b, .int .i64 x.u] 26)) HG6.out (ownsRow_blocks HOA.out)⟩
        case measure => simp [intOf] <;> omega
      · have HC := Lib.hid hc
        have HOA := Lib.hid (ownsRow_ext H4.out ((Ext.refl wr).alloc (.cells #[.int .i64 x.s, .int .i64 x.a, .int .i64 x.b, .int .i64 x.u] 26)))
        go_wp2_with (at_builtin; refine wpList_append_S rfl _ _ 22 22 rfl w.heap.size 26 i0 _ 4 32 Try.underlying22 hi hz0 hz1 hz2 rfl _ _ _ rfl HOA.out (.slice (some ⟨wr.heap.size, 0, none⟩) 1 1) 1 [.int .i64 x.s, .int .i64 x.a, .int .i64 x.b, .int .i64 x.u] rfl (Src.ofSlice _ Try.underlying22 ⟨wr.heap.size, 0, none⟩ 1 1 _ rfl (four_cells (by simp) (by simp) (by simp) (by simp)) (enc_one x)) (by have := HLE.out.2; have := HTL.out; unfold maxLen; omega) (by have := HLE.out.2; have := HTL.out; omega) HSZ.out ?_; intro v6 w6 ho6 hg6; have HO6 := Lib.hid ho6; have HG6 := Lib.hid hg6; clear ho6 hg6)
        obtain ⟨t1, t2⟩ := two_rows H3.out HAP.out.symm HG6.out
        go_roundw
        case rel => exact ⟨k + 1, by go_num, by omega, by rw [HTK.out, if_neg HC.out]; exact t1, by rw [HTK.out, if_neg HC.out]; simp only [orows_append, List.flatten_append, List.length_append]; exact HO6.out, t2.symm, Ext.trans' (HB.out.alloc (.cells #[.int .i64 x.s, .int .i64 x.a, .int .i64 x.b, .int .i64 x.u] 26)) HG6.out (ownsRow_blocks HOA.out)⟩
        case measure => simp [intOf] <;> omega
    · have hki : ¬ (k : Int) < (l.length : Int) := by omega
      have HE : Hid (expO (l.take k) now = expO l now) := Lib.hid (by rw [List.take_of_length_le (by omega)])
      obtain ⟨a3, c3, rfl, hR3, _⟩ := RepO.of_own H3.out rfl
      obtain ⟨a4, c4, rfl, hR4, _⟩ := RepO.of_own H4.out rfl
      have HR3 := Lib.hid hR3
      have HR4 := Lib.hid hR4
      clear hR3 hR4
      go_wp2_with fail
      go_ret2
      rw [← HE.out]
      exact ⟨a3, c3, a4, c4, rfl, HR3.out, HR4.out, HB.out⟩
end Go.Proofs.Ytbnaoefmjmlfbaa
