/- Waiting: Of, of the program and of the reference. -/
import Derived.Test.YtbhpeecebcihkaaWG
namespace Go.Sz
open Go.RowKit
theorem brows_wid (l : List Bd) : ∀ r ∈ brows l, r.length = 2 := fun r hr => by
  obtain ⟨x, _, rfl⟩ := List.mem_map.1 hr
  rfl
theorem brows_append (l m : List Bd) : brows (l ++ m) = brows l ++ brows m := by simp [brows]
theorem RepB.of_own {w : World} {D t : Nat} {v : Value} {l : List Bd} {n : Nat} (h : w.ownsRow D t 2 v n (brows l).flatten) (hn : l.length = n) : ∃ ao cap, v = .slice ao n cap ∧ RepB w ao cap l ∧ (∀ a, ao = some a → D ≤ a.block) := SL.of_own h (brows_wid l) (by rw [brows_length]; exact hn)
theorem bd_one (a b : Int) : ∀ u ∈ [Value.int .i64 a, Value.int .i64 b], u.oneCell' = true := fun u hu => by
  simp only [List.mem_cons, List.not_mem_nil, or_false] at hu
  rcases hu with rfl | rfl <;> rfl
theorem ofW_len (l : List Wt) (s : Int) : (ofW l s).length ≤ l.length := by unfold ofW; rw [List.length_map]; exact List.length_filter_le _ _
/-- a list of bundles -/
def RetB (l : List Bd) (w : World) (e : Ending) (w' : World) : Prop := ∃ ao cap, e = .returned (.slice ao l.length cap) ∧ RepB w' ao cap l ∧ Ext w w'
end Go.Sz
namespace Go.Proofs.Ytbhpeecebcihkaa
open Go.RowKit Go.Sz
theorem infoB : (Try.prog.info? 24).map (fun i => (i.zero, i.size, i.bytes)) = some (some (.agg #[.int .i64 0, .int .i64 0]), 2, 16) := by kernel_rfl
set_option maxRecDepth 100000 in
set_option maxHeartbeats 6400000 in
theorem of_any (l : List Wt) (s : Int) (ao : Option Addr) (cap : Nat) (w : World) (h : RepW w ao cap l) (hb : l.length ≤ 100000) : Calls Try.prog 24 #[.slice ao l.length cap, .int .i64 s] w (RetB (ofW l s) w) := by
  obtain ⟨i0, hi, hz0, hz1, hz2⟩ := info_parts infoB
  have HL := Lib.hid h
  have hs1 := h.max
  have HBB := Lib.hid hb
  clear h hb
  have HO0 := Lib.hid (World.ownsRow_nil w w.heap.size 24 2)
  have HE0 : Hid (Ext w w) := Lib.hid (Ext.refl w)
  go_enter Try.func24, Try.ntmps24
  go_wp2_with fail
  go_loopw [4, 9] (fun v iv wr => ∃ k : Nat, iv = .int .i64 k ∧ k ≤ l.length ∧ wr.ownsRow w.heap.size 24 2 v (ofW (l.take k) s).length (brows (ofW (l.take k) s)).flatten ∧ Ext w wr) (fun _ iv _ => l.length - (intOf iv).toNat)
  case atStart => exact ⟨0, rfl, by omega, HO0.out, HE0.out⟩
  case round =>
    obtain ⟨k, rfl, hk, ho, hB⟩ := hrel
    have HB := Lib.hid hB
    have HO := Lib.hid ho
    have HLE : Hid ((ofW (l.take k) s).length ≤ 100000) := Lib.hid (by have := HBB.out; have := ofW_len (l.take k) s; rw [List.length_take] at this; omega)
    clear hB ho
    by_cases hlt : k < l.length
    · have hki : (k : Int) < (l.length : Int) := by omega
      obtain ⟨b, o, rfl, c0, c1, c2, c3, c4⟩ := w_cells HL.out HB.out hlt
      have HTK := Lib.hid (ofW_take hlt s)
      generalize l[k] = x at *
      generalize ofW (l.take k) s = E at *
      cases hc : (x.s == s) with
      | false =>
        have HN : Hid (ofW (l.take (k + 1)) s = E) := Lib.hid (by rw [HTK.out, hc]; simp)
        go_wp2_with fail
        go_roundw
        case rel => exact ⟨k + 1, by go_num, by omega, by rw [HN.out]; exact ownsRow_ext HO.out ((Ext.refl wr).alloc (.cells #[.int .i64 x.s, .int .i64 x.a, .int .i64 x.b, .int .i64 x.k, .int .i64 x.t] 26)), HB.out.alloc (.cells #[.int .i64 x.s, .int .i64 x.a, .int .i64 x.b, .int .i64 x.k, .int .i64 x.t] 26)⟩
        case measure => simp [intOf] <;> omega
      | true =>
        have HN : Hid (ofW (l.take (k + 1)) s = E ++ [(x.a, x.b)]) := Lib.hid (by rw [HTK.out, hc]; simp)
        have hX : Ext wr ((wr.alloc (.cells #[.int .i64 x.s, .int .i64 x.a, .int .i64 x.b, .int .i64 x.k, .int .i64 x.t] 26)).alloc (.cells #[.int .i64 x.a, .int .i64 x.b] 24)) := ((Ext.refl wr).alloc _).alloc _
        have HOA := Lib.hid (ownsRow_ext HO.out hX)
        have HSZ : Hid (w.heap.size ≤ ((wr.alloc (.cells #[.int .i64 x.s, .int .i64 x.a, .int .i64 x.b, .int .i64 x.k, .int .i64 x.t] 26)).alloc (.cells #[.int .i64 x.a, .int .i64 x.b] 24)).heap.size) := Lib.hid (HB.out.trans hX).size
        have q0 : ((wr.alloc (.cells #[.int .i64 x.s, .int .i64 x.a, .int .i64 x.b, .int .i64 x.k, .int .i64 x.t] 26)).alloc (.cells #[.int .i64 x.a, .int .i64 x.b] 24)).cell? ⟨wr.heap.size + 1, 0, none⟩ = some (.int .i64 x.a) := by simp
        have q1 : ((wr.alloc (.cells #[.int .i64 x.s, .int .i64 x.a, .int .i64 x.b, .int .i64 x.k, .int .i64 x.t] 26)).alloc (.cells #[.int .i64 x.a, .int .i64 x.b] 24)).cell? ⟨wr.heap.size + 1, 1, none⟩ = some (.int .i64 x.b) := by simp
        have HQ := Lib.hid (two_cells q0 q1)
        have HX := Lib.hid hX
        clear hX q0 q1
        go_wp2_with (at_builtin; refine wpList_append_S rfl _ _ 41 41 rfl w.heap.size 24 i0 _ 2 16 Try.underlying41 hi hz0 hz1 hz2 rfl _ _ _ rfl HOA.out (.slice (some ⟨wr.heap.size + 1, 0, none⟩) 1 1) 1 [.int .i64 x.a, .int .i64 x.b] rfl (Src.ofSlice _ Try.underlying41 ⟨wr.heap.size + 1, 0, none⟩ 1 1 _ rfl HQ.out (bd_one _ _)) (by have := HLE.out; unfold maxLen; omega) (by have := HLE.out; omega) HSZ.out ?_; intro v6 w6 ho6 hg6; have HO6 := Lib.hid ho6; have HG6 := Lib.hid hg6; clear ho6 hg6)
        go_roundw
        case rel => exact ⟨k + 1, by go_num, by omega, by rw [HN.out]; simp only [brows_append, List.flatten_append, List.length_append]; exact HO6.out, Ext.trans' (HB.out.trans HX.out) HG6.out (ownsRow_blocks HOA.out)⟩
        case measure => simp [intOf] <;> omega
    · have hki : ¬ (k : Int) < (l.length : Int) := by omega
      have HE : Hid (ofW (l.take k) s = ofW l s) := Lib.hid (by rw [List.take_of_length_le (by omega)])
      obtain ⟨a3, c3, rfl, hR3, _⟩ := RepB.of_own HO.out rfl
      have HR3 := Lib.hid hR3
      clear hR3
      go_wp2_with fail
      go_ret
      rw [← HE.out]
      exact ⟨a3, c3, rfl, HR3.out, HB.out⟩
set_option maxRecDepth 100000 in
set_option maxHeartbeats 6400000 in
theorem refOf_any (l : List Wt) (s : Int) (ao : Option Addr) (cap : Nat) (w : World) (h : RepW w ao cap l) (hb : l.length ≤ 100000) : Calls Try.prog 25 #[.slice ao l.length cap, .int .i64 s] w (RetB (ofW l s) w) := by
  obtain ⟨i0, hi, hz0, hz1, hz2⟩ := info_parts infoB
  have HL := Lib.hid h
  have hs1 := h.max
  have HBB := Lib.hid hb
  clear h hb
  have HO0 := Lib.hid (own_empty w w.heap.size (Nat.le_refl _) 24 2)
  have HE0 : Hid (Ext w (w.alloc (.cells #[] 24))) := Lib.hid ((Ext.refl w).alloc _)
  go_enter Try.func25, Try.ntmps25
  go_wp2_with fail
  go_loopw [5, 6] (fun v iv wr => ∃ k : Nat, iv = .int .i64 k ∧ k ≤ l.length ∧ wr.ownsRow w.heap.size 24 2 v (ofW (l.take k) s).length (brows (ofW (l.take k) s)).flatten ∧ Ext w wr) (fun _ iv _ => l.length - (intOf iv).toNat)
  case atStart => exact ⟨0, rfl, by omega, HO0.out, HE0.out⟩
  case round =>
    obtain ⟨k, rfl, hk, ho, hB⟩ := hrel
    have HB := Lib.hid hB
    have HO := Lib.hid ho
    have HLE : Hid ((ofW (l.take k) s).length ≤ 100000) := Lib.hid (by have := HBB.out; have := ofW_len (l.take k) s; rw [List.length_take] at this; omega)
    clear hB ho
    by_cases hlt : k < l.length
    · have hki : (k : Int) < (l.length : Int) := by omega
      obtain ⟨b, o, rfl, c0, c1, c2, c3, c4⟩ := w_cells HL.out HB.out hlt
      have HTK := Lib.hid (ofW_take hlt s)
      generalize l[k] = x at *
      generalize ofW (l.take k) s = E at *
      cases hc : (x.s == s) with
      | false =>
        have HN : Hid (ofW (l.take (k + 1)) s = E) := Lib.hid (by rw [HTK.out, hc]; simp)
        go_wp2_with fail
        go_roundw
        case rel => exact ⟨k + 1, by go_num, by omega, by rw [HN.out]; exact HO.out, HB.out⟩
        case measure => simp [intOf] <;> omega
      | true =>
        have HN : Hid (ofW (l.take (k + 1)) s = E ++ [(x.a, x.b)]) := Lib.hid (by rw [HTK.out, hc]; simp)
        have hX : Ext wr (wr.alloc (.cells #[.int .i64 x.a, .int .i64 x.b] 24)) := (Ext.refl wr).alloc _
        have HOA := Lib.hid (ownsRow_ext HO.out hX)
        have HSZ : Hid (w.heap.size ≤ (wr.alloc (.cells #[.int .i64 x.a, .int .i64 x.b] 24)).heap.size) := Lib.hid (HB.out.trans hX).size
        have q0 : (wr.alloc (.cells #[.int .i64 x.a, .int .i64 x.b] 24)).cell? ⟨wr.heap.size, 0, none⟩ = some (.int .i64 x.a) := by simp
        have q1 : (wr.alloc (.cells #[.int .i64 x.a, .int .i64 x.b] 24)).cell? ⟨wr.heap.size, 1, none⟩ = some (.int .i64 x.b) := by simp
        have HQ := Lib.hid (two_cells q0 q1)
        have HX := Lib.hid hX
        clear hX q0 q1
        go_wp2_with (at_builtin; refine wpList_append_S rfl _ _ 41 41 rfl w.heap.size 24 i0 _ 2 16 Try.underlying41 hi hz0 hz1 hz2 rfl _ _ _ rfl HOA.out (.slice (some ⟨wr.heap.size, 0, none⟩) 1 1) 1 [.int .i64 x.a, .int .i64 x.b] rfl (Src.ofSlice _ Try.underlying41 ⟨wr.heap.size, 0, none⟩ 1 1 _ rfl HQ.out (bd_one _ _)) (by have := HLE.out; unfold maxLen; omega) (by have := HLE.out; omega) HSZ.out ?_; intro v6 w6 ho6 hg6; have HO6 := Lib.hid ho6; have HG6 := Lib.hid hg6; clear ho6 hg6)
        go_roundw
        case rel => exact ⟨k + 1, by go_num, by omega, by rw [HN.out]; simp only [brows_append, List.flatten_append, List.length_append]; exact HO6.out, Ext.trans' (HB.out.trans HX.out) HG6.out (ownsRow_blocks HOA.out)⟩
        case measure => simp [intOf] <;> omega
    · have hki : ¬ (k : Int) < (l.length : Int) := by omega
      have HE : Hid (ofW (l.take k) s = ofW l s) := Lib.hid (by rw [List.take_of_length_le (by omega)])
      obtain ⟨a3, c3, rfl, hR3, _⟩ := RepB.of_own HO.out rfl
      have HR3 := Lib.hid hR3
      clear hR3
      go_wp2_with fail
      go_ret
      rw [← HE.out]
      exact ⟨a3, c3, rfl, HR3.out, HB.out⟩
end Go.Proofs.Ytbhpeecebcihkaa
