import Derived.Test.YtahaplioegeloaaDoorC7
import Derived.Deep.RegionLaw
import Derived.Test.YtahaplioegeloaaDoorC4
namespace Go.Sz
open Go.RowKit
theorem Tab.ext {w w' : World} {h f1 f2 f3 : Nat} (H : Tab w h f1 f2 f3) (hE : Ext w w') : Tab w' h f1 f2 f3 := ⟨hE.cell H.c1, hE.cell H.c2, hE.cell H.c3, hE.cell H.c⟩
theorem Tab.size {w : World} {h f1 f2 f3 : Nat} (H : Tab w h f1 f2 f3) : h + 1 < w.heap.size := World.block_lt_of_cell? _ _ H.c
theorem Grows.ext_nil {w w' : World} {v' : Value} (h : Grows w (.slice none 0 0) w' v') : Ext w w' := h.ext fun k hk => by simp [Value.ownBlock] at hk
end Go.Sz
namespace Go.Proofs.YtahaplioegeloaaDoor
open Go.RowKit Go.Sz

theorem checkV_wf {v : V} (h : checkV v = 0) : v.wf = true := by
  unfold checkV at h
  split at h
  · assumption
  · cases h

/-- what a call of Encode leaves -/
def encOut (v : V) : List UInt8 := if checkV v = 0 then v.enc else []

set_option maxRecDepth 100000 in
set_option maxHeartbeats 3200000 in
theorem encode_any (v : V) (hv : v.ht ≤ 1000000) (w : World) (F : Nat → Prop) (cs : List Value) (hR : RepV w F cs v) (hFb : ∀ b, F b → b < w.heap.size) (hb : v.enc.length ≤ 1000000) :
    Calls Tryd.prog 32 #[.agg cs.toArray] w fun e w' => ∃ v', e = .returned (.tuple #[v', .int .i64 (checkV v)]) ∧ OwnB w' w.heap.size v' (encOut v) ∧ Ext w w' := by
  cases v with
  | mk k n s l =>
    obtain ⟨ao, cap, rows, rfl, hk, hn, hs, hsl, hF, hlen, hel⟩ := hR.open
    have HC : Hid (∀ w', Ext w w' → Calls Tryd.prog 49 #[.agg #[.int .i64 k, .int .i64 n, .string s, .slice ao l.length cap]] w' fun e w'' => e = .returned (.int .i64 (checkV (.mk k n s l))) ∧ Ext w' w'') :=
      fun w' hE => check_any _ hv w' F _ (hR.ext hE)
    have HN := Lib.hid hn
    have HSL := Lib.hid hsl
    have HF := Lib.hid hF
    have HLEN := Lib.hid hlen
    have HEL := Lib.hid hel
    have HFB := Lib.hid hFb
    clear hR hel hsl hF hlen hk hn hs hv hFb
    by_cases h0 : checkV (.mk k n s l) = 0
    · have hwf := checkV_wf h0
      have HEN : Hid (encOut (.mk k n s l) = (V.mk k n s l).enc) := by unfold encOut; exact if_pos h0
      rw [h0] at HC ⊢
      clear h0
      rcases V.wf_kind hwf with rfl | rfl | ⟨rfl, hwl⟩
      · have hsz : ([] : List UInt8).length + (1 :: digits (zig n).toNat).length ≤ 1000000 := by simp [V.enc] at hb ⊢; omega
        have HSZ := Lib.hid hsz
        clear hsz hb hwf
        go_enter Tryd.func32, Tryd.ntmps32
        go_wp2_with (go_at_call 49; refine (HC.out _ (Ext.alloc (Ext.refl _) _)).mono ?_; rintro e wc ⟨rfl, hE⟩)
        have hE1 : Ext w (w.alloc (Obj.cells #[Value.int IntKind.i64 1, Value.int IntKind.i64 n, Value.string s, Value.slice ao l.length cap] 59)) := (Ext.refl _).alloc _
        have hE2 := hE1.trans hE
        have b0 : wc.cell? ⟨w.heap.size, 0, none⟩ = some (.int .i64 1) := hE.cell (by simp)
        have b1 : wc.cell? ⟨w.heap.size, 1, none⟩ = some (.int .i64 n) := hE.cell (by simp)
        have b2 : wc.cell? ⟨w.heap.size, 2, none⟩ = some (.string s) := hE.cell (by simp)
        have b3 : wc.cell? ⟨w.heap.size, 3, none⟩ = some (.slice ao l.length cap) := hE.cell (by simp)
        clear hE1
        go_region_law
          (first
            | (go_simp; go_at_call 50; refine (newWriter_any _).mono ?_; rintro e wt ⟨rfl, hE3', t1, t2, t3, t4⟩; have hE3 : Ext wc wt := (Ext.refl wc).drew.trans hE3'; have d0 := hE3.cell b0; have d1 := hE3.cell b1; have d2 := hE3.cell b2; have d3 := hE3.cell b3; have hTab : Tab wt wc.heap.size 65 68 69 := ⟨t1, t2, t3, t4⟩; have hTS := hTab.size; simp only [World.size_drew] at *)
            | (go_simp; go_at_call 65; refine (writer1_any n s _ _ [] _ _ HN.out (World.ownsRow_nil _ _ _ _) (Nat.le_refl _) HSZ.out).mono ?_; rintro e wx ⟨vx, rfl, hox, hgx⟩))
        all_goals
          go_wp2_with fail
          go_ret2
          refine ⟨vx, rfl, ?_, (hE2.trans hE3).trans hgx.ext_nil⟩
          rw [HEN.out]
          refine ownsRow_base (OwnB.of (bs := V.enc _) hox ?_) (hE2.trans hE3).size
          simp [V.enc]
      · have hsz : ([] : List UInt8).length + (2 :: (digits s.size ++ bytesOf s)).length ≤ 1000000 := by simp [V.enc] at hb ⊢; omega
        have HSZ := Lib.hid hsz
        clear hsz hb hwf
        go_enter Tryd.func32, Tryd.ntmps32
        go_wp2_with (go_at_call 49; refine (HC.out _ (Ext.alloc (Ext.refl _) _)).mono ?_; rintro e wc ⟨rfl, hE⟩)
        have hE1 : Ext w (w.alloc (Obj.cells #[Value.int IntKind.i64 2, Value.int IntKind.i64 n, Value.string s, Value.slice ao l.length cap] 59)) := (Ext.refl _).alloc _
        have hE2 := hE1.trans hE
        have b0 : wc.cell? ⟨w.heap.size, 0, none⟩ = some (.int .i64 2) := hE.cell (by simp)
        have b1 : wc.cell? ⟨w.heap.size, 1, none⟩ = some (.int .i64 n) := hE.cell (by simp)
        have b2 : wc.cell? ⟨w.heap.size, 2, none⟩ = some (.string s) := hE.cell (by simp)
        have b3 : wc.cell? ⟨w.heap.size, 3, none⟩ = some (.slice ao l.length cap) := hE.cell (by simp)
        clear hE1
        go_region_law
          (first
            | (go_simp; go_at_call 50; refine (newWriter_any _).mono ?_; rintro e wt ⟨rfl, hE3', t1, t2, t3, t4⟩; have hE3 : Ext wc wt := (Ext.refl wc).drew.trans hE3'; have d0 := hE3.cell b0; have d1 := hE3.cell b1; have d2 := hE3.cell b2; have d3 := hE3.cell b3; have hTab : Tab wt wc.heap.size 65 68 69 := ⟨t1, t2, t3, t4⟩; have hTS := hTab.size; simp only [World.size_drew] at *)
            | (go_simp; go_at_call 68; refine (writer2_any s _ _ _ [] _ _ (World.ownsRow_nil _ _ _ _) (Nat.le_refl _) HSZ.out).mono ?_; rintro e wx ⟨vx, rfl, hox, hgx⟩))
        all_goals
          go_wp2_with fail
          go_ret2
          refine ⟨vx, rfl, ?_, (hE2.trans hE3).trans hgx.ext_nil⟩
          rw [HEN.out]
          refine ownsRow_base (OwnB.of (bs := V.enc _) hox ?_) (hE2.trans hE3).size
          simp [V.enc]
      · have hsz : ([] : List UInt8).length + (3 :: (digits l.length ++ V.encL l)).length ≤ 1000000 := by simp [V.enc] at hb ⊢; omega
        have HSZ := Lib.hid hsz
        have HWL := Lib.hid hwl
        clear hsz hb hwf
        go_enter Tryd.func32, Tryd.ntmps32
        go_wp2_with (go_at_call 49; refine (HC.out _ (Ext.alloc (Ext.refl _) _)).mono ?_; rintro e wc ⟨rfl, hE⟩)
        have hE1 : Ext w (w.alloc (Obj.cells #[Value.int IntKind.i64 3, Value.int IntKind.i64 n, Value.string s, Value.slice ao l.length cap] 59)) := (Ext.refl _).alloc _
        have hE2 := hE1.trans hE
        have b0 : wc.cell? ⟨w.heap.size, 0, none⟩ = some (.int .i64 3) := hE.cell (by simp)
        have b1 : wc.cell? ⟨w.heap.size, 1, none⟩ = some (.int .i64 n) := hE.cell (by simp)
        have b2 : wc.cell? ⟨w.heap.size, 2, none⟩ = some (.string s) := hE.cell (by simp)
        have b3 : wc.cell? ⟨w.heap.size, 3, none⟩ = some (.slice ao l.length cap) := hE.cell (by simp)
        clear hE1
        go_region_law
          (first
            | (go_simp; go_at_call 50; refine (newWriter_any _).mono ?_; rintro e wt ⟨rfl, hE3', t1, t2, t3, t4⟩; have hE3 : Ext wc wt := (Ext.refl wc).drew.trans hE3'; have d0 := hE3.cell b0; have d1 := hE3.cell b1; have d2 := hE3.cell b2; have d3 := hE3.cell b3; have hTab : Tab wt wc.heap.size 65 68 69 := ⟨t1, t2, t3, t4⟩; have hTS := hTab.size; simp only [World.size_drew] at *)
            | (go_simp; go_at_call 69; refine (writer3_any _ l _ _ rows F _ _ _ [] _ _ wc.heap.size (Nat.le_refl _) HWL.out (HSL.out.ext (hE2.trans hE3)) HF.out HLEN.out (fun i r x h1 h2 => (HEL.out i r x h1 h2).ext (hE2.trans hE3)) (fun b hb => Nat.lt_of_lt_of_le (HFB.out b hb) (hE2.trans hE3).size) hTS hTab (World.ownsRow_nil _ _ _ _) (Nat.le_refl _) HSZ.out).mono ?_; rintro e wx ⟨vx, rfl, hox, hgx⟩))
        all_goals
          go_wp2_with fail
          go_ret2
          refine ⟨vx, rfl, ?_, (hE2.trans hE3).trans hgx.ext_nil⟩
          rw [HEN.out]
          refine ownsRow_base (OwnB.of (bs := V.enc _) hox ?_) (hE2.trans hE3).size
          simp [V.enc]
    · have HEN : Hid (encOut (.mk k n s l) = []) := by unfold encOut; exact if_neg h0
      obtain ⟨c, hc⟩ : ∃ c, c = checkV (.mk k n s l) := ⟨_, rfl⟩
      rw [← hc] at h0 HC ⊢
      have h0' : (c != 0) = true := by simpa using h0
      clear hc h0
      go_enter Tryd.func32, Tryd.ntmps32
      go_wp2_with (go_at_call 49; refine (HC.out _ (Ext.alloc (Ext.refl _) _)).mono ?_; rintro e wc ⟨rfl, hE⟩)
      go_ret2
      refine ⟨_, rfl, ?_, ((Ext.refl w).alloc _).trans hE⟩
      rw [HEN.out]
      exact World.ownsRow_nil _ _ _ _

end Go.Proofs.YtahaplioegeloaaDoor
