import Derived.Test.YtahaplioegeloaaDoorC2
import Derived.Test.YtahaplioegeloaaDoorC3
namespace Go.Proofs.YtahaplioegeloaaDoor
open Go.RowKit Go.Sz

set_option maxHeartbeats 800000 in
theorem refCheck_any (v : V) (hv : v.ht ≤ 1000000) (w : World) (F : Nat → Prop) (cs : List Value) (hR : RepV w F cs v) :
    Calls Tryd.prog 52 #[.agg cs.toArray] w fun e w' => e = .returned (.int .i64 (checkV v)) ∧ Ext w w' := by
  have hd : v.dep ≤ 1000000 := Nat.le_trans (V.dep_le_ht _ v hv) hv
  cases v with
  | mk k n s l =>
    obtain ⟨ao, cap, rows, rfl, hk, hn, hs, hsl, hF, hlen, hel⟩ := hR.open
    have HF : Hid (∀ w', Ext w w' → Calls Tryd.prog 70 #[.agg #[.int .i64 k, .int .i64 n, .string s, .slice ao l.length cap]] w' fun e w'' => e = .returned (.bool (V.mk k n s l).wf) ∧ Ext w' w'') :=
      fun w' hE => Formed_any _ _ (Nat.le_refl _) w' F _ (hR.ext hE)
    have HD : Hid (∀ w', Ext w w' → Calls Tryd.prog 71 #[.agg #[.int .i64 k, .int .i64 n, .string s, .slice ao l.length cap]] w' fun e w'' => e = .returned (.int .i64 (V.mk k n s l).dep) ∧ Ext w' w'') :=
      fun w' hE => Depth_any _ (Nat.le_refl _) _ hv w' F _ (hR.ext hE)
    clear hR hel hsl hF hlen hk hn hs hv
    have HX : Hid (checkV (.mk k n s l) = if (V.mk k n s l).wf then (if (V.mk k n s l).dep ≤ 16 then 0 else 2) else 1) := rfl
    obtain ⟨d, hdd⟩ : ∃ d : Nat, d = (V.mk k n s l).dep := ⟨_, rfl⟩
    obtain ⟨b, hbb⟩ : ∃ b : Bool, b = (V.mk k n s l).wf := ⟨_, rfl⟩
    rw [← hdd] at HD HX hd
    rw [← hbb] at HF HX
    clear hdd hbb
    cases b with
    | true =>
      go_enter Tryd.func52, Tryd.ntmps52
      go_wp2_with fail
      refine (HF.out _ (Ext.alloc (Ext.refl _) _)).mono ?_
      rintro e w' ⟨rfl, hE⟩
      have hE0 := (Ext.alloc (Ext.refl w) _).trans hE
      have m0 : w'.cell? ⟨w.heap.size, 0, none⟩ = some (.int .i64 k) := hE.cell (by simp)
      have m1 : w'.cell? ⟨w.heap.size, 1, none⟩ = some (.int .i64 n) := hE.cell (by simp)
      have m2 : w'.cell? ⟨w.heap.size, 2, none⟩ = some (.string s) := hE.cell (by simp)
      have m3 : w'.cell? ⟨w.heap.size, 3, none⟩ = some (.slice ao l.length cap) := hE.cell (by simp)
      go_wp2_with (go_at_call 71; refine (HD.out _ hE0).mono ?_; rintro e w2 ⟨rfl, hE2⟩)
      · go_ret
        exact ⟨by rw [HX.out]; simp only [if_true]; rw [if_neg (by omega)]; rfl, hE0.trans hE2⟩
      · go_ret
        exact ⟨by rw [HX.out]; simp only [if_true]; rw [if_pos (by omega)]; rfl, hE0.trans hE2⟩
    | false =>
      go_enter Tryd.func52, Tryd.ntmps52
      go_wp2_with (go_at_call 70; refine (HF.out _ (Ext.alloc (Ext.refl _) _)).mono ?_; rintro e w' ⟨rfl, hE⟩)
      go_ret
      exact ⟨by rw [HX.out]; rfl, (Ext.alloc (Ext.refl _) _).trans hE⟩

end Go.Proofs.YtahaplioegeloaaDoor
