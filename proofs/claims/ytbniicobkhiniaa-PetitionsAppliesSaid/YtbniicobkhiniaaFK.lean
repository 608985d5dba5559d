/- Petitions: look and Active of the reference. -/
import Derived.Test.YtbniicobkhiniaaFE
import Derived.Test.YtbniicobkhiniaaFL
namespace Go.Sz
open Go.RowKit
def rdOf (k : Ky) (t : Int) : Rd := ⟨k.k, k.s, k.o, t, sucT t⟩
/-- what the reference's look answers -/
def RetLook (v : Int) (r : Rd) (w : World) (e : Ending) (w' : World) : Prop := ∃ ok : Bool, e = .returned (.tuple #[.int .i64 v, .bool ok, .agg r.enc.toArray]) ∧ (ok = false → v = 0) ∧ Ext w w'
theorem rrows_append (l l' : List Rd) : rrows (l ++ l') = rrows l ++ rrows l' := List.map_append
theorem rrows_wid (l : List Rd) : ∀ r ∈ rrows l, r.length = 5 := by
  intro r hr
  simp only [rrows, List.mem_map] at hr
  obtain ⟨x, _, rfl⟩ := hr
  rfl
theorem RepR.of_own {w : World} {D e n : Nat} {v : Value} {l : List Rd} (h : w.ownsRow D e 5 v n (rrows l).flatten) (hn : l.length = n) : ∃ ao cap, v = .slice ao l.length cap ∧ RepR w ao cap l := by
  obtain ⟨ao, cap, h1, h2, _⟩ := SL.of_own h (rrows_wid l) (by rw [rrows_length]; exact hn)
  exact ⟨ao, cap, by rw [h1, hn], h2⟩
/-- number, whether there is one, and the reads -/
def RetAct (v : Int) (b : Bool) (rs : List Rd) (w : World) (e : Ending) (w' : World) : Prop := ∃ ro rc, e = .returned (.tuple #[.int .i64 v, .bool b, .slice ro rs.length rc]) ∧ RepR w' ro rc rs ∧ Ext w w'
end Go.Sz
namespace Go.Proofs.Ytbniicobkhiniaa
open Go.RowKit Go.Sz
set_option maxRecDepth 100000 in
set_option maxHeartbeats 6400000 in
theorem refLook_any (l : List Ft) (k : Ky) (t kn : Int) (ht : inI64 t) (ao : Option Addr) (cap : Nat) (w : World) (h : RepF w ao cap l) : Calls Try.prog 30 #[.agg #[.slice none 0 0, .slice none 0 0, .slice none 0 0, .slice ao l.length cap], .agg #[.int .i64 k.k, .int .i64 k.s, .int .i64 k.o], .int .i64 t, .int .i64 kn] w (RetLook (lookF l k t kn) (rdOf k t) w) := by
  have HX0 : Hid (Ext w (((w.alloc (.cells #[.slice none 0 0, .slice none 0 0, .slice none 0 0, .slice ao l.length cap] 41)).alloc (.cells #[.int .i64 k.k, .int .i64 k.s, .int .i64 k.o] 26)).alloc (.cells #[.int .i64 0, .int .i64 0, .int .i64 0, .int .i64 0, .int .i64 0] 70))) := Lib.hid ((((Ext.refl w).alloc _).alloc _).alloc _)
  obtain ⟨t1, ht1⟩ : ∃ t1, IntKind.i64.wrap (t + 1) = t1 := ⟨_, rfl⟩
  have HT1 : Hid (sucT t = t1) := Lib.hid ht1
  have HPC := Lib.hid (refPoints_any l k t t1 kn ao cap _ (h.ext HX0.out))
  have HCS := Lib.hid (pts_cases l k kn ht)
  rw [HT1.out] at HCS
  obtain ⟨ps, hps⟩ : ∃ ps, ptsF l k t t1 kn = ps := ⟨_, rfl⟩
  rw [hps] at HPC HCS
  obtain ⟨vv, hvv⟩ : ∃ v, lookF l k t kn = v := ⟨_, rfl⟩
  rw [hvv] at HCS ⊢
  have HCZ : Hid (CB (((w.alloc (.cells #[.slice none 0 0, .slice none 0 0, .slice none 0 0, .slice ao l.length cap] 41)).alloc (.cells #[.int .i64 k.k, .int .i64 k.s, .int .i64 k.o] 26)).alloc (.cells #[.int .i64 0, .int .i64 0, .int .i64 0, .int .i64 0, .int .i64 0] 70)) (w.heap.size + 2) [.int .i64 0, .int .i64 0, .int .i64 0, .int .i64 0, .int .i64 0]) := Lib.hid (by
    have := cb_new ((w.alloc (.cells #[.slice none 0 0, .slice none 0 0, .slice none 0 0, .slice ao l.length cap] 41)).alloc (.cells #[.int .i64 k.k, .int .i64 k.s, .int .i64 k.o] 26)) [.int .i64 0, .int .i64 0, .int .i64 0, .int .i64 0, .int .i64 0] 70
    rwa [World.size_alloc, World.size_alloc] at this)
  have HKC : Hid (CB (((w.alloc (.cells #[.slice none 0 0, .slice none 0 0, .slice none 0 0, .slice ao l.length cap] 41)).alloc (.cells #[.int .i64 k.k, .int .i64 k.s, .int .i64 k.o] 26)).alloc (.cells #[.int .i64 0, .int .i64 0, .int .i64 0, .int .i64 0, .int .i64 0] 70)) (w.heap.size + 1) [.int .i64 k.k, .int .i64 k.s, .int .i64 k.o]) := Lib.hid ((by
    have := (cb_new (w.alloc (.cells #[.slice none 0 0, .slice none 0 0, .slice none 0 0, .slice ao l.length cap] 41)) [.int .i64 k.k, .int .i64 k.s, .int .i64 k.o] 26).ext (by simp) ((Ext.refl _).alloc (.cells #[.int .i64 0, .int .i64 0, .int .i64 0, .int .i64 0, .int .i64 0] 70))
    rwa [World.size_alloc] at this))
  have HLT : Hid (w.heap.size + 2 < (((w.alloc (.cells #[.slice none 0 0, .slice none 0 0, .slice none 0 0, .slice ao l.length cap] 41)).alloc (.cells #[.int .i64 k.k, .int .i64 k.s, .int .i64 k.o] 26)).alloc (.cells #[.int .i64 0, .int .i64 0, .int .i64 0, .int .i64 0, .int .i64 0] 70)).heap.size) := Lib.hid (by simp)
  clear hps hvv h ht
  rcases HCS.out with ⟨rfl, rfl⟩ | ⟨rfl, hv0⟩
  · go_enter Try.func30, Try.ntmps30
    go_wp2_with (go_at_call 43; refine HPC.out.mono ?_; rintro e w1 ⟨a9, c9, rfl, hR9, hE9⟩; have HE9 := Lib.hid hE9; have HR9 := Lib.hid hR9; clear hE9 hR9; have k0 := HKC.out.at_ 0 (.int .i64 k.k) rfl; have k1 := HKC.out.at_ 1 (.int .i64 k.s) rfl; have k2 := HKC.out.at_ 2 (.int .i64 k.o) rfl; replace k0 := HE9.out.cell k0; replace k1 := HE9.out.cell k1; replace k2 := HE9.out.cell k2)
    have HE2 := Lib.hid (HE9.out.alloc (.cells #[.int .i64 k.k, .int .i64 k.s, .int .i64 k.o, .int .i64 t, .int .i64 t1] 70))
    have f0 : (w1.alloc (.cells #[.int .i64 k.k, .int .i64 k.s, .int .i64 k.o, .int .i64 t, .int .i64 t1] 70)).cell? ⟨w1.heap.size, 0, none⟩ = some (.int .i64 k.k) := by simp
    have f1 : (w1.alloc (.cells #[.int .i64 k.k, .int .i64 k.s, .int .i64 k.o, .int .i64 t, .int .i64 t1] 70)).cell? ⟨w1.heap.size, 1, none⟩ = some (.int .i64 k.s) := by simp
    have f2 : (w1.alloc (.cells #[.int .i64 k.k, .int .i64 k.s, .int .i64 k.o, .int .i64 t, .int .i64 t1] 70)).cell? ⟨w1.heap.size, 2, none⟩ = some (.int .i64 k.o) := by simp
    have f3 : (w1.alloc (.cells #[.int .i64 k.k, .int .i64 k.s, .int .i64 k.o, .int .i64 t, .int .i64 t1] 70)).cell? ⟨w1.heap.size, 3, none⟩ = some (.int .i64 t) := by simp
    have f4 : (w1.alloc (.cells #[.int .i64 k.k, .int .i64 k.s, .int .i64 k.o, .int .i64 t, .int .i64 t1] 70)).cell? ⟨w1.heap.size, 4, none⟩ = some (.int .i64 t1) := by simp
    clear k0 k1 k2
    generalize hW2 : (w1.alloc (.cells #[.int .i64 k.k, .int .i64 k.s, .int .i64 k.o, .int .i64 t, .int .i64 t1] 70)) = w2 at *
    have gf0 := grow_cell f0
    have gf1 := grow_cell f1
    have gf2 := grow_cell f2
    have gf3 := grow_cell f3
    have gf4 := grow_cell f4
    refine wp_region_rel (fun _ => none) 3 1 (by kernel_rfl) (by kernel_rfl) ?_
    simp only [List.take_succ_cons, List.take_zero]
    repeat (first
      | (refine wpRel_quick ?_ ?_ ?_ ?_
         · rfl
         · rfl
         · first | exact noEnter rfl | (intro f args W W'; go_simp)
         intro K hK
         go_big_quiet_op
         go_big_quiet_on)
      | (refine wpRel_skip ?_ ?_
         · rfl
         simp only [Act.put, List.setIfInBounds_toArray, List.set_cons_zero, List.set_cons_succ]))
    refine wpRel_nil ?_
    intro W3 hW3
    have HE3 := Lib.hid (HE2.out.trans ((Ext.refl w2).drew.trans hW3.1))
    have z0 := HE3.out.cell (HCZ.out.at_ 0 (.int .i64 0) rfl)
    have z1 := HE3.out.cell (HCZ.out.at_ 1 (.int .i64 0) rfl)
    have z2 := HE3.out.cell (HCZ.out.at_ 2 (.int .i64 0) rfl)
    have z3 := HE3.out.cell (HCZ.out.at_ 3 (.int .i64 0) rfl)
    have z4 := HE3.out.cell (HCZ.out.at_ 4 (.int .i64 0) rfl)
    have zf := (HCZ.out.ext HLT.out HE3.out).fz
    clear hW3 hW2 f0 gf0 f1 gf1 f2 gf2 f3 gf3 f4 gf4
    refine wpAny_ready (rs := [3]) (by kernel_rfl) (by simp) ?_
    refine AllReady.cons rfl (fun K hK => ?_) AllReady.nil
    go_simp
    refine hK _ _ ?_
    clear hK K
    refine wpAny_done (by kernel_rfl) ?_ _
    go_wp2_with fail
    refine bodyPost_ret (v := .tuple #[.int .i64 0, .bool false, .agg #[.int .i64 k.k, .int .i64 k.s, .int .i64 k.o, .int .i64 t, .int .i64 t1]]) (by simp [results, Try.results30, go_sem, z0, z1, z2, z3, z4]; try rfl) rfl ?_
    refine ⟨false, by unfold rdOf; rw [HT1.out]; rfl, fun h => (by first | rfl | cases h), ?_⟩
    repeat refine Below.setCell ?_ (by simp <;> omega) _
    exact HX0.out.trans HE3.out
  · go_enter Try.func30, Try.ntmps30
    go_wp2_with (go_at_call 43; refine HPC.out.mono ?_; rintro e w1 ⟨a9, c9, rfl, hR9, hE9⟩; have HE9 := Lib.hid hE9; have HR9 := Lib.hid hR9; clear hE9 hR9; have k0 := HKC.out.at_ 0 (.int .i64 k.k) rfl; have k1 := HKC.out.at_ 1 (.int .i64 k.s) rfl; have k2 := HKC.out.at_ 2 (.int .i64 k.o) rfl; replace k0 := HE9.out.cell k0; replace k1 := HE9.out.cell k1; replace k2 := HE9.out.cell k2)
    have HE2 := Lib.hid (HE9.out.alloc (.cells #[.int .i64 k.k, .int .i64 k.s, .int .i64 k.o, .int .i64 t, .int .i64 t1] 70))
    have f0 : (w1.alloc (.cells #[.int .i64 k.k, .int .i64 k.s, .int .i64 k.o, .int .i64 t, .int .i64 t1] 70)).cell? ⟨w1.heap.size, 0, none⟩ = some (.int .i64 k.k) := by simp
    have f1 : (w1.alloc (.cells #[.int .i64 k.k, .int .i64 k.s, .int .i64 k.o, .int .i64 t, .int .i64 t1] 70)).cell? ⟨w1.heap.size, 1, none⟩ = some (.int .i64 k.s) := by simp
    have f2 : (w1.alloc (.cells #[.int .i64 k.k, .int .i64 k.s, .int .i64 k.o, .int .i64 t, .int .i64 t1] 70)).cell? ⟨w1.heap.size, 2, none⟩ = some (.int .i64 k.o) := by simp
    have f3 : (w1.alloc (.cells #[.int .i64 k.k, .int .i64 k.s, .int .i64 k.o, .int .i64 t, .int .i64 t1] 70)).cell? ⟨w1.heap.size, 3, none⟩ = some (.int .i64 t) := by simp
    have f4 : (w1.alloc (.cells #[.int .i64 k.k, .int .i64 k.s, .int .i64 k.o, .int .i64 t, .int .i64 t1] 70)).cell? ⟨w1.heap.size, 4, none⟩ = some (.int .i64 t1) := by simp
    obtain ⟨b9, o9, rfl, d0, d1⟩ := p_at HR9.out ((Ext.refl w1).alloc (.cells #[.int .i64 k.k, .int .i64 k.s, .int .i64 k.o, .int .i64 t, .int .i64 t1] 70)) (i := 0) (x := (t, vv)) rfl
    rw [Nat.zero_mul, Nat.add_zero] at d0 d1
    dsimp only at d0 d1
    clear k0 k1 k2
    generalize hW2 : (w1.alloc (.cells #[.int .i64 k.k, .int .i64 k.s, .int .i64 k.o, .int .i64 t, .int .i64 t1] 70)) = w2 at *
    have gf0 := grow_cell f0
    have gf1 := grow_cell f1
    have gf2 := grow_cell f2
    have gf3 := grow_cell f3
    have gf4 := grow_cell f4
    have gd0 := grow_cell d0
    have gd1 := grow_cell d1
    refine wp_region_rel (fun _ => none) 7 1 (by kernel_rfl) (by kernel_rfl) ?_
    simp only [List.take_succ_cons, List.take_zero]
    repeat (first
      | (refine wpRel_quick ?_ ?_ ?_ ?_
         · rfl
         · rfl
         · first | exact noEnter rfl | (intro f args W W'; go_simp)
         intro K hK
         go_big_quiet_op
         go_big_quiet_on)
      | (refine wpRel_skip ?_ ?_
         · rfl
         simp only [Act.put, List.setIfInBounds_toArray, List.set_cons_zero, List.set_cons_succ]))
    refine wpRel_nil ?_
    intro W3 hW3
    have HE3 := Lib.hid (HE2.out.trans ((Ext.refl w2).drew.trans hW3.1))
    have z0 := HE3.out.cell (HCZ.out.at_ 0 (.int .i64 0) rfl)
    have z1 := HE3.out.cell (HCZ.out.at_ 1 (.int .i64 0) rfl)
    have z2 := HE3.out.cell (HCZ.out.at_ 2 (.int .i64 0) rfl)
    have z3 := HE3.out.cell (HCZ.out.at_ 3 (.int .i64 0) rfl)
    have z4 := HE3.out.cell (HCZ.out.at_ 4 (.int .i64 0) rfl)
    have zf := (HCZ.out.ext HLT.out HE3.out).fz
    clear hW3 hW2 f0 gf0 f1 gf1 f2 gf2 f3 gf3 f4 gf4 d0 gd0 d1 gd1
    refine wpAny_ready (rs := [7]) (by kernel_rfl) (by simp) ?_
    refine AllReady.cons rfl (fun K hK => ?_) AllReady.nil
    go_simp
    refine hK _ _ ?_
    clear hK K
    refine wpAny_done (by kernel_rfl) ?_ _
    go_wp2_with fail
    refine bodyPost_ret (v := .tuple #[.int .i64 vv, .bool true, .agg #[.int .i64 k.k, .int .i64 k.s, .int .i64 k.o, .int .i64 t, .int .i64 t1]]) (by simp [results, Try.results30, go_sem, z0, z1, z2, z3, z4]; try rfl) rfl ?_
    refine ⟨true, by unfold rdOf; rw [HT1.out]; rfl, fun h => (by first | rfl | cases h), ?_⟩
    repeat refine Below.setCell ?_ (by simp <;> omega) _
    exact HX0.out.trans HE3.out
set_option maxRecDepth 100000 in
set_option maxHeartbeats 6400000 in
theorem refActive_any (l : List Ft) (sc st ob t kn : Int) (ht : inI64 t) (ao : Option Addr) (cap : Nat) (w : World) (h : RepF w ao cap l) : Calls Try.prog 15 #[.agg #[.slice none 0 0, .slice none 0 0, .slice none 0 0, .slice ao l.length cap], .int .i64 sc, .int .i64 st, .int .i64 ob, .int .i64 t, .int .i64 kn] w (RetAct (activeF l ⟨sc, st, ob⟩ t kn).1 (activeF l ⟨sc, st, ob⟩ t kn).2 [rdOf ⟨sc, st, ob⟩ t] w) := by
  have HX0 : Hid (Ext w (w.alloc (.cells #[.slice none 0 0, .slice none 0 0, .slice none 0 0, .slice ao l.length cap] 41))) := Lib.hid ((Ext.refl w).alloc _)
  obtain ⟨t1, ht1⟩ : ∃ t1, sucT t = t1 := ⟨_, rfl⟩
  have HT1 := Lib.hid ht1
  obtain ⟨vv, hvv⟩ : ∃ v, lookF l ⟨sc, st, ob⟩ t kn = v := ⟨_, rfl⟩
  have HV0 : Hid (0 ≤ vv) := Lib.hid (hvv ▸ lookF_nonneg l ⟨sc, st, ob⟩ t kn)
  have HPC : Hid (Calls Try.prog 30 #[.agg #[.slice none 0 0, .slice none 0 0, .slice none 0 0, .slice ao l.length cap], .agg #[.int .i64 sc, .int .i64 st, .int .i64 ob], .int .i64 t, .int .i64 kn] (w.alloc (.cells #[.slice none 0 0, .slice none 0 0, .slice none 0 0, .slice ao l.length cap] 41)) fun e w' => ∃ ok : Bool, e = .returned (.tuple #[.int .i64 vv, .bool ok, .agg #[.int .i64 sc, .int .i64 st, .int .i64 ob, .int .i64 t, .int .i64 t1]]) ∧ (ok = false → vv = 0) ∧ Ext (w.alloc (.cells #[.slice none 0 0, .slice none 0 0, .slice none 0 0, .slice ao l.length cap] 41)) w') := Lib.hid (by
    have := refLook_any l ⟨sc, st, ob⟩ t kn ht ao cap _ (h.ext HX0.out)
    unfold RetLook rdOf at this
    rw [hvv, ht1] at this
    exact this)
  have HA : Hid (activeF l ⟨sc, st, ob⟩ t kn = (vv, decide (0 < vv))) := Lib.hid (by unfold activeF; rw [hvv])
  clear ht1 hvv h ht
  by_cases hv : vv < 1
  · obtain rfl : vv = 0 := by have := HV0.out; omega
    go_enter Try.func15, Try.ntmps15
    go_wp2_with (go_at_call 30; refine HPC.out.mono ?_; rintro e w1 ⟨ok, rfl, hok, hE1⟩; have HE1 := Lib.hid hE1; clear hE1 hok; cases ok)
    all_goals
      have HE2 := Lib.hid (HX0.out.trans (HE1.out.alloc (.cells #[.int .i64 sc, .int .i64 st, .int .i64 ob, .int .i64 t, .int .i64 t1] 70)))
      have f0 : (w1.alloc (.cells #[.int .i64 sc, .int .i64 st, .int .i64 ob, .int .i64 t, .int .i64 t1] 70)).cell? ⟨w1.heap.size, 0, none⟩ = some (.int .i64 sc) := by simp
      have f1 : (w1.alloc (.cells #[.int .i64 sc, .int .i64 st, .int .i64 ob, .int .i64 t, .int .i64 t1] 70)).cell? ⟨w1.heap.size, 1, none⟩ = some (.int .i64 st) := by simp
      have f2 : (w1.alloc (.cells #[.int .i64 sc, .int .i64 st, .int .i64 ob, .int .i64 t, .int .i64 t1] 70)).cell? ⟨w1.heap.size, 2, none⟩ = some (.int .i64 ob) := by simp
      have f3 : (w1.alloc (.cells #[.int .i64 sc, .int .i64 st, .int .i64 ob, .int .i64 t, .int .i64 t1] 70)).cell? ⟨w1.heap.size, 3, none⟩ = some (.int .i64 t) := by simp
      have f4 : (w1.alloc (.cells #[.int .i64 sc, .int .i64 st, .int .i64 ob, .int .i64 t, .int .i64 t1] 70)).cell? ⟨w1.heap.size, 4, none⟩ = some (.int .i64 t1) := by simp
      generalize hW2 : (w1.alloc (.cells #[.int .i64 sc, .int .i64 st, .int .i64 ob, .int .i64 t, .int .i64 t1] 70)) = w2 at *
      have gf0 := grow_cell f0
      have gf1 := grow_cell f1
      have gf2 := grow_cell f2
      have gf3 := grow_cell f3
      have gf4 := grow_cell f4
      refine wp_region_rel_all (fun i => if i = 1 then some (spSL 5 1 1 [(⟨sc, st, ob, t, t1⟩ : Rd).enc]) else none) (by kernel_rfl) (by kernel_rfl) ?_
      repeat (first
        | (refine wpRel_quick ?_ ?_ ?_ ?_
           · rfl
           · rfl
           · first | exact noEnter rfl | (intro f args W W'; go_simp)
           intro K hK
           go_big_quiet_op
           go_big_quiet_on)
        | (refine wpRel_skip ?_ ?_
           · rfl
           simp only [Act.put, List.setIfInBounds_toArray, List.set_cons_zero, List.set_cons_succ]))
      refine wpRel_rich _ rfl rfl (fun W hW => ?_) (fun v W4 hW4 hv => ?_)
      · go_simp
        exact ⟨⟨_, rfl, sl_new W (⟨sc, st, ob, t, t1⟩ : Rd).enc 5 _ rfl⟩, (Ext.refl _).alloc _⟩
      obtain ⟨ap, rfl, _⟩ := hv
      clear hW4
      simp only [Act.put, List.setIfInBounds_toArray, List.set_cons_zero, List.set_cons_succ]
      repeat (first
        | (refine wpRel_quick ?_ ?_ ?_ ?_
           · rfl
           · rfl
           · first | exact noEnter rfl | (intro f args W W'; go_simp)
           intro K hK
           go_big_quiet_op
           go_big_quiet_on)
        | (refine wpRel_skip ?_ ?_
           · rfl
           simp only [Act.put, List.setIfInBounds_toArray, List.set_cons_zero, List.set_cons_succ]))
      refine wpRel_nil ?_
      intro W5 hW5
      obtain ⟨ap', hap, hs5⟩ := hW5.2 1 trivial _ _ rfl rfl
      cases hap
      have HS5 := Lib.hid hs5
      have HE5 := Lib.hid (HE2.out.trans ((Ext.refl w2).drew.trans hW5.1))
      clear hW5 hs5 hW2
      go_wp2_with fail
      refine bodyPost_ret (v := .tuple #[.int .i64 0, .bool false, .slice ap 1 1]) (by simp [results, Try.results15, go_sem]; try rfl) rfl ?_
      rw [HA.out]
      refine ⟨ap, 1, by simp, ?_, HE5.out⟩
      unfold rdOf
      rw [HT1.out]
      exact HS5.out
  · have hd : decide (vv < 1) = false := decide_eq_false hv
    have HP : Hid (0 < vv) := Lib.hid (by omega)
    go_enter Try.func15, Try.ntmps15
    go_wp2_with (go_at_call 30; refine HPC.out.mono ?_; rintro e w1 ⟨ok, rfl, hok, hE1⟩; have HE1 := Lib.hid hE1; obtain rfl : ok = true := (by cases ok <;> first | rfl | (have := hok rfl; have := HP.out; omega)); clear hE1 hok)
    have HE2 := Lib.hid (HX0.out.trans (HE1.out.alloc (.cells #[.int .i64 sc, .int .i64 st, .int .i64 ob, .int .i64 t, .int .i64 t1] 70)))
    have f0 : (w1.alloc (.cells #[.int .i64 sc, .int .i64 st, .int .i64 ob, .int .i64 t, .int .i64 t1] 70)).cell? ⟨w1.heap.size, 0, none⟩ = some (.int .i64 sc) := by simp
    have f1 : (w1.alloc (.cells #[.int .i64 sc, .int .i64 st, .int .i64 ob, .int .i64 t, .int .i64 t1] 70)).cell? ⟨w1.heap.size, 1, none⟩ = some (.int .i64 st) := by simp
    have f2 : (w1.alloc (.cells #[.int .i64 sc, .int .i64 st, .int .i64 ob, .int .i64 t, .int .i64 t1] 70)).cell? ⟨w1.heap.size, 2, none⟩ = some (.int .i64 ob) := by simp
    have f3 : (w1.alloc (.cells #[.int .i64 sc, .int .i64 st, .int .i64 ob, .int .i64 t, .int .i64 t1] 70)).cell? ⟨w1.heap.size, 3, none⟩ = some (.int .i64 t) := by simp
    have f4 : (w1.alloc (.cells #[.int .i64 sc, .int .i64 st, .int .i64 ob, .int .i64 t, .int .i64 t1] 70)).cell? ⟨w1.heap.size, 4, none⟩ = some (.int .i64 t1) := by simp
    generalize hW2 : (w1.alloc (.cells #[.int .i64 sc, .int .i64 st, .int .i64 ob, .int .i64 t, .int .i64 t1] 70)) = w2 at *
    have gf0 := grow_cell f0
    have gf1 := grow_cell f1
    have gf2 := grow_cell f2
    have gf3 := grow_cell f3
    have gf4 := grow_cell f4
    refine wp_region_rel_all (fun i => if i = 2 then some (spSL 5 1 1 [(⟨sc, st, ob, t, t1⟩ : Rd).enc]) else none) (by kernel_rfl) (by kernel_rfl) ?_
    repeat (first
      | (refine wpRel_quick ?_ ?_ ?_ ?_
         · rfl
         · rfl
         · first | exact noEnter rfl | (intro f args W W'; go_simp)
         intro K hK
         go_big_quiet_op
         go_big_quiet_on)
      | (refine wpRel_skip ?_ ?_
         · rfl
         simp only [Act.put, List.setIfInBounds_toArray, List.set_cons_zero, List.set_cons_succ]))
    refine wpRel_rich _ rfl rfl (fun W hW => ?_) (fun v W4 hW4 hv => ?_)
    · go_simp
      exact ⟨⟨_, rfl, sl_new W (⟨sc, st, ob, t, t1⟩ : Rd).enc 5 _ rfl⟩, (Ext.refl _).alloc _⟩
    obtain ⟨ap, rfl, _⟩ := hv
    clear hW4
    simp only [Act.put, List.setIfInBounds_toArray, List.set_cons_zero, List.set_cons_succ]
    repeat (first
      | (refine wpRel_quick ?_ ?_ ?_ ?_
         · rfl
         · rfl
         · first | exact noEnter rfl | (intro f args W W'; go_simp)
         intro K hK
         go_big_quiet_op
         go_big_quiet_on)
      | (refine wpRel_skip ?_ ?_
         · rfl
         simp only [Act.put, List.setIfInBounds_toArray, List.set_cons_zero, List.set_cons_succ]))
    refine wpRel_nil ?_
    intro W5 hW5
    obtain ⟨ap', hap, hs5⟩ := hW5.2 2 trivial _ _ rfl rfl
    cases hap
    have HS5 := Lib.hid hs5
    have HE5 := Lib.hid (HE2.out.trans ((Ext.refl w2).drew.trans hW5.1))
    clear hW5 hs5 hW2
    go_wp2_with fail
    refine bodyPost_ret (v := .tuple #[.int .i64 vv, .bool true, .slice ap 1 1]) (by simp [results, Try.results15, go_sem]; try rfl) rfl ?_
    rw [HA.out]
    refine ⟨ap, 1, by have := HP.out; simp [this], ?_, HE5.out⟩
    unfold rdOf
    rw [HT1.out]
    exact HS5.out
end Go.Proofs.Ytbniicobkhiniaa
