import Derived.Test.YtahaplioegeloaaDoorD6
namespace Go.Proofs.YtahaplioegeloaaDoor
open Go.RowKit Go.Sz

/-- a value read -/
theorem value_any {p : Addr} : ∀ (d : Nat) (_ : d ≤ 16) (bs : List UInt8) (w : World), bs.length ≤ 1000000 → Rd w p bs →
    Calls Tryd.prog 47 #[.pointer (some p), .int .i64 (16 - (d : Int))] w fun e w' => valPost w p (valP d bs) e w' ∧ Turn p.block w w' := by
  intro d
  induction d with
  | zero =>
    intro _ bs w hl h
    cases bs with
    | nil => exact value_nil h _ _
    | cons b r =>
      by_cases h1 : b.toNat = 1
      · exact value_1 h h1 _ _
      · by_cases h2 : b.toNat = 2
        · exact value_2 h h2 _ _
        · by_cases h3 : b.toNat = 3
          · exact value_3deep h h3 _ (by omega)
          · exact value_out h h1 h2 h3 _ _
  | succ d ih =>
    intro hd bs w hl h
    cases bs with
    | nil => exact value_nil h _ _
    | cons b r =>
      by_cases h1 : b.toNat = 1
      · exact value_1 h h1 _ _
      · by_cases h2 : b.toNat = 2
        · exact value_2 h h2 _ _
        · by_cases h3 : b.toNat = 3
          · refine value_3 h h3 _ (by omega) (by omega) (by simp at hl; omega) (valP d) (fun bs x r h => valP_le h) fun bs w hb hr => ?_
            rw [show (16 - ((d + 1 : Nat) : Int)) + 1 = 16 - (d : Int) by omega]
            exact ih (by omega) bs w hb hr
          · exact value_out h h1 h2 h3 _ _

theorem decode1_idle (p q : Addr) (w : World) :
    CallsD Tryd.prog 46 #[.pointer (some p), .pointer (some q)] .returning w fun e u' w' => e = .returned (.tuple #[]) ∧ u' = .returning ∧ w' = w := by
  refine callsD_of_wpS Tryd.func46 rfl fun c₀ cs hu => ?_
  apply wpS_seq
  apply wpS_region
  simp [wpOpsS, go_sem, recoverD, hu, Tryd.ntmps46, Exit.thenS]
  refine wpS_of_wp ?_
  rw [show (#[Value.pointer (some p), Value.pointer (some q)] ++ ((Array.replicate 7 undef).setIfInBounds 1 Value.nilIface).setIfInBounds 0 Value.nilIface) = #[Value.pointer (some p), Value.pointer (some q), .nilIface, .nilIface, undef, undef, undef, undef, undef] from rfl]
  go_wp2_with fail
  cases c₀
  simp_all [bodyPostS, results, Tryd.results46]

theorem errno_assert (x : Int) (w : World) : (Instr.typeAssert (.iface 30 (.int .i64 x)) 20 30 false).run Tryd.prog w = .ok (.int .i64 x) w := by
  simp [Instr.typeAssert, run_underlying Tryd.underlying30, go_sem, Result.andThen]

theorem decode1_panicking (B C : Nat) (a0 a1 a2 a3 a4 : Value) (older : List PanicEntry) (w : World) (hB : Box w B a0 a1 a2 a3) (hc : w.cell? ⟨C, 0, none⟩ = some a4) (hz : w.frozen? ⟨C, 0, none⟩ = false) (hne : B ≠ C) :
    CallsD Tryd.prog 46 #[.pointer (some ⟨B, 0, none⟩), .pointer (some ⟨C, 0, none⟩)] (.panicking ({ v := .iface 30 (.int .i64 10), recovered := false } :: older)) w fun e u' w' =>
      e = .returned (.tuple #[]) ∧ u' = .panicking ({ v := .iface 30 (.int .i64 10), recovered := true } :: older) ∧ Box w' B (.int .i64 0) (.int .i64 0) (.string ⟨#[]⟩) (.slice none 0 0) ∧ w'.cell? ⟨C, 0, none⟩ = some (.int .i64 10) ∧
        ∀ w0, Ext w0 w → w0.heap.size ≤ B → w0.heap.size ≤ C → Ext w0 w' := by
  refine callsD_of_wpS Tryd.func46 rfl fun c₀ cs hu => ?_
  apply wpS_seq
  apply wpS_region
  simp [wpOpsS, go_sem, recoverD, hu, Tryd.ntmps46, Exit.thenS]
  refine wpS_of_wp ?_
  rw [show (#[Value.pointer (some ⟨B, 0, none⟩), Value.pointer (some ⟨C, 0, none⟩)] ++ ((Array.replicate 7 undef).setIfInBounds 1 (Value.iface 30 (.int .i64 10))).setIfInBounds 0 (Value.iface 30 (.int .i64 10))) = #[Value.pointer (some ⟨B, 0, none⟩), Value.pointer (some ⟨C, 0, none⟩), Value.iface 30 (.int .i64 10), Value.iface 30 (.int .i64 10), undef, undef, undef, undef, undef] from rfl]
  go_wp2_with fail
  have hn2 : ¬ C = B := fun e => hne e.symm
  obtain ⟨b0, b1, b2, b3, bz⟩ := hB
  have z0 := bz 0
  have z1 := bz 1
  have z2 := bz 2
  have z3 := bz 3
  have hb0 : B < w.heap.size := World.block_lt_of_cell? _ _ b0
  have hc0 : C < w.heap.size := World.block_lt_of_cell? _ _ hc
  have hta := errno_assert 10
  go_region_held3 (fun _ => True) (trivial)
    (fail)
  all_goals
    have hBx := (((((Box.mk b0 b1 b2 b3 bz).set0 (.int .i64 0)).set1 (.int .i64 0)).set2 (.string ⟨#[]⟩)).set3 (.slice none 0 0)).keep (heap_setCell_far _ ⟨C, 0, none⟩ (.int .i64 10) _ hne) |>.ext (Ext.refl _).drew
    have hcx : (((((w.setCell ⟨B, 0, none⟩ (.int .i64 0)).setCell ⟨B, 1, none⟩ (.int .i64 0)).setCell ⟨B, 2, none⟩ (.string ⟨#[]⟩)).setCell ⟨B, 3, none⟩ (.slice none 0 0)).setCell ⟨C, 0, none⟩ (.int .i64 10)).drew.cell? ⟨C, 0, none⟩ = some (.int .i64 10) := by
      rw [World.cell?_drew]
      exact World.cell?_setCell_same' _ _ _ (by simp [World.cell?_setCell_other, hc])
    have hex : ∀ w0, Ext w0 w → w0.heap.size ≤ B → w0.heap.size ≤ C → Ext w0 (((((w.setCell ⟨B, 0, none⟩ (.int .i64 0)).setCell ⟨B, 1, none⟩ (.int .i64 0)).setCell ⟨B, 2, none⟩ (.string ⟨#[]⟩)).setCell ⟨B, 3, none⟩ (.slice none 0 0)).setCell ⟨C, 0, none⟩ (.int .i64 10)).drew := fun w0 h0 hB hC =>
      (((((h0.setCell (p := ⟨B, 0, none⟩) hB _).setCell (p := ⟨B, 1, none⟩) hB _).setCell (p := ⟨B, 2, none⟩) hB _).setCell (p := ⟨B, 3, none⟩) hB _).setCell (p := ⟨C, 0, none⟩) hC _).drew
    generalize (((((w.setCell ⟨B, 0, none⟩ (.int .i64 0)).setCell ⟨B, 1, none⟩ (.int .i64 0)).setCell ⟨B, 2, none⟩ (.string ⟨#[]⟩)).setCell ⟨B, 3, none⟩ (.slice none 0 0)).setCell ⟨C, 0, none⟩ (.int .i64 10)).drew = W at *
    cases c₀
    simp +zetaDelta [bodyPostS, results, Tryd.results46]
    exact ⟨hBx, hcx, hex⟩
end Go.Proofs.YtahaplioegeloaaDoor
