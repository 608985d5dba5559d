/- Names: caught and the deferred closure of Resolve. -/
import Derived.Test.YtimigpfoflilcaaYK
namespace Go.Sz
open Go.RowKit
theorem KpE.trans {E : Nat} {A B C : World} (h : KpE E A B) (k : KpE E B C) : KpE E A C := ⟨Nat.le_trans h.1 k.1, fun b o hb h1 h2 => k.2 b o hb (h.2 b o hb h1 h2) h2⟩
end Go.Sz
namespace Go.Proofs.Ytimigpfoflilcaa
open Go.RowKit Go.Sz
theorem caught_nil (p : Addr) (w : World) : Calls Try.prog 28 #[.nilIface, .pointer (some p)] w fun e w' => e = .returned (.tuple #[]) ∧ w' = w := by
  go_enter Try.func28, Try.ntmps28
  go_wp2_with fail
  go_end0
  exact ⟨rfl, rfl⟩
theorem fail_assert (x : Int) (w : World) : (Instr.typeAssert (.iface 124 (.agg #[.int .i64 x])) 20 124 true).run Try.prog w = .ok (.tuple #[.agg #[.int .i64 x], .bool true]) w := by
  simp [Instr.typeAssert, run_underlying Try.underlying124, go_sem, Result.andThen]
set_option maxRecDepth 100000 in
theorem caught_fail (x : Int) (C : Nat) (y : Value) (w : World) (hc : w.cell? ⟨C, 0, none⟩ = some y) (hz : w.frozen? ⟨C, 0, none⟩ = false) : Calls Try.prog 28 #[.iface 124 (.agg #[.int .i64 x]), .pointer (some ⟨C, 0, none⟩)] w fun e w' => e = .returned (.tuple #[]) ∧
    w'.cell? ⟨C, 0, none⟩ = some (.int .i64 x) ∧ KpE C w w' ∧ ∀ w0, Ext w0 w → w0.heap.size ≤ C → Ext w0 w' := by
  have hta := fail_assert x
  have hlt := World.block_lt_of_cell? _ _ hc
  go_enter Try.func28, Try.ntmps28
  go_wp2_with fail
  go_end0
  exact ⟨rfl, ((Ext.refl _).alloc _).cell (World.cell?_setCell_same' _ _ _ (by rw [hc]; rfl)), (kpE_set w C (.int .i64 x)).trans ((Ext.refl _).alloc _).kpC.kpE, fun w0 h0 hC => (h0.setCell (p := ⟨C, 0, none⟩) hC _).alloc _⟩
theorem resolve1_idle (p : Addr) (w : World) : CallsD Try.prog 27 #[.pointer (some p)] .returning w fun e u' w' => e = .returned (.tuple #[]) ∧ u' = .returning ∧ w' = w := by
  refine callsD_of_wpS Try.func27 rfl fun c₀ cs hu => ?_
  apply wpS_region
  simp [wpOpsS, go_sem, recoverD, hu, Try.ntmps27]
  refine (caught_nil p w).mono ?_
  rintro e w2 ⟨rfl, rfl⟩
  cases c₀
  simp_all [bodyPostS, results, Try.results27]
theorem resolve1_panicking (x : Int) (C : Nat) (y : Value) (older : List PanicEntry) (w : World) (hc : w.cell? ⟨C, 0, none⟩ = some y) (hz : w.frozen? ⟨C, 0, none⟩ = false) :
    CallsD Try.prog 27 #[.pointer (some ⟨C, 0, none⟩)] (.panicking ({ v := .iface 124 (.agg #[.int .i64 x]), recovered := false } :: older)) w fun e u' w' =>
      e = .returned (.tuple #[]) ∧ u' = .panicking ({ v := .iface 124 (.agg #[.int .i64 x]), recovered := true } :: older) ∧ w'.cell? ⟨C, 0, none⟩ = some (.int .i64 x) ∧ KpE C w w' ∧ ∀ w0, Ext w0 w → w0.heap.size ≤ C → Ext w0 w' := by
  refine callsD_of_wpS Try.func27 rfl fun c₀ cs hu => ?_
  apply wpS_region
  simp [wpOpsS, go_sem, recoverD, hu, Try.ntmps27]
  refine (caught_fail x C y w hc hz).mono ?_
  rintro e w2 ⟨rfl, h1, h2, h3⟩
  cases c₀
  simp +zetaDelta [bodyPostS, results, Try.results27]
  exact ⟨h1, h2, h3⟩
end Go.Proofs.Ytimigpfoflilcaa
