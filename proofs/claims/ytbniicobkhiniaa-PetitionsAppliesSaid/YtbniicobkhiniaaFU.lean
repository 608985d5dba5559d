/- Petitions: Fact, Valid, Active and Held as the laws say. -/
import Derived.Test.YtbniicobkhiniaaFS
namespace Go.Sz
/-- true, and only new memory -/
def Tru (w : World) (e : Ending) (w' : World) : Prop := e = .returned (.bool true) ∧ Ext w w'
end Go.Sz
namespace Go.Proofs.Ytbniicobkhiniaa
open Go.RowKit Go.Sz
set_option maxRecDepth 100000 in
set_option maxHeartbeats 6400000 in
theorem law_fact (k s o v fr to kn no : Int) (w : World) : Calls Try.prog 3 #[.int .i64 k, .int .i64 s, .int .i64 o, .int .i64 v, .agg #[.int .i64 fr, .int .i64 to], .int .i64 kn, .int .i64 no] w (Tru w) := by
  have HS := Lib.hid (fun (W : World) => saneF_any W)
  have HX0 : Hid (Ext w (w.alloc (.cells #[.int .i64 fr, .int .i64 to] 23))) := Lib.hid ((Ext.refl w).alloc _)
  have s0 : (w.alloc (.cells #[.int .i64 fr, .int .i64 to] 23)).cell? ⟨w.heap.size, 0, none⟩ = some (.int .i64 fr) := by simp
  have s1 : (w.alloc (.cells #[.int .i64 fr, .int .i64 to] 23)).cell? ⟨w.heap.size, 1, none⟩ = some (.int .i64 to) := by simp
  obtain ⟨r, hr⟩ : ∃ r, factP ⟨k, s, o, v, fr, to, kn, no⟩ = r := ⟨_, rfl⟩
  have HR := Lib.hid hr
  have HF := Lib.hid (fun (W : World) => fa_as hr W)
  have HG : Hid (∀ W, Calls Try.prog 12 #[.int .i64 k, .int .i64 s, .int .i64 o, .int .i64 v, .agg #[.int .i64 fr, .int .i64 to], .int .i64 kn, .int .i64 no] W fun e w' => e = .returned (.tuple #[.agg #[.int .i64 r.1.k, .int .i64 r.1.s, .int .i64 r.1.o, .int .i64 r.1.v, .int .i64 r.1.fr, .int .i64 r.1.to, .int .i64 r.1.kn, .int .i64 r.1.no], .int .i64 r.2]) ∧ Ext W w') := Lib.hid (fun W => hr ▸ refFact_any ⟨k, s, o, v, fr, to, kn, no⟩ W)
  have he := eqFt r.1 r.1
  rw [decide_eq_true rfl] at he
  clear hr
  go_enter Try.func3, Try.ntmps3
  go_wp2_with (first
    | (go_at_call 10; refine (HS.out _).mono ?_; rintro e w1 ⟨rfl, hE⟩; replace s0 := hE.cell s0; replace s1 := hE.cell s1; have HX1 := Lib.hid (HX0.out.trans hE); clear hE)
    | (go_at_call 11; refine (HF.out _).mono ?_; rintro e w2 ⟨rfl, hE⟩; have hE2 := hE.alloc (.cells #[.int .i64 r.1.k, .int .i64 r.1.s, .int .i64 r.1.o, .int .i64 r.1.v, .int .i64 r.1.fr, .int .i64 r.1.to, .int .i64 r.1.kn, .int .i64 r.1.no] 28); replace s0 := hE2.cell s0; replace s1 := hE2.cell s1; have HX2 := Lib.hid (HX1.out.trans hE2); clear hE hE2)
    | (go_at_call 12; refine (HG.out _).mono ?_; rintro e w3 ⟨rfl, hE⟩; have e0 : (w3.alloc (.cells #[.int .i64 r.1.k, .int .i64 r.1.s, .int .i64 r.1.o, .int .i64 r.1.v, .int .i64 r.1.fr, .int .i64 r.1.to, .int .i64 r.1.kn, .int .i64 r.1.no] 28)).cell? ⟨w2.heap.size, 0, none⟩ = some (.int .i64 r.1.k) := (hE.alloc _).cell (by simp); have e1 : (w3.alloc (.cells #[.int .i64 r.1.k, .int .i64 r.1.s, .int .i64 r.1.o, .int .i64 r.1.v, .int .i64 r.1.fr, .int .i64 r.1.to, .int .i64 r.1.kn, .int .i64 r.1.no] 28)).cell? ⟨w2.heap.size, 1, none⟩ = some (.int .i64 r.1.s) := (hE.alloc _).cell (by simp); have e2 : (w3.alloc (.cells #[.int .i64 r.1.k, .int .i64 r.1.s, .int .i64 r.1.o, .int .i64 r.1.v, .int .i64 r.1.fr, .int .i64 r.1.to, .int .i64 r.1.kn, .int .i64 r.1.no] 28)).cell? ⟨w2.heap.size, 2, none⟩ = some (.int .i64 r.1.o) := (hE.alloc _).cell (by simp); have e3 : (w3.alloc (.cells #[.int .i64 r.1.k, .int .i64 r.1.s, .int .i64 r.1.o, .int .i64 r.1.v, .int .i64 r.1.fr, .int .i64 r.1.to, .int .i64 r.1.kn, .int .i64 r.1.no] 28)).cell? ⟨w2.heap.size, 3, none⟩ = some (.int .i64 r.1.v) := (hE.alloc _).cell (by simp); have e4 : (w3.alloc (.cells #[.int .i64 r.1.k, .int .i64 r.1.s, .int .i64 r.1.o, .int .i64 r.1.v, .int .i64 r.1.fr, .int .i64 r.1.to, .int .i64 r.1.kn, .int .i64 r.1.no] 28)).cell? ⟨w2.heap.size, 4, none⟩ = some (.int .i64 r.1.fr) := (hE.alloc _).cell (by simp); have e5 : (w3.alloc (.cells #[.int .i64 r.1.k, .int .i64 r.1.s, .int .i64 r.1.o, .int .i64 r.1.v, .int .i64 r.1.fr, .int .i64 r.1.to, .int .i64 r.1.kn, .int .i64 r.1.no] 28)).cell? ⟨w2.heap.size, 5, none⟩ = some (.int .i64 r.1.to) := (hE.alloc _).cell (by simp); have e6 : (w3.alloc (.cells #[.int .i64 r.1.k, .int .i64 r.1.s, .int .i64 r.1.o, .int .i64 r.1.v, .int .i64 r.1.fr, .int .i64 r.1.to, .int .i64 r.1.kn, .int .i64 r.1.no] 28)).cell? ⟨w2.heap.size, 6, none⟩ = some (.int .i64 r.1.kn) := (hE.alloc _).cell (by simp); have e7 : (w3.alloc (.cells #[.int .i64 r.1.k, .int .i64 r.1.s, .int .i64 r.1.o, .int .i64 r.1.v, .int .i64 r.1.fr, .int .i64 r.1.to, .int .i64 r.1.kn, .int .i64 r.1.no] 28)).cell? ⟨w2.heap.size, 7, none⟩ = some (.int .i64 r.1.no) := (hE.alloc _).cell (by simp); have HX3 := Lib.hid ((HX2.out.trans hE).alloc (.cells #[.int .i64 r.1.k, .int .i64 r.1.s, .int .i64 r.1.o, .int .i64 r.1.v, .int .i64 r.1.fr, .int .i64 r.1.to, .int .i64 r.1.kn, .int .i64 r.1.no] 28)); clear hE))
  go_ret
  exact ⟨by simp, HX3.out⟩
end Go.Proofs.Ytbniicobkhiniaa
