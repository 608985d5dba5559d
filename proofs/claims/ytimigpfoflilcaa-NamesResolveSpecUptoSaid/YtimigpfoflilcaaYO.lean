/- Names: Resolve, its way out at an error. -/
import Derived.Test.YtimigpfoflilcaaYN
namespace Go.Sz
open Go.RowKit
/-- the three variables of Resolve -/
def ResV (W : World) (b : Nat) (t1 t2 : TypeId) (cat : List Value) : Prop := Row W b t1 cat ∧ Row W (b + 1) t1 zero7 ∧ Row W (b + 2) t2 [.int .i64 0]
theorem ResV.kpC {A B : World} {b : Nat} {t1 t2 : TypeId} {cat : List Value} (h : ResV A b t1 t2 cat) (hk : KpC A B) : ResV B b t1 t2 cat := ⟨h.1.kpC hk, h.2.1.kpC hk, h.2.2.kpC hk⟩
theorem ResV.kpE {A B : World} {b g : Nat} {t1 t2 : TypeId} {cat : List Value} (h : ResV A b t1 t2 cat) (hk : KpE g A B) (hg : b + 2 < g) : ResV B b t1 t2 cat := ⟨h.1.kpE hk (by omega), h.2.1.kpE hk (by omega), h.2.2.kpE hk (by omega)⟩
end Go.Sz
namespace Go.Proofs.Ytimigpfoflilcaa
open Go.RowKit Go.Sz
/-- the deferred call -/
def dfR (b : Nat) : List Deferred := [{ target := .fn (.func 27) #[.pointer (some ⟨b + 2, 0, none⟩)], args := #[] }]
set_option maxRecDepth 100000 in
theorem res_dies {c : Cat} {x : Int} (hx : c.resN = (x, .empty)) {w W : World} {a : Act} {cat : List Value} (h2 : a.tmps[2]? = some (.pointer (some ⟨w.heap.size + 1, 0, none⟩))) (h3 : a.tmps[3]? = some (.pointer (some ⟨w.heap.size + 2, 0, none⟩))) (hd : a.defers = dfR w.heap.size)
    (hV : ResV W w.heap.size 29 32 cat) (hE : Ext w W) : bodyPostD Try.prog Try.f12 (resPost c w) (.panic (panF x)) a W := by
  obtain ⟨tmps, ds⟩ := a
  simp only at h2 h3 hd
  subst hd
  refine leaves_cons (f := 27) (args := #[.pointer (some ⟨w.heap.size + 2, 0, none⟩)]) (by simp) (by simp [go_sem]) ?_
  have hc := hV.2.2.cell (j := 0) rfl
  have hz := hV.2.2.froz 0
  refine (resolve1_panicking x (w.heap.size + 2) _ [] W hc hz).mono ?_
  rintro e u' w3 ⟨rfl, rfl, hC3, hK3, hE3⟩
  have hE' := hE3 w hE (by omega)
  have hr := hV.2.1.kpE hK3 (by omega)
  have e0 := hr.cell (j := 0) rfl
  have e1 := hr.cell (j := 1) rfl
  have e2 := hr.cell (j := 2) rfl
  have e3 := hr.cell (j := 3) rfl
  have e4 := hr.cell (j := 4) rfl
  have e5 := hr.cell (j := 5) rfl
  have e6 := hr.cell (j := 6) rfl
  simp [Leaves, settle, results, Try.results12, go_sem, e0, e1, e2, e3, e4, e5, e6, hC3, h2, h3]
  exact ⟨Adr.nil, by rw [hx]; rfl, by rw [hx]; exact RepX.nil w3, hE'⟩
/-- the loops of Resolve, taken out of its code -/
def loopsOf : Code → List Code
  | .loop c => [.loop c]
  | .seq a b => loopsOf a ++ loopsOf b
  | .block _ c => loopsOf c
  | .scope c => loopsOf c
  | .cond _ a b => loopsOf a ++ loopsOf b
  | _ => []
noncomputable def lpR (k : Nat) : Code := (loopsOf (Try.f12.body.getD .skip)).getD k .skip
/-- Resolve may stop with this error here -/
def ResD (c : Cat) (d : Adr) (w : World) (ch : List PanicEntry) (a : Act) (W : World) : Prop :=
  a.tmps[2]? = some (.pointer (some ⟨w.heap.size + 1, 0, none⟩)) ∧ a.tmps[3]? = some (.pointer (some ⟨w.heap.size + 2, 0, none⟩)) ∧ a.defers = dfR w.heap.size ∧ ∃ x, ch = panF x ∧ c.resN = (x, .empty) ∧ ResV W w.heap.size 29 32 (c.cells d) ∧ Ext w W
theorem ResD.dies {c : Cat} {d : Adr} {w W : World} {ch : List PanicEntry} {a : Act} (h : ResD c d w ch a W) : bodyPostD Try.prog Try.f12 (resPost c w) (.panic ch) a W := by
  obtain ⟨h2, h3, hd, x, rfl, hx, hV, hE⟩ := h
  exact res_dies hx h2 h3 hd hV hE
theorem ResD.put {c : Cat} {d : Adr} {w W : World} {ch : List PanicEntry} {a : Act} {k : Nat} {v : Value} (h2 : k ≠ 2) (h3 : k ≠ 3) (h : ResD c d w ch (a.put (some k) v) W) : ResD c d w ch a W := by
  obtain ⟨g2, g3, hd, h⟩ := h
  refine ⟨?_, ?_, hd, h⟩
  · simpa [Act.put, h2] using g2
  · simpa [Act.put, h3] using g3
/-- how a loop of Resolve may end -/
def lpQ (n : Nat) (c : Cat) (d : Adr) (w : World) (F : Act → World → Prop) : Exit → Act → World → Prop
  | .exit k, a, W => k = n ∧ F a W
  | .panic ch, a, W => ResD c d w ch a W
  | _, _, _ => False
end Go.Proofs.Ytimigpfoflilcaa
