/- Names: the reference's Resolve: how its loops end. -/
import Derived.Test.YtimigpfoflilcaaZRb
import Derived.Test.YtimigpfoflilcaaZ9
import Derived.Deep.Cut
import Derived.Deep.CutRange
import Derived.Deep.CutBlock
namespace Go.Sz
open Go.RowKit
theorem okQ_eq {q : Rq} (h : okQ q = true) : ((q.nms.length : Int) != (q.fr.length : Int)) = false := by
  unfold okQ at h
  have h' : q.nms.length = q.fr.length := by simpa using h
  simp [h']
theorem okQ_ne {q : Rq} (h : okQ q = false) : ((q.nms.length : Int) != (q.fr.length : Int)) = true := by
  unfold okQ at h
  have h' : ¬ q.nms.length = q.fr.length := by simpa using h
  simp
  omega
theorem okQ_len {q : Rq} (h : okQ q = true) : q.nms.length = q.fr.length := by
  unfold okQ at h
  simpa using h
/-- an error: the result's cell is written, and what was asked follows -/
theorem res_err {c : Cat} {n : Int} (hc : c.resN = (n, .empty)) {w V : World} (hE : Ext w V) : resPost c w (.returned (.tuple #[.agg #[.slice none 0 0, .slice none 0 0, .slice none 0 0, .slice none 0 0, .slice none 0 0, .slice none 0 0, .slice none 0 0], .int .i64 n])) V := by
  refine ⟨Adr.nil, ?_, ?_, hE⟩
  · rw [hc]; rfl
  · rw [hc]; exact RepX.nil V
end Go.Sz
namespace Go.Proofs.Ytimigpfoflilcaa
open Go.RowKit Go.Sz
/-- the loops of the reference's Resolve, taken out of its code -/
noncomputable def lpS (k : Nat) : Code := (loopsOf (Try.f13.body.getD .skip)).getD k .skip
/-- a loop that ends in one way alone -/
def gxQ (n : Nat) (F : Act → World → Prop) : Exit → Act → World → Prop
  | .exit k, a, W => k = n ∧ F a W
  | _, _, _ => False
theorem gxQ_cases {n : Nat} {F : Act → World → Prop} {e : Exit} {a : Act} {W : World} (h : gxQ n F e a W) : e = .exit n ∧ F a W := by
  cases e with
  | exit k => exact ⟨by rw [h.1], h.2⟩
  | _ => exact h.elim
end Go.Proofs.Ytimigpfoflilcaa
