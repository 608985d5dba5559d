/-
  No cell of these rows narrows 'for every input' (looked for: loops, veiled, ifaces, maps, wideKeys, modest, calm, conditions, laid).
  DERIVED. THE GIVEN ROWS OF THIS SEAT. 7 by the template 'for every input the law returns true; each argument reads behind the call as it read before'; 0 by the template 'total and deterministic' (their statements: YtbhpeecebcihkaaTotals.lean).
  GIVEN WITH THE SEED: the statements are not yours to turn. If you find one false, say at which input.
  Laid BY PROGRAM, IN A SANDBOX (cutbox-rows.mjs): the forced cells as the released guide's own fill.sh prints them over the translation 727f9e2892d01b56… (all of the seat's roots in one cut). By AI agents, Wed Nov 11 2026. No macro, syntax, notation, axiom, sorry.
-/
import Derived.Test.YtbhpeecebcihkaaChecked
import GoSem.Claim
import GoSem.ClaimJoined
import GoSem.ClaimMapViews
import Derived.JoinedTies
import Derived.KernelRfl
namespace Go.Proofs.Ytbhpeecebcihkaa
/- THE CELL 'sum', in the pinned program and in every row, IS THE sha256 OF THE DUMP (.gsa) THAT YtbhpeecebcihkaaProg.lean LOADS. Nothing in Lean hashes anything: it is a label: what it is worth is what the hold of that sum in a sandbox is worth. -/
noncomputable def Try.pinned : Pinned := { name := "ytbhpeecebcihkaa", sum := "727f9e2892d01b567398e5534ff910291e24fa70a5fb100dc3237c67f0acb032", checked := Try.checked }
namespace Rows
def none {H : Type} : Left H := { results := [], args := [] }

/-- 'sizarlaw26.WaitingJoinSpec': WHATEVER THE INPUT: true; the input reads as it did. -/
def waitingJoinSpecSpec : ChangeSpec := { name := "waitingJoinSpec", fn := fun _ => fun
  | [d1, d2, d3, d4] => { results := [.lit (.bool true)], args := [d1, d2, d3, d4] }
  | _ => none }
def waitingJoinSpecRow : OpenClaim := { program := "ytbhpeecebcihkaa", sum := "727f9e2892d01b567398e5534ff910291e24fa70a5fb100dc3237c67f0acb032", func := "sizar/sizarlaw26.WaitingJoinSpec", spec := "waitingJoinSpec", inPlace := ["slices.overlaps[sizar/api.Wait]"], unfollowed := true, recurses := true, plainKeys := false, apart := false }
def WaitingJoinSpecSaid : Prop := waitingJoinSpecRow.holds Try.pinned (OpenSpec.ofChange waitingJoinSpecSpec)

/-- ITS FALSE NEIGHBOUR: 'it returns false'. Refute it at one input. -/
def waitingJoinSpecWrong : ChangeSpec := { name := "waitingJoinSpec", fn := fun _ => fun
  | [d1, d2, d3, d4] => { results := [.lit (.bool false)], args := [d1, d2, d3, d4] }
  | _ => none }
def WaitingJoinSpecWrongFalsely : Prop := waitingJoinSpecRow.holds Try.pinned (OpenSpec.ofChange waitingJoinSpecWrong)

/-- 'sizarlaw26.WaitingFirstSpec': WHATEVER THE INPUT: true; the input reads as it did. -/
def waitingFirstSpecSpec : ChangeSpec := { name := "waitingFirstSpec", fn := fun _ => fun
  | [d1, d2, d3] => { results := [.lit (.bool true)], args := [d1, d2, d3] }
  | _ => none }
def waitingFirstSpecRow : OpenClaim := { program := "ytbhpeecebcihkaa", sum := "727f9e2892d01b567398e5534ff910291e24fa70a5fb100dc3237c67f0acb032", func := "sizar/sizarlaw26.WaitingFirstSpec", spec := "waitingFirstSpec", inPlace := ["slices.overlaps[sizar/api.Wait]"], unfollowed := true, recurses := true, plainKeys := false, apart := false }
def WaitingFirstSpecSaid : Prop := waitingFirstSpecRow.holds Try.pinned (OpenSpec.ofChange waitingFirstSpecSpec)

/-- ITS FALSE NEIGHBOUR: 'it returns false'. Refute it at one input. -/
def waitingFirstSpecWrong : ChangeSpec := { name := "waitingFirstSpec", fn := fun _ => fun
  | [d1, d2, d3] => { results := [.lit (.bool false)], args := [d1, d2, d3] }
  | _ => none }
def WaitingFirstSpecWrongFalsely : Prop := waitingFirstSpecRow.holds Try.pinned (OpenSpec.ofChange waitingFirstSpecWrong)

/-- 'sizarlaw26.WaitingFair': WHATEVER THE INPUT: true; the input reads as it did. -/
def waitingFairSpec : ChangeSpec := { name := "waitingFair", fn := fun _ => fun
  | [d] => { results := [.lit (.bool true)], args := [d] }
  | _ => none }
def waitingFairRow : OpenClaim := { program := "ytbhpeecebcihkaa", sum := "727f9e2892d01b567398e5534ff910291e24fa70a5fb100dc3237c67f0acb032", func := "sizar/sizarlaw26.WaitingFair", spec := "waitingFair", inPlace := ["slices.overlaps[sizar/api.Wait]"], unfollowed := true, recurses := true, plainKeys := false, apart := false }
def WaitingFairSaid : Prop := waitingFairRow.holds Try.pinned (OpenSpec.ofChange waitingFairSpec)

/-- ITS FALSE NEIGHBOUR: 'it returns false'. Refute it at one input. -/
def waitingFairWrong : ChangeSpec := { name := "waitingFair", fn := fun _ => fun
  | [d] => { results := [.lit (.bool false)], args := [d] }
  | _ => none }
def WaitingFairWrongFalsely : Prop := waitingFairRow.holds Try.pinned (OpenSpec.ofChange waitingFairWrong)

/-- 'sizarlaw26.WaitingOrder': WHATEVER THE INPUT: true; the input reads as it did. -/
def waitingOrderSpec : ChangeSpec := { name := "waitingOrder", fn := fun _ => fun
  | [d1, d2, d3] => { results := [.lit (.bool true)], args := [d1, d2, d3] }
  | _ => none }
def waitingOrderRow : OpenClaim := { program := "ytbhpeecebcihkaa", sum := "727f9e2892d01b567398e5534ff910291e24fa70a5fb100dc3237c67f0acb032", func := "sizar/sizarlaw26.WaitingOrder", spec := "waitingOrder", inPlace := ["slices.overlaps[sizar/api.Wait]"], unfollowed := true, recurses := true, plainKeys := false, apart := false }
def WaitingOrderSaid : Prop := waitingOrderRow.holds Try.pinned (OpenSpec.ofChange waitingOrderSpec)

/-- ITS FALSE NEIGHBOUR: 'it returns false'. Refute it at one input. -/
def waitingOrderWrong : ChangeSpec := { name := "waitingOrder", fn := fun _ => fun
  | [d1, d2, d3] => { results := [.lit (.bool false)], args := [d1, d2, d3] }
  | _ => none }
def WaitingOrderWrongFalsely : Prop := waitingOrderRow.holds Try.pinned (OpenSpec.ofChange waitingOrderWrong)

/-- 'sizarlaw26.WaitingBack': WHATEVER THE INPUT: true; the input reads as it did. -/
def waitingBackSpec : ChangeSpec := { name := "waitingBack", fn := fun _ => fun
  | [d1, d2] => { results := [.lit (.bool true)], args := [d1, d2] }
  | _ => none }
def waitingBackRow : OpenClaim := { program := "ytbhpeecebcihkaa", sum := "727f9e2892d01b567398e5534ff910291e24fa70a5fb100dc3237c67f0acb032", func := "sizar/sizarlaw26.WaitingBack", spec := "waitingBack", inPlace := ["slices.overlaps[sizar/api.Wait]"], unfollowed := true, recurses := true, plainKeys := false, apart := false }
def WaitingBackSaid : Prop := waitingBackRow.holds Try.pinned (OpenSpec.ofChange waitingBackSpec)

/-- ITS FALSE NEIGHBOUR: 'it returns false'. Refute it at one input. -/
def waitingBackWrong : ChangeSpec := { name := "waitingBack", fn := fun _ => fun
  | [d1, d2] => { results := [.lit (.bool false)], args := [d1, d2] }
  | _ => none }
def WaitingBackWrongFalsely : Prop := waitingBackRow.holds Try.pinned (OpenSpec.ofChange waitingBackWrong)

/-- 'sizarlaw26.WaitingOthers': WHATEVER THE INPUT: true; the input reads as it did. -/
def waitingOthersSpec : ChangeSpec := { name := "waitingOthers", fn := fun _ => fun
  | [d1, d2] => { results := [.lit (.bool true)], args := [d1, d2] }
  | _ => none }
def waitingOthersRow : OpenClaim := { program := "ytbhpeecebcihkaa", sum := "727f9e2892d01b567398e5534ff910291e24fa70a5fb100dc3237c67f0acb032", func := "sizar/sizarlaw26.WaitingOthers", spec := "waitingOthers", inPlace := ["slices.overlaps[sizar/api.Wait]"], unfollowed := true, recurses := true, plainKeys := false, apart := false }
def WaitingOthersSaid : Prop := waitingOthersRow.holds Try.pinned (OpenSpec.ofChange waitingOthersSpec)

/-- ITS FALSE NEIGHBOUR: 'it returns false'. Refute it at one input. -/
def waitingOthersWrong : ChangeSpec := { name := "waitingOthers", fn := fun _ => fun
  | [d1, d2] => { results := [.lit (.bool false)], args := [d1, d2] }
  | _ => none }
def WaitingOthersWrongFalsely : Prop := waitingOthersRow.holds Try.pinned (OpenSpec.ofChange waitingOthersWrong)

/-- 'sizarlaw26.WaitingServed': WHATEVER THE INPUT: true; the input reads as it did. -/
def waitingServedSpec : ChangeSpec := { name := "waitingServed", fn := fun _ => fun
  | [d1, d2] => { results := [.lit (.bool true)], args := [d1, d2] }
  | _ => none }
def waitingServedRow : OpenClaim := { program := "ytbhpeecebcihkaa", sum := "727f9e2892d01b567398e5534ff910291e24fa70a5fb100dc3237c67f0acb032", func := "sizar/sizarlaw26.WaitingServed", spec := "waitingServed", inPlace := ["slices.overlaps[sizar/api.Wait]"], unfollowed := true, recurses := true, plainKeys := false, apart := false }
def WaitingServedSaid : Prop := waitingServedRow.holds Try.pinned (OpenSpec.ofChange waitingServedSpec)

/-- ITS FALSE NEIGHBOUR: 'it returns false'. Refute it at one input. -/
def waitingServedWrong : ChangeSpec := { name := "waitingServed", fn := fun _ => fun
  | [d1, d2] => { results := [.lit (.bool false)], args := [d1, d2] }
  | _ => none }
def WaitingServedWrongFalsely : Prop := waitingServedRow.holds Try.pinned (OpenSpec.ofChange waitingServedWrong)

/- THE SECOND FORM. 'bulk': how many values and letters a reading holds, each counted each time it is reached (what is shared counts as often as it is met; a slice's spare places count too). A statement '..UptoSaid' is the law's where the arguments, and the package variables that the reading takes, are together of bulk at most 1048576: NARROWER than '..Said'. Prove '..Said' where nothing that the law and all that it calls make is longer than what came in: it says more and counts as full. Else prove '..UptoSaid'. A law counts once. -/
mutual
def uptoBulk {H : Type} : DataW H → Nat
  | .lit (.string bytes) => bytes.length + 1
  | .lit _ => 1
  | .nil => 1
  | .ptr d => uptoBulk d + 1
  | .slice elems spare => uptoBulkAll elems + uptoBulkAll spare + 1
  | .agg parts => uptoBulkAll parts + 1
  | .iface _ d => uptoBulk d + 1
  | .map entries => uptoBulkEntries entries + 1
  | .held _ => 1
def uptoBulkAll {H : Type} : List (DataW H) → Nat
  | [] => 0
  | d :: r => uptoBulk d + uptoBulkAll r
def uptoBulkEntries {H : Type} : List (Lit × DataW H) → Nat
  | [] => 0
  | x :: r => uptoBulkEntry x + uptoBulkEntries r
def uptoBulkEntry {H : Type} : Lit × DataW H → Nat
  | (.string bytes, d) => bytes.length + uptoBulk d + 1
  | (_, d) => uptoBulk d + 1
 end
def uptoSmall : (H : Type) → List (DataW H) → Bool := fun _ ds => decide (uptoBulkAll ds ≤ 1048576)
def OpenSpec.upto (s : _root_.Go.ChangeSpec) : _root_.Go.OpenSpec := { _root_.Go.OpenSpec.ofChange s with cond := some uptoSmall }

/-- 'sizarlaw26.WaitingJoinSpec', WHERE WHAT IT READS IS OF BULK AT MOST 1048576: true; the input reads as it did. -/
def waitingJoinSpecUptoRow : OpenClaim := { program := "ytbhpeecebcihkaa", sum := "727f9e2892d01b567398e5534ff910291e24fa70a5fb100dc3237c67f0acb032", func := "sizar/sizarlaw26.WaitingJoinSpec", spec := "waitingJoinSpec", inPlace := ["slices.overlaps[sizar/api.Wait]"], unfollowed := true, recurses := true, plainKeys := false, apart := false, narrowed := true }
def WaitingJoinSpecUptoSaid : Prop := waitingJoinSpecUptoRow.holds Try.pinned (OpenSpec.upto waitingJoinSpecSpec)

/-- 'sizarlaw26.WaitingFirstSpec', WHERE WHAT IT READS IS OF BULK AT MOST 1048576: true; the input reads as it did. -/
def waitingFirstSpecUptoRow : OpenClaim := { program := "ytbhpeecebcihkaa", sum := "727f9e2892d01b567398e5534ff910291e24fa70a5fb100dc3237c67f0acb032", func := "sizar/sizarlaw26.WaitingFirstSpec", spec := "waitingFirstSpec", inPlace := ["slices.overlaps[sizar/api.Wait]"], unfollowed := true, recurses := true, plainKeys := false, apart := false, narrowed := true }
def WaitingFirstSpecUptoSaid : Prop := waitingFirstSpecUptoRow.holds Try.pinned (OpenSpec.upto waitingFirstSpecSpec)

/-- 'sizarlaw26.WaitingFair', WHERE WHAT IT READS IS OF BULK AT MOST 1048576: true; the input reads as it did. -/
def waitingFairUptoRow : OpenClaim := { program := "ytbhpeecebcihkaa", sum := "727f9e2892d01b567398e5534ff910291e24fa70a5fb100dc3237c67f0acb032", func := "sizar/sizarlaw26.WaitingFair", spec := "waitingFair", inPlace := ["slices.overlaps[sizar/api.Wait]"], unfollowed := true, recurses := true, plainKeys := false, apart := false, narrowed := true }
def WaitingFairUptoSaid : Prop := waitingFairUptoRow.holds Try.pinned (OpenSpec.upto waitingFairSpec)

/-- 'sizarlaw26.WaitingOrder', WHERE WHAT IT READS IS OF BULK AT MOST 1048576: true; the input reads as it did. -/
def waitingOrderUptoRow : OpenClaim := { program := "ytbhpeecebcihkaa", sum := "727f9e2892d01b567398e5534ff910291e24fa70a5fb100dc3237c67f0acb032", func := "sizar/sizarlaw26.WaitingOrder", spec := "waitingOrder", inPlace := ["slices.overlaps[sizar/api.Wait]"], unfollowed := true, recurses := true, plainKeys := false, apart := false, narrowed := true }
def WaitingOrderUptoSaid : Prop := waitingOrderUptoRow.holds Try.pinned (OpenSpec.upto waitingOrderSpec)

/-- 'sizarlaw26.WaitingBack', WHERE WHAT IT READS IS OF BULK AT MOST 1048576: true; the input reads as it did. -/
def waitingBackUptoRow : OpenClaim := { program := "ytbhpeecebcihkaa", sum := "727f9e2892d01b567398e5534ff910291e24fa70a5fb100dc3237c67f0acb032", func := "sizar/sizarlaw26.WaitingBack", spec := "waitingBack", inPlace := ["slices.overlaps[sizar/api.Wait]"], unfollowed := true, recurses := true, plainKeys := false, apart := false, narrowed := true }
def WaitingBackUptoSaid : Prop := waitingBackUptoRow.holds Try.pinned (OpenSpec.upto waitingBackSpec)

/-- 'sizarlaw26.WaitingOthers', WHERE WHAT IT READS IS OF BULK AT MOST 1048576: true; the input reads as it did. -/
def waitingOthersUptoRow : OpenClaim := { program := "ytbhpeecebcihkaa", sum := "727f9e2892d01b567398e5534ff910291e24fa70a5fb100dc3237c67f0acb032", func := "sizar/sizarlaw26.WaitingOthers", spec := "waitingOthers", inPlace := ["slices.overlaps[sizar/api.Wait]"], unfollowed := true, recurses := true, plainKeys := false, apart := false, narrowed := true }
def WaitingOthersUptoSaid : Prop := waitingOthersUptoRow.holds Try.pinned (OpenSpec.upto waitingOthersSpec)

/-- 'sizarlaw26.WaitingServed', WHERE WHAT IT READS IS OF BULK AT MOST 1048576: true; the input reads as it did. -/
def waitingServedUptoRow : OpenClaim := { program := "ytbhpeecebcihkaa", sum := "727f9e2892d01b567398e5534ff910291e24fa70a5fb100dc3237c67f0acb032", func := "sizar/sizarlaw26.WaitingServed", spec := "waitingServed", inPlace := ["slices.overlaps[sizar/api.Wait]"], unfollowed := true, recurses := true, plainKeys := false, apart := false, narrowed := true }
def WaitingServedUptoSaid : Prop := waitingServedUptoRow.holds Try.pinned (OpenSpec.upto waitingServedSpec)

end Rows
end Go.Proofs.Ytbhpeecebcihkaa
