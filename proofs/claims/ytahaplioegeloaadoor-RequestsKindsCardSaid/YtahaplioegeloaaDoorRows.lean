/-
  NARROWER THAN 'FOR EVERY INPUT', by the rows' own cells (each row's printed sentence says how): RequestsSpec: laid · RequestsDecodeSpec: laid · RequestsDoneSpec: laid · RequestsBack: laid · RequestsOnce: laid · RequestsKinds: laid · RequestsChanged: laid · RequestsStale: laid.
  DERIVED. THE GIVEN ROWS OF THIS SEAT. 8 by the template 'for every input the law returns true; each argument reads behind the call as it read before'; 0 by the template 'total and deterministic' (their statements: YtahaplioegeloaaDoorTotals.lean).
  GIVEN WITH THE SEED: the statements are not yours to turn. If you find one false, say at which input.
  Laid BY PROGRAM, IN A SANDBOX (cutbox-rows.mjs): the forced cells as the released guide's own fill.sh prints them over the translation 7bee6c4dc1bc75c8… (all of the seat's roots in one cut). By AI agents, Wed Nov 11 2026. No macro, syntax, notation, axiom, sorry.
-/
import Derived.Test.YtahaplioegeloaaDoorChecked
import GoSem.Claim
import GoSem.ClaimJoined
import GoSem.ClaimMapViews
import Derived.JoinedTies
import Derived.KernelRfl
namespace Go.Proofs.YtahaplioegeloaaDoor
/- THE CELL 'sum', in the pinned program and in every row, IS THE sha256 OF THE DUMP (.gsa) THAT YtahaplioegeloaaDoorProg.lean LOADS. Nothing in Lean hashes anything: it is a label: what it is worth is what the hold of that sum in a sandbox is worth. -/
noncomputable def Tryd.pinned : Pinned := { name := "ytahaplioegeloaadoor", sum := "7bee6c4dc1bc75c895321a0e5125b6a6b2305bd20f53372f03d2ae842750a7a5", checked := Tryd.checked }
namespace Rows
def none {H : Type} : Left H := { results := [], args := [] }

/- WHAT THE LISTED PACKAGE-LEVEL VARIABLES READ AS WHEN THE CALL BEGINS. Each datum BY PROGRAM (the guide's laid-datum.mjs) off the statement by which the dump's own 'gosem.cut.vars' lays the variable. In a bare row this is a premise. The card (YtahaplioegeloaaDoorCards.lean) ties it to the program's text. -/
def laid_sizar_requests_kinds {H : Type} : DataW H := .agg [.agg [.lit (.int .i64 0), .lit (.int .i64 0), .lit (.bool false), .lit (.bool false)], .agg [.lit (.int .i64 1), .lit (.int .i64 8), .lit (.bool false), .lit (.bool true)], .agg [.lit (.int .i64 0), .lit (.int .i64 0), .lit (.bool true), .lit (.bool false)], .agg [.lit (.int .i64 1), .lit (.int .i64 1), .lit (.bool true), .lit (.bool false)], .agg [.lit (.int .i64 1), .lit (.int .i64 1), .lit (.bool false), .lit (.bool false)], .agg [.lit (.int .i64 1), .lit (.int .i64 1), .lit (.bool false), .lit (.bool false)]]

/-- 'sizarlaw29.RequestsSpec': WHATEVER THE INPUT: true; the input reads as it did. -/
def requestsSpecSpec : ChangeSpec := { name := "requestsSpec", fn := fun _ => fun
  | [d1, d2] => { results := [.lit (.bool true)], args := [d1, d2] }
  | _ => none }
def requestsSpecRow : OpenClaim := { program := "ytahaplioegeloaadoor", sum := "7bee6c4dc1bc75c895321a0e5125b6a6b2305bd20f53372f03d2ae842750a7a5", func := "sizar/sizarlaw29.RequestsSpec", spec := "requestsSpec", unfollowed := true, recurses := true, named := ["sizar/requests.kinds"], plainKeys := false, apart := false, laid := [("sizar/requests.kinds", laid_sizar_requests_kinds)] }
def RequestsSpecSaid : Prop := requestsSpecRow.holds Tryd.pinned (OpenSpec.ofChange requestsSpecSpec)

/-- ITS FALSE NEIGHBOUR: 'it returns false'. Refute it at one input. -/
def requestsSpecWrong : ChangeSpec := { name := "requestsSpec", fn := fun _ => fun
  | [d1, d2] => { results := [.lit (.bool false)], args := [d1, d2] }
  | _ => none }
def RequestsSpecWrongFalsely : Prop := requestsSpecRow.holds Tryd.pinned (OpenSpec.ofChange requestsSpecWrong)

/-- 'sizarlaw29.RequestsDecodeSpec': WHATEVER THE INPUT: true; the input reads as it did. -/
def requestsDecodeSpecSpec : ChangeSpec := { name := "requestsDecodeSpec", fn := fun _ => fun
  | [d] => { results := [.lit (.bool true)], args := [d] }
  | _ => none }
def requestsDecodeSpecRow : OpenClaim := { program := "ytahaplioegeloaadoor", sum := "7bee6c4dc1bc75c895321a0e5125b6a6b2305bd20f53372f03d2ae842750a7a5", func := "sizar/sizarlaw29.RequestsDecodeSpec", spec := "requestsDecodeSpec", unfollowed := true, recurses := true, named := ["sizar/requests.kinds"], plainKeys := false, apart := false, laid := [("sizar/requests.kinds", laid_sizar_requests_kinds)] }
def RequestsDecodeSpecSaid : Prop := requestsDecodeSpecRow.holds Tryd.pinned (OpenSpec.ofChange requestsDecodeSpecSpec)

/-- ITS FALSE NEIGHBOUR: 'it returns false'. Refute it at one input. -/
def requestsDecodeSpecWrong : ChangeSpec := { name := "requestsDecodeSpec", fn := fun _ => fun
  | [d] => { results := [.lit (.bool false)], args := [d] }
  | _ => none }
def RequestsDecodeSpecWrongFalsely : Prop := requestsDecodeSpecRow.holds Tryd.pinned (OpenSpec.ofChange requestsDecodeSpecWrong)

/-- 'sizarlaw29.RequestsDoneSpec': WHATEVER THE INPUT: true; the input reads as it did. -/
def requestsDoneSpecSpec : ChangeSpec := { name := "requestsDoneSpec", fn := fun _ => fun
  | [d1, d2, d3, d4] => { results := [.lit (.bool true)], args := [d1, d2, d3, d4] }
  | _ => none }
def requestsDoneSpecRow : OpenClaim := { program := "ytahaplioegeloaadoor", sum := "7bee6c4dc1bc75c895321a0e5125b6a6b2305bd20f53372f03d2ae842750a7a5", func := "sizar/sizarlaw29.RequestsDoneSpec", spec := "requestsDoneSpec", unfollowed := true, recurses := true, named := ["sizar/requests.kinds"], plainKeys := false, apart := false, laid := [("sizar/requests.kinds", laid_sizar_requests_kinds)] }
def RequestsDoneSpecSaid : Prop := requestsDoneSpecRow.holds Tryd.pinned (OpenSpec.ofChange requestsDoneSpecSpec)

/-- ITS FALSE NEIGHBOUR: 'it returns false'. Refute it at one input. -/
def requestsDoneSpecWrong : ChangeSpec := { name := "requestsDoneSpec", fn := fun _ => fun
  | [d1, d2, d3, d4] => { results := [.lit (.bool false)], args := [d1, d2, d3, d4] }
  | _ => none }
def RequestsDoneSpecWrongFalsely : Prop := requestsDoneSpecRow.holds Tryd.pinned (OpenSpec.ofChange requestsDoneSpecWrong)

/-- 'sizarlaw29.RequestsBack': WHATEVER THE INPUT: true; the input reads as it did. -/
def requestsBackSpec : ChangeSpec := { name := "requestsBack", fn := fun _ => fun
  | [d1, d2] => { results := [.lit (.bool true)], args := [d1, d2] }
  | _ => none }
def requestsBackRow : OpenClaim := { program := "ytahaplioegeloaadoor", sum := "7bee6c4dc1bc75c895321a0e5125b6a6b2305bd20f53372f03d2ae842750a7a5", func := "sizar/sizarlaw29.RequestsBack", spec := "requestsBack", unfollowed := true, recurses := true, named := ["sizar/requests.kinds"], plainKeys := false, apart := false, laid := [("sizar/requests.kinds", laid_sizar_requests_kinds)] }
def RequestsBackSaid : Prop := requestsBackRow.holds Tryd.pinned (OpenSpec.ofChange requestsBackSpec)

/-- ITS FALSE NEIGHBOUR: 'it returns false'. Refute it at one input. -/
def requestsBackWrong : ChangeSpec := { name := "requestsBack", fn := fun _ => fun
  | [d1, d2] => { results := [.lit (.bool false)], args := [d1, d2] }
  | _ => none }
def RequestsBackWrongFalsely : Prop := requestsBackRow.holds Tryd.pinned (OpenSpec.ofChange requestsBackWrong)

/-- 'sizarlaw29.RequestsOnce': WHATEVER THE INPUT: true; the input reads as it did. -/
def requestsOnceSpec : ChangeSpec := { name := "requestsOnce", fn := fun _ => fun
  | [d1, d2] => { results := [.lit (.bool true)], args := [d1, d2] }
  | _ => none }
def requestsOnceRow : OpenClaim := { program := "ytahaplioegeloaadoor", sum := "7bee6c4dc1bc75c895321a0e5125b6a6b2305bd20f53372f03d2ae842750a7a5", func := "sizar/sizarlaw29.RequestsOnce", spec := "requestsOnce", unfollowed := true, recurses := true, named := ["sizar/requests.kinds"], plainKeys := false, apart := false, laid := [("sizar/requests.kinds", laid_sizar_requests_kinds)] }
def RequestsOnceSaid : Prop := requestsOnceRow.holds Tryd.pinned (OpenSpec.ofChange requestsOnceSpec)

/-- ITS FALSE NEIGHBOUR: 'it returns false'. Refute it at one input. -/
def requestsOnceWrong : ChangeSpec := { name := "requestsOnce", fn := fun _ => fun
  | [d1, d2] => { results := [.lit (.bool false)], args := [d1, d2] }
  | _ => none }
def RequestsOnceWrongFalsely : Prop := requestsOnceRow.holds Tryd.pinned (OpenSpec.ofChange requestsOnceWrong)

/-- 'sizarlaw29.RequestsKinds': WHATEVER THE INPUT: true; the input reads as it did. -/
def requestsKindsSpec : ChangeSpec := { name := "requestsKinds", fn := fun _ => fun
  | [d1, d2] => { results := [.lit (.bool true)], args := [d1, d2] }
  | _ => none }
def requestsKindsRow : OpenClaim := { program := "ytahaplioegeloaadoor", sum := "7bee6c4dc1bc75c895321a0e5125b6a6b2305bd20f53372f03d2ae842750a7a5", func := "sizar/sizarlaw29.RequestsKinds", spec := "requestsKinds", unfollowed := true, recurses := true, named := ["sizar/requests.kinds"], plainKeys := false, apart := false, laid := [("sizar/requests.kinds", laid_sizar_requests_kinds)] }
def RequestsKindsSaid : Prop := requestsKindsRow.holds Tryd.pinned (OpenSpec.ofChange requestsKindsSpec)

/-- ITS FALSE NEIGHBOUR: 'it returns false'. Refute it at one input. -/
def requestsKindsWrong : ChangeSpec := { name := "requestsKinds", fn := fun _ => fun
  | [d1, d2] => { results := [.lit (.bool false)], args := [d1, d2] }
  | _ => none }
def RequestsKindsWrongFalsely : Prop := requestsKindsRow.holds Tryd.pinned (OpenSpec.ofChange requestsKindsWrong)

/-- 'sizarlaw29.RequestsChanged': WHATEVER THE INPUT: true; the input reads as it did. -/
def requestsChangedSpec : ChangeSpec := { name := "requestsChanged", fn := fun _ => fun
  | [d1, d2] => { results := [.lit (.bool true)], args := [d1, d2] }
  | _ => none }
def requestsChangedRow : OpenClaim := { program := "ytahaplioegeloaadoor", sum := "7bee6c4dc1bc75c895321a0e5125b6a6b2305bd20f53372f03d2ae842750a7a5", func := "sizar/sizarlaw29.RequestsChanged", spec := "requestsChanged", unfollowed := true, recurses := true, named := ["sizar/requests.kinds"], plainKeys := false, apart := false, laid := [("sizar/requests.kinds", laid_sizar_requests_kinds)] }
def RequestsChangedSaid : Prop := requestsChangedRow.holds Tryd.pinned (OpenSpec.ofChange requestsChangedSpec)

/-- ITS FALSE NEIGHBOUR: 'it returns false'. Refute it at one input. -/
def requestsChangedWrong : ChangeSpec := { name := "requestsChanged", fn := fun _ => fun
  | [d1, d2] => { results := [.lit (.bool false)], args := [d1, d2] }
  | _ => none }
def RequestsChangedWrongFalsely : Prop := requestsChangedRow.holds Tryd.pinned (OpenSpec.ofChange requestsChangedWrong)

/-- 'sizarlaw29.RequestsStale': WHATEVER THE INPUT: true; the input reads as it did. -/
def requestsStaleSpec : ChangeSpec := { name := "requestsStale", fn := fun _ => fun
  | [d1, d2, d3] => { results := [.lit (.bool true)], args := [d1, d2, d3] }
  | _ => none }
def requestsStaleRow : OpenClaim := { program := "ytahaplioegeloaadoor", sum := "7bee6c4dc1bc75c895321a0e5125b6a6b2305bd20f53372f03d2ae842750a7a5", func := "sizar/sizarlaw29.RequestsStale", spec := "requestsStale", unfollowed := true, recurses := true, named := ["sizar/requests.kinds"], plainKeys := false, apart := false, laid := [("sizar/requests.kinds", laid_sizar_requests_kinds)] }
def RequestsStaleSaid : Prop := requestsStaleRow.holds Tryd.pinned (OpenSpec.ofChange requestsStaleSpec)

/-- ITS FALSE NEIGHBOUR: 'it returns false'. Refute it at one input. -/
def requestsStaleWrong : ChangeSpec := { name := "requestsStale", fn := fun _ => fun
  | [d1, d2, d3] => { results := [.lit (.bool false)], args := [d1, d2, d3] }
  | _ => none }
def RequestsStaleWrongFalsely : Prop := requestsStaleRow.holds Tryd.pinned (OpenSpec.ofChange requestsStaleWrong)

/- THE SECOND FORM. 'bulk': how many values and letters a reading holds, each counted each time it is reached (what is shared counts as often as it is met; a slice's spare places count too). A statement '..UptoSaid' is the law's where the arguments, and the package variables that the reading takes, are together of bulk at most 1048576: NARROWER than '..Said'. Prove '..Said' where nothing that the law and all that it calls make is longer than what came in: it says more and counts as full. Else prove '..UptoSaid'. A law counts once. -/
mutual
def uptoBulk {H : Type} : DataW H → Nat
  | .lit (.string bytes) => bytes.length + 1
  | .lit _ => 1
  | .nil => 1
  | .ptr d => uptoBulk d + 1
  | .slice elems spare => uptoBulkAll elems + uptoBulkAll spare + 1
  | .agg parts => uptoBulkAll parts + 1
  | .iface _ d => uptoBulk d + 1
  | .map entries => uptoBulkEntries entries + 1
  | .held _ => 1
def uptoBulkAll {H : Type} : List (DataW H) → Nat
  | [] => 0
  | d :: r => uptoBulk d + uptoBulkAll r
def uptoBulkEntries {H : Type} : List (Lit × DataW H) → Nat
  | [] => 0
  | x :: r => uptoBulkEntry x + uptoBulkEntries r
def uptoBulkEntry {H : Type} : Lit × DataW H → Nat
  | (.string bytes, d) => bytes.length + uptoBulk d + 1
  | (_, d) => uptoBulk d + 1
 end
def uptoSmall : (H : Type) → List (DataW H) → Bool := fun _ ds => decide (uptoBulkAll ds ≤ 1048576)
def OpenSpec.upto (s : _root_.Go.ChangeSpec) : _root_.Go.OpenSpec := { _root_.Go.OpenSpec.ofChange s with cond := some uptoSmall }

/-- 'sizarlaw29.RequestsSpec', WHERE WHAT IT READS IS OF BULK AT MOST 1048576: true; the input reads as it did. -/
def requestsSpecUptoRow : OpenClaim := { program := "ytahaplioegeloaadoor", sum := "7bee6c4dc1bc75c895321a0e5125b6a6b2305bd20f53372f03d2ae842750a7a5", func := "sizar/sizarlaw29.RequestsSpec", spec := "requestsSpec", unfollowed := true, recurses := true, named := ["sizar/requests.kinds"], plainKeys := false, apart := false, laid := [("sizar/requests.kinds", laid_sizar_requests_kinds)], narrowed := true }
def RequestsSpecUptoSaid : Prop := requestsSpecUptoRow.holds Tryd.pinned (OpenSpec.upto requestsSpecSpec)

/-- 'sizarlaw29.RequestsDecodeSpec', WHERE WHAT IT READS IS OF BULK AT MOST 1048576: true; the input reads as it did. -/
def requestsDecodeSpecUptoRow : OpenClaim := { program := "ytahaplioegeloaadoor", sum := "7bee6c4dc1bc75c895321a0e5125b6a6b2305bd20f53372f03d2ae842750a7a5", func := "sizar/sizarlaw29.RequestsDecodeSpec", spec := "requestsDecodeSpec", unfollowed := true, recurses := true, named := ["sizar/requests.kinds"], plainKeys := false, apart := false, laid := [("sizar/requests.kinds", laid_sizar_requests_kinds)], narrowed := true }
def RequestsDecodeSpecUptoSaid : Prop := requestsDecodeSpecUptoRow.holds Tryd.pinned (OpenSpec.upto requestsDecodeSpecSpec)

/-- 'sizarlaw29.RequestsDoneSpec', WHERE WHAT IT READS IS OF BULK AT MOST 1048576: true; the input reads as it did. -/
def requestsDoneSpecUptoRow : OpenClaim := { program := "ytahaplioegeloaadoor", sum := "7bee6c4dc1bc75c895321a0e5125b6a6b2305bd20f53372f03d2ae842750a7a5", func := "sizar/sizarlaw29.RequestsDoneSpec", spec := "requestsDoneSpec", unfollowed := true, recurses := true, named := ["sizar/requests.kinds"], plainKeys := false, apart := false, laid := [("sizar/requests.kinds", laid_sizar_requests_kinds)], narrowed := true }
def RequestsDoneSpecUptoSaid : Prop := requestsDoneSpecUptoRow.holds Tryd.pinned (OpenSpec.upto requestsDoneSpecSpec)

/-- 'sizarlaw29.RequestsBack', WHERE WHAT IT READS IS OF BULK AT MOST 1048576: true; the input reads as it did. -/
def requestsBackUptoRow : OpenClaim := { program := "ytahaplioegeloaadoor", sum := "7bee6c4dc1bc75c895321a0e5125b6a6b2305bd20f53372f03d2ae842750a7a5", func := "sizar/sizarlaw29.RequestsBack", spec := "requestsBack", unfollowed := true, recurses := true, named := ["sizar/requests.kinds"], plainKeys := false, apart := false, laid := [("sizar/requests.kinds", laid_sizar_requests_kinds)], narrowed := true }
def RequestsBackUptoSaid : Prop := requestsBackUptoRow.holds Tryd.pinned (OpenSpec.upto requestsBackSpec)

/-- 'sizarlaw29.RequestsOnce', WHERE WHAT IT READS IS OF BULK AT MOST 1048576: true; the input reads as it did. -/
def requestsOnceUptoRow : OpenClaim := { program := "ytahaplioegeloaadoor", sum := "7bee6c4dc1bc75c895321a0e5125b6a6b2305bd20f53372f03d2ae842750a7a5", func := "sizar/sizarlaw29.RequestsOnce", spec := "requestsOnce", unfollowed := true, recurses := true, named := ["sizar/requests.kinds"], plainKeys := false, apart := false, laid := [("sizar/requests.kinds", laid_sizar_requests_kinds)], narrowed := true }
def RequestsOnceUptoSaid : Prop := requestsOnceUptoRow.holds Tryd.pinned (OpenSpec.upto requestsOnceSpec)

/-- 'sizarlaw29.RequestsKinds', WHERE WHAT IT READS IS OF BULK AT MOST 1048576: true; the input reads as it did. -/
def requestsKindsUptoRow : OpenClaim := { program := "ytahaplioegeloaadoor", sum := "7bee6c4dc1bc75c895321a0e5125b6a6b2305bd20f53372f03d2ae842750a7a5", func := "sizar/sizarlaw29.RequestsKinds", spec := "requestsKinds", unfollowed := true, recurses := true, named := ["sizar/requests.kinds"], plainKeys := false, apart := false, laid := [("sizar/requests.kinds", laid_sizar_requests_kinds)], narrowed := true }
def RequestsKindsUptoSaid : Prop := requestsKindsUptoRow.holds Tryd.pinned (OpenSpec.upto requestsKindsSpec)

/-- 'sizarlaw29.RequestsChanged', WHERE WHAT IT READS IS OF BULK AT MOST 1048576: true; the input reads as it did. -/
def requestsChangedUptoRow : OpenClaim := { program := "ytahaplioegeloaadoor", sum := "7bee6c4dc1bc75c895321a0e5125b6a6b2305bd20f53372f03d2ae842750a7a5", func := "sizar/sizarlaw29.RequestsChanged", spec := "requestsChanged", unfollowed := true, recurses := true, named := ["sizar/requests.kinds"], plainKeys := false, apart := false, laid := [("sizar/requests.kinds", laid_sizar_requests_kinds)], narrowed := true }
def RequestsChangedUptoSaid : Prop := requestsChangedUptoRow.holds Tryd.pinned (OpenSpec.upto requestsChangedSpec)

/-- 'sizarlaw29.RequestsStale', WHERE WHAT IT READS IS OF BULK AT MOST 1048576: true; the input reads as it did. -/
def requestsStaleUptoRow : OpenClaim := { program := "ytahaplioegeloaadoor", sum := "7bee6c4dc1bc75c895321a0e5125b6a6b2305bd20f53372f03d2ae842750a7a5", func := "sizar/sizarlaw29.RequestsStale", spec := "requestsStale", unfollowed := true, recurses := true, named := ["sizar/requests.kinds"], plainKeys := false, apart := false, laid := [("sizar/requests.kinds", laid_sizar_requests_kinds)], narrowed := true }
def RequestsStaleUptoSaid : Prop := requestsStaleUptoRow.holds Tryd.pinned (OpenSpec.upto requestsStaleSpec)

end Rows
end Go.Proofs.YtahaplioegeloaaDoor
