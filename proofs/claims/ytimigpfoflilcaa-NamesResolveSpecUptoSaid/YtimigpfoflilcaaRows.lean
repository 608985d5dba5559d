/-
  NARROWER THAN 'FOR EVERY INPUT', by the rows' own cells (each row's printed sentence says how): NamesResolveSpec: loops · NamesFindSpec: loops · NamesOrderSpec: loops · NamesAgain: loops · NamesAfter: loops · NamesCircle: loops · NamesTurned: loops.
  DERIVED. THE GIVEN ROWS OF THIS SEAT. 7 by the template 'for every input the law returns true; each argument reads behind the call as it read before'; 0 by the template 'total and deterministic' (their statements: YtimigpfoflilcaaTotals.lean).
  GIVEN WITH THE SEED: the statements are not yours to turn. If you find one false, say at which input.
  Laid BY PROGRAM, IN A SANDBOX (cutbox-rows.mjs): the forced cells as the released guide's own fill.sh prints them over the translation f19ff08ae8843286… (all of the seat's roots in one cut). By AI agents, Wed Nov 11 2026. No macro, syntax, notation, axiom, sorry.
-/
import Derived.Test.YtimigpfoflilcaaChecked
import GoSem.Claim
import GoSem.ClaimJoined
import GoSem.ClaimMapViews
import Derived.JoinedTies
import Derived.KernelRfl
namespace Go.Proofs.Ytimigpfoflilcaa
/- THE CELL 'sum', in the pinned program and in every row, IS THE sha256 OF THE DUMP (.gsa) THAT YtimigpfoflilcaaProg.lean LOADS. Nothing in Lean hashes anything: it is a label: what it is worth is what the hold of that sum in a sandbox is worth. -/
noncomputable def Try.pinned : Pinned := { name := "ytimigpfoflilcaa", sum := "f19ff08ae884328662bb4f80fc7286260ca71da232bef2173f2a4910f5ebc98a", checked := Try.checked }
namespace Rows
def none {H : Type} : Left H := { results := [], args := [] }

/-- 'sizarlaw11.NamesResolveSpec': WHATEVER THE INPUT: true; the input reads as it did. -/
def namesResolveSpecSpec : ChangeSpec := { name := "namesResolveSpec", fn := fun _ => fun
  | [d] => { results := [.lit (.bool true)], args := [d] }
  | _ => none }
def namesResolveSpecRow : OpenClaim := { program := "ytimigpfoflilcaa", sum := "f19ff08ae884328662bb4f80fc7286260ca71da232bef2173f2a4910f5ebc98a", func := "sizar/sizarlaw11.NamesResolveSpec", spec := "namesResolveSpec", unfollowed := true, recurses := true, loops := true, apart := false }
def NamesResolveSpecSaid : Prop := namesResolveSpecRow.holds Try.pinned (OpenSpec.ofChange namesResolveSpecSpec)

/-- ITS FALSE NEIGHBOUR: 'it returns false'. Refute it at one input. -/
def namesResolveSpecWrong : ChangeSpec := { name := "namesResolveSpec", fn := fun _ => fun
  | [d] => { results := [.lit (.bool false)], args := [d] }
  | _ => none }
def NamesResolveSpecWrongFalsely : Prop := namesResolveSpecRow.holds Try.pinned (OpenSpec.ofChange namesResolveSpecWrong)

/-- 'sizarlaw11.NamesFindSpec': WHATEVER THE INPUT: true; the input reads as it did. -/
def namesFindSpecSpec : ChangeSpec := { name := "namesFindSpec", fn := fun _ => fun
  | [d1, d2] => { results := [.lit (.bool true)], args := [d1, d2] }
  | _ => none }
def namesFindSpecRow : OpenClaim := { program := "ytimigpfoflilcaa", sum := "f19ff08ae884328662bb4f80fc7286260ca71da232bef2173f2a4910f5ebc98a", func := "sizar/sizarlaw11.NamesFindSpec", spec := "namesFindSpec", unfollowed := true, recurses := true, loops := true, apart := false }
def NamesFindSpecSaid : Prop := namesFindSpecRow.holds Try.pinned (OpenSpec.ofChange namesFindSpecSpec)

/-- ITS FALSE NEIGHBOUR: 'it returns false'. Refute it at one input. -/
def namesFindSpecWrong : ChangeSpec := { name := "namesFindSpec", fn := fun _ => fun
  | [d1, d2] => { results := [.lit (.bool false)], args := [d1, d2] }
  | _ => none }
def NamesFindSpecWrongFalsely : Prop := namesFindSpecRow.holds Try.pinned (OpenSpec.ofChange namesFindSpecWrong)

/-- 'sizarlaw11.NamesOrderSpec': WHATEVER THE INPUT: true; the input reads as it did. -/
def namesOrderSpecSpec : ChangeSpec := { name := "namesOrderSpec", fn := fun _ => fun
  | [d] => { results := [.lit (.bool true)], args := [d] }
  | _ => none }
def namesOrderSpecRow : OpenClaim := { program := "ytimigpfoflilcaa", sum := "f19ff08ae884328662bb4f80fc7286260ca71da232bef2173f2a4910f5ebc98a", func := "sizar/sizarlaw11.NamesOrderSpec", spec := "namesOrderSpec", unfollowed := true, recurses := true, loops := true, apart := false }
def NamesOrderSpecSaid : Prop := namesOrderSpecRow.holds Try.pinned (OpenSpec.ofChange namesOrderSpecSpec)

/-- ITS FALSE NEIGHBOUR: 'it returns false'. Refute it at one input. -/
def namesOrderSpecWrong : ChangeSpec := { name := "namesOrderSpec", fn := fun _ => fun
  | [d] => { results := [.lit (.bool false)], args := [d] }
  | _ => none }
def NamesOrderSpecWrongFalsely : Prop := namesOrderSpecRow.holds Try.pinned (OpenSpec.ofChange namesOrderSpecWrong)

/-- 'sizarlaw11.NamesAgain': WHATEVER THE INPUT: true; the input reads as it did. -/
def namesAgainSpec : ChangeSpec := { name := "namesAgain", fn := fun _ => fun
  | [d] => { results := [.lit (.bool true)], args := [d] }
  | _ => none }
def namesAgainRow : OpenClaim := { program := "ytimigpfoflilcaa", sum := "f19ff08ae884328662bb4f80fc7286260ca71da232bef2173f2a4910f5ebc98a", func := "sizar/sizarlaw11.NamesAgain", spec := "namesAgain", unfollowed := true, recurses := true, loops := true, apart := false }
def NamesAgainSaid : Prop := namesAgainRow.holds Try.pinned (OpenSpec.ofChange namesAgainSpec)

/-- ITS FALSE NEIGHBOUR: 'it returns false'. Refute it at one input. -/
def namesAgainWrong : ChangeSpec := { name := "namesAgain", fn := fun _ => fun
  | [d] => { results := [.lit (.bool false)], args := [d] }
  | _ => none }
def NamesAgainWrongFalsely : Prop := namesAgainRow.holds Try.pinned (OpenSpec.ofChange namesAgainWrong)

/-- 'sizarlaw11.NamesAfter': WHATEVER THE INPUT: true; the input reads as it did. -/
def namesAfterSpec : ChangeSpec := { name := "namesAfter", fn := fun _ => fun
  | [d] => { results := [.lit (.bool true)], args := [d] }
  | _ => none }
def namesAfterRow : OpenClaim := { program := "ytimigpfoflilcaa", sum := "f19ff08ae884328662bb4f80fc7286260ca71da232bef2173f2a4910f5ebc98a", func := "sizar/sizarlaw11.NamesAfter", spec := "namesAfter", unfollowed := true, recurses := true, loops := true, apart := false }
def NamesAfterSaid : Prop := namesAfterRow.holds Try.pinned (OpenSpec.ofChange namesAfterSpec)

/-- ITS FALSE NEIGHBOUR: 'it returns false'. Refute it at one input. -/
def namesAfterWrong : ChangeSpec := { name := "namesAfter", fn := fun _ => fun
  | [d] => { results := [.lit (.bool false)], args := [d] }
  | _ => none }
def NamesAfterWrongFalsely : Prop := namesAfterRow.holds Try.pinned (OpenSpec.ofChange namesAfterWrong)

/-- 'sizarlaw11.NamesCircle': WHATEVER THE INPUT: true; the input reads as it did. -/
def namesCircleSpec : ChangeSpec := { name := "namesCircle", fn := fun _ => fun
  | [d] => { results := [.lit (.bool true)], args := [d] }
  | _ => none }
def namesCircleRow : OpenClaim := { program := "ytimigpfoflilcaa", sum := "f19ff08ae884328662bb4f80fc7286260ca71da232bef2173f2a4910f5ebc98a", func := "sizar/sizarlaw11.NamesCircle", spec := "namesCircle", unfollowed := true, recurses := true, loops := true, apart := false }
def NamesCircleSaid : Prop := namesCircleRow.holds Try.pinned (OpenSpec.ofChange namesCircleSpec)

/-- ITS FALSE NEIGHBOUR: 'it returns false'. Refute it at one input. -/
def namesCircleWrong : ChangeSpec := { name := "namesCircle", fn := fun _ => fun
  | [d] => { results := [.lit (.bool false)], args := [d] }
  | _ => none }
def NamesCircleWrongFalsely : Prop := namesCircleRow.holds Try.pinned (OpenSpec.ofChange namesCircleWrong)

/-- 'sizarlaw11.NamesTurned': WHATEVER THE INPUT: true; the input reads as it did. -/
def namesTurnedSpec : ChangeSpec := { name := "namesTurned", fn := fun _ => fun
  | [d1, d2] => { results := [.lit (.bool true)], args := [d1, d2] }
  | _ => none }
def namesTurnedRow : OpenClaim := { program := "ytimigpfoflilcaa", sum := "f19ff08ae884328662bb4f80fc7286260ca71da232bef2173f2a4910f5ebc98a", func := "sizar/sizarlaw11.NamesTurned", spec := "namesTurned", unfollowed := true, recurses := true, loops := true, apart := false }
def NamesTurnedSaid : Prop := namesTurnedRow.holds Try.pinned (OpenSpec.ofChange namesTurnedSpec)

/-- ITS FALSE NEIGHBOUR: 'it returns false'. Refute it at one input. -/
def namesTurnedWrong : ChangeSpec := { name := "namesTurned", fn := fun _ => fun
  | [d1, d2] => { results := [.lit (.bool false)], args := [d1, d2] }
  | _ => none }
def NamesTurnedWrongFalsely : Prop := namesTurnedRow.holds Try.pinned (OpenSpec.ofChange namesTurnedWrong)

/- THE SECOND FORM. 'bulk': how many values and letters a reading holds, each counted each time it is reached (what is shared counts as often as it is met; a slice's spare places count too). A statement '..UptoSaid' is the law's where the arguments, and the package variables that the reading takes, are together of bulk at most 1048576: NARROWER than '..Said'. Prove '..Said' where nothing that the law and all that it calls make is longer than what came in: it says more and counts as full. Else prove '..UptoSaid'. A law counts once. -/
mutual
def uptoBulk {H : Type} : DataW H → Nat
  | .lit (.string bytes) => bytes.length + 1
  | .lit _ => 1
  | .nil => 1
  | .ptr d => uptoBulk d + 1
  | .slice elems spare => uptoBulkAll elems + uptoBulkAll spare + 1
  | .agg parts => uptoBulkAll parts + 1
  | .iface _ d => uptoBulk d + 1
  | .map entries => uptoBulkEntries entries + 1
  | .held _ => 1
def uptoBulkAll {H : Type} : List (DataW H) → Nat
  | [] => 0
  | d :: r => uptoBulk d + uptoBulkAll r
def uptoBulkEntries {H : Type} : List (Lit × DataW H) → Nat
  | [] => 0
  | x :: r => uptoBulkEntry x + uptoBulkEntries r
def uptoBulkEntry {H : Type} : Lit × DataW H → Nat
  | (.string bytes, d) => bytes.length + uptoBulk d + 1
  | (_, d) => uptoBulk d + 1
 end
def uptoSmall : (H : Type) → List (DataW H) → Bool := fun _ ds => decide (uptoBulkAll ds ≤ 1048576)
def OpenSpec.upto (s : _root_.Go.ChangeSpec) : _root_.Go.OpenSpec := { _root_.Go.OpenSpec.ofChange s with cond := some uptoSmall }

/-- 'sizarlaw11.NamesResolveSpec', WHERE WHAT IT READS IS OF BULK AT MOST 1048576: true; the input reads as it did. -/
def namesResolveSpecUptoRow : OpenClaim := { program := "ytimigpfoflilcaa", sum := "f19ff08ae884328662bb4f80fc7286260ca71da232bef2173f2a4910f5ebc98a", func := "sizar/sizarlaw11.NamesResolveSpec", spec := "namesResolveSpec", unfollowed := true, recurses := true, loops := true, apart := false, narrowed := true }
def NamesResolveSpecUptoSaid : Prop := namesResolveSpecUptoRow.holds Try.pinned (OpenSpec.upto namesResolveSpecSpec)

/-- 'sizarlaw11.NamesFindSpec', WHERE WHAT IT READS IS OF BULK AT MOST 1048576: true; the input reads as it did. -/
def namesFindSpecUptoRow : OpenClaim := { program := "ytimigpfoflilcaa", sum := "f19ff08ae884328662bb4f80fc7286260ca71da232bef2173f2a4910f5ebc98a", func := "sizar/sizarlaw11.NamesFindSpec", spec := "namesFindSpec", unfollowed := true, recurses := true, loops := true, apart := false, narrowed := true }
def NamesFindSpecUptoSaid : Prop := namesFindSpecUptoRow.holds Try.pinned (OpenSpec.upto namesFindSpecSpec)

/-- 'sizarlaw11.NamesOrderSpec', WHERE WHAT IT READS IS OF BULK AT MOST 1048576: true; the input reads as it did. -/
def namesOrderSpecUptoRow : OpenClaim := { program := "ytimigpfoflilcaa", sum := "f19ff08ae884328662bb4f80fc7286260ca71da232bef2173f2a4910f5ebc98a", func := "sizar/sizarlaw11.NamesOrderSpec", spec := "namesOrderSpec", unfollowed := true, recurses := true, loops := true, apart := false, narrowed := true }
def NamesOrderSpecUptoSaid : Prop := namesOrderSpecUptoRow.holds Try.pinned (OpenSpec.upto namesOrderSpecSpec)

/-- 'sizarlaw11.NamesAgain', WHERE WHAT IT READS IS OF BULK AT MOST 1048576: true; the input reads as it did. -/
def namesAgainUptoRow : OpenClaim := { program := "ytimigpfoflilcaa", sum := "f19ff08ae884328662bb4f80fc7286260ca71da232bef2173f2a4910f5ebc98a", func := "sizar/sizarlaw11.NamesAgain", spec := "namesAgain", unfollowed := true, recurses := true, loops := true, apart := false, narrowed := true }
def NamesAgainUptoSaid : Prop := namesAgainUptoRow.holds Try.pinned (OpenSpec.upto namesAgainSpec)

/-- 'sizarlaw11.NamesAfter', WHERE WHAT IT READS IS OF BULK AT MOST 1048576: true; the input reads as it did. -/
def namesAfterUptoRow : OpenClaim := { program := "ytimigpfoflilcaa", sum := "f19ff08ae884328662bb4f80fc7286260ca71da232bef2173f2a4910f5ebc98a", func := "sizar/sizarlaw11.NamesAfter", spec := "namesAfter", unfollowed := true, recurses := true, loops := true, apart := false, narrowed := true }
def NamesAfterUptoSaid : Prop := namesAfterUptoRow.holds Try.pinned (OpenSpec.upto namesAfterSpec)

/-- 'sizarlaw11.NamesCircle', WHERE WHAT IT READS IS OF BULK AT MOST 1048576: true; the input reads as it did. -/
def namesCircleUptoRow : OpenClaim := { program := "ytimigpfoflilcaa", sum := "f19ff08ae884328662bb4f80fc7286260ca71da232bef2173f2a4910f5ebc98a", func := "sizar/sizarlaw11.NamesCircle", spec := "namesCircle", unfollowed := true, recurses := true, loops := true, apart := false, narrowed := true }
def NamesCircleUptoSaid : Prop := namesCircleUptoRow.holds Try.pinned (OpenSpec.upto namesCircleSpec)

/-- 'sizarlaw11.NamesTurned', WHERE WHAT IT READS IS OF BULK AT MOST 1048576: true; the input reads as it did. -/
def namesTurnedUptoRow : OpenClaim := { program := "ytimigpfoflilcaa", sum := "f19ff08ae884328662bb4f80fc7286260ca71da232bef2173f2a4910f5ebc98a", func := "sizar/sizarlaw11.NamesTurned", spec := "namesTurned", unfollowed := true, recurses := true, loops := true, apart := false, narrowed := true }
def NamesTurnedUptoSaid : Prop := namesTurnedUptoRow.holds Try.pinned (OpenSpec.upto namesTurnedSpec)

end Rows
end Go.Proofs.Ytimigpfoflilcaa
