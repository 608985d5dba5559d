/-
  No cell of these rows narrows 'for every input' (looked for: loops, veiled, ifaces, maps, wideKeys, modest, calm, conditions, laid).
  DERIVED. THE GIVEN ROWS OF THIS SEAT. 7 by the template 'for every input the law returns true; each argument reads behind the call as it read before'; 0 by the template 'total and deterministic' (their statements: YtbnaoefmjmlfbaaTotals.lean).
  GIVEN WITH THE SEED: the statements are not yours to turn. If you find one false, say at which input.
  Laid BY PROGRAM, IN A SANDBOX (cutbox-rows.mjs): the forced cells as the released guide's own fill.sh prints them over the translation 85ebbd9345a34433… (all of the seat's roots in one cut). By AI agents, Wed Nov 11 2026. No macro, syntax, notation, axiom, sorry.
-/
import Derived.Test.YtbnaoefmjmlfbaaChecked
import GoSem.Claim
import GoSem.ClaimJoined
import GoSem.ClaimMapViews
import Derived.JoinedTies
import Derived.KernelRfl
namespace Go.Proofs.Ytbnaoefmjmlfbaa
/- THE CELL 'sum', in the pinned program and in every row, IS THE sha256 OF THE DUMP (.gsa) THAT YtbnaoefmjmlfbaaProg.lean LOADS. Nothing in Lean hashes anything: it is a label: what it is worth is what the hold of that sum in a sandbox is worth. -/
noncomputable def Try.pinned : Pinned := { name := "ytbnaoefmjmlfbaa", sum := "85ebbd9345a3443347357106b61b5f240b640ba8c7fb7c47551aecf379e978f0", checked := Try.checked }
namespace Rows
def none {H : Type} : Left H := { results := [], args := [] }

/-- 'sizarlaw31.OffersMakeSpec': WHATEVER THE INPUT: true; the input reads as it did. -/
def offersMakeSpecSpec : ChangeSpec := { name := "offersMakeSpec", fn := fun _ => fun
  | [d1, d2] => { results := [.lit (.bool true)], args := [d1, d2] }
  | _ => none }
def offersMakeSpecRow : OpenClaim := { program := "ytbnaoefmjmlfbaa", sum := "85ebbd9345a3443347357106b61b5f240b640ba8c7fb7c47551aecf379e978f0", func := "sizar/sizarlaw31.OffersMakeSpec", spec := "offersMakeSpec", inPlace := ["slices.overlaps[sizar/api.Offer]"], unfollowed := true, recurses := true, apart := false }
def OffersMakeSpecSaid : Prop := offersMakeSpecRow.holds Try.pinned (OpenSpec.ofChange offersMakeSpecSpec)

/-- ITS FALSE NEIGHBOUR: 'it returns false'. Refute it at one input. -/
def offersMakeSpecWrong : ChangeSpec := { name := "offersMakeSpec", fn := fun _ => fun
  | [d1, d2] => { results := [.lit (.bool false)], args := [d1, d2] }
  | _ => none }
def OffersMakeSpecWrongFalsely : Prop := offersMakeSpecRow.holds Try.pinned (OpenSpec.ofChange offersMakeSpecWrong)

/-- 'sizarlaw31.OffersExpireSpec': WHATEVER THE INPUT: true; the input reads as it did. -/
def offersExpireSpecSpec : ChangeSpec := { name := "offersExpireSpec", fn := fun _ => fun
  | [d1, d2, d3] => { results := [.lit (.bool true)], args := [d1, d2, d3] }
  | _ => none }
def offersExpireSpecRow : OpenClaim := { program := "ytbnaoefmjmlfbaa", sum := "85ebbd9345a3443347357106b61b5f240b640ba8c7fb7c47551aecf379e978f0", func := "sizar/sizarlaw31.OffersExpireSpec", spec := "offersExpireSpec", inPlace := ["slices.overlaps[sizar/api.Offer]"], unfollowed := true, recurses := true, apart := false }
def OffersExpireSpecSaid : Prop := offersExpireSpecRow.holds Try.pinned (OpenSpec.ofChange offersExpireSpecSpec)

/-- ITS FALSE NEIGHBOUR: 'it returns false'. Refute it at one input. -/
def offersExpireSpecWrong : ChangeSpec := { name := "offersExpireSpec", fn := fun _ => fun
  | [d1, d2, d3] => { results := [.lit (.bool false)], args := [d1, d2, d3] }
  | _ => none }
def OffersExpireSpecWrongFalsely : Prop := offersExpireSpecRow.holds Try.pinned (OpenSpec.ofChange offersExpireSpecWrong)

/-- 'sizarlaw31.OffersTakeSpec': WHATEVER THE INPUT: true; the input reads as it did. -/
def offersTakeSpecSpec : ChangeSpec := { name := "offersTakeSpec", fn := fun _ => fun
  | [d1, d2, d3, d4] => { results := [.lit (.bool true)], args := [d1, d2, d3, d4] }
  | _ => none }
def offersTakeSpecRow : OpenClaim := { program := "ytbnaoefmjmlfbaa", sum := "85ebbd9345a3443347357106b61b5f240b640ba8c7fb7c47551aecf379e978f0", func := "sizar/sizarlaw31.OffersTakeSpec", spec := "offersTakeSpec", inPlace := ["slices.overlaps[sizar/api.Offer]"], unfollowed := true, recurses := true, apart := false }
def OffersTakeSpecSaid : Prop := offersTakeSpecRow.holds Try.pinned (OpenSpec.ofChange offersTakeSpecSpec)

/-- ITS FALSE NEIGHBOUR: 'it returns false'. Refute it at one input. -/
def offersTakeSpecWrong : ChangeSpec := { name := "offersTakeSpec", fn := fun _ => fun
  | [d1, d2, d3, d4] => { results := [.lit (.bool false)], args := [d1, d2, d3, d4] }
  | _ => none }
def OffersTakeSpecWrongFalsely : Prop := offersTakeSpecRow.holds Try.pinned (OpenSpec.ofChange offersTakeSpecWrong)

/-- 'sizarlaw31.OffersOnce': WHATEVER THE INPUT: true; the input reads as it did. -/
def offersOnceSpec : ChangeSpec := { name := "offersOnce", fn := fun _ => fun
  | [d1, d2, d3] => { results := [.lit (.bool true)], args := [d1, d2, d3] }
  | _ => none }
def offersOnceRow : OpenClaim := { program := "ytbnaoefmjmlfbaa", sum := "85ebbd9345a3443347357106b61b5f240b640ba8c7fb7c47551aecf379e978f0", func := "sizar/sizarlaw31.OffersOnce", spec := "offersOnce", inPlace := ["slices.overlaps[sizar/api.Offer]"], unfollowed := true, recurses := true, apart := false }
def OffersOnceSaid : Prop := offersOnceRow.holds Try.pinned (OpenSpec.ofChange offersOnceSpec)

/-- ITS FALSE NEIGHBOUR: 'it returns false'. Refute it at one input. -/
def offersOnceWrong : ChangeSpec := { name := "offersOnce", fn := fun _ => fun
  | [d1, d2, d3] => { results := [.lit (.bool false)], args := [d1, d2, d3] }
  | _ => none }
def OffersOnceWrongFalsely : Prop := offersOnceRow.holds Try.pinned (OpenSpec.ofChange offersOnceWrong)

/-- 'sizarlaw31.OffersParts': WHATEVER THE INPUT: true; the input reads as it did. -/
def offersPartsSpec : ChangeSpec := { name := "offersParts", fn := fun _ => fun
  | [d1, d2, d3, d4] => { results := [.lit (.bool true)], args := [d1, d2, d3, d4] }
  | _ => none }
def offersPartsRow : OpenClaim := { program := "ytbnaoefmjmlfbaa", sum := "85ebbd9345a3443347357106b61b5f240b640ba8c7fb7c47551aecf379e978f0", func := "sizar/sizarlaw31.OffersParts", spec := "offersParts", inPlace := ["slices.overlaps[sizar/api.Offer]"], unfollowed := true, recurses := true, apart := false }
def OffersPartsSaid : Prop := offersPartsRow.holds Try.pinned (OpenSpec.ofChange offersPartsSpec)

/-- ITS FALSE NEIGHBOUR: 'it returns false'. Refute it at one input. -/
def offersPartsWrong : ChangeSpec := { name := "offersParts", fn := fun _ => fun
  | [d1, d2, d3, d4] => { results := [.lit (.bool false)], args := [d1, d2, d3, d4] }
  | _ => none }
def OffersPartsWrongFalsely : Prop := offersPartsRow.holds Try.pinned (OpenSpec.ofChange offersPartsWrong)

/-- 'sizarlaw31.OffersTurned': WHATEVER THE INPUT: true; the input reads as it did. -/
def offersTurnedSpec : ChangeSpec := { name := "offersTurned", fn := fun _ => fun
  | [d1, d2] => { results := [.lit (.bool true)], args := [d1, d2] }
  | _ => none }
def offersTurnedRow : OpenClaim := { program := "ytbnaoefmjmlfbaa", sum := "85ebbd9345a3443347357106b61b5f240b640ba8c7fb7c47551aecf379e978f0", func := "sizar/sizarlaw31.OffersTurned", spec := "offersTurned", inPlace := ["slices.overlaps[sizar/api.Offer]"], unfollowed := true, recurses := true, apart := false }
def OffersTurnedSaid : Prop := offersTurnedRow.holds Try.pinned (OpenSpec.ofChange offersTurnedSpec)

/-- ITS FALSE NEIGHBOUR: 'it returns false'. Refute it at one input. -/
def offersTurnedWrong : ChangeSpec := { name := "offersTurned", fn := fun _ => fun
  | [d1, d2] => { results := [.lit (.bool false)], args := [d1, d2] }
  | _ => none }
def OffersTurnedWrongFalsely : Prop := offersTurnedRow.holds Try.pinned (OpenSpec.ofChange offersTurnedWrong)

/-- 'sizarlaw31.OffersHeld': WHATEVER THE INPUT: true; the input reads as it did. -/
def offersHeldSpec : ChangeSpec := { name := "offersHeld", fn := fun _ => fun
  | [d1, d2, d3] => { results := [.lit (.bool true)], args := [d1, d2, d3] }
  | _ => none }
def offersHeldRow : OpenClaim := { program := "ytbnaoefmjmlfbaa", sum := "85ebbd9345a3443347357106b61b5f240b640ba8c7fb7c47551aecf379e978f0", func := "sizar/sizarlaw31.OffersHeld", spec := "offersHeld", inPlace := ["slices.overlaps[sizar/api.Offer]"], unfollowed := true, recurses := true, apart := false }
def OffersHeldSaid : Prop := offersHeldRow.holds Try.pinned (OpenSpec.ofChange offersHeldSpec)

/-- ITS FALSE NEIGHBOUR: 'it returns false'. Refute it at one input. -/
def offersHeldWrong : ChangeSpec := { name := "offersHeld", fn := fun _ => fun
  | [d1, d2, d3] => { results := [.lit (.bool false)], args := [d1, d2, d3] }
  | _ => none }
def OffersHeldWrongFalsely : Prop := offersHeldRow.holds Try.pinned (OpenSpec.ofChange offersHeldWrong)

/- THE SECOND FORM. 'bulk': how many values and letters a reading holds, each counted each time it is reached (what is shared counts as often as it is met; a slice's spare places count too). A statement '..UptoSaid' is the law's where the arguments, and the package variables that the reading takes, are together of bulk at most 1048576: NARROWER than '..Said'. Prove '..Said' where nothing that the law and all that it calls make is longer than what came in: it says more and counts as full. Else prove '..UptoSaid'. A law counts once. -/
mutual
def uptoBulk {H : Type} : DataW H → Nat
  | .lit (.string bytes) => bytes.length + 1
  | .lit _ => 1
  | .nil => 1
  | .ptr d => uptoBulk d + 1
  | .slice elems spare => uptoBulkAll elems + uptoBulkAll spare + 1
  | .agg parts => uptoBulkAll parts + 1
  | .iface _ d => uptoBulk d + 1
  | .map entries => uptoBulkEntries entries + 1
  | .held _ => 1
def uptoBulkAll {H : Type} : List (DataW H) → Nat
  | [] => 0
  | d :: r => uptoBulk d + uptoBulkAll r
def uptoBulkEntries {H : Type} : List (Lit × DataW H) → Nat
  | [] => 0
  | x :: r => uptoBulkEntry x + uptoBulkEntries r
def uptoBulkEntry {H : Type} : Lit × DataW H → Nat
  | (.string bytes, d) => bytes.length + uptoBulk d + 1
  | (_, d) => uptoBulk d + 1
 end
def uptoSmall : (H : Type) → List (DataW H) → Bool := fun _ ds => decide (uptoBulkAll ds ≤ 1048576)
def OpenSpec.upto (s : _root_.Go.ChangeSpec) : _root_.Go.OpenSpec := { _root_.Go.OpenSpec.ofChange s with cond := some uptoSmall }

/-- 'sizarlaw31.OffersMakeSpec', WHERE WHAT IT READS IS OF BULK AT MOST 1048576: true; the input reads as it did. -/
def offersMakeSpecUptoRow : OpenClaim := { program := "ytbnaoefmjmlfbaa", sum := "85ebbd9345a3443347357106b61b5f240b640ba8c7fb7c47551aecf379e978f0", func := "sizar/sizarlaw31.OffersMakeSpec", spec := "offersMakeSpec", inPlace := ["slices.overlaps[sizar/api.Offer]"], unfollowed := true, recurses := true, apart := false, narrowed := true }
def OffersMakeSpecUptoSaid : Prop := offersMakeSpecUptoRow.holds Try.pinned (OpenSpec.upto offersMakeSpecSpec)

/-- 'sizarlaw31.OffersExpireSpec', WHERE WHAT IT READS IS OF BULK AT MOST 1048576: true; the input reads as it did. -/
def offersExpireSpecUptoRow : OpenClaim := { program := "ytbnaoefmjmlfbaa", sum := "85ebbd9345a3443347357106b61b5f240b640ba8c7fb7c47551aecf379e978f0", func := "sizar/sizarlaw31.OffersExpireSpec", spec := "offersExpireSpec", inPlace := ["slices.overlaps[sizar/api.Offer]"], unfollowed := true, recurses := true, apart := false, narrowed := true }
def OffersExpireSpecUptoSaid : Prop := offersExpireSpecUptoRow.holds Try.pinned (OpenSpec.upto offersExpireSpecSpec)

/-- 'sizarlaw31.OffersTakeSpec', WHERE WHAT IT READS IS OF BULK AT MOST 1048576: true; the input reads as it did. -/
def offersTakeSpecUptoRow : OpenClaim := { program := "ytbnaoefmjmlfbaa", sum := "85ebbd9345a3443347357106b61b5f240b640ba8c7fb7c47551aecf379e978f0", func := "sizar/sizarlaw31.OffersTakeSpec", spec := "offersTakeSpec", inPlace := ["slices.overlaps[sizar/api.Offer]"], unfollowed := true, recurses := true, apart := false, narrowed := true }
def OffersTakeSpecUptoSaid : Prop := offersTakeSpecUptoRow.holds Try.pinned (OpenSpec.upto offersTakeSpecSpec)

/-- 'sizarlaw31.OffersOnce', WHERE WHAT IT READS IS OF BULK AT MOST 1048576: true; the input reads as it did. -/
def offersOnceUptoRow : OpenClaim := { program := "ytbnaoefmjmlfbaa", sum := "85ebbd9345a3443347357106b61b5f240b640ba8c7fb7c47551aecf379e978f0", func := "sizar/sizarlaw31.OffersOnce", spec := "offersOnce", inPlace := ["slices.overlaps[sizar/api.Offer]"], unfollowed := true, recurses := true, apart := false, narrowed := true }
def OffersOnceUptoSaid : Prop := offersOnceUptoRow.holds Try.pinned (OpenSpec.upto offersOnceSpec)

/-- 'sizarlaw31.OffersParts', WHERE WHAT IT READS IS OF BULK AT MOST 1048576: true; the input reads as it did. -/
def offersPartsUptoRow : OpenClaim := { program := "ytbnaoefmjmlfbaa", sum := "85ebbd9345a3443347357106b61b5f240b640ba8c7fb7c47551aecf379e978f0", func := "sizar/sizarlaw31.OffersParts", spec := "offersParts", inPlace := ["slices.overlaps[sizar/api.Offer]"], unfollowed := true, recurses := true, apart := false, narrowed := true }
def OffersPartsUptoSaid : Prop := offersPartsUptoRow.holds Try.pinned (OpenSpec.upto offersPartsSpec)

/-- 'sizarlaw31.OffersTurned', WHERE WHAT IT READS IS OF BULK AT MOST 1048576: true; the input reads as it did. -/
def offersTurnedUptoRow : OpenClaim := { program := "ytbnaoefmjmlfbaa", sum := "85ebbd9345a3443347357106b61b5f240b640ba8c7fb7c47551aecf379e978f0", func := "sizar/sizarlaw31.OffersTurned", spec := "offersTurned", inPlace := ["slices.overlaps[sizar/api.Offer]"], unfollowed := true, recurses := true, apart := false, narrowed := true }
def OffersTurnedUptoSaid : Prop := offersTurnedUptoRow.holds Try.pinned (OpenSpec.upto offersTurnedSpec)

/-- 'sizarlaw31.OffersHeld', WHERE WHAT IT READS IS OF BULK AT MOST 1048576: true; the input reads as it did. -/
def offersHeldUptoRow : OpenClaim := { program := "ytbnaoefmjmlfbaa", sum := "85ebbd9345a3443347357106b61b5f240b640ba8c7fb7c47551aecf379e978f0", func := "sizar/sizarlaw31.OffersHeld", spec := "offersHeld", inPlace := ["slices.overlaps[sizar/api.Offer]"], unfollowed := true, recurses := true, apart := false, narrowed := true }
def OffersHeldUptoSaid : Prop := offersHeldUptoRow.holds Try.pinned (OpenSpec.upto offersHeldSpec)

end Rows
end Go.Proofs.Ytbnaoefmjmlfbaa
