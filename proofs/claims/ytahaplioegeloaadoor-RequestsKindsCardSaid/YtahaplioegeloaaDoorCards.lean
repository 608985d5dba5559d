/-
  DERIVED. GIVEN WITH THE SEED: THE CARDS: each row of YtahaplioegeloaaDoorRows.lean that lists a variable, with what it lists TIED to the program's text (the seventh form; the later family's looks); each row that meets fmt, with fmt's text TOLD by the authors' own Lean function (tested against real Go, not proved from fmt's source: count such statements apart). THE CARD IS WHAT COUNTS. Prove the row's statement (the work); the ties are given (YtahaplioegeloaaDoorTie.lean); close each card by the builder's one call (the guide's Derived/Test/ToyasCard.lean, 'card_holds'). Laid BY PROGRAM, IN A SANDBOX (cutbox-door.mjs). By AI agents, Wed Nov 11 2026. No macro, syntax, notation, axiom, sorry.
-/
import Derived.Test.YtahaplioegeloaaDoorRows
import GoSem.ClaimSeven
namespace Go.Proofs.YtahaplioegeloaaDoor
namespace Rows

/-- THE TIED CARD OF 'sizarlaw29.RequestsSpec'. -/
def requestsSpecCard : Claim7 := { stood := { row := requestsSpecRow, standIns := [], harness := (true, "2d0ed39ff181893193f166e4d585e1fe3a738db612703f24cb1f03aee915c634"), looks := true }, kinds := [], alts := [], laidByText := true, laidKinds := [.data], laidTests := true, laidLooks := .later }
def RequestsSpecCardSaid : Prop := Claim7.holds Tryd.pinned (.plain (OpenSpec.ofChange requestsSpecSpec)) requestsSpecCard

/-- THE TIED CARD OF 'sizarlaw29.RequestsDecodeSpec'. -/
def requestsDecodeSpecCard : Claim7 := { stood := { row := requestsDecodeSpecRow, standIns := [], harness := (true, "2d0ed39ff181893193f166e4d585e1fe3a738db612703f24cb1f03aee915c634"), looks := true }, kinds := [], alts := [], laidByText := true, laidKinds := [.data], laidTests := true, laidLooks := .later }
def RequestsDecodeSpecCardSaid : Prop := Claim7.holds Tryd.pinned (.plain (OpenSpec.ofChange requestsDecodeSpecSpec)) requestsDecodeSpecCard

/-- THE TIED CARD OF 'sizarlaw29.RequestsDoneSpec'. -/
def requestsDoneSpecCard : Claim7 := { stood := { row := requestsDoneSpecRow, standIns := [], harness := (true, "2d0ed39ff181893193f166e4d585e1fe3a738db612703f24cb1f03aee915c634"), looks := true }, kinds := [], alts := [], laidByText := true, laidKinds := [.data], laidTests := true, laidLooks := .later }
def RequestsDoneSpecCardSaid : Prop := Claim7.holds Tryd.pinned (.plain (OpenSpec.ofChange requestsDoneSpecSpec)) requestsDoneSpecCard

/-- THE TIED CARD OF 'sizarlaw29.RequestsBack'. -/
def requestsBackCard : Claim7 := { stood := { row := requestsBackRow, standIns := [], harness := (true, "2d0ed39ff181893193f166e4d585e1fe3a738db612703f24cb1f03aee915c634"), looks := true }, kinds := [], alts := [], laidByText := true, laidKinds := [.data], laidTests := true, laidLooks := .later }
def RequestsBackCardSaid : Prop := Claim7.holds Tryd.pinned (.plain (OpenSpec.ofChange requestsBackSpec)) requestsBackCard

/-- THE TIED CARD OF 'sizarlaw29.RequestsOnce'. -/
def requestsOnceCard : Claim7 := { stood := { row := requestsOnceRow, standIns := [], harness := (true, "2d0ed39ff181893193f166e4d585e1fe3a738db612703f24cb1f03aee915c634"), looks := true }, kinds := [], alts := [], laidByText := true, laidKinds := [.data], laidTests := true, laidLooks := .later }
def RequestsOnceCardSaid : Prop := Claim7.holds Tryd.pinned (.plain (OpenSpec.ofChange requestsOnceSpec)) requestsOnceCard

/-- THE TIED CARD OF 'sizarlaw29.RequestsKinds'. -/
def requestsKindsCard : Claim7 := { stood := { row := requestsKindsRow, standIns := [], harness := (true, "2d0ed39ff181893193f166e4d585e1fe3a738db612703f24cb1f03aee915c634"), looks := true }, kinds := [], alts := [], laidByText := true, laidKinds := [.data], laidTests := true, laidLooks := .later }
def RequestsKindsCardSaid : Prop := Claim7.holds Tryd.pinned (.plain (OpenSpec.ofChange requestsKindsSpec)) requestsKindsCard

/-- THE TIED CARD OF 'sizarlaw29.RequestsChanged'. -/
def requestsChangedCard : Claim7 := { stood := { row := requestsChangedRow, standIns := [], harness := (true, "2d0ed39ff181893193f166e4d585e1fe3a738db612703f24cb1f03aee915c634"), looks := true }, kinds := [], alts := [], laidByText := true, laidKinds := [.data], laidTests := true, laidLooks := .later }
def RequestsChangedCardSaid : Prop := Claim7.holds Tryd.pinned (.plain (OpenSpec.ofChange requestsChangedSpec)) requestsChangedCard

/-- THE TIED CARD OF 'sizarlaw29.RequestsStale'. -/
def requestsStaleCard : Claim7 := { stood := { row := requestsStaleRow, standIns := [], harness := (true, "2d0ed39ff181893193f166e4d585e1fe3a738db612703f24cb1f03aee915c634"), looks := true }, kinds := [], alts := [], laidByText := true, laidKinds := [.data], laidTests := true, laidLooks := .later }
def RequestsStaleCardSaid : Prop := Claim7.holds Tryd.pinned (.plain (OpenSpec.ofChange requestsStaleSpec)) requestsStaleCard

/-- THE SECOND FORM's CARD OF 'sizarlaw29.RequestsSpec'. -/
def requestsSpecUptoCard : Claim7 := { stood := { row := requestsSpecUptoRow, standIns := [], harness := (true, "2d0ed39ff181893193f166e4d585e1fe3a738db612703f24cb1f03aee915c634"), looks := true }, kinds := [], alts := [], laidByText := true, laidKinds := [.data], laidTests := true, laidLooks := .later }
def RequestsSpecUptoCardSaid : Prop := Claim7.holds Tryd.pinned (.plain (OpenSpec.upto requestsSpecSpec)) requestsSpecUptoCard

/-- THE SECOND FORM's CARD OF 'sizarlaw29.RequestsDecodeSpec'. -/
def requestsDecodeSpecUptoCard : Claim7 := { stood := { row := requestsDecodeSpecUptoRow, standIns := [], harness := (true, "2d0ed39ff181893193f166e4d585e1fe3a738db612703f24cb1f03aee915c634"), looks := true }, kinds := [], alts := [], laidByText := true, laidKinds := [.data], laidTests := true, laidLooks := .later }
def RequestsDecodeSpecUptoCardSaid : Prop := Claim7.holds Tryd.pinned (.plain (OpenSpec.upto requestsDecodeSpecSpec)) requestsDecodeSpecUptoCard

/-- THE SECOND FORM's CARD OF 'sizarlaw29.RequestsDoneSpec'. -/
def requestsDoneSpecUptoCard : Claim7 := { stood := { row := requestsDoneSpecUptoRow, standIns := [], harness := (true, "2d0ed39ff181893193f166e4d585e1fe3a738db612703f24cb1f03aee915c634"), looks := true }, kinds := [], alts := [], laidByText := true, laidKinds := [.data], laidTests := true, laidLooks := .later }
def RequestsDoneSpecUptoCardSaid : Prop := Claim7.holds Tryd.pinned (.plain (OpenSpec.upto requestsDoneSpecSpec)) requestsDoneSpecUptoCard

/-- THE SECOND FORM's CARD OF 'sizarlaw29.RequestsBack'. -/
def requestsBackUptoCard : Claim7 := { stood := { row := requestsBackUptoRow, standIns := [], harness := (true, "2d0ed39ff181893193f166e4d585e1fe3a738db612703f24cb1f03aee915c634"), looks := true }, kinds := [], alts := [], laidByText := true, laidKinds := [.data], laidTests := true, laidLooks := .later }
def RequestsBackUptoCardSaid : Prop := Claim7.holds Tryd.pinned (.plain (OpenSpec.upto requestsBackSpec)) requestsBackUptoCard

/-- THE SECOND FORM's CARD OF 'sizarlaw29.RequestsOnce'. -/
def requestsOnceUptoCard : Claim7 := { stood := { row := requestsOnceUptoRow, standIns := [], harness := (true, "2d0ed39ff181893193f166e4d585e1fe3a738db612703f24cb1f03aee915c634"), looks := true }, kinds := [], alts := [], laidByText := true, laidKinds := [.data], laidTests := true, laidLooks := .later }
def RequestsOnceUptoCardSaid : Prop := Claim7.holds Tryd.pinned (.plain (OpenSpec.upto requestsOnceSpec)) requestsOnceUptoCard

/-- THE SECOND FORM's CARD OF 'sizarlaw29.RequestsKinds'. -/
def requestsKindsUptoCard : Claim7 := { stood := { row := requestsKindsUptoRow, standIns := [], harness := (true, "2d0ed39ff181893193f166e4d585e1fe3a738db612703f24cb1f03aee915c634"), looks := true }, kinds := [], alts := [], laidByText := true, laidKinds := [.data], laidTests := true, laidLooks := .later }
def RequestsKindsUptoCardSaid : Prop := Claim7.holds Tryd.pinned (.plain (OpenSpec.upto requestsKindsSpec)) requestsKindsUptoCard

/-- THE SECOND FORM's CARD OF 'sizarlaw29.RequestsChanged'. -/
def requestsChangedUptoCard : Claim7 := { stood := { row := requestsChangedUptoRow, standIns := [], harness := (true, "2d0ed39ff181893193f166e4d585e1fe3a738db612703f24cb1f03aee915c634"), looks := true }, kinds := [], alts := [], laidByText := true, laidKinds := [.data], laidTests := true, laidLooks := .later }
def RequestsChangedUptoCardSaid : Prop := Claim7.holds Tryd.pinned (.plain (OpenSpec.upto requestsChangedSpec)) requestsChangedUptoCard

/-- THE SECOND FORM's CARD OF 'sizarlaw29.RequestsStale'. -/
def requestsStaleUptoCard : Claim7 := { stood := { row := requestsStaleUptoRow, standIns := [], harness := (true, "2d0ed39ff181893193f166e4d585e1fe3a738db612703f24cb1f03aee915c634"), looks := true }, kinds := [], alts := [], laidByText := true, laidKinds := [.data], laidTests := true, laidLooks := .later }
def RequestsStaleUptoCardSaid : Prop := Claim7.holds Tryd.pinned (.plain (OpenSpec.upto requestsStaleSpec)) requestsStaleUptoCard
end Rows
end Go.Proofs.YtahaplioegeloaaDoor
