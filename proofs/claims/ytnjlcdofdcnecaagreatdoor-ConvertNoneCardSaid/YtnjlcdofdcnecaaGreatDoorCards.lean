/-
  DERIVED. GIVEN WITH THE SEED: THE CARDS: each row of YtnjlcdofdcnecaaGreatDoorRows.lean that lists a variable, with what it lists TIED to the program's text (the seventh form; the later family's looks); each row that meets fmt, with fmt's text TOLD by the authors' own Lean function (tested against real Go, not proved from fmt's source: count such statements apart). THE CARD IS WHAT COUNTS. Prove the row's statement (the work); the ties are given (YtnjlcdofdcnecaaGreatDoorTie.lean); close each card by the builder's one call (the guide's Derived/Test/ToyasCard.lean, 'card_holds'). Laid BY PROGRAM, IN A SANDBOX (cutbox-door.mjs). By AI agents, Wed Nov 11 2026. No macro, syntax, notation, axiom, sorry.
-/
import Derived.Test.YtnjlcdofdcnecaaGreatDoorRows
import GoSem.ClaimSeven
namespace Go.Proofs.YtnjlcdofdcnecaaGreatDoor
namespace Rows

/-- THE TIED CARD OF 'limewashlaw28.ConvertKnown'. -/
def convertKnownCard : Claim7 := { stood := { row := convertKnownRow, standIns := [], harness := (true, "fe345e8238179deb7ffca92c84ac73f5b4cb0fbb58c6ddddb949858ed3713a39"), looks := true }, kinds := [], alts := [], laidByText := true, laidKinds := [.data, .data, .listed, .pinned, .data, .data, .data, .data, .handle, .sentinel, .sentinel, .sentinel, .data], laidTests := true, laidLooks := .later }
def ConvertKnownCardSaid : Prop := Claim7.holds Tryz.pinned (.plain (OpenSpec.ofChange convertKnownSpec)) convertKnownCard

/-- THE TIED CARD OF 'limewashlaw28.ConvertNone'. -/
def convertNoneCard : Claim7 := { stood := { row := convertNoneRow, standIns := [], harness := (true, "fe345e8238179deb7ffca92c84ac73f5b4cb0fbb58c6ddddb949858ed3713a39"), looks := true }, kinds := [], alts := [], laidByText := true, laidKinds := [.data, .data, .listed, .pinned, .data, .data, .data, .data, .handle, .sentinel, .sentinel, .sentinel, .data], laidTests := true, laidLooks := .later }
def ConvertNoneCardSaid : Prop := Claim7.holds Tryz.pinned (.plain (OpenSpec.ofChange convertNoneSpec)) convertNoneCard

/-- THE SECOND FORM's CARD OF 'limewashlaw28.ConvertKnown'. -/
def convertKnownUptoCard : Claim7 := { stood := { row := convertKnownUptoRow, standIns := [], harness := (true, "fe345e8238179deb7ffca92c84ac73f5b4cb0fbb58c6ddddb949858ed3713a39"), looks := true }, kinds := [], alts := [], laidByText := true, laidKinds := [.data, .data, .listed, .pinned, .data, .data, .data, .data, .handle, .sentinel, .sentinel, .sentinel, .data], laidTests := true, laidLooks := .later }
def ConvertKnownUptoCardSaid : Prop := Claim7.holds Tryz.pinned (.plain (OpenSpec.upto convertKnownSpec)) convertKnownUptoCard

/-- THE SECOND FORM's CARD OF 'limewashlaw28.ConvertNone'. -/
def convertNoneUptoCard : Claim7 := { stood := { row := convertNoneUptoRow, standIns := [], harness := (true, "fe345e8238179deb7ffca92c84ac73f5b4cb0fbb58c6ddddb949858ed3713a39"), looks := true }, kinds := [], alts := [], laidByText := true, laidKinds := [.data, .data, .listed, .pinned, .data, .data, .data, .data, .handle, .sentinel, .sentinel, .sentinel, .data], laidTests := true, laidLooks := .later }
def ConvertNoneUptoCardSaid : Prop := Claim7.holds Tryz.pinned (.plain (OpenSpec.upto convertNoneSpec)) convertNoneUptoCard
end Rows
end Go.Proofs.YtnjlcdofdcnecaaGreatDoor
