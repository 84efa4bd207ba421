/-
  DERIVED. GIVEN WITH THE SEED: THE CARDS: each row of YtbnjeglbbadcbaaDoorRows.lean that lists a variable, with what it lists TIED to the program's text (the seventh form; the later family's looks); each row that meets fmt, with fmt's text TOLD by the authors' own Lean function (tested against real Go, not proved from fmt's source: count such statements apart). THE CARD IS WHAT COUNTS. Prove the row's statement (the work); the ties are given (YtbnjeglbbadcbaaDoorTie.lean); close each card by the builder's one call (the guide's Derived/Test/ToyasCard.lean, 'card_holds'). Laid BY PROGRAM, IN A SANDBOX (cutbox-door.mjs). By AI agents, Wed Nov 11 2026. No macro, syntax, notation, axiom, sorry.
-/
import Derived.Test.YtbnjeglbbadcbaaDoorRows
import GoSem.ClaimSeven
namespace Go.Proofs.YtbnjeglbbadcbaaDoor
namespace Rows

/-- THE TIED CARD OF 'limewashlaw02.BitsFirst'. -/
def bitsFirstCard : Claim7 := { stood := { row := bitsFirstRow, standIns := [], harness := (true, "c8c3636d6ecf47e2dba81c65809c4e87245381c77fff336217245e8d8969bd59"), looks := false }, kinds := [], alts := [], laidByText := true, laidKinds := [.data], laidTests := true, laidLooks := .later }
def BitsFirstCardSaid : Prop := Claim7.holds Tryd.pinned (.plain (OpenSpec.ofChange bitsFirstSpec)) bitsFirstCard

/-- THE TIED CARD OF 'limewashlaw02.BitsLoads'. -/
def bitsLoadsCard : Claim7 := { stood := { row := bitsLoadsRow, standIns := [], harness := (true, "c8c3636d6ecf47e2dba81c65809c4e87245381c77fff336217245e8d8969bd59"), looks := false }, kinds := [], alts := [], laidByText := true, laidKinds := [.data], laidTests := true, laidLooks := .later }
def BitsLoadsCardSaid : Prop := Claim7.holds Tryd.pinned (.plain (OpenSpec.ofChange bitsLoadsSpec)) bitsLoadsCard

/-- THE TIED CARD OF 'limewashlaw02.BitsLogic'. -/
def bitsLogicCard : Claim7 := { stood := { row := bitsLogicRow, standIns := [], harness := (true, "c8c3636d6ecf47e2dba81c65809c4e87245381c77fff336217245e8d8969bd59"), looks := false }, kinds := [], alts := [], laidByText := true, laidKinds := [.data], laidTests := true, laidLooks := .later }
def BitsLogicCardSaid : Prop := Claim7.holds Tryd.pinned (.plain (OpenSpec.ofChange bitsLogicSpec)) bitsLogicCard

/-- THE TIED CARD OF 'limewashlaw02.BitsSearch'. -/
def bitsSearchCard : Claim7 := { stood := { row := bitsSearchRow, standIns := [], harness := (true, "c8c3636d6ecf47e2dba81c65809c4e87245381c77fff336217245e8d8969bd59"), looks := false }, kinds := [], alts := [], laidByText := true, laidKinds := [.data], laidTests := true, laidLooks := .later }
def BitsSearchCardSaid : Prop := Claim7.holds Tryd.pinned (.plain (OpenSpec.ofChange bitsSearchSpec)) bitsSearchCard

/-- THE TIED CARD OF 'limewashlaw02.BitsMorgan'. -/
def bitsMorganCard : Claim7 := { stood := { row := bitsMorganRow, standIns := [], harness := (true, "c8c3636d6ecf47e2dba81c65809c4e87245381c77fff336217245e8d8969bd59"), looks := false }, kinds := [], alts := [], laidByText := true, laidKinds := [.data], laidTests := true, laidLooks := .later }
def BitsMorganCardSaid : Prop := Claim7.holds Tryd.pinned (.plain (OpenSpec.ofChange bitsMorganSpec)) bitsMorganCard

/-- THE TIED CARD OF 'limewashlaw02.BitsKnown'. -/
def bitsKnownCard : Claim7 := { stood := { row := bitsKnownRow, standIns := [], harness := (true, "c8c3636d6ecf47e2dba81c65809c4e87245381c77fff336217245e8d8969bd59"), looks := false }, kinds := [], alts := [], laidByText := true, laidKinds := [.data], laidTests := true, laidLooks := .later }
def BitsKnownCardSaid : Prop := Claim7.holds Tryd.pinned (.plain (OpenSpec.ofChange bitsKnownSpec)) bitsKnownCard

/-- THE TIED CARD OF 'limewashlaw02.BitsPlays'. -/
def bitsPlaysCard : Claim7 := { stood := { row := bitsPlaysRow, standIns := [], harness := (true, "c8c3636d6ecf47e2dba81c65809c4e87245381c77fff336217245e8d8969bd59"), looks := false }, kinds := [], alts := [], laidByText := true, laidKinds := [.data], laidTests := true, laidLooks := .later }
def BitsPlaysCardSaid : Prop := Claim7.holds Tryd.pinned (.plain (OpenSpec.ofChange bitsPlaysSpec)) bitsPlaysCard

/-- THE TIED CARD OF 'limewashlaw02.BitsNone'. -/
def bitsNoneCard : Claim7 := { stood := { row := bitsNoneRow, standIns := [], harness := (true, "c8c3636d6ecf47e2dba81c65809c4e87245381c77fff336217245e8d8969bd59"), looks := false }, kinds := [], alts := [], laidByText := true, laidKinds := [.data], laidTests := true, laidLooks := .later }
def BitsNoneCardSaid : Prop := Claim7.holds Tryd.pinned (.plain (OpenSpec.ofChange bitsNoneSpec)) bitsNoneCard

/-- THE SECOND FORM's CARD OF 'limewashlaw02.BitsFirst'. -/
def bitsFirstUptoCard : Claim7 := { stood := { row := bitsFirstUptoRow, standIns := [], harness := (true, "c8c3636d6ecf47e2dba81c65809c4e87245381c77fff336217245e8d8969bd59"), looks := false }, kinds := [], alts := [], laidByText := true, laidKinds := [.data], laidTests := true, laidLooks := .later }
def BitsFirstUptoCardSaid : Prop := Claim7.holds Tryd.pinned (.plain (OpenSpec.upto bitsFirstSpec)) bitsFirstUptoCard

/-- THE SECOND FORM's CARD OF 'limewashlaw02.BitsLoads'. -/
def bitsLoadsUptoCard : Claim7 := { stood := { row := bitsLoadsUptoRow, standIns := [], harness := (true, "c8c3636d6ecf47e2dba81c65809c4e87245381c77fff336217245e8d8969bd59"), looks := false }, kinds := [], alts := [], laidByText := true, laidKinds := [.data], laidTests := true, laidLooks := .later }
def BitsLoadsUptoCardSaid : Prop := Claim7.holds Tryd.pinned (.plain (OpenSpec.upto bitsLoadsSpec)) bitsLoadsUptoCard

/-- THE SECOND FORM's CARD OF 'limewashlaw02.BitsLogic'. -/
def bitsLogicUptoCard : Claim7 := { stood := { row := bitsLogicUptoRow, standIns := [], harness := (true, "c8c3636d6ecf47e2dba81c65809c4e87245381c77fff336217245e8d8969bd59"), looks := false }, kinds := [], alts := [], laidByText := true, laidKinds := [.data], laidTests := true, laidLooks := .later }
def BitsLogicUptoCardSaid : Prop := Claim7.holds Tryd.pinned (.plain (OpenSpec.upto bitsLogicSpec)) bitsLogicUptoCard

/-- THE SECOND FORM's CARD OF 'limewashlaw02.BitsSearch'. -/
def bitsSearchUptoCard : Claim7 := { stood := { row := bitsSearchUptoRow, standIns := [], harness := (true, "c8c3636d6ecf47e2dba81c65809c4e87245381c77fff336217245e8d8969bd59"), looks := false }, kinds := [], alts := [], laidByText := true, laidKinds := [.data], laidTests := true, laidLooks := .later }
def BitsSearchUptoCardSaid : Prop := Claim7.holds Tryd.pinned (.plain (OpenSpec.upto bitsSearchSpec)) bitsSearchUptoCard

/-- THE SECOND FORM's CARD OF 'limewashlaw02.BitsMorgan'. -/
def bitsMorganUptoCard : Claim7 := { stood := { row := bitsMorganUptoRow, standIns := [], harness := (true, "c8c3636d6ecf47e2dba81c65809c4e87245381c77fff336217245e8d8969bd59"), looks := false }, kinds := [], alts := [], laidByText := true, laidKinds := [.data], laidTests := true, laidLooks := .later }
def BitsMorganUptoCardSaid : Prop := Claim7.holds Tryd.pinned (.plain (OpenSpec.upto bitsMorganSpec)) bitsMorganUptoCard

/-- THE SECOND FORM's CARD OF 'limewashlaw02.BitsKnown'. -/
def bitsKnownUptoCard : Claim7 := { stood := { row := bitsKnownUptoRow, standIns := [], harness := (true, "c8c3636d6ecf47e2dba81c65809c4e87245381c77fff336217245e8d8969bd59"), looks := false }, kinds := [], alts := [], laidByText := true, laidKinds := [.data], laidTests := true, laidLooks := .later }
def BitsKnownUptoCardSaid : Prop := Claim7.holds Tryd.pinned (.plain (OpenSpec.upto bitsKnownSpec)) bitsKnownUptoCard

/-- THE SECOND FORM's CARD OF 'limewashlaw02.BitsPlays'. -/
def bitsPlaysUptoCard : Claim7 := { stood := { row := bitsPlaysUptoRow, standIns := [], harness := (true, "c8c3636d6ecf47e2dba81c65809c4e87245381c77fff336217245e8d8969bd59"), looks := false }, kinds := [], alts := [], laidByText := true, laidKinds := [.data], laidTests := true, laidLooks := .later }
def BitsPlaysUptoCardSaid : Prop := Claim7.holds Tryd.pinned (.plain (OpenSpec.upto bitsPlaysSpec)) bitsPlaysUptoCard

/-- THE SECOND FORM's CARD OF 'limewashlaw02.BitsNone'. -/
def bitsNoneUptoCard : Claim7 := { stood := { row := bitsNoneUptoRow, standIns := [], harness := (true, "c8c3636d6ecf47e2dba81c65809c4e87245381c77fff336217245e8d8969bd59"), looks := false }, kinds := [], alts := [], laidByText := true, laidKinds := [.data], laidTests := true, laidLooks := .later }
def BitsNoneUptoCardSaid : Prop := Claim7.holds Tryd.pinned (.plain (OpenSpec.upto bitsNoneSpec)) bitsNoneUptoCard
end Rows
end Go.Proofs.YtbnjeglbbadcbaaDoor
