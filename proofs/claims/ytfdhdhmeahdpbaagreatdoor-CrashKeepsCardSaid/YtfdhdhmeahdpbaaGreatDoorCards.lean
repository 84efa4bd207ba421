/-
  DERIVED. GIVEN WITH THE SEED: THE CARDS: each row of YtfdhdhmeahdpbaaGreatDoorRows.lean that lists a variable, with what it lists TIED to the program's text (the seventh form; the later family's looks); each row that meets fmt, with fmt's text TOLD by the authors' own Lean function (tested against real Go, not proved from fmt's source: count such statements apart). THE CARD IS WHAT COUNTS. Prove the row's statement (the work); the ties are given (YtfdhdhmeahdpbaaGreatDoorTie.lean); close each card by the builder's one call (the guide's Derived/Test/ToyasCard.lean, 'card_holds'). Laid BY PROGRAM, IN A SANDBOX (cutbox-door.mjs). By AI agents, Wed Nov 11 2026. No macro, syntax, notation, axiom, sorry.
-/
import Derived.Test.YtfdhdhmeahdpbaaGreatDoorRows
import GoSem.ClaimSeven
namespace Go.Proofs.YtfdhdhmeahdpbaaGreatDoor
namespace Rows

/-- THE TIED CARD OF 'limewashlaw32.CrashKeeps'. -/
def crashKeepsCard : Claim7 := { stood := { row := crashKeepsRow, standIns := [], harness := (true, "e34440cf611511505c60126a153435759ac5fd426ae54ea67cabedc4e51c5d87"), looks := true }, kinds := [], alts := [], laidByText := true, laidKinds := [.data, .data, .listed, .pinned, .data, .data, .data, .data, .handle, .sentinel, .sentinel, .sentinel, .data, .data, .data], laidTests := true, laidLooks := .later }
def CrashKeepsCardSaid : Prop := Claim7.holds Tryz.pinned (.plain (OpenSpec.ofChange crashKeepsSpec)) crashKeepsCard

/-- THE TIED CARD OF 'limewashlaw32.CrashKnown'. -/
def crashKnownCard : Claim7 := { stood := { row := crashKnownRow, standIns := [], harness := (true, "e34440cf611511505c60126a153435759ac5fd426ae54ea67cabedc4e51c5d87"), looks := true }, kinds := [], alts := [], laidByText := true, laidKinds := [.data, .data, .listed, .pinned, .data, .data, .data, .data, .handle, .sentinel, .sentinel, .sentinel, .data, .data, .data], laidTests := true, laidLooks := .later }
def CrashKnownCardSaid : Prop := Claim7.holds Tryz.pinned (.plain (OpenSpec.ofChange crashKnownSpec)) crashKnownCard

/-- THE SECOND FORM's CARD OF 'limewashlaw32.CrashKeeps'. -/
def crashKeepsUptoCard : Claim7 := { stood := { row := crashKeepsUptoRow, standIns := [], harness := (true, "e34440cf611511505c60126a153435759ac5fd426ae54ea67cabedc4e51c5d87"), looks := true }, kinds := [], alts := [], laidByText := true, laidKinds := [.data, .data, .listed, .pinned, .data, .data, .data, .data, .handle, .sentinel, .sentinel, .sentinel, .data, .data, .data], laidTests := true, laidLooks := .later }
def CrashKeepsUptoCardSaid : Prop := Claim7.holds Tryz.pinned (.plain (OpenSpec.upto crashKeepsSpec)) crashKeepsUptoCard

/-- THE SECOND FORM's CARD OF 'limewashlaw32.CrashKnown'. -/
def crashKnownUptoCard : Claim7 := { stood := { row := crashKnownUptoRow, standIns := [], harness := (true, "e34440cf611511505c60126a153435759ac5fd426ae54ea67cabedc4e51c5d87"), looks := true }, kinds := [], alts := [], laidByText := true, laidKinds := [.data, .data, .listed, .pinned, .data, .data, .data, .data, .handle, .sentinel, .sentinel, .sentinel, .data, .data, .data], laidTests := true, laidLooks := .later }
def CrashKnownUptoCardSaid : Prop := Claim7.holds Tryz.pinned (.plain (OpenSpec.upto crashKnownSpec)) crashKnownUptoCard
end Rows
end Go.Proofs.YtfdhdhmeahdpbaaGreatDoor
