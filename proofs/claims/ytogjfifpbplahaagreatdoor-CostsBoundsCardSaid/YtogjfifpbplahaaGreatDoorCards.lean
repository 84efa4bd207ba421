/-
  DERIVED. GIVEN WITH THE SEED: THE CARDS: each row of YtogjfifpbplahaaGreatDoorRows.lean that lists a variable, with what it lists TIED to the program's text (the seventh form; the later family's looks); each row that meets fmt, with fmt's text TOLD by the authors' own Lean function (tested against real Go, not proved from fmt's source: count such statements apart). THE CARD IS WHAT COUNTS. Prove the row's statement (the work); the ties are given (YtogjfifpbplahaaGreatDoorTie.lean); close each card by the builder's one call (the guide's Derived/Test/ToyasCard.lean, 'card_holds'). Laid BY PROGRAM, IN A SANDBOX (cutbox-door.mjs). By AI agents, Wed Nov 11 2026. No macro, syntax, notation, axiom, sorry.
-/
import Derived.Test.YtogjfifpbplahaaGreatDoorRows
import GoSem.ClaimSeven
namespace Go.Proofs.YtogjfifpbplahaaGreatDoor
namespace Rows

/-- THE TIED CARD OF 'limewashlaw33.CostsBounds'. -/
def costsBoundsCard : Claim7 := { stood := { row := costsBoundsRow, standIns := [], harness := (true, "d81625c1f207e2168a81abdb2389b06afefad5bd861dec24d7058e9978fcdc71"), looks := false }, kinds := [], alts := [], laidByText := true, laidKinds := [.data, .data, .data], laidTests := true, laidLooks := .later }
def CostsBoundsCardSaid : Prop := Claim7.holds Tryz.pinned (.plain (OpenSpec.ofChange costsBoundsSpec)) costsBoundsCard

/-- THE SECOND FORM's CARD OF 'limewashlaw33.CostsBounds'. -/
def costsBoundsUptoCard : Claim7 := { stood := { row := costsBoundsUptoRow, standIns := [], harness := (true, "d81625c1f207e2168a81abdb2389b06afefad5bd861dec24d7058e9978fcdc71"), looks := false }, kinds := [], alts := [], laidByText := true, laidKinds := [.data, .data, .data], laidTests := true, laidLooks := .later }
def CostsBoundsUptoCardSaid : Prop := Claim7.holds Tryz.pinned (.plain (OpenSpec.upto costsBoundsSpec)) costsBoundsUptoCard
end Rows
end Go.Proofs.YtogjfifpbplahaaGreatDoor
