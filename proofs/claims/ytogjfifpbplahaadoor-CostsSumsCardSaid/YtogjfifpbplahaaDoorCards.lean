/-
  DERIVED. GIVEN WITH THE SEED: THE CARDS: each row of YtogjfifpbplahaaDoorRows.lean that lists a variable, with what it lists TIED to the program's text (the seventh form; the later family's looks); each row that meets fmt, with fmt's text TOLD by the authors' own Lean function (tested against real Go, not proved from fmt's source: count such statements apart). THE CARD IS WHAT COUNTS. Prove the row's statement (the work); the ties are given (YtogjfifpbplahaaDoorTie.lean); close each card by the builder's one call (the guide's Derived/Test/ToyasCard.lean, 'card_holds'). Laid BY PROGRAM, IN A SANDBOX (cutbox-door.mjs). By AI agents, Wed Nov 11 2026. No macro, syntax, notation, axiom, sorry.
-/
import Derived.Test.YtogjfifpbplahaaDoorRows
import GoSem.ClaimSeven
namespace Go.Proofs.YtogjfifpbplahaaDoor
namespace Rows

/-- THE TIED CARD OF 'limewashlaw33.CostsLists'. -/
def costsListsCard : Claim7 := { stood := { row := costsListsRow, standIns := [], harness := (true, "7f49b79d6274d99d1f6402033f32648c3a8dbff9f77921b10a4cdf6fb5569054"), looks := false }, kinds := [], alts := [], laidByText := true, laidKinds := [.data, .data, .data], laidTests := true, laidLooks := .later }
def CostsListsCardSaid : Prop := Claim7.holds Tryd.pinned (.plain (OpenSpec.ofChange costsListsSpec)) costsListsCard

/-- THE TIED CARD OF 'limewashlaw33.CostsSums'. -/
def costsSumsCard : Claim7 := { stood := { row := costsSumsRow, standIns := [], harness := (true, "7f49b79d6274d99d1f6402033f32648c3a8dbff9f77921b10a4cdf6fb5569054"), looks := false }, kinds := [], alts := [], laidByText := true, laidKinds := [.data, .data, .data], laidTests := true, laidLooks := .later }
def CostsSumsCardSaid : Prop := Claim7.holds Tryd.pinned (.plain (OpenSpec.ofChange costsSumsSpec)) costsSumsCard

/-- THE SECOND FORM's CARD OF 'limewashlaw33.CostsLists'. -/
def costsListsUptoCard : Claim7 := { stood := { row := costsListsUptoRow, standIns := [], harness := (true, "7f49b79d6274d99d1f6402033f32648c3a8dbff9f77921b10a4cdf6fb5569054"), looks := false }, kinds := [], alts := [], laidByText := true, laidKinds := [.data, .data, .data], laidTests := true, laidLooks := .later }
def CostsListsUptoCardSaid : Prop := Claim7.holds Tryd.pinned (.plain (OpenSpec.upto costsListsSpec)) costsListsUptoCard

/-- THE SECOND FORM's CARD OF 'limewashlaw33.CostsSums'. -/
def costsSumsUptoCard : Claim7 := { stood := { row := costsSumsUptoRow, standIns := [], harness := (true, "7f49b79d6274d99d1f6402033f32648c3a8dbff9f77921b10a4cdf6fb5569054"), looks := false }, kinds := [], alts := [], laidByText := true, laidKinds := [.data, .data, .data], laidTests := true, laidLooks := .later }
def CostsSumsUptoCardSaid : Prop := Claim7.holds Tryd.pinned (.plain (OpenSpec.upto costsSumsSpec)) costsSumsUptoCard
end Rows
end Go.Proofs.YtogjfifpbplahaaDoor
