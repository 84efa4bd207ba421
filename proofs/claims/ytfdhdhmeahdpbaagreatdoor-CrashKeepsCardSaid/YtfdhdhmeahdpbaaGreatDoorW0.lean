/- A world in which the listed variables hold what is listed: the witness of the rows. -/
import Derived.Test.YtfdhdhmeahdpbaaGreatDoorRows
import Derived.Test.YtfdhdhmeahdpbaaGreatDoorM0
import Derived.Test.YtfdhdhmeahdpbaaGreatDoorL0
import Derived.Handed
import Derived.LaidLaws
import Derived.LaidHandle
import Derived.JoinedOf
namespace Go.Proofs.YtfdhdhmeahdpbaaGreatDoor
open Go
set_option maxRecDepth 1000000
def litCell {H : Type} : DataW H → Value
  | .lit (.int k n) => .int k n
  | .lit (.bool b) => .bool b
  | .lit (.string s) => .string ⟨s.toArray⟩
  | _ => .bool false
def litCells {H : Type} : DataW H → Array Value
  | .agg ds => (ds.map litCell).toArray
  | _ => #[]
noncomputable def laidHeap (os : Os) : Array Obj := (heapE os).setIfInBounds 14 (.cells (litCells Rows.laid_unicode_utf8_first) 769 (0, 0))
noncomputable def laidWorld (os : Os) : World := { World.holding Tryz.prog os ⟨#[], #[], []⟩ with heap := laidHeap os }
noncomputable def laidMem (os : Os) (args : Array Value) : World := ((laidWorld os).forCall (fun _ _ => 0) ⟨#[], args, []⟩).memory
noncomputable def laidR : List (String × DataW Unit) := Rows.crashKnownRow.laid
theorem wit_1 (os : Os) (args : Array Value) : (DataW.laidRun Tryz.prog (laidMem os args) 8 ((laidR.filter fun x => x.2.handleName?.isNone).map (·.1))).map (·.1) = some (laidR.filter fun x => x.2.handleName?.isNone) := by kernel_rfl
theorem wit_2 (os : Os) (args : Array Value) : (DataW.laidRun Tryz.prog (laidMem os args) 8 ((laidR.filter fun x => x.2.handleName?.isNone).map (·.1))).map (fun x => Ev.ndB x.2 0 && laidRowsB Tryz.prog (laidMem os args) x.2) = some true := by kernel_rfl
theorem wit_3 (os : Os) (args : Array Value) : (laidR.filter fun x => x.2.handleName?.isSome).all (handleAtB Tryz.prog (laidMem os args)) = true := by kernel_rfl
theorem wit_met (os : Os) (args : Array Value) : laidMetH Tryz.prog laidR (laidMem os args) := laidMetH_of_parts (Ev.laidMet_by 8 (wit_1 os args) (wit_2 os args)) (wit_3 os args)
end Go.Proofs.YtfdhdhmeahdpbaaGreatDoor
