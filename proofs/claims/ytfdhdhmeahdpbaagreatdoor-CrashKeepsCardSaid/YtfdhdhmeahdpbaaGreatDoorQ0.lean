/- Closed facts of the program: its table of types. -/
import Derived.Test.YtfdhdhmeahdpbaaGreatDoorRows
import Derived.ClosedOfChecked
import Derived.JoinedOf
namespace Go.Proofs.YtfdhdhmeahdpbaaGreatDoor
open Go
set_option maxRecDepth 1000000
theorem types_src : Tryz.checked.prog.types = Tryz.checked.src.types := by kernel_rfl
theorem types_rest : (Tryz.checked.prog.globals.all (fun g => decide (g.type < Tryz.checked.prog.types.size)) && Tryz.checked.prog.funcs.all (fun f => f.params.all fun t => decide (t < Tryz.checked.prog.types.size))) = true := by kernel_rfl
theorem types_keys : ClosedOfChecked.keysListB Tryz.checked.prog = true := by kernel_rfl
theorem types_laid : laidOutB Tryz.prog = true ∧ mapsRowed Tryz.prog = true ∧ Tryz.prog.plainKeys = true := ClosedOfChecked.closed_of_checked Tryz.checked types_src types_rest types_keys
theorem stops_heard : Tryz.prog.stopsHeard = true := by kernel_rfl
theorem may_enter : Tryz.prog.mayEnter = true := by kernel_rfl
theorem and2 {a b : Bool} (h : a = true) (h' : b = true) : (a && b) = true := by rw [h, h']; rfl
end Go.Proofs.YtfdhdhmeahdpbaaGreatDoor
