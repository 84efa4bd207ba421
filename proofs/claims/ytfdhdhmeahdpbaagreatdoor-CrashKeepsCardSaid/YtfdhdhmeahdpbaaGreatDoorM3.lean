/- The run of the initialisers, a part. -/
import Derived.Test.YtfdhdhmeahdpbaaGreatDoorM0
namespace Go.Proofs.YtfdhdhmeahdpbaaGreatDoor
open Go
set_option maxRecDepth 1000000
theorem segE (os : Os) (tape : Tape) : runN Tryz.prog 58 (mid12 os tape) = .ended (.done (.tuple #[])) ⟨heapE os, tape, 0, os, #[]⟩ := by kernel_rfl
end Go.Proofs.YtfdhdhmeahdpbaaGreatDoor
