/- The run of the initialisers, a part. -/
import Derived.Test.YtmkedlikgchpfaaGreatDoorM0
namespace Go.Proofs.YtmkedlikgchpfaaGreatDoor
open Go
set_option maxRecDepth 1000000
theorem segE (os : Os) (tape : Tape) : runN Tryz.prog 39 (mid11 os tape) = .ended (.done (.tuple #[])) ⟨heapE os, tape, 0, os, #[]⟩ := by kernel_rfl
end Go.Proofs.YtmkedlikgchpfaaGreatDoor
