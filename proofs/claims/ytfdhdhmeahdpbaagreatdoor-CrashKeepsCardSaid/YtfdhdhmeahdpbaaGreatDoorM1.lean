/- The run of the initialisers, a part. -/
import Derived.Test.YtfdhdhmeahdpbaaGreatDoorM0
namespace Go.Proofs.YtfdhdhmeahdpbaaGreatDoor
open Go
set_option maxRecDepth 1000000
theorem seg6 (os : Os) (tape : Tape) : runN Tryz.prog 37 (start os tape) = .next (mid6 os tape) := by kernel_rfl
end Go.Proofs.YtfdhdhmeahdpbaaGreatDoor
