/- The run of the initialisers, a part. -/
import Derived.Test.YtfdhdhmeahdpbaaGreatDoorM0
namespace Go.Proofs.YtfdhdhmeahdpbaaGreatDoor
open Go
set_option maxRecDepth 1000000
theorem seg12 (os : Os) (tape : Tape) : runN Tryz.prog 49 (mid6 os tape) = .next (mid12 os tape) := by kernel_rfl
end Go.Proofs.YtfdhdhmeahdpbaaGreatDoor
