/- The run of the initialisers, a part. -/
import Derived.Test.YtmkedlikgchpfaaGreatDoorM0
namespace Go.Proofs.YtmkedlikgchpfaaGreatDoor
open Go
set_option maxRecDepth 1000000
theorem seg11 (os : Os) (tape : Tape) : runN Tryz.prog 53 (mid6 os tape) = .next (mid11 os tape) := by kernel_rfl
end Go.Proofs.YtmkedlikgchpfaaGreatDoor
