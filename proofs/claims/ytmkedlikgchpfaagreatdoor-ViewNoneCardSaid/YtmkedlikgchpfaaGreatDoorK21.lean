/- Known calls, shown by runs of the evaluator: limewashlaw31.awake. -/
import Derived.Test.YtmkedlikgchpfaaGreatDoorDat
import Derived.Test.YtmkedlikgchpfaaGreatDoorK07
import Derived.Test.YtmkedlikgchpfaaGreatDoorK08
import Derived.Test.YtmkedlikgchpfaaGreatDoorK09
import Derived.Test.YtmkedlikgchpfaaGreatDoorK10
import Derived.Test.YtmkedlikgchpfaaGreatDoorK20
namespace Go.Proofs.YtmkedlikgchpfaaGreatDoor
open Go Ev
set_option maxRecDepth 1000000
def e1000_5 : Known := ⟨[], A 1000,
[(A 3, .cells (.cat 8 (.l 8 [.str 0 0, .str 0 0, .str 0 0, .str 16 0x2e79616c7265766f2e64657473757274, .str 8 0x2e79616c7265766f, .str 21 0x74636572696465722065757161706f206b6e696c6e, .str 19 0x2e736679616c7265766f657375662e72657375, .str 5 0x2e65737566]) (.l 7 [.str 30 0x74756f65746968772074636572696465722065757161706f206b6e696c6e, .str 0 0, .str 0 0, .str 0 0, .str 4 0x2e647362, .str 4 0x2e647362, .str 6 0x65757161706f])) true true 511),
(A 5, .cells (.cat 8 (.l 8 [.nat .u32 0, .nat .u32 0x1db71064, .nat .u32 0x3b6e20c8, .nat .u32 0x26d930ac, .nat .u32 0x76dc4190, .nat .u32 0x6b6b51f4, .nat .u32 0x4db26158, .nat .u32 0x5005713c]) (.l 8 [.nat .u32 0xedb88320, .nat .u32 0xf00f9344, .nat .u32 0xd6d6a3e8, .nat .u32 0xcb61b38c, .nat .u32 0x9b64c2b0, .nat .u32 0x86d3d2d4, .nat .u32 0xa00ae278, .nat .u32 0xbdbdf21c])) true true 675),
(A 6, .cells (.p .u8 256 0x10000000000000000000000000000000000000101010101000000000000000000) true true 678)],
.c (.bool true),
[],
[], A 73828⟩
theorem k1000_5 : KnownOk Tryz.prog 5 e1000_5 := known_tab mixed J [(12, e1160_12), (6, e65182_6), (6, e66936_6), (8, e69501_8), (10, e71250_10)] (knCons k1160_12 (knCons k65182_6 (knCons k66936_6 (knCons k69501_8 (knCons k71250_10 (knNil)))))) 1000 (by kernel_rfl)
end Go.Proofs.YtmkedlikgchpfaaGreatDoor
