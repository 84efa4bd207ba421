/- Known calls, shown by runs of the evaluator: limewashlaw32.CrashKnown. -/
import Derived.Test.YtfdhdhmeahdpbaaGreatDoorDat
import Derived.Test.YtfdhdhmeahdpbaaGreatDoorK19
import Derived.Test.YtfdhdhmeahdpbaaGreatDoorK20
import Derived.Test.YtfdhdhmeahdpbaaGreatDoorK23
import Derived.Test.YtfdhdhmeahdpbaaGreatDoorK24
namespace Go.Proofs.YtfdhdhmeahdpbaaGreatDoor
open Go Ev
set_option maxRecDepth 1000000
def e1000_4 : Known := ⟨[], A 1000,
[(A 1, .cells (.l 6 [.str 0 0, .str 3 0x726964, .str 4 0x656c6966, .str 4 0x6b6e696c, .str 4 0x72616863, .str 5 0x6574696877]) true true 431),
(A 4, .cells (.p .u8 10 0x7409720d6e0a5c5c2222) true true 579),
(A 5, .cells (.cat 8 (.l 8 [.str 0 0, .str 0 0, .str 0 0, .str 16 0x2e79616c7265766f2e64657473757274, .str 8 0x2e79616c7265766f, .str 21 0x74636572696465722065757161706f206b6e696c6e, .str 19 0x2e736679616c7265766f657375662e72657375, .str 5 0x2e65737566]) (.l 7 [.str 30 0x74756f65746968772074636572696465722065757161706f206b6e696c6e, .str 0 0, .str 0 0, .str 0 0, .str 4 0x2e647362, .str 4 0x2e647362, .str 6 0x65757161706f])) true true 582),
(A 7, .cells (.cat 8 (.l 8 [.nat .u32 0, .nat .u32 0x1db71064, .nat .u32 0x3b6e20c8, .nat .u32 0x26d930ac, .nat .u32 0x76dc4190, .nat .u32 0x6b6b51f4, .nat .u32 0x4db26158, .nat .u32 0x5005713c]) (.l 8 [.nat .u32 0xedb88320, .nat .u32 0xf00f9344, .nat .u32 0xd6d6a3e8, .nat .u32 0xcb61b38c, .nat .u32 0x9b64c2b0, .nat .u32 0x86d3d2d4, .nat .u32 0xa00ae278, .nat .u32 0xbdbdf21c])) true true 758),
(A 9, .cells (.p .u8 256 0x10000000000000000000000000000000000000101010101000000000000000000) true true 769)],
.c (.bool true),
[],
[], A 268343⟩
theorem k1000_4 : KnownOk Tryz.prog 4 e1000_4 := known_tab mixed J [(28, e1008_28), (39, e38081_39), (30, e50819_30), (7, e57190_7)] (knCons k1008_28 (knCons k38081_39 (knCons k50819_30 (knCons k57190_7 (knNil))))) 1000 (by kernel_rfl)
end Go.Proofs.YtfdhdhmeahdpbaaGreatDoor
