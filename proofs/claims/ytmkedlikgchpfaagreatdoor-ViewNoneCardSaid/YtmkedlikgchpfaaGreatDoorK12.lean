/- Known calls, shown by runs of the evaluator: store.Format. -/
import Derived.Test.YtmkedlikgchpfaaGreatDoorDat
import Derived.Test.YtmkedlikgchpfaaGreatDoorK00
namespace Go.Proofs.YtmkedlikgchpfaaGreatDoor
open Go Ev
set_option maxRecDepth 1000000
def e1333_45 : Known := ⟨[.c (.ptr (A 1165) 0), .a (.l 3 [.i 256, .i 40, .i 40])], A 1333,
[(A 3, .cells (.cat 8 (.l 8 [.str 0 0, .str 0 0, .str 0 0, .str 16 0x2e79616c7265766f2e64657473757274, .str 8 0x2e79616c7265766f, .str 21 0x74636572696465722065757161706f206b6e696c6e, .str 19 0x2e736679616c7265766f657375662e72657375, .str 5 0x2e65737566]) (.l 7 [.str 30 0x74756f65746968772074636572696465722065757161706f206b6e696c6e, .str 0 0, .str 0 0, .str 0 0, .str 4 0x2e647362, .str 4 0x2e647362, .str 6 0x65757161706f])) true true 511),
(A 5, .cells (.cat 8 (.l 8 [.nat .u32 0, .nat .u32 0x1db71064, .nat .u32 0x3b6e20c8, .nat .u32 0x26d930ac, .nat .u32 0x76dc4190, .nat .u32 0x6b6b51f4, .nat .u32 0x4db26158, .nat .u32 0x5005713c]) (.l 8 [.nat .u32 0xedb88320, .nat .u32 0xf00f9344, .nat .u32 0xd6d6a3e8, .nat .u32 0xcb61b38c, .nat .u32 0x9b64c2b0, .nat .u32 0x86d3d2d4, .nat .u32 0xa00ae278, .nat .u32 0xbdbdf21c])) true true 675),
(A 6, .cells (.p .u8 256 0x10000000000000000000000000000000000000101010101000000000000000000) true true 678),
(A 1164, .map [] 0),
(A 1165, .cells (.cat 5 (.l 5 [.slu (A 1169) 0 256 128, .nil .s, .i 0, .neg .i64 0, .bool false]) (.l 1 [.map (A 1164)])) true false 194),
(A 1169, .cells (.p .u8 32768 0) false false 189)],
.c (.i 0),
[(A 1164, .map [] 48),
(A 1165, .cells (.cat 5 (.l 5 [.slu (A 1169) 0 256 128, .nil .s, .i 48, .neg .i64 0, .bool false]) (.l 1 [.map (A 1164)])) true false 194),
(A 1169, bb1)],
[], A 12078⟩
theorem k1333_45 : KnownOk Tryz.prog 45 e1333_45 := known_tab mixed J [(109, e1334_109)] (knCons k1334_109 (knNil)) 1000 (by kernel_rfl)
end Go.Proofs.YtmkedlikgchpfaaGreatDoor
