/- Known calls, shown by runs of the evaluator: limewashlaw31.filled. -/
import Derived.Test.YtmkedlikgchpfaaGreatDoorDat
import Derived.Test.YtmkedlikgchpfaaGreatDoorK12
import Derived.Test.YtmkedlikgchpfaaGreatDoorK13
import Derived.Test.YtmkedlikgchpfaaGreatDoorK14
import Derived.Test.YtmkedlikgchpfaaGreatDoorK18
import Derived.Test.YtmkedlikgchpfaaGreatDoorK19
namespace Go.Proofs.YtmkedlikgchpfaaGreatDoor
open Go Ev
set_option maxRecDepth 1000000
def e1160_12 : Known := ⟨[.c (.sl (A 1115) 0 5 5)], A 1160,
[(A 3, .cells (.cat 8 (.l 8 [.str 0 0, .str 0 0, .str 0 0, .str 16 0x2e79616c7265766f2e64657473757274, .str 8 0x2e79616c7265766f, .str 21 0x74636572696465722065757161706f206b6e696c6e, .str 19 0x2e736679616c7265766f657375662e72657375, .str 5 0x2e65737566]) (.l 7 [.str 30 0x74756f65746968772074636572696465722065757161706f206b6e696c6e, .str 0 0, .str 0 0, .str 0 0, .str 4 0x2e647362, .str 4 0x2e647362, .str 6 0x65757161706f])) true true 511),
(A 5, .cells (.cat 8 (.l 8 [.nat .u32 0, .nat .u32 0x1db71064, .nat .u32 0x3b6e20c8, .nat .u32 0x26d930ac, .nat .u32 0x76dc4190, .nat .u32 0x6b6b51f4, .nat .u32 0x4db26158, .nat .u32 0x5005713c]) (.l 8 [.nat .u32 0xedb88320, .nat .u32 0xf00f9344, .nat .u32 0xd6d6a3e8, .nat .u32 0xcb61b38c, .nat .u32 0x9b64c2b0, .nat .u32 0x86d3d2d4, .nat .u32 0xa00ae278, .nat .u32 0xbdbdf21c])) true true 675),
(A 6, .cells (.p .u8 256 0x10000000000000000000000000000000000000101010101000000000000000000) true true 678),
(A 1115, .cells (.cat 32 (.cat 24 (.cat 16 (.cat 8 (.l 8 [.i 0, .str 0 0, .i 1, .nil .s, .str 0 0, .i 0, .i 0, .i 0]) (.l 8 [.i 1, .str 1 97, .i 1, .nil .s, .str 0 0, .i 0, .i 0, .i 0])) (.l 8 [.i 2, .str 1 120, .i 5, .nil .s, .str 0 0, .i 0, .i 0, .i 0])) (.l 8 [.i 2, .str 1 121, .i 2, .nil .s, .str 1 49, .i 0, .i 0, .i 0])) (.l 8 [.i 1, .str 1 111, .i 1, .slu (A 1153) 0 1 2, .str 0 0, .i 0, .i 0, .i 0])) true false 61),
(A 1153, .cells (.l 2 [.str 10 0x65757161706f2e647362, .str 0 0]) false false 95)],
.t [.c (.ptr (A 1165) 0), .c (.ptr (A 65178) 0)],
[(A 1164, .map [] 90),
(A 1165, .cells (.cat 5 (.l 5 [.slu (A 1169) 0 256 128, .nil .s, .i 90, .neg .i64 0, .bool false]) (.l 1 [.map (A 1164)])) true false 194),
(A 1169, bb0),
(A 65174, .cells (.p .b 174 15) true false 4),
(A 65177, .map [] 0),
(A 65178, .cells (.cat 17 (.cat 13 (.cat 9 (.cat 4 (.cat 1 (.l 1 [.ptr (A 1165) 0]) (.l 3 [.i 256, .i 40, .i 40])) (.l 5 [.i 1, .i 41, .i 42, .i 82, .i 174])) (.cat 3 (.l 3 [.i 256, .i 40, .i 40]) (.l 1 [.sl (A 65174) 0 174 174]))) (.cat 3 (.l 3 [.i 256, .i 40, .i 40]) (.l 1 [.sl (A 65174) 0 174 174]))) (.l 4 [.map (A 65177), .bool false, .bool false, .bool false])) true false 51)],
[], A 65179⟩
theorem k1160_12 : KnownOk Tryz.prog 12 e1160_12 := known_tab mixed J [(45, e1333_45), (112, e13444_112), (46, e24919_46), (46, e34728_46), (46, e49867_46)] (knCons k1333_45 (knCons k13444_112 (knCons k24919_46 (knCons k34728_46 (knCons k49867_46 (knNil)))))) 1000 (by kernel_rfl)
end Go.Proofs.YtmkedlikgchpfaaGreatDoor
