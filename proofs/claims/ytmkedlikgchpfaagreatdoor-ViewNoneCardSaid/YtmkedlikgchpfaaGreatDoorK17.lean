/- Known calls, shown by runs of the evaluator: limewashlaw31.filled. -/
import Derived.Test.YtmkedlikgchpfaaGreatDoorDat
import Derived.Test.YtmkedlikgchpfaaGreatDoorK11
namespace Go.Proofs.YtmkedlikgchpfaaGreatDoor
open Go Ev
set_option maxRecDepth 1000000
def e200054_12 : Known := ⟨[.c (.sl (A 200053) 0 1 1)], A 200054,
[(A 3, .cells (.cat 8 (.l 8 [.str 0 0, .str 0 0, .str 0 0, .str 16 0x2e79616c7265766f2e64657473757274, .str 8 0x2e79616c7265766f, .str 21 0x74636572696465722065757161706f206b6e696c6e, .str 19 0x2e736679616c7265766f657375662e72657375, .str 5 0x2e65737566]) (.l 7 [.str 30 0x74756f65746968772074636572696465722065757161706f206b6e696c6e, .str 0 0, .str 0 0, .str 0 0, .str 4 0x2e647362, .str 4 0x2e647362, .str 6 0x65757161706f])) true true 511),
(A 5, .cells (.cat 8 (.l 8 [.nat .u32 0, .nat .u32 0x1db71064, .nat .u32 0x3b6e20c8, .nat .u32 0x26d930ac, .nat .u32 0x76dc4190, .nat .u32 0x6b6b51f4, .nat .u32 0x4db26158, .nat .u32 0x5005713c]) (.l 8 [.nat .u32 0xedb88320, .nat .u32 0xf00f9344, .nat .u32 0xd6d6a3e8, .nat .u32 0xcb61b38c, .nat .u32 0x9b64c2b0, .nat .u32 0x86d3d2d4, .nat .u32 0xa00ae278, .nat .u32 0xbdbdf21c])) true true 675),
(A 6, .cells (.p .u8 256 0x10000000000000000000000000000000000000101010101000000000000000000) true true 678),
(A 200053, .cells (.l 8 [.i 0, .str 0 0, .i 1, .nil .s, .str 0 0, .i 0, .i 0, .i 0]) true true 61)],
.t [.c (.ptr (A 200059) 0), .c (.ptr (A 210872) 0)],
[(A 200058, .map [] 48),
(A 200059, .cells (.cat 5 (.l 5 [.slu (A 200063) 0 256 128, .nil .s, .i 48, .neg .i64 0, .bool false]) (.l 1 [.map (A 200058)])) true false 194),
(A 200063, bb1),
(A 210868, .cells (.p .b 174 0) true false 4),
(A 210871, .map [] 0),
(A 210872, .cells (.cat 17 (.cat 13 (.cat 9 (.cat 4 (.cat 1 (.l 1 [.ptr (A 200059) 0]) (.l 3 [.i 256, .i 40, .i 40])) (.l 5 [.i 1, .i 41, .i 42, .i 82, .i 174])) (.cat 3 (.l 3 [.i 256, .i 40, .i 40]) (.l 1 [.sl (A 210868) 0 174 174]))) (.cat 3 (.l 3 [.i 256, .i 40, .i 40]) (.l 1 [.sl (A 210868) 0 174 174]))) (.l 4 [.map (A 210871), .bool false, .bool false, .bool false])) true false 51)],
[], A 210873⟩
theorem k200054_12 : KnownOk Tryz.prog 12 e200054_12 := known_tab mixed J [(109, e200091_109)] (knCons k200091_109 (knNil)) 1000 (by kernel_rfl)
end Go.Proofs.YtmkedlikgchpfaaGreatDoor
