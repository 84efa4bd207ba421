/- Known calls, shown by runs of the evaluator: load.alone 1. -/
import Derived.Test.YtmkedlikgchpfaaGreatDoorDat
import Derived.Test.YtmkedlikgchpfaaGreatDoorK01
namespace Go.Proofs.YtmkedlikgchpfaaGreatDoor
open Go Ev
set_option maxRecDepth 1000000
def e13444_112 : Known := ⟨[.c (.ptr (A 12089) 0), .c (.ptr (A 12121) 0)], A 13444,
[(A 3, .cells (.cat 8 (.l 8 [.str 0 0, .str 0 0, .str 0 0, .str 16 0x2e79616c7265766f2e64657473757274, .str 8 0x2e79616c7265766f, .str 21 0x74636572696465722065757161706f206b6e696c6e, .str 19 0x2e736679616c7265766f657375662e72657375, .str 5 0x2e65737566]) (.l 7 [.str 30 0x74756f65746968772074636572696465722065757161706f206b6e696c6e, .str 0 0, .str 0 0, .str 0 0, .str 4 0x2e647362, .str 4 0x2e647362, .str 6 0x65757161706f])) true true 511),
(A 5, .cells (.cat 8 (.l 8 [.nat .u32 0, .nat .u32 0x1db71064, .nat .u32 0x3b6e20c8, .nat .u32 0x26d930ac, .nat .u32 0x76dc4190, .nat .u32 0x6b6b51f4, .nat .u32 0x4db26158, .nat .u32 0x5005713c]) (.l 8 [.nat .u32 0xedb88320, .nat .u32 0xf00f9344, .nat .u32 0xd6d6a3e8, .nat .u32 0xcb61b38c, .nat .u32 0x9b64c2b0, .nat .u32 0x86d3d2d4, .nat .u32 0xa00ae278, .nat .u32 0xbdbdf21c])) true true 675),
(A 6, .cells (.p .u8 256 0x10000000000000000000000000000000000000101010101000000000000000000) true true 678),
(A 1164, .map [] 48),
(A 1165, .cells (.cat 5 (.l 5 [.slu (A 1169) 0 256 128, .nil .s, .i 48, .neg .i64 0, .bool false]) (.l 1 [.map (A 1164)])) true false 194),
(A 1169, bb1),
(A 12089, .cells (.l 1 [.i 0]) true false 28),
(A 12116, .cells (.p .b 174 0) true false 4),
(A 12119, .map [⟨.i 43, .a (.l 3 [.i 43, .i 6, .str 9 0x1000000000101]), 0⟩, ⟨.i 82, .a (.l 3 [.i 82, .i 7, .str 3 155905]), 1⟩, ⟨.i 42, .a (.l 3 [.i 42, .i 6, .str 13 0x101000000010101]), 2⟩] 3),
(A 12120, .cells (.cat 17 (.cat 13 (.cat 9 (.cat 4 (.cat 1 (.l 1 [.ptr (A 1165) 0]) (.l 3 [.i 256, .i 40, .i 40])) (.l 5 [.i 1, .i 41, .i 42, .i 82, .i 174])) (.cat 3 (.l 3 [.i 256, .i 40, .i 40]) (.l 1 [.sl (A 12116) 0 174 174]))) (.cat 3 (.l 3 [.i 256, .i 40, .i 40]) (.l 1 [.slu (A 13299) 0 174 1]))) (.l 4 [.map (A 12119), .bool true, .bool false, .bool false])) true false 51),
(A 12121, .cells (.l 1 [.ptr (A 12120) 0]) true false 38),
(A 13299, .cells (.p .b 174 1) false false 4)],
.t [],
[(A 1164, .map [] 58),
(A 1165, .cells (.cat 5 (.l 5 [.slu (A 1169) 0 256 128, .nil .s, .i 58, .neg .i64 0, .bool false]) (.l 1 [.map (A 1164)])) true false 194),
(A 1169, bb3),
(A 12120, .cells (.cat 17 (.cat 13 (.cat 9 (.cat 4 (.cat 1 (.l 1 [.ptr (A 1165) 0]) (.l 3 [.i 256, .i 40, .i 40])) (.l 5 [.i 1, .i 41, .i 42, .i 82, .i 174])) (.cat 3 (.l 3 [.i 256, .i 40, .i 40]) (.l 1 [.sl (A 12116) 0 174 174]))) (.cat 3 (.l 3 [.i 256, .i 40, .i 40]) (.l 1 [.slu (A 13299) 0 174 1]))) (.l 4 [.map (A 12119), .bool true, .bool false, .bool true])) true false 51)],
[], A 24914⟩
theorem k13444_112 : KnownOk Tryz.prog 112 e13444_112 := known_tab mixed J [(339, e19672_339)] (knCons k19672_339 (knNil)) 1000 (by kernel_rfl)
end Go.Proofs.YtmkedlikgchpfaaGreatDoor
