/- Known calls, shown by runs of the evaluator: load.Fill 2. -/
import Derived.Test.YtmkedlikgchpfaaGreatDoorDat
namespace Go.Proofs.YtmkedlikgchpfaaGreatDoor
open Go Ev
set_option maxRecDepth 1000000
def e49901_49 : Known := ⟨[.c (.ptr (A 49899) 0), .c (.ptr (A 12081) 0), .c (.ptr (A 49863) 0), .c (.ptr (A 49866) 0), .c (.ptr (A 12079) 0), .c (.ptr (A 49862) 0)], A 49901,
[(A 3, .cells (.cat 8 (.l 8 [.str 0 0, .str 0 0, .str 0 0, .str 16 0x2e79616c7265766f2e64657473757274, .str 8 0x2e79616c7265766f, .str 21 0x74636572696465722065757161706f206b6e696c6e, .str 19 0x2e736679616c7265766f657375662e72657375, .str 5 0x2e65737566]) (.l 7 [.str 30 0x74756f65746968772074636572696465722065757161706f206b6e696c6e, .str 0 0, .str 0 0, .str 0 0, .str 4 0x2e647362, .str 4 0x2e647362, .str 6 0x65757161706f])) true true 511),
(A 5, .cells (.cat 8 (.l 8 [.nat .u32 0, .nat .u32 0x1db71064, .nat .u32 0x3b6e20c8, .nat .u32 0x26d930ac, .nat .u32 0x76dc4190, .nat .u32 0x6b6b51f4, .nat .u32 0x4db26158, .nat .u32 0x5005713c]) (.l 8 [.nat .u32 0xedb88320, .nat .u32 0xf00f9344, .nat .u32 0xd6d6a3e8, .nat .u32 0xcb61b38c, .nat .u32 0x9b64c2b0, .nat .u32 0x86d3d2d4, .nat .u32 0xa00ae278, .nat .u32 0xbdbdf21c])) true true 675),
(A 6, .cells (.p .u8 256 0x10000000000000000000000000000000000000101010101000000000000000000) true true 678),
(A 1153, .cells (.l 2 [.str 10 0x65757161706f2e647362, .str 0 0]) false false 95),
(A 1164, .map [] 78),
(A 1165, .cells (.cat 5 (.l 5 [.slu (A 1169) 0 256 128, .nil .s, .i 78, .neg .i64 0, .bool false]) (.l 1 [.map (A 1164)])) true false 194),
(A 1169, bb9),
(A 12078, .cells (.l 5 [.i 1, .i 2, .i 0, .i 3, .i 0]) true false 3),
(A 12079, .cells (.l 1 [.sl (A 12078) 0 5 5]) true false 106),
(A 12080, .map [⟨.i 0, .c (.i 3), 0⟩] 1),
(A 12081, .cells (.l 1 [.map (A 12080)]) true false 152),
(A 49862, .cells (.l 1 [.i 4]) true false 3),
(A 49863, .cells (.l 8 [.i 1, .str 1 111, .i 1, .slu (A 1153) 0 1 2, .str 0 0, .i 0, .i 0, .i 0]) true false 61),
(A 49866, .cells (.l 1 [.i 1]) true false 3),
(A 49895, .cells (.p .b 174 7) true false 4),
(A 49898, .map [] 0),
(A 49899, .cells (.cat 17 (.cat 13 (.cat 9 (.cat 4 (.cat 1 (.l 1 [.ptr (A 1165) 0]) (.l 3 [.i 256, .i 40, .i 40])) (.l 5 [.i 1, .i 41, .i 42, .i 82, .i 174])) (.cat 3 (.l 3 [.i 256, .i 40, .i 40]) (.l 1 [.sl (A 49895) 0 174 174]))) (.cat 3 (.l 3 [.i 256, .i 40, .i 40]) (.l 1 [.sl (A 49895) 0 174 174]))) (.l 4 [.map (A 49898), .bool false, .bool false, .bool false])) true false 51)],
.c (.i 0),
[(A 12078, .cells (.l 5 [.i 1, .i 2, .i 0, .i 3, .i 4]) true false 3),
(A 12080, .map [⟨.i 0, .c (.i 4), 0⟩] 1),
(A 49898, .map [⟨.i 85, .a (.l 3 [.i 85, .i 9, .str 12 0x65757161706f2e6473620a]), 0⟩, ⟨.i 45, .a (.l 3 [.i 45, .i 6, .str 13 0x3010001000000000101]), 1⟩, ⟨.i 82, .a (.l 3 [.i 82, .i 7, .str 6 0x46f01026101]), 2⟩, ⟨.i 42, .a (.l 3 [.i 42, .i 6, .str 13 0x101000000020101]), 3⟩] 4),
(A 49899, .cells (.cat 17 (.cat 13 (.cat 9 (.cat 4 (.cat 1 (.l 1 [.ptr (A 1165) 0]) (.l 3 [.i 256, .i 40, .i 40])) (.l 5 [.i 1, .i 41, .i 42, .i 82, .i 174])) (.cat 3 (.l 3 [.i 256, .i 40, .i 40]) (.l 1 [.sl (A 49895) 0 174 174]))) (.cat 3 (.l 3 [.i 256, .i 40, .i 40]) (.l 1 [.slu (A 51263) 0 174 1]))) (.l 4 [.map (A 49898), .bool true, .bool false, .bool false])) true false 51),
(A 51263, .cells (.p .b 174 15) false false 4)],
[], A 51585⟩
theorem k49901_49 : KnownOk Tryz.prog 49 e49901_49 := known_tab mixed J [] (knNil) 1000 (by kernel_rfl)
end Go.Proofs.YtmkedlikgchpfaaGreatDoor
