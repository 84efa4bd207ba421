/- Known calls, shown by runs of the evaluator: convert.Step, limewashlaw28.made, convert.Start. -/
import Derived.Test.YtnjlcdofdcnecaaGreatDoorDat
import Derived.Test.YtnjlcdofdcnecaaGreatDoorK02
import Derived.Test.YtnjlcdofdcnecaaGreatDoorK05
import Derived.Test.YtnjlcdofdcnecaaGreatDoorK07
import Derived.Test.YtnjlcdofdcnecaaGreatDoorK08
import Derived.Test.YtnjlcdofdcnecaaGreatDoorK10
import Derived.Test.YtnjlcdofdcnecaaGreatDoorK11
import Derived.Test.YtnjlcdofdcnecaaGreatDoorK12
namespace Go.Proofs.YtnjlcdofdcnecaaGreatDoor
open Go Ev
set_option maxRecDepth 1000000
def e128866_10 : Known := ⟨[.c (.ptr (A 1007) 0), .a (.l 3 [.i 128, .i 60, .i 10])], A 128866,
[(A 3, .cells (.cat 8 (.l 8 [.str 0 0, .str 0 0, .str 0 0, .str 16 0x2e79616c7265766f2e64657473757274, .str 8 0x2e79616c7265766f, .str 21 0x74636572696465722065757161706f206b6e696c6e, .str 19 0x2e736679616c7265766f657375662e72657375, .str 5 0x2e65737566]) (.l 7 [.str 30 0x74756f65746968772074636572696465722065757161706f206b6e696c6e, .str 0 0, .str 0 0, .str 0 0, .str 4 0x2e647362, .str 4 0x2e647362, .str 6 0x65757161706f])) true true 625),
(A 5, .cells (.cat 8 (.l 8 [.nat .u32 0, .nat .u32 0x1db71064, .nat .u32 0x3b6e20c8, .nat .u32 0x26d930ac, .nat .u32 0x76dc4190, .nat .u32 0x6b6b51f4, .nat .u32 0x4db26158, .nat .u32 0x5005713c]) (.l 8 [.nat .u32 0xedb88320, .nat .u32 0xf00f9344, .nat .u32 0xd6d6a3e8, .nat .u32 0xcb61b38c, .nat .u32 0x9b64c2b0, .nat .u32 0x86d3d2d4, .nat .u32 0xa00ae278, .nat .u32 0xbdbdf21c])) true true 684),
(A 6, .cells (.p .u8 256 0x10000000000000000000000000000000000000101010101000000000000000000) true true 740),
(A 1006, .map [] 148),
(A 1007, .cells (.cat 5 (.l 5 [.slu (A 1011) 0 128 128, .nil .s, .i 148, .neg .i64 0, .bool false]) (.l 1 [.map (A 1006)])) true false 184),
(A 1011, bb23)],
.t [.a (.l 8 [.i 1, .i 2, .i 6, .i 14, .i 1, .i 0, .i 2, .i 0]), .c (.i 0)],
[(A 1006, .map [] 162),
(A 1007, .cells (.cat 5 (.l 5 [.slu (A 1011) 0 128 128, .nil .s, .i 162, .neg .i64 0, .bool false]) (.l 1 [.map (A 1006)])) true false 184),
(A 1011, bb24)],
[], A 148784⟩
theorem k128866_10 : KnownOk Tryz.prog 10 e128866_10 := known_tab mixed J [(15, e128980_15), (91, e131996_91), (74, e133132_74)] (knCons k128980_15 (knCons k131996_91 (knCons k133132_74 (knNil)))) 1000 (by kernel_rfl)

def e1002_16 : Known := ⟨[.a (.l 3 [.i 128, .i 60, .i 10]), .c (.i 3), .c (.sl (A 1001) 0 4 4)], A 1002,
[(A 3, .cells (.cat 8 (.l 8 [.str 0 0, .str 0 0, .str 0 0, .str 16 0x2e79616c7265766f2e64657473757274, .str 8 0x2e79616c7265766f, .str 21 0x74636572696465722065757161706f206b6e696c6e, .str 19 0x2e736679616c7265766f657375662e72657375, .str 5 0x2e65737566]) (.l 7 [.str 30 0x74756f65746968772074636572696465722065757161706f206b6e696c6e, .str 0 0, .str 0 0, .str 0 0, .str 4 0x2e647362, .str 4 0x2e647362, .str 6 0x65757161706f])) true true 625),
(A 5, .cells (.cat 8 (.l 8 [.nat .u32 0, .nat .u32 0x1db71064, .nat .u32 0x3b6e20c8, .nat .u32 0x26d930ac, .nat .u32 0x76dc4190, .nat .u32 0x6b6b51f4, .nat .u32 0x4db26158, .nat .u32 0x5005713c]) (.l 8 [.nat .u32 0xedb88320, .nat .u32 0xf00f9344, .nat .u32 0xd6d6a3e8, .nat .u32 0xcb61b38c, .nat .u32 0x9b64c2b0, .nat .u32 0x86d3d2d4, .nat .u32 0xa00ae278, .nat .u32 0xbdbdf21c])) true true 684),
(A 6, .cells (.p .u8 256 0x10000000000000000000000000000000000000101010101000000000000000000) true true 740),
(A 1001, .cells (.cat 30 (.cat 20 (.cat 10 (.cat 9 (.cat 8 (.l 8 [.i 0, .str 0 0, .i 1, .nil .s, .str 0 0, .i 0, .i 0, .i 0]) (.l 1 [.bool false])) (.l 1 [.nil .s])) (.cat 9 (.cat 8 (.l 8 [.i 1, .str 1 97, .i 1, .nil .s, .str 0 0, .i 0, .i 0, .i 0]) (.l 1 [.bool true])) (.l 1 [.nil .s]))) (.cat 9 (.cat 8 (.l 8 [.i 2, .str 1 102, .i 2, .nil .s, .str 0 0, .i 0, .i 0, .i 1]) (.l 1 [.bool false])) (.l 1 [.nil .s]))) (.cat 9 (.cat 8 (.l 8 [.i 1, .str 1 103, .i 2, .nil .s, .str 0 0, .i 0, .i 0, .i 1]) (.l 1 [.bool false])) (.l 1 [.nil .s]))) true false 73)],
.t [.c (.ptr (A 1007) 0), .c (.i 0), .c (.i 0)],
[(A 1006, .map [] 126),
(A 1007, .cells (.cat 5 (.l 5 [.slu (A 1011) 0 128 128, .nil .s, .i 126, .neg .i64 0, .bool false]) (.l 1 [.map (A 1006)])) true false 184),
(A 1011, bb0)],
[], A 86336⟩
theorem k1002_16 : KnownOk Tryz.prog 16 e1002_16 := known_tab mixed J [(66, e2212_66), (163, e13893_163), (67, e25368_67), (67, e37804_67), (67, e48279_67), (67, e60940_67), (67, e70971_67), (23, e81030_23)] (knCons k2212_66 (knCons k13893_163 (knCons k25368_67 (knCons k37804_67 (knCons k48279_67 (knCons k60940_67 (knCons k70971_67 (knCons k81030_23 (knNil))))))))) 1000 (by kernel_rfl)

def e86336_9 : Known := ⟨[.c (.ptr (A 1007) 0), .a (.l 3 [.i 128, .i 60, .i 10]), .c (.i 4)], A 86336,
[(A 3, .cells (.cat 8 (.l 8 [.str 0 0, .str 0 0, .str 0 0, .str 16 0x2e79616c7265766f2e64657473757274, .str 8 0x2e79616c7265766f, .str 21 0x74636572696465722065757161706f206b6e696c6e, .str 19 0x2e736679616c7265766f657375662e72657375, .str 5 0x2e65737566]) (.l 7 [.str 30 0x74756f65746968772074636572696465722065757161706f206b6e696c6e, .str 0 0, .str 0 0, .str 0 0, .str 4 0x2e647362, .str 4 0x2e647362, .str 6 0x65757161706f])) true true 625),
(A 5, .cells (.cat 8 (.l 8 [.nat .u32 0, .nat .u32 0x1db71064, .nat .u32 0x3b6e20c8, .nat .u32 0x26d930ac, .nat .u32 0x76dc4190, .nat .u32 0x6b6b51f4, .nat .u32 0x4db26158, .nat .u32 0x5005713c]) (.l 8 [.nat .u32 0xedb88320, .nat .u32 0xf00f9344, .nat .u32 0xd6d6a3e8, .nat .u32 0xcb61b38c, .nat .u32 0x9b64c2b0, .nat .u32 0x86d3d2d4, .nat .u32 0xa00ae278, .nat .u32 0xbdbdf21c])) true true 684),
(A 6, .cells (.p .u8 256 0x10000000000000000000000000000000000000101010101000000000000000000) true true 740),
(A 1006, .map [] 126),
(A 1007, .cells (.cat 5 (.l 5 [.slu (A 1011) 0 128 128, .nil .s, .i 126, .neg .i64 0, .bool false]) (.l 1 [.map (A 1006)])) true false 184),
(A 1011, bb0)],
.t [.c (.i 0), .c (.i 0)],
[(A 1006, .map [] 130),
(A 1007, .cells (.cat 5 (.l 5 [.slu (A 1011) 0 128 128, .nil .s, .i 130, .neg .i64 0, .bool false]) (.l 1 [.map (A 1006)])) true false 184),
(A 1011, bb19)],
[], A 102429⟩
theorem k86336_9 : KnownOk Tryz.prog 9 e86336_9 := known_tab mixed J [(27, e86373_27)] (knCons k86373_27 (knNil)) 1000 (by kernel_rfl)
end Go.Proofs.YtnjlcdofdcnecaaGreatDoor
