/- Known calls, shown by runs of the evaluator: store.Format, load.alone 1, load.alone 1. -/
import Derived.Test.YtnjlcdofdcnecaaGreatDoorDat
import Derived.Test.YtnjlcdofdcnecaaGreatDoorK00
namespace Go.Proofs.YtnjlcdofdcnecaaGreatDoor
open Go Ev
set_option maxRecDepth 1000000
def e2212_66 : Known := ⟨[.c (.ptr (A 1007) 0), .a (.l 3 [.i 128, .i 60, .i 10])], A 2212,
[(A 3, .cells (.cat 8 (.l 8 [.str 0 0, .str 0 0, .str 0 0, .str 16 0x2e79616c7265766f2e64657473757274, .str 8 0x2e79616c7265766f, .str 21 0x74636572696465722065757161706f206b6e696c6e, .str 19 0x2e736679616c7265766f657375662e72657375, .str 5 0x2e65737566]) (.l 7 [.str 30 0x74756f65746968772074636572696465722065757161706f206b6e696c6e, .str 0 0, .str 0 0, .str 0 0, .str 4 0x2e647362, .str 4 0x2e647362, .str 6 0x65757161706f])) true true 625),
(A 5, .cells (.cat 8 (.l 8 [.nat .u32 0, .nat .u32 0x1db71064, .nat .u32 0x3b6e20c8, .nat .u32 0x26d930ac, .nat .u32 0x76dc4190, .nat .u32 0x6b6b51f4, .nat .u32 0x4db26158, .nat .u32 0x5005713c]) (.l 8 [.nat .u32 0xedb88320, .nat .u32 0xf00f9344, .nat .u32 0xd6d6a3e8, .nat .u32 0xcb61b38c, .nat .u32 0x9b64c2b0, .nat .u32 0x86d3d2d4, .nat .u32 0xa00ae278, .nat .u32 0xbdbdf21c])) true true 684),
(A 6, .cells (.p .u8 256 0x10000000000000000000000000000000000000101010101000000000000000000) true true 740),
(A 1006, .map [] 0),
(A 1007, .cells (.cat 5 (.l 5 [.slu (A 1011) 0 128 128, .nil .s, .i 0, .neg .i64 0, .bool false]) (.l 1 [.map (A 1006)])) true false 184),
(A 1011, .cells (.p .u8 16384 0) false false 224)],
.c (.i 0),
[(A 1006, .map [] 68),
(A 1007, .cells (.cat 5 (.l 5 [.slu (A 1011) 0 128 128, .nil .s, .i 68, .neg .i64 0, .bool false]) (.l 1 [.map (A 1006)])) true false 184),
(A 1011, bb1)],
[], A 13037⟩
theorem k2212_66 : KnownOk Tryz.prog 66 e2212_66 := known_tab mixed J [(161, e2213_161)] (knCons k2213_161 (knNil)) 1000 (by kernel_rfl)

def e13893_163 : Known := ⟨[.c (.ptr (A 13048) 0), .c (.ptr (A 13080) 0)], A 13893,
[(A 3, .cells (.cat 8 (.l 8 [.str 0 0, .str 0 0, .str 0 0, .str 16 0x2e79616c7265766f2e64657473757274, .str 8 0x2e79616c7265766f, .str 21 0x74636572696465722065757161706f206b6e696c6e, .str 19 0x2e736679616c7265766f657375662e72657375, .str 5 0x2e65737566]) (.l 7 [.str 30 0x74756f65746968772074636572696465722065757161706f206b6e696c6e, .str 0 0, .str 0 0, .str 0 0, .str 4 0x2e647362, .str 4 0x2e647362, .str 6 0x65757161706f])) true true 625),
(A 5, .cells (.cat 8 (.l 8 [.nat .u32 0, .nat .u32 0x1db71064, .nat .u32 0x3b6e20c8, .nat .u32 0x26d930ac, .nat .u32 0x76dc4190, .nat .u32 0x6b6b51f4, .nat .u32 0x4db26158, .nat .u32 0x5005713c]) (.l 8 [.nat .u32 0xedb88320, .nat .u32 0xf00f9344, .nat .u32 0xd6d6a3e8, .nat .u32 0xcb61b38c, .nat .u32 0x9b64c2b0, .nat .u32 0x86d3d2d4, .nat .u32 0xa00ae278, .nat .u32 0xbdbdf21c])) true true 684),
(A 6, .cells (.p .u8 256 0x10000000000000000000000000000000000000101010101000000000000000000) true true 740),
(A 1006, .map [] 68),
(A 1007, .cells (.cat 5 (.l 5 [.slu (A 1011) 0 128 128, .nil .s, .i 68, .neg .i64 0, .bool false]) (.l 1 [.map (A 1006)])) true false 184),
(A 1011, bb1),
(A 13048, .cells (.l 1 [.i 0]) true false 26),
(A 13075, .cells (.p .b 56 0) true false 4),
(A 13078, .map [⟨.i 63, .a (.l 3 [.i 63, .i 6, .str 9 0x1000000000101]), 0⟩, ⟨.i 72, .a (.l 3 [.i 72, .i 7, .str 14 0x26b6e6c702e68772e2e68772e0c]), 1⟩, ⟨.i 62, .a (.l 3 [.i 62, .i 6, .str 13 0x101000000010101]), 2⟩] 3),
(A 13079, .cells (.cat 17 (.cat 13 (.cat 9 (.cat 4 (.cat 1 (.l 1 [.ptr (A 1007) 0]) (.l 3 [.i 128, .i 60, .i 10])) (.l 5 [.i 1, .i 61, .i 62, .i 72, .i 56])) (.cat 3 (.l 3 [.i 128, .i 60, .i 10]) (.l 1 [.sl (A 13075) 0 56 56]))) (.cat 3 (.l 3 [.i 128, .i 60, .i 10]) (.l 1 [.slu (A 13748) 0 56 1]))) (.l 4 [.map (A 13078), .bool true, .bool false, .bool false])) true false 135),
(A 13080, .cells (.l 1 [.ptr (A 13079) 0]) true false 58),
(A 13748, .cells (.p .b 56 1) false false 4)],
.t [],
[(A 1006, .map [] 78),
(A 1007, .cells (.cat 5 (.l 5 [.slu (A 1011) 0 128 128, .nil .s, .i 78, .neg .i64 0, .bool false]) (.l 1 [.map (A 1006)])) true false 184),
(A 1011, bb3),
(A 13079, .cells (.cat 17 (.cat 13 (.cat 9 (.cat 4 (.cat 1 (.l 1 [.ptr (A 1007) 0]) (.l 3 [.i 128, .i 60, .i 10])) (.l 5 [.i 1, .i 61, .i 62, .i 72, .i 56])) (.cat 3 (.l 3 [.i 128, .i 60, .i 10]) (.l 1 [.sl (A 13075) 0 56 56]))) (.cat 3 (.l 3 [.i 128, .i 60, .i 10]) (.l 1 [.slu (A 13748) 0 56 1]))) (.l 4 [.map (A 13078), .bool true, .bool false, .bool true])) true false 135)],
[], A 25363⟩
theorem k13893_163 : KnownOk Tryz.prog 163 e13893_163 := known_tab mixed J [(344, e20121_344)] (knCons k20121_344 (knNil)) 1000 (by kernel_rfl)

def e26329_163 : Known := ⟨[.c (.ptr (A 25369) 0), .c (.ptr (A 25401) 0)], A 26329,
[(A 3, .cells (.cat 8 (.l 8 [.str 0 0, .str 0 0, .str 0 0, .str 16 0x2e79616c7265766f2e64657473757274, .str 8 0x2e79616c7265766f, .str 21 0x74636572696465722065757161706f206b6e696c6e, .str 19 0x2e736679616c7265766f657375662e72657375, .str 5 0x2e65737566]) (.l 7 [.str 30 0x74756f65746968772074636572696465722065757161706f206b6e696c6e, .str 0 0, .str 0 0, .str 0 0, .str 4 0x2e647362, .str 4 0x2e647362, .str 6 0x65757161706f])) true true 625),
(A 5, .cells (.cat 8 (.l 8 [.nat .u32 0, .nat .u32 0x1db71064, .nat .u32 0x3b6e20c8, .nat .u32 0x26d930ac, .nat .u32 0x76dc4190, .nat .u32 0x6b6b51f4, .nat .u32 0x4db26158, .nat .u32 0x5005713c]) (.l 8 [.nat .u32 0xedb88320, .nat .u32 0xf00f9344, .nat .u32 0xd6d6a3e8, .nat .u32 0xcb61b38c, .nat .u32 0x9b64c2b0, .nat .u32 0x86d3d2d4, .nat .u32 0xa00ae278, .nat .u32 0xbdbdf21c])) true true 684),
(A 6, .cells (.p .u8 256 0x10000000000000000000000000000000000000101010101000000000000000000) true true 740),
(A 1006, .map [] 78),
(A 1007, .cells (.cat 5 (.l 5 [.slu (A 1011) 0 128 128, .nil .s, .i 78, .neg .i64 0, .bool false]) (.l 1 [.map (A 1006)])) true false 184),
(A 1011, bb3),
(A 25369, .cells (.l 1 [.i 0]) true false 26),
(A 25396, .cells (.p .b 56 1) true false 4),
(A 25399, .map [⟨.i 64, .a (.l 3 [.i 64, .i 6, .str 9 258]), 0⟩, ⟨.i 73, .a (.l 3 [.i 73, .i 7, .str 4 0x3313002]), 1⟩, ⟨.i 63, .a (.l 3 [.i 63, .i 6, .str 13 0x10101000000010101]), 2⟩] 3),
(A 25400, .cells (.cat 17 (.cat 13 (.cat 9 (.cat 4 (.cat 1 (.l 1 [.ptr (A 1007) 0]) (.l 3 [.i 128, .i 60, .i 10])) (.l 5 [.i 1, .i 61, .i 62, .i 72, .i 56])) (.cat 3 (.l 3 [.i 128, .i 60, .i 10]) (.l 1 [.sl (A 25396) 0 56 56]))) (.cat 3 (.l 3 [.i 128, .i 60, .i 10]) (.l 1 [.slu (A 26184) 0 56 1]))) (.l 4 [.map (A 25399), .bool true, .bool false, .bool false])) true false 135),
(A 25401, .cells (.l 1 [.ptr (A 25400) 0]) true false 58),
(A 26184, .cells (.p .b 56 3) false false 4)],
.t [],
[(A 1006, .map [] 88),
(A 1007, .cells (.cat 5 (.l 5 [.slu (A 1011) 0 128 128, .nil .s, .i 88, .neg .i64 0, .bool false]) (.l 1 [.map (A 1006)])) true false 184),
(A 1011, bb6),
(A 25400, .cells (.cat 17 (.cat 13 (.cat 9 (.cat 4 (.cat 1 (.l 1 [.ptr (A 1007) 0]) (.l 3 [.i 128, .i 60, .i 10])) (.l 5 [.i 1, .i 61, .i 62, .i 72, .i 56])) (.cat 3 (.l 3 [.i 128, .i 60, .i 10]) (.l 1 [.sl (A 25396) 0 56 56]))) (.cat 3 (.l 3 [.i 128, .i 60, .i 10]) (.l 1 [.slu (A 26184) 0 56 1]))) (.l 4 [.map (A 25399), .bool true, .bool false, .bool true])) true false 135)],
[], A 37799⟩
theorem k26329_163 : KnownOk Tryz.prog 163 e26329_163 := known_tab mixed J [(344, e32557_344)] (knCons k32557_344 (knNil)) 1000 (by kernel_rfl)
end Go.Proofs.YtnjlcdofdcnecaaGreatDoor
