/- Known calls, shown by runs of the evaluator: convert.Dir, txn.Tx .Records, txn.Tx .Records. -/
import Derived.Test.YtnjlcdofdcnecaaGreatDoorDat
namespace Go.Proofs.YtnjlcdofdcnecaaGreatDoor
open Go Ev
set_option maxRecDepth 1000000
def e128980_15 : Known := ⟨[.c (.ptr (A 128904) 0), .c (.i 1)], A 128980,
[(A 3, .cells (.cat 8 (.l 8 [.str 0 0, .str 0 0, .str 0 0, .str 16 0x2e79616c7265766f2e64657473757274, .str 8 0x2e79616c7265766f, .str 21 0x74636572696465722065757161706f206b6e696c6e, .str 19 0x2e736679616c7265766f657375662e72657375, .str 5 0x2e65737566]) (.l 7 [.str 30 0x74756f65746968772074636572696465722065757161706f206b6e696c6e, .str 0 0, .str 0 0, .str 0 0, .str 4 0x2e647362, .str 4 0x2e647362, .str 6 0x65757161706f])) true true 625),
(A 5, .cells (.cat 8 (.l 8 [.nat .u32 0, .nat .u32 0x1db71064, .nat .u32 0x3b6e20c8, .nat .u32 0x26d930ac, .nat .u32 0x76dc4190, .nat .u32 0x6b6b51f4, .nat .u32 0x4db26158, .nat .u32 0x5005713c]) (.l 8 [.nat .u32 0xedb88320, .nat .u32 0xf00f9344, .nat .u32 0xd6d6a3e8, .nat .u32 0xcb61b38c, .nat .u32 0x9b64c2b0, .nat .u32 0x86d3d2d4, .nat .u32 0xa00ae278, .nat .u32 0xbdbdf21c])) true true 684),
(A 6, .cells (.p .u8 256 0x10000000000000000000000000000000000000101010101000000000000000000) true true 740),
(A 1006, .map [] 148),
(A 1007, .cells (.cat 5 (.l 5 [.slu (A 1011) 0 128 128, .nil .s, .i 148, .neg .i64 0, .bool false]) (.l 1 [.map (A 1006)])) true false 184),
(A 1011, bb23),
(A 128900, .cells (.p .b 56 5) true false 4),
(A 128903, .map [] 0),
(A 128904, .cells (.cat 17 (.cat 13 (.cat 9 (.cat 4 (.cat 1 (.l 1 [.ptr (A 1007) 0]) (.l 3 [.i 128, .i 60, .i 10])) (.l 5 [.i 1, .i 61, .i 62, .i 72, .i 56])) (.cat 3 (.l 3 [.i 128, .i 60, .i 10]) (.l 1 [.sl (A 128900) 0 56 56]))) (.cat 3 (.l 3 [.i 128, .i 60, .i 10]) (.l 1 [.sl (A 128900) 0 56 56]))) (.l 4 [.map (A 128903), .bool false, .bool false, .bool false])) true false 135)],
.t [.a (.l 4 [.nil .s, .bool false, .nil .s, .slu (A 130666) 0 2 12]), .c (.i 4), .c (.i 0)],
[(A 130666, .cells (.cat 12 (.cat 9 (.cat 8 (.l 8 [.str 11 0x71706f2e68772e2e68772e, .i 0, .str 0 0, .i 2, .nil .s, .str 0 0, .i 0, .i 0]) (.l 1 [.i 0])) (.l 3 [.bool false, .bool true, .i 1])) (.cat 9 (.cat 8 (.l 8 [.str 1 102, .i 0, .str 0 0, .i 2, .nil .s, .str 0 0, .i 0, .i 0]) (.l 1 [.i 3])) (.l 3 [.bool false, .bool false, .i 2]))) false false 116)],
[], A 130667⟩
theorem k128980_15 : KnownOk Tryz.prog 15 e128980_15 := known_tab mixed J [] (knNil) 1000 (by kernel_rfl)

def e131996_91 : Known := ⟨[.c (.ptr (A 128904) 0)], A 131996,
[(A 3, .cells (.cat 8 (.l 8 [.str 0 0, .str 0 0, .str 0 0, .str 16 0x2e79616c7265766f2e64657473757274, .str 8 0x2e79616c7265766f, .str 21 0x74636572696465722065757161706f206b6e696c6e, .str 19 0x2e736679616c7265766f657375662e72657375, .str 5 0x2e65737566]) (.l 7 [.str 30 0x74756f65746968772074636572696465722065757161706f206b6e696c6e, .str 0 0, .str 0 0, .str 0 0, .str 4 0x2e647362, .str 4 0x2e647362, .str 6 0x65757161706f])) true true 625),
(A 5, .cells (.cat 8 (.l 8 [.nat .u32 0, .nat .u32 0x1db71064, .nat .u32 0x3b6e20c8, .nat .u32 0x26d930ac, .nat .u32 0x76dc4190, .nat .u32 0x6b6b51f4, .nat .u32 0x4db26158, .nat .u32 0x5005713c]) (.l 8 [.nat .u32 0xedb88320, .nat .u32 0xf00f9344, .nat .u32 0xd6d6a3e8, .nat .u32 0xcb61b38c, .nat .u32 0x9b64c2b0, .nat .u32 0x86d3d2d4, .nat .u32 0xa00ae278, .nat .u32 0xbdbdf21c])) true true 684),
(A 6, .cells (.p .u8 256 0x10000000000000000000000000000000000000101010101000000000000000000) true true 740),
(A 1006, .map [] 148),
(A 1007, .cells (.cat 5 (.l 5 [.slu (A 1011) 0 128 128, .nil .s, .i 148, .neg .i64 0, .bool false]) (.l 1 [.map (A 1006)])) true false 184),
(A 1011, bb23),
(A 128900, .cells (.p .b 56 5) true false 4),
(A 128903, .map [⟨.i 73, .a (.l 3 [.i 73, .i 9, .str 12 0x65757161706f2e6473620a]), 0⟩, ⟨.i 65, .a (.l 3 [.i 65, .i 6, .str 17 0x101000000020101000000010101]), 1⟩, ⟨.i 74, .a (.l 3 [.i 74, .i 7, .str 3 222721]), 2⟩, ⟨.i 66, .a (.l 3 [.i 66, .i 6, .str 9 0]), 3⟩, ⟨.i 0, .a (.l 3 [.i 0, .i 4, .str 5 0x2030403]), 4⟩] 5),
(A 128904, .cells (.cat 17 (.cat 13 (.cat 9 (.cat 4 (.cat 1 (.l 1 [.ptr (A 1007) 0]) (.l 3 [.i 128, .i 60, .i 10])) (.l 5 [.i 1, .i 61, .i 62, .i 72, .i 56])) (.cat 3 (.l 3 [.i 128, .i 60, .i 10]) (.l 1 [.sl (A 128900) 0 56 56]))) (.cat 3 (.l 3 [.i 128, .i 60, .i 10]) (.l 1 [.slu (A 131130) 0 56 1]))) (.l 4 [.map (A 128903), .bool true, .bool false, .bool false])) true false 135),
(A 131130, .cells (.p .b 56 7) false false 4)],
.t [.c (.slu (A 132030) 0 6 3), .c (.i 0)],
[(A 132030, .cells (.cat 6 (.cat 3 (.l 3 [.i 0, .i 4, .str 5 0x2030403]) (.l 3 [.i 61, .i 5, .str 96 7])) (.cat 3 (.l 3 [.i 65, .i 6, .str 17 0x101000000020101000000010101]) (.cat 3 (.l 3 [.i 66, .i 6, .str 9 0]) (.cat 3 (.l 3 [.i 73, .i 9, .str 12 0x65757161706f2e6473620a]) (.l 3 [.i 74, .i 7, .str 3 222721]))))) false false 190)],
[], A 133122⟩
theorem k131996_91 : KnownOk Tryz.prog 91 e131996_91 := known_tab mixed J [] (knNil) 1000 (by kernel_rfl)

def e133132_91 : Known := ⟨[.c (.ptr (A 128904) 0)], A 133132,
[(A 3, .cells (.cat 8 (.l 8 [.str 0 0, .str 0 0, .str 0 0, .str 16 0x2e79616c7265766f2e64657473757274, .str 8 0x2e79616c7265766f, .str 21 0x74636572696465722065757161706f206b6e696c6e, .str 19 0x2e736679616c7265766f657375662e72657375, .str 5 0x2e65737566]) (.l 7 [.str 30 0x74756f65746968772074636572696465722065757161706f206b6e696c6e, .str 0 0, .str 0 0, .str 0 0, .str 4 0x2e647362, .str 4 0x2e647362, .str 6 0x65757161706f])) true true 625),
(A 5, .cells (.cat 8 (.l 8 [.nat .u32 0, .nat .u32 0x1db71064, .nat .u32 0x3b6e20c8, .nat .u32 0x26d930ac, .nat .u32 0x76dc4190, .nat .u32 0x6b6b51f4, .nat .u32 0x4db26158, .nat .u32 0x5005713c]) (.l 8 [.nat .u32 0xedb88320, .nat .u32 0xf00f9344, .nat .u32 0xd6d6a3e8, .nat .u32 0xcb61b38c, .nat .u32 0x9b64c2b0, .nat .u32 0x86d3d2d4, .nat .u32 0xa00ae278, .nat .u32 0xbdbdf21c])) true true 684),
(A 6, .cells (.p .u8 256 0x10000000000000000000000000000000000000101010101000000000000000000) true true 740),
(A 1006, .map [] 148),
(A 1007, .cells (.cat 5 (.l 5 [.slu (A 1011) 0 128 128, .nil .s, .i 148, .neg .i64 0, .bool false]) (.l 1 [.map (A 1006)])) true false 184),
(A 1011, bb23),
(A 128900, .cells (.p .b 56 5) true false 4),
(A 128903, .map [⟨.i 73, .a (.l 3 [.i 73, .i 9, .str 12 0x65757161706f2e6473620a]), 0⟩, ⟨.i 65, .a (.l 3 [.i 65, .i 6, .str 17 0x101000000020101000000010101]), 1⟩, ⟨.i 74, .a (.l 3 [.i 74, .i 7, .str 3 222721]), 2⟩, ⟨.i 66, .a (.l 3 [.i 66, .i 6, .str 9 0]), 3⟩, ⟨.i 0, .a (.l 3 [.i 0, .i 4, .str 5 0x2030403]), 4⟩] 5),
(A 128904, .cells (.cat 17 (.cat 13 (.cat 9 (.cat 4 (.cat 1 (.l 1 [.ptr (A 1007) 0]) (.l 3 [.i 128, .i 60, .i 10])) (.l 5 [.i 1, .i 61, .i 62, .i 72, .i 56])) (.cat 3 (.l 3 [.i 128, .i 60, .i 10]) (.l 1 [.sl (A 128900) 0 56 56]))) (.cat 3 (.l 3 [.i 128, .i 60, .i 10]) (.l 1 [.slu (A 131130) 0 56 1]))) (.l 4 [.map (A 128903), .bool true, .bool false, .bool false])) true false 135),
(A 131130, .cells (.p .b 56 7) false false 4)],
.t [.c (.slu (A 133166) 0 6 3), .c (.i 0)],
[(A 133166, .cells (.cat 6 (.cat 3 (.l 3 [.i 0, .i 4, .str 5 0x2030403]) (.l 3 [.i 61, .i 5, .str 96 7])) (.cat 3 (.l 3 [.i 65, .i 6, .str 17 0x101000000020101000000010101]) (.cat 3 (.l 3 [.i 66, .i 6, .str 9 0]) (.cat 3 (.l 3 [.i 73, .i 9, .str 12 0x65757161706f2e6473620a]) (.l 3 [.i 74, .i 7, .str 3 222721]))))) false false 190)],
[], A 134258⟩
theorem k133132_91 : KnownOk Tryz.prog 91 e133132_91 := known_tab mixed J [] (knNil) 1000 (by kernel_rfl)
end Go.Proofs.YtnjlcdofdcnecaaGreatDoor
