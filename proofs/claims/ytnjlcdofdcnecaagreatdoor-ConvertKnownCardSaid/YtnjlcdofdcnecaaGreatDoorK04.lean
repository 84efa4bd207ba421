/- Known calls, shown by runs of the evaluator: txn.Tx .Records, journal.Commit 2, convert.Step 1. -/
import Derived.Test.YtnjlcdofdcnecaaGreatDoorDat
namespace Go.Proofs.YtnjlcdofdcnecaaGreatDoor
open Go Ev
set_option maxRecDepth 1000000
def e105523_91 : Known := ⟨[.c (.ptr (A 102469) 0)], A 105523,
[(A 3, .cells (.cat 8 (.l 8 [.str 0 0, .str 0 0, .str 0 0, .str 16 0x2e79616c7265766f2e64657473757274, .str 8 0x2e79616c7265766f, .str 21 0x74636572696465722065757161706f206b6e696c6e, .str 19 0x2e736679616c7265766f657375662e72657375, .str 5 0x2e65737566]) (.l 7 [.str 30 0x74756f65746968772074636572696465722065757161706f206b6e696c6e, .str 0 0, .str 0 0, .str 0 0, .str 4 0x2e647362, .str 4 0x2e647362, .str 6 0x65757161706f])) true true 625),
(A 5, .cells (.cat 8 (.l 8 [.nat .u32 0, .nat .u32 0x1db71064, .nat .u32 0x3b6e20c8, .nat .u32 0x26d930ac, .nat .u32 0x76dc4190, .nat .u32 0x6b6b51f4, .nat .u32 0x4db26158, .nat .u32 0x5005713c]) (.l 8 [.nat .u32 0xedb88320, .nat .u32 0xf00f9344, .nat .u32 0xd6d6a3e8, .nat .u32 0xcb61b38c, .nat .u32 0x9b64c2b0, .nat .u32 0x86d3d2d4, .nat .u32 0xa00ae278, .nat .u32 0xbdbdf21c])) true true 684),
(A 6, .cells (.p .u8 256 0x10000000000000000000000000000000000000101010101000000000000000000) true true 740),
(A 1006, .map [] 130),
(A 1007, .cells (.cat 5 (.l 5 [.slu (A 1011) 0 128 128, .nil .s, .i 130, .neg .i64 0, .bool false]) (.l 1 [.map (A 1006)])) true false 184),
(A 1011, bb19),
(A 102465, .cells (.p .b 56 7) true false 4),
(A 102468, .map [⟨.i 63, .a (.l 3 [.i 63, .i 6, .str 9 0]), 0⟩, ⟨.i 64, .a (.l 3 [.i 64, .i 6, .str 9 514]), 1⟩, ⟨.i 72, .a (.l 3 [.i 72, .i 7, .str 6 0x36701046101]), 2⟩, ⟨.i 62, .a (.l 3 [.i 62, .i 6, .str 13 0x101000000020101]), 3⟩, ⟨.i 0, .a (.l 3 [.i 0, .i 4, .str 5 0x2010403]), 4⟩] 5),
(A 102469, .cells (.cat 17 (.cat 13 (.cat 9 (.cat 4 (.cat 1 (.l 1 [.ptr (A 1007) 0]) (.l 3 [.i 128, .i 60, .i 10])) (.l 5 [.i 1, .i 61, .i 62, .i 72, .i 56])) (.cat 3 (.l 3 [.i 128, .i 60, .i 10]) (.l 1 [.sl (A 102465) 0 56 56]))) (.cat 3 (.l 3 [.i 128, .i 60, .i 10]) (.l 1 [.slu (A 103441) 0 56 1]))) (.l 4 [.map (A 102468), .bool true, .bool false, .bool false])) true false 135),
(A 103441, .cells (.p .b 56 5) false false 4)],
.t [.c (.slu (A 105557) 0 6 3), .c (.i 0)],
[(A 105557, .cells (.cat 6 (.cat 3 (.l 3 [.i 0, .i 4, .str 5 0x2010403]) (.l 3 [.i 61, .i 5, .str 96 5])) (.cat 3 (.l 3 [.i 62, .i 6, .str 13 0x101000000020101]) (.cat 3 (.l 3 [.i 63, .i 6, .str 9 0]) (.cat 3 (.l 3 [.i 64, .i 6, .str 9 514]) (.l 3 [.i 72, .i 7, .str 6 0x36701046101]))))) false false 190)],
[], A 106649⟩
theorem k105523_91 : KnownOk Tryz.prog 91 e105523_91 := known_tab mixed J [] (knNil) 1000 (by kernel_rfl)

def e113849_344 : Known := ⟨[.c (.ptr (A 106650) 0), .c (.ptr (A 106651) 0)], A 113849,
[(A 3, .cells (.cat 8 (.l 8 [.str 0 0, .str 0 0, .str 0 0, .str 16 0x2e79616c7265766f2e64657473757274, .str 8 0x2e79616c7265766f, .str 21 0x74636572696465722065757161706f206b6e696c6e, .str 19 0x2e736679616c7265766f657375662e72657375, .str 5 0x2e65737566]) (.l 7 [.str 30 0x74756f65746968772074636572696465722065757161706f206b6e696c6e, .str 0 0, .str 0 0, .str 0 0, .str 4 0x2e647362, .str 4 0x2e647362, .str 6 0x65757161706f])) true true 625),
(A 5, .cells (.cat 8 (.l 8 [.nat .u32 0, .nat .u32 0x1db71064, .nat .u32 0x3b6e20c8, .nat .u32 0x26d930ac, .nat .u32 0x76dc4190, .nat .u32 0x6b6b51f4, .nat .u32 0x4db26158, .nat .u32 0x5005713c]) (.l 8 [.nat .u32 0xedb88320, .nat .u32 0xf00f9344, .nat .u32 0xd6d6a3e8, .nat .u32 0xcb61b38c, .nat .u32 0x9b64c2b0, .nat .u32 0x86d3d2d4, .nat .u32 0xa00ae278, .nat .u32 0xbdbdf21c])) true true 684),
(A 6, .cells (.p .u8 256 0x10000000000000000000000000000000000000101010101000000000000000000) true true 740),
(A 1006, .map [] 137),
(A 1007, .cells (.cat 5 (.l 5 [.slu (A 1011) 0 128 128, .nil .s, .i 137, .neg .i64 0, .bool false]) (.l 1 [.map (A 1006)])) true false 184),
(A 1011, bb21),
(A 106650, .cells (.l 1 [.ptr (A 1007) 0]) true false 54),
(A 106651, .cells (.l 2 [.i 1, .i 60]) true false 268)],
.c (.i 0),
[(A 1006, .map [] 143),
(A 1007, .cells (.cat 5 (.l 5 [.slu (A 1011) 0 128 128, .nil .s, .i 143, .neg .i64 0, .bool false]) (.l 1 [.map (A 1006)])) true false 184),
(A 1011, bb22)],
[], A 120137⟩
theorem k113849_344 : KnownOk Tryz.prog 344 e113849_344 := known_tab mixed J [] (knNil) 1000 (by kernel_rfl)

def e121216_34 : Known := ⟨[.c (.ptr (A 121214) 0), .c (.ptr (A 121176) 0), .c (.ptr (A 121181) 0), .c (.ptr (A 121180) 0)], A 121216,
[(A 3, .cells (.cat 8 (.l 8 [.str 0 0, .str 0 0, .str 0 0, .str 16 0x2e79616c7265766f2e64657473757274, .str 8 0x2e79616c7265766f, .str 21 0x74636572696465722065757161706f206b6e696c6e, .str 19 0x2e736679616c7265766f657375662e72657375, .str 5 0x2e65737566]) (.l 7 [.str 30 0x74756f65746968772074636572696465722065757161706f206b6e696c6e, .str 0 0, .str 0 0, .str 0 0, .str 4 0x2e647362, .str 4 0x2e647362, .str 6 0x65757161706f])) true true 625),
(A 5, .cells (.cat 8 (.l 8 [.nat .u32 0, .nat .u32 0x1db71064, .nat .u32 0x3b6e20c8, .nat .u32 0x26d930ac, .nat .u32 0x76dc4190, .nat .u32 0x6b6b51f4, .nat .u32 0x4db26158, .nat .u32 0x5005713c]) (.l 8 [.nat .u32 0xedb88320, .nat .u32 0xf00f9344, .nat .u32 0xd6d6a3e8, .nat .u32 0xcb61b38c, .nat .u32 0x9b64c2b0, .nat .u32 0x86d3d2d4, .nat .u32 0xa00ae278, .nat .u32 0xbdbdf21c])) true true 684),
(A 6, .cells (.p .u8 256 0x10000000000000000000000000000000000000101010101000000000000000000) true true 740),
(A 1006, .map [] 144),
(A 1007, .cells (.cat 5 (.l 5 [.slu (A 1011) 0 128 128, .nil .s, .i 144, .neg .i64 0, .bool false]) (.l 1 [.map (A 1006)])) true false 184),
(A 1011, bb20),
(A 121176, .cells (.l 1 [.ptr (A 1007) 0]) true false 54),
(A 121179, .cells (.cat 6 (.l 6 [.nil .p, .i 0, .i 0, .i 0, .i 0, .bool false]) (.l 8 [.i 0, .i 0, .i 0, .i 0, .i 0, .i 0, .i 0, .i 0])) true false 84),
(A 121180, .cells (.l 1 [.ptr (A 121179) 0]) true false 82),
(A 121181, .cells (.l 1 [.i 0]) true false 2),
(A 121210, .cells (.p .b 56 5) true false 4),
(A 121213, .map [] 0),
(A 121214, .cells (.cat 17 (.cat 13 (.cat 9 (.cat 4 (.cat 1 (.l 1 [.ptr (A 1007) 0]) (.l 3 [.i 128, .i 60, .i 10])) (.l 5 [.i 1, .i 61, .i 62, .i 72, .i 56])) (.cat 3 (.l 3 [.i 128, .i 60, .i 10]) (.l 1 [.sl (A 121210) 0 56 56]))) (.cat 3 (.l 3 [.i 128, .i 60, .i 10]) (.l 1 [.sl (A 121210) 0 56 56]))) (.l 4 [.map (A 121213), .bool false, .bool false, .bool false])) true false 135)],
.c (.i 0),
[(A 121179, .cells (.cat 6 (.cat 1 (.l 1 [.ptr (A 121214) 0]) (.l 5 [.i 3, .i 4, .i 1, .i 2, .bool false])) (.l 8 [.i 0, .i 2, .i 1, .i 0, .i 0, .i 0, .i 0, .i 0])) true false 84),
(A 121181, .cells (.l 1 [.i 144]) true false 2),
(A 121213, .map [⟨.i 0, .a (.l 3 [.i 0, .i 4, .str 5 0x2020403]), 0⟩] 1)],
[], A 123656⟩
theorem k121216_34 : KnownOk Tryz.prog 34 e121216_34 := known_tab mixed J [] (knNil) 1000 (by kernel_rfl)
end Go.Proofs.YtnjlcdofdcnecaaGreatDoor
