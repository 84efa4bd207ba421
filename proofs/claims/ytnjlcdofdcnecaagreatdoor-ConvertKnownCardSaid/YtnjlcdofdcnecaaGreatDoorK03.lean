/- Known calls, shown by runs of the evaluator: dialect.Decode, plan.All, txn.Tx .Records. -/
import Derived.Test.YtnjlcdofdcnecaaGreatDoorDat
namespace Go.Proofs.YtnjlcdofdcnecaaGreatDoor
open Go Ev
set_option maxRecDepth 1000000
def e89715_29 : Known := ⟨[.c (.i 3), .c (.slu (A 89691) 0 7 8)], A 89715,
[(A 3, .cells (.cat 8 (.l 8 [.str 0 0, .str 0 0, .str 0 0, .str 16 0x2e79616c7265766f2e64657473757274, .str 8 0x2e79616c7265766f, .str 21 0x74636572696465722065757161706f206b6e696c6e, .str 19 0x2e736679616c7265766f657375662e72657375, .str 5 0x2e65737566]) (.l 7 [.str 30 0x74756f65746968772074636572696465722065757161706f206b6e696c6e, .str 0 0, .str 0 0, .str 0 0, .str 4 0x2e647362, .str 4 0x2e647362, .str 6 0x65757161706f])) true true 625),
(A 5, .cells (.cat 8 (.l 8 [.nat .u32 0, .nat .u32 0x1db71064, .nat .u32 0x3b6e20c8, .nat .u32 0x26d930ac, .nat .u32 0x76dc4190, .nat .u32 0x6b6b51f4, .nat .u32 0x4db26158, .nat .u32 0x5005713c]) (.l 8 [.nat .u32 0xedb88320, .nat .u32 0xf00f9344, .nat .u32 0xd6d6a3e8, .nat .u32 0xcb61b38c, .nat .u32 0x9b64c2b0, .nat .u32 0x86d3d2d4, .nat .u32 0xa00ae278, .nat .u32 0xbdbdf21c])) true true 684),
(A 6, .cells (.p .u8 256 0x10000000000000000000000000000000000000101010101000000000000000000) true true 740),
(A 89691, .cells (.cat 48 (.cat 40 (.cat 32 (.cat 24 (.cat 16 (.cat 8 (.l 8 [.i 0, .str 0 0, .i 1, .nil .s, .str 0 0, .i 0, .i 0, .i 0]) (.l 8 [.i 1, .str 12 0x6b6e6c702e68772e2e68772e, .i 1, .nil .s, .str 0 0, .i 0, .i 0, .i 0])) (.l 8 [.i 2, .str 2 12592, .i 2, .nil .s, .str 0 0, .i 0, .i 0, .i 1])) (.l 8 [.i 1, .str 1 97, .i 1, .nil .s, .str 0 0, .i 0, .i 0, .i 0])) (.l 8 [.i 2, .str 11 0x71706f2e68772e2e68772e, .i 2, .nil .s, .str 0 0, .i 0, .i 0, .i 0])) (.l 8 [.i 2, .str 1 102, .i 2, .nil .s, .str 0 0, .i 0, .i 0, .i 1])) (.l 8 [.i 1, .str 1 103, .i 2, .nil .s, .str 0 0, .i 0, .i 0, .i 1])) false false 114)],
.t [.c (.slu (A 90966) 0 4 10), .c (.i 0), .c (.i 0)],
[(A 90966, .cells (.cat 30 (.cat 20 (.cat 10 (.cat 9 (.cat 8 (.l 8 [.i 0, .str 0 0, .i 1, .nil .s, .str 0 0, .i 0, .i 0, .i 0]) (.l 1 [.bool false])) (.l 1 [.nil .s])) (.cat 9 (.cat 8 (.l 8 [.i 1, .str 1 97, .i 1, .nil .s, .str 0 0, .i 0, .i 0, .i 0]) (.l 1 [.bool true])) (.l 1 [.nil .s]))) (.cat 9 (.cat 8 (.l 8 [.i 2, .str 1 102, .i 2, .nil .s, .str 0 0, .i 0, .i 0, .i 1]) (.l 1 [.bool false])) (.l 1 [.nil .s]))) (.cat 9 (.cat 8 (.l 8 [.i 1, .str 1 103, .i 2, .nil .s, .str 0 0, .i 0, .i 0, .i 1]) (.l 1 [.bool false])) (.l 1 [.nil .s]))) false false 73)],
[], A 92222⟩
theorem k89715_29 : KnownOk Tryz.prog 29 e89715_29 := known_tab mixed J [] (knNil) 1000 (by kernel_rfl)

def e92360_80 : Known := ⟨[.c (.i 3), .c (.i 4), .c (.slu (A 90966) 0 4 10)], A 92360,
[(A 3, .cells (.cat 8 (.l 8 [.str 0 0, .str 0 0, .str 0 0, .str 16 0x2e79616c7265766f2e64657473757274, .str 8 0x2e79616c7265766f, .str 21 0x74636572696465722065757161706f206b6e696c6e, .str 19 0x2e736679616c7265766f657375662e72657375, .str 5 0x2e65737566]) (.l 7 [.str 30 0x74756f65746968772074636572696465722065757161706f206b6e696c6e, .str 0 0, .str 0 0, .str 0 0, .str 4 0x2e647362, .str 4 0x2e647362, .str 6 0x65757161706f])) true true 625),
(A 5, .cells (.cat 8 (.l 8 [.nat .u32 0, .nat .u32 0x1db71064, .nat .u32 0x3b6e20c8, .nat .u32 0x26d930ac, .nat .u32 0x76dc4190, .nat .u32 0x6b6b51f4, .nat .u32 0x4db26158, .nat .u32 0x5005713c]) (.l 8 [.nat .u32 0xedb88320, .nat .u32 0xf00f9344, .nat .u32 0xd6d6a3e8, .nat .u32 0xcb61b38c, .nat .u32 0x9b64c2b0, .nat .u32 0x86d3d2d4, .nat .u32 0xa00ae278, .nat .u32 0xbdbdf21c])) true true 684),
(A 6, .cells (.p .u8 256 0x10000000000000000000000000000000000000101010101000000000000000000) true true 740),
(A 90966, .cells (.cat 30 (.cat 20 (.cat 10 (.cat 9 (.cat 8 (.l 8 [.i 0, .str 0 0, .i 1, .nil .s, .str 0 0, .i 0, .i 0, .i 0]) (.l 1 [.bool false])) (.l 1 [.nil .s])) (.cat 9 (.cat 8 (.l 8 [.i 1, .str 1 97, .i 1, .nil .s, .str 0 0, .i 0, .i 0, .i 0]) (.l 1 [.bool true])) (.l 1 [.nil .s]))) (.cat 9 (.cat 8 (.l 8 [.i 2, .str 1 102, .i 2, .nil .s, .str 0 0, .i 0, .i 0, .i 1]) (.l 1 [.bool false])) (.l 1 [.nil .s]))) (.cat 9 (.cat 8 (.l 8 [.i 1, .str 1 103, .i 2, .nil .s, .str 0 0, .i 0, .i 0, .i 1]) (.l 1 [.bool false])) (.l 1 [.nil .s]))) false false 73)],
.t [.c (.slu (A 94700) 0 2 1), .c (.i 0), .c (.i 0)],
[(A 94595, .cells (.l 2 [.str 10 0x65757161706f2e647362, .str 0 0]) false false 161),
(A 94698, .cells (.cat 12 (.cat 8 (.l 8 [.i 1, .str 0 0, .str 0 0, .i 0, .str 0 0, .i 0, .nil .s, .str 0 0]) (.l 4 [.i 0, .i 0, .i 0, .slu (A 94595) 0 1 2])) (.cat 8 (.l 8 [.i 2, .str 11 0x71706f2e68772e2e68772e, .str 0 0, .i 0, .str 0 0, .i 0, .nil .s, .str 0 0]) (.l 4 [.i 0, .i 0, .i 0, .nil .s]))) false false 289),
(A 94700, .cells (.cat 1 (.l 1 [.nil .s]) (.l 1 [.slu (A 94698) 0 2 12])) false false 274)],
[], A 94701⟩
theorem k92360_80 : KnownOk Tryz.prog 80 e92360_80 := known_tab mixed J [] (knNil) 1000 (by kernel_rfl)

def e104387_91 : Known := ⟨[.c (.ptr (A 102469) 0)], A 104387,
[(A 3, .cells (.cat 8 (.l 8 [.str 0 0, .str 0 0, .str 0 0, .str 16 0x2e79616c7265766f2e64657473757274, .str 8 0x2e79616c7265766f, .str 21 0x74636572696465722065757161706f206b6e696c6e, .str 19 0x2e736679616c7265766f657375662e72657375, .str 5 0x2e65737566]) (.l 7 [.str 30 0x74756f65746968772074636572696465722065757161706f206b6e696c6e, .str 0 0, .str 0 0, .str 0 0, .str 4 0x2e647362, .str 4 0x2e647362, .str 6 0x65757161706f])) true true 625),
(A 5, .cells (.cat 8 (.l 8 [.nat .u32 0, .nat .u32 0x1db71064, .nat .u32 0x3b6e20c8, .nat .u32 0x26d930ac, .nat .u32 0x76dc4190, .nat .u32 0x6b6b51f4, .nat .u32 0x4db26158, .nat .u32 0x5005713c]) (.l 8 [.nat .u32 0xedb88320, .nat .u32 0xf00f9344, .nat .u32 0xd6d6a3e8, .nat .u32 0xcb61b38c, .nat .u32 0x9b64c2b0, .nat .u32 0x86d3d2d4, .nat .u32 0xa00ae278, .nat .u32 0xbdbdf21c])) true true 684),
(A 6, .cells (.p .u8 256 0x10000000000000000000000000000000000000101010101000000000000000000) true true 740),
(A 1006, .map [] 130),
(A 1007, .cells (.cat 5 (.l 5 [.slu (A 1011) 0 128 128, .nil .s, .i 130, .neg .i64 0, .bool false]) (.l 1 [.map (A 1006)])) true false 184),
(A 1011, bb19),
(A 102465, .cells (.p .b 56 7) true false 4),
(A 102468, .map [⟨.i 63, .a (.l 3 [.i 63, .i 6, .str 9 0]), 0⟩, ⟨.i 64, .a (.l 3 [.i 64, .i 6, .str 9 514]), 1⟩, ⟨.i 72, .a (.l 3 [.i 72, .i 7, .str 6 0x36701046101]), 2⟩, ⟨.i 62, .a (.l 3 [.i 62, .i 6, .str 13 0x101000000020101]), 3⟩, ⟨.i 0, .a (.l 3 [.i 0, .i 4, .str 5 0x2010403]), 4⟩] 5),
(A 102469, .cells (.cat 17 (.cat 13 (.cat 9 (.cat 4 (.cat 1 (.l 1 [.ptr (A 1007) 0]) (.l 3 [.i 128, .i 60, .i 10])) (.l 5 [.i 1, .i 61, .i 62, .i 72, .i 56])) (.cat 3 (.l 3 [.i 128, .i 60, .i 10]) (.l 1 [.sl (A 102465) 0 56 56]))) (.cat 3 (.l 3 [.i 128, .i 60, .i 10]) (.l 1 [.slu (A 103441) 0 56 1]))) (.l 4 [.map (A 102468), .bool true, .bool false, .bool false])) true false 135),
(A 103441, .cells (.p .b 56 5) false false 4)],
.t [.c (.slu (A 104421) 0 6 3), .c (.i 0)],
[(A 104421, .cells (.cat 6 (.cat 3 (.l 3 [.i 0, .i 4, .str 5 0x2010403]) (.l 3 [.i 61, .i 5, .str 96 5])) (.cat 3 (.l 3 [.i 62, .i 6, .str 13 0x101000000020101]) (.cat 3 (.l 3 [.i 63, .i 6, .str 9 0]) (.cat 3 (.l 3 [.i 64, .i 6, .str 9 514]) (.l 3 [.i 72, .i 7, .str 6 0x36701046101]))))) false false 190)],
[], A 105513⟩
theorem k104387_91 : KnownOk Tryz.prog 91 e104387_91 := known_tab mixed J [] (knNil) 1000 (by kernel_rfl)
end Go.Proofs.YtnjlcdofdcnecaaGreatDoor
