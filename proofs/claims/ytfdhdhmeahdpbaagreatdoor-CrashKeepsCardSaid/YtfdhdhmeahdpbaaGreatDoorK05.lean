/- Known calls, shown by runs of the evaluator: journal.Commit 2, load.alone 1, convert.room. -/
import Derived.Test.YtfdhdhmeahdpbaaGreatDoorDat
namespace Go.Proofs.YtfdhdhmeahdpbaaGreatDoor
open Go Ev
set_option maxRecDepth 1000000
def e133396_401 : Known := ⟨[.c (.ptr (A 128247) 0), .c (.ptr (A 128248) 0)], A 133396,
[(A 1, .cells (.l 6 [.str 0 0, .str 3 0x726964, .str 4 0x656c6966, .str 4 0x6b6e696c, .str 4 0x72616863, .str 5 0x6574696877]) true true 431),
(A 4, .cells (.p .u8 10 0x7409720d6e0a5c5c2222) true true 579),
(A 5, .cells (.cat 8 (.l 8 [.str 0 0, .str 0 0, .str 0 0, .str 16 0x2e79616c7265766f2e64657473757274, .str 8 0x2e79616c7265766f, .str 21 0x74636572696465722065757161706f206b6e696c6e, .str 19 0x2e736679616c7265766f657375662e72657375, .str 5 0x2e65737566]) (.l 7 [.str 30 0x74756f65746968772074636572696465722065757161706f206b6e696c6e, .str 0 0, .str 0 0, .str 0 0, .str 4 0x2e647362, .str 4 0x2e647362, .str 6 0x65757161706f])) true true 582),
(A 7, .cells (.cat 8 (.l 8 [.nat .u32 0, .nat .u32 0x1db71064, .nat .u32 0x3b6e20c8, .nat .u32 0x26d930ac, .nat .u32 0x76dc4190, .nat .u32 0x6b6b51f4, .nat .u32 0x4db26158, .nat .u32 0x5005713c]) (.l 8 [.nat .u32 0xedb88320, .nat .u32 0xf00f9344, .nat .u32 0xd6d6a3e8, .nat .u32 0xcb61b38c, .nat .u32 0x9b64c2b0, .nat .u32 0x86d3d2d4, .nat .u32 0xa00ae278, .nat .u32 0xbdbdf21c])) true true 758),
(A 9, .cells (.p .u8 256 0x10000000000000000000000000000000000000101010101000000000000000000) true true 769),
(A 114713, .map [] 95),
(A 114714, .cells (.cat 5 (.l 5 [.slu (A 114718) 0 200 128, .nil .s, .i 95, .neg .i64 0, .bool false]) (.l 1 [.map (A 114713)])) true false 126),
(A 114718, bb5),
(A 128247, .cells (.l 1 [.ptr (A 114714) 0]) true false 91),
(A 128248, .cells (.l 2 [.i 1, .i 82]) true false 154)],
.c (.i 0),
[(A 114713, .map [] 99),
(A 114714, .cells (.cat 5 (.l 5 [.slu (A 114718) 0 200 128, .nil .s, .i 99, .neg .i64 0, .bool false]) (.l 1 [.map (A 114713)])) true false 126),
(A 114718, bb6)],
[], A 137600⟩
theorem k133396_401 : KnownOk Tryz.prog 401 e133396_401 := known_tab mixed J [] (knNil) 1000 (by kernel_rfl)

def e139086_248 : Known := ⟨[.c (.ptr (A 138644) 0), .c (.ptr (A 138676) 0)], A 139086,
[(A 1, .cells (.l 6 [.str 0 0, .str 3 0x726964, .str 4 0x656c6966, .str 4 0x6b6e696c, .str 4 0x72616863, .str 5 0x6574696877]) true true 431),
(A 4, .cells (.p .u8 10 0x7409720d6e0a5c5c2222) true true 579),
(A 5, .cells (.cat 8 (.l 8 [.str 0 0, .str 0 0, .str 0 0, .str 16 0x2e79616c7265766f2e64657473757274, .str 8 0x2e79616c7265766f, .str 21 0x74636572696465722065757161706f206b6e696c6e, .str 19 0x2e736679616c7265766f657375662e72657375, .str 5 0x2e65737566]) (.l 7 [.str 30 0x74756f65746968772074636572696465722065757161706f206b6e696c6e, .str 0 0, .str 0 0, .str 0 0, .str 4 0x2e647362, .str 4 0x2e647362, .str 6 0x65757161706f])) true true 582),
(A 7, .cells (.cat 8 (.l 8 [.nat .u32 0, .nat .u32 0x1db71064, .nat .u32 0x3b6e20c8, .nat .u32 0x26d930ac, .nat .u32 0x76dc4190, .nat .u32 0x6b6b51f4, .nat .u32 0x4db26158, .nat .u32 0x5005713c]) (.l 8 [.nat .u32 0xedb88320, .nat .u32 0xf00f9344, .nat .u32 0xd6d6a3e8, .nat .u32 0xcb61b38c, .nat .u32 0x9b64c2b0, .nat .u32 0x86d3d2d4, .nat .u32 0xa00ae278, .nat .u32 0xbdbdf21c])) true true 758),
(A 9, .cells (.p .u8 256 0x10000000000000000000000000000000000000101010101000000000000000000) true true 769),
(A 114713, .map [] 100),
(A 114714, .cells (.cat 5 (.l 5 [.slu (A 114718) 0 200 128, .nil .s, .i 100, .neg .i64 0, .bool false]) (.l 1 [.map (A 114713)])) true false 126),
(A 114718, bb4),
(A 138644, .cells (.l 1 [.i 0]) true false 24),
(A 138671, .cells (.p .b 76 1) true false 4),
(A 138674, .map [⟨.i 124, .a (.l 3 [.i 124, .i 7, .str 6 0x7781026601]), 0⟩, ⟨.i 84, .a (.l 3 [.i 84, .i 6, .str 13 0x101000000020101]), 1⟩] 2),
(A 138675, .cells (.cat 17 (.cat 13 (.cat 9 (.cat 4 (.cat 1 (.l 1 [.ptr (A 114714) 0]) (.l 3 [.i 200, .i 82, .i 40])) (.l 5 [.i 1, .i 83, .i 84, .i 124, .i 76])) (.cat 3 (.l 3 [.i 200, .i 82, .i 40]) (.l 1 [.sl (A 138671) 0 76 76]))) (.cat 3 (.l 3 [.i 200, .i 82, .i 40]) (.l 1 [.sl (A 138671) 0 76 76]))) (.l 4 [.map (A 138674), .bool false, .bool false, .bool false])) true false 177),
(A 138676, .cells (.l 1 [.ptr (A 138675) 0]) true false 105)],
.t [],
[(A 114713, .map [] 106),
(A 114714, .cells (.cat 5 (.l 5 [.slu (A 114718) 0 200 128, .nil .s, .i 106, .neg .i64 0, .bool false]) (.l 1 [.map (A 114713)])) true false 126),
(A 114718, bb1),
(A 138675, .cells (.cat 17 (.cat 13 (.cat 9 (.cat 4 (.cat 1 (.l 1 [.ptr (A 114714) 0]) (.l 3 [.i 200, .i 82, .i 40])) (.l 5 [.i 1, .i 83, .i 84, .i 124, .i 76])) (.cat 3 (.l 3 [.i 200, .i 82, .i 40]) (.l 1 [.sl (A 138671) 0 76 76]))) (.cat 3 (.l 3 [.i 200, .i 82, .i 40]) (.l 1 [.sl (A 138671) 0 76 76]))) (.l 4 [.map (A 138674), .bool false, .bool false, .bool true])) true false 177)],
[], A 146374⟩
theorem k139086_248 : KnownOk Tryz.prog 248 e139086_248 := known_tab mixed J [] (knNil) 1000 (by kernel_rfl)

def e152992_358 : Known := ⟨[.c (.ptr (A 151721) 0), .c (.i 4), .c (.i 1), .c (.slu (A 152805) 0 3 10)], A 152992,
[(A 1, .cells (.l 6 [.str 0 0, .str 3 0x726964, .str 4 0x656c6966, .str 4 0x6b6e696c, .str 4 0x72616863, .str 5 0x6574696877]) true true 431),
(A 4, .cells (.p .u8 10 0x7409720d6e0a5c5c2222) true true 579),
(A 5, .cells (.cat 8 (.l 8 [.str 0 0, .str 0 0, .str 0 0, .str 16 0x2e79616c7265766f2e64657473757274, .str 8 0x2e79616c7265766f, .str 21 0x74636572696465722065757161706f206b6e696c6e, .str 19 0x2e736679616c7265766f657375662e72657375, .str 5 0x2e65737566]) (.l 7 [.str 30 0x74756f65746968772074636572696465722065757161706f206b6e696c6e, .str 0 0, .str 0 0, .str 0 0, .str 4 0x2e647362, .str 4 0x2e647362, .str 6 0x65757161706f])) true true 582),
(A 7, .cells (.cat 8 (.l 8 [.nat .u32 0, .nat .u32 0x1db71064, .nat .u32 0x3b6e20c8, .nat .u32 0x26d930ac, .nat .u32 0x76dc4190, .nat .u32 0x6b6b51f4, .nat .u32 0x4db26158, .nat .u32 0x5005713c]) (.l 8 [.nat .u32 0xedb88320, .nat .u32 0xf00f9344, .nat .u32 0xd6d6a3e8, .nat .u32 0xcb61b38c, .nat .u32 0x9b64c2b0, .nat .u32 0x86d3d2d4, .nat .u32 0xa00ae278, .nat .u32 0xbdbdf21c])) true true 758),
(A 9, .cells (.p .u8 256 0x10000000000000000000000000000000000000101010101000000000000000000) true true 769),
(A 114713, .map [] 110),
(A 114714, .cells (.cat 5 (.l 5 [.slu (A 114718) 0 200 128, .nil .s, .i 110, .neg .i64 0, .bool false]) (.l 1 [.map (A 114713)])) true false 126),
(A 114718, bb0),
(A 151717, .cells (.p .b 76 1) true false 4),
(A 151720, .map [] 0),
(A 151721, .cells (.cat 17 (.cat 13 (.cat 9 (.cat 4 (.cat 1 (.l 1 [.ptr (A 114714) 0]) (.l 3 [.i 200, .i 82, .i 40])) (.l 5 [.i 1, .i 83, .i 84, .i 124, .i 76])) (.cat 3 (.l 3 [.i 200, .i 82, .i 40]) (.l 1 [.sl (A 151717) 0 76 76]))) (.cat 3 (.l 3 [.i 200, .i 82, .i 40]) (.l 1 [.sl (A 151717) 0 76 76]))) (.l 4 [.map (A 151720), .bool false, .bool false, .bool false])) true false 177),
(A 152805, .cells (.cat 20 (.cat 10 (.cat 9 (.cat 8 (.l 8 [.i 0, .str 0 0, .i 1, .nil .s, .str 0 0, .i 0, .i 0, .i 0]) (.l 1 [.bool false])) (.l 1 [.nil .s])) (.cat 9 (.cat 8 (.l 8 [.i 1, .str 1 102, .i 2, .nil .s, .str 0 0, .i 0, .i 0, .i 0]) (.l 1 [.bool false])) (.l 1 [.nil .s]))) (.cat 9 (.cat 8 (.l 8 [.i 1, .str 1 119, .i 5, .nil .s, .str 0 0, .i 0, .i 0, .i 0]) (.l 1 [.bool false])) (.l 1 [.nil .s]))) false false 70)],
.c (.i 0),
[],
[], A 154771⟩
theorem k152992_358 : KnownOk Tryz.prog 358 e152992_358 := known_tab mixed J [] (knNil) 1000 (by kernel_rfl)
end Go.Proofs.YtfdhdhmeahdpbaaGreatDoor
