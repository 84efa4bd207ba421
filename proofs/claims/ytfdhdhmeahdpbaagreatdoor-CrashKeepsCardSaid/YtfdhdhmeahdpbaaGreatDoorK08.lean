/- Known calls, shown by runs of the evaluator: crash.world .whole, recover.work .faults, recover.work .branch. -/
import Derived.Test.YtfdhdhmeahdpbaaGreatDoorDat
namespace Go.Proofs.YtfdhdhmeahdpbaaGreatDoor
open Go Ev
set_option maxRecDepth 1000000
def e212167_36 : Known := ⟨[.c (.ptr (A 212166) 0), .c (.bool false)], A 212167,
[(A 1, .cells (.l 6 [.str 0 0, .str 3 0x726964, .str 4 0x656c6966, .str 4 0x6b6e696c, .str 4 0x72616863, .str 5 0x6574696877]) true true 431),
(A 4, .cells (.p .u8 10 0x7409720d6e0a5c5c2222) true true 579),
(A 5, .cells (.cat 8 (.l 8 [.str 0 0, .str 0 0, .str 0 0, .str 16 0x2e79616c7265766f2e64657473757274, .str 8 0x2e79616c7265766f, .str 21 0x74636572696465722065757161706f206b6e696c6e, .str 19 0x2e736679616c7265766f657375662e72657375, .str 5 0x2e65737566]) (.l 7 [.str 30 0x74756f65746968772074636572696465722065757161706f206b6e696c6e, .str 0 0, .str 0 0, .str 0 0, .str 4 0x2e647362, .str 4 0x2e647362, .str 6 0x65757161706f])) true true 582),
(A 7, .cells (.cat 8 (.l 8 [.nat .u32 0, .nat .u32 0x1db71064, .nat .u32 0x3b6e20c8, .nat .u32 0x26d930ac, .nat .u32 0x76dc4190, .nat .u32 0x6b6b51f4, .nat .u32 0x4db26158, .nat .u32 0x5005713c]) (.l 8 [.nat .u32 0xedb88320, .nat .u32 0xf00f9344, .nat .u32 0xd6d6a3e8, .nat .u32 0xcb61b38c, .nat .u32 0x9b64c2b0, .nat .u32 0x86d3d2d4, .nat .u32 0xa00ae278, .nat .u32 0xbdbdf21c])) true true 758),
(A 9, .cells (.p .u8 256 0x10000000000000000000000000000000000000101010101000000000000000000) true true 769),
(A 166538, .cells (.cat 20 (.cat 10 (.cat 9 (.cat 8 (.l 8 [.i 0, .str 0 0, .i 1, .nil .s, .str 0 0, .i 0, .i 0, .i 0]) (.l 1 [.bool false])) (.l 1 [.nil .s])) (.cat 9 (.cat 8 (.l 8 [.i 1, .str 1 102, .i 2, .nil .s, .str 0 0, .i 0, .i 0, .i 0]) (.l 1 [.bool false])) (.l 1 [.nil .s]))) (.cat 9 (.cat 8 (.l 8 [.i 1, .str 1 119, .i 5, .nil .s, .str 0 0, .i 0, .i 0, .i 0]) (.l 1 [.bool false])) (.l 1 [.nil .s]))) true false 70),
(A 166539, .cells (.cat 4 (.l 4 [.i 1, .i 1, .neg .i64 0, .nil .s]) (.l 4 [.i 2, .i 0, .neg .i64 0, .nil .s])) true false 40),
(A 212160, .map [] 0),
(A 212161, .cells (.cat 5 (.l 5 [.slu (A 212165) 0 200 128, .nil .s, .i 114, .neg .i64 0, .bool false]) (.l 1 [.map (A 212160)])) true false 126),
(A 212165, bb7),
(A 212166, .cells (.cat 6 (.cat 3 (.l 3 [.i 200, .i 82, .i 40]) (.l 3 [.i 4, .sl (A 166538) 0 3 3, .sl (A 166539) 0 2 2])) (.l 1 [.ptr (A 212161) 0])) true false 93)],
.c (.i 4),
[(A 212160, .map [] 4),
(A 212161, .cells (.cat 5 (.l 5 [.slu (A 212165) 0 200 128, .nil .s, .i 118, .neg .i64 0, .bool false]) (.l 1 [.map (A 212160)])) true false 126),
(A 212165, bb10)],
[], A 218579⟩
theorem k212167_36 : KnownOk Tryz.prog 36 e212167_36 := known_tab mixed J [] (knNil) 1000 (by kernel_rfl)

def e222918_143 : Known := ⟨[.c (.ptr (A 221887) 0)], A 222918,
[(A 1, .cells (.l 6 [.str 0 0, .str 3 0x726964, .str 4 0x656c6966, .str 4 0x6b6e696c, .str 4 0x72616863, .str 5 0x6574696877]) true true 431),
(A 4, .cells (.p .u8 10 0x7409720d6e0a5c5c2222) true true 579),
(A 5, .cells (.cat 8 (.l 8 [.str 0 0, .str 0 0, .str 0 0, .str 16 0x2e79616c7265766f2e64657473757274, .str 8 0x2e79616c7265766f, .str 21 0x74636572696465722065757161706f206b6e696c6e, .str 19 0x2e736679616c7265766f657375662e72657375, .str 5 0x2e65737566]) (.l 7 [.str 30 0x74756f65746968772074636572696465722065757161706f206b6e696c6e, .str 0 0, .str 0 0, .str 0 0, .str 4 0x2e647362, .str 4 0x2e647362, .str 6 0x65757161706f])) true true 582),
(A 7, .cells (.cat 8 (.l 8 [.nat .u32 0, .nat .u32 0x1db71064, .nat .u32 0x3b6e20c8, .nat .u32 0x26d930ac, .nat .u32 0x76dc4190, .nat .u32 0x6b6b51f4, .nat .u32 0x4db26158, .nat .u32 0x5005713c]) (.l 8 [.nat .u32 0xedb88320, .nat .u32 0xf00f9344, .nat .u32 0xd6d6a3e8, .nat .u32 0xcb61b38c, .nat .u32 0x9b64c2b0, .nat .u32 0x86d3d2d4, .nat .u32 0xa00ae278, .nat .u32 0xbdbdf21c])) true true 758),
(A 9, .cells (.p .u8 256 0x10000000000000000000000000000000000000101010101000000000000000000) true true 769),
(A 221875, .map [] 0),
(A 221876, .cells (.cat 5 (.l 5 [.slu (A 221880) 0 200 128, .nil .s, .i 114, .neg .i64 0, .bool false]) (.l 1 [.map (A 221875)])) true false 126),
(A 221880, bb7),
(A 221887, .cells (.cat 13 (.cat 8 (.cat 6 (.cat 4 (.cat 1 (.l 1 [.ptr (A 221876) 0]) (.l 3 [.i 200, .i 82, .i 40])) (.l 2 [.i 1, .i 82])) (.l 2 [.ptr (A 222855) 0, .i 0])) (.l 5 [.i 4, .i 1, .i 0, .i 1, .bool false])) (.l 2 [.i 0, .i 0])) true false 156),
(A 222851, .cells (.p .b 76 1) true false 4),
(A 222854, .map [] 0),
(A 222855, .cells (.cat 17 (.cat 13 (.cat 9 (.cat 4 (.cat 1 (.l 1 [.ptr (A 221876) 0]) (.l 3 [.i 200, .i 82, .i 40])) (.l 5 [.i 1, .i 83, .i 84, .i 124, .i 76])) (.cat 3 (.l 3 [.i 200, .i 82, .i 40]) (.l 1 [.sl (A 222851) 0 76 76]))) (.cat 3 (.l 3 [.i 200, .i 82, .i 40]) (.l 1 [.sl (A 222851) 0 76 76]))) (.l 4 [.map (A 222854), .bool false, .bool false, .bool false])) true false 177)],
.c (.i 0),
[],
[], A 224298⟩
theorem k222918_143 : KnownOk Tryz.prog 143 e222918_143 := known_tab mixed J [] (knNil) 1000 (by kernel_rfl)

def e224298_144 : Known := ⟨[.c (.ptr (A 221887) 0)], A 224298,
[(A 1, .cells (.l 6 [.str 0 0, .str 3 0x726964, .str 4 0x656c6966, .str 4 0x6b6e696c, .str 4 0x72616863, .str 5 0x6574696877]) true true 431),
(A 4, .cells (.p .u8 10 0x7409720d6e0a5c5c2222) true true 579),
(A 5, .cells (.cat 8 (.l 8 [.str 0 0, .str 0 0, .str 0 0, .str 16 0x2e79616c7265766f2e64657473757274, .str 8 0x2e79616c7265766f, .str 21 0x74636572696465722065757161706f206b6e696c6e, .str 19 0x2e736679616c7265766f657375662e72657375, .str 5 0x2e65737566]) (.l 7 [.str 30 0x74756f65746968772074636572696465722065757161706f206b6e696c6e, .str 0 0, .str 0 0, .str 0 0, .str 4 0x2e647362, .str 4 0x2e647362, .str 6 0x65757161706f])) true true 582),
(A 7, .cells (.cat 8 (.l 8 [.nat .u32 0, .nat .u32 0x1db71064, .nat .u32 0x3b6e20c8, .nat .u32 0x26d930ac, .nat .u32 0x76dc4190, .nat .u32 0x6b6b51f4, .nat .u32 0x4db26158, .nat .u32 0x5005713c]) (.l 8 [.nat .u32 0xedb88320, .nat .u32 0xf00f9344, .nat .u32 0xd6d6a3e8, .nat .u32 0xcb61b38c, .nat .u32 0x9b64c2b0, .nat .u32 0x86d3d2d4, .nat .u32 0xa00ae278, .nat .u32 0xbdbdf21c])) true true 758),
(A 9, .cells (.p .u8 256 0x10000000000000000000000000000000000000101010101000000000000000000) true true 769),
(A 221875, .map [] 0),
(A 221876, .cells (.cat 5 (.l 5 [.slu (A 221880) 0 200 128, .nil .s, .i 114, .neg .i64 0, .bool false]) (.l 1 [.map (A 221875)])) true false 126),
(A 221880, bb7),
(A 221887, .cells (.cat 13 (.cat 8 (.cat 6 (.cat 4 (.cat 1 (.l 1 [.ptr (A 221876) 0]) (.l 3 [.i 200, .i 82, .i 40])) (.l 2 [.i 1, .i 82])) (.l 2 [.ptr (A 222855) 0, .i 0])) (.l 5 [.i 4, .i 1, .i 0, .i 1, .bool false])) (.l 2 [.i 0, .i 0])) true false 156),
(A 222851, .cells (.p .b 76 1) true false 4),
(A 222854, .map [] 0),
(A 222855, .cells (.cat 17 (.cat 13 (.cat 9 (.cat 4 (.cat 1 (.l 1 [.ptr (A 221876) 0]) (.l 3 [.i 200, .i 82, .i 40])) (.l 5 [.i 1, .i 83, .i 84, .i 124, .i 76])) (.cat 3 (.l 3 [.i 200, .i 82, .i 40]) (.l 1 [.sl (A 222851) 0 76 76]))) (.cat 3 (.l 3 [.i 200, .i 82, .i 40]) (.l 1 [.sl (A 222851) 0 76 76]))) (.l 4 [.map (A 222854), .bool false, .bool false, .bool false])) true false 177)],
.c (.i 0),
[(A 221887, .cells (.cat 13 (.cat 8 (.cat 6 (.cat 4 (.cat 1 (.l 1 [.ptr (A 221876) 0]) (.l 3 [.i 200, .i 82, .i 40])) (.l 2 [.i 1, .i 82])) (.l 2 [.ptr (A 222855) 0, .i 0])) (.l 5 [.i 4, .i 1, .i 0, .i 1, .bool false])) (.l 2 [.i 3, .i 1])) true false 156)],
[], A 225488⟩
theorem k224298_144 : KnownOk Tryz.prog 144 e224298_144 := known_tab mixed J [] (knNil) 1000 (by kernel_rfl)
end Go.Proofs.YtfdhdhmeahdpbaaGreatDoor
