/- Known calls, shown by runs of the evaluator: recover.work .branch, convert.Branch, crash.world .call. -/
import Derived.Test.YtfdhdhmeahdpbaaGreatDoorDat
namespace Go.Proofs.YtfdhdhmeahdpbaaGreatDoor
open Go Ev
set_option maxRecDepth 1000000
def e252124_144 : Known := ⟨[.c (.ptr (A 248529) 0)], A 252124,
[(A 1, .cells (.l 6 [.str 0 0, .str 3 0x726964, .str 4 0x656c6966, .str 4 0x6b6e696c, .str 4 0x72616863, .str 5 0x6574696877]) true true 431),
(A 4, .cells (.p .u8 10 0x7409720d6e0a5c5c2222) true true 579),
(A 5, .cells (.cat 8 (.l 8 [.str 0 0, .str 0 0, .str 0 0, .str 16 0x2e79616c7265766f2e64657473757274, .str 8 0x2e79616c7265766f, .str 21 0x74636572696465722065757161706f206b6e696c6e, .str 19 0x2e736679616c7265766f657375662e72657375, .str 5 0x2e65737566]) (.l 7 [.str 30 0x74756f65746968772074636572696465722065757161706f206b6e696c6e, .str 0 0, .str 0 0, .str 0 0, .str 4 0x2e647362, .str 4 0x2e647362, .str 6 0x65757161706f])) true true 582),
(A 7, .cells (.cat 8 (.l 8 [.nat .u32 0, .nat .u32 0x1db71064, .nat .u32 0x3b6e20c8, .nat .u32 0x26d930ac, .nat .u32 0x76dc4190, .nat .u32 0x6b6b51f4, .nat .u32 0x4db26158, .nat .u32 0x5005713c]) (.l 8 [.nat .u32 0xedb88320, .nat .u32 0xf00f9344, .nat .u32 0xd6d6a3e8, .nat .u32 0xcb61b38c, .nat .u32 0x9b64c2b0, .nat .u32 0x86d3d2d4, .nat .u32 0xa00ae278, .nat .u32 0xbdbdf21c])) true true 758),
(A 9, .cells (.p .u8 256 0x10000000000000000000000000000000000000101010101000000000000000000) true true 769),
(A 248517, .map [] 2),
(A 248518, .cells (.cat 5 (.l 5 [.slu (A 248522) 0 200 128, .nil .s, .i 118, .neg .i64 0, .bool false]) (.l 1 [.map (A 248517)])) true false 126),
(A 248522, bb10),
(A 248529, .cells (.cat 13 (.cat 8 (.cat 6 (.cat 4 (.cat 1 (.l 1 [.ptr (A 248518) 0]) (.l 3 [.i 200, .i 82, .i 40])) (.l 2 [.i 1, .i 82])) (.l 2 [.ptr (A 250681) 0, .i 1])) (.l 5 [.i 4, .i 1, .i 1, .i 1, .bool false])) (.l 2 [.i 0, .i 0])) true false 156),
(A 250677, .cells (.p .b 76 1) true false 4),
(A 250680, .map [] 0),
(A 250681, .cells (.cat 17 (.cat 13 (.cat 9 (.cat 4 (.cat 1 (.l 1 [.ptr (A 248518) 0]) (.l 3 [.i 200, .i 82, .i 40])) (.l 5 [.i 1, .i 83, .i 84, .i 124, .i 76])) (.cat 3 (.l 3 [.i 200, .i 82, .i 40]) (.l 1 [.sl (A 250677) 0 76 76]))) (.cat 3 (.l 3 [.i 200, .i 82, .i 40]) (.l 1 [.sl (A 250677) 0 76 76]))) (.l 4 [.map (A 250680), .bool false, .bool false, .bool false])) true false 177)],
.c (.i 0),
[(A 248529, .cells (.cat 13 (.cat 8 (.cat 6 (.cat 4 (.cat 1 (.l 1 [.ptr (A 248518) 0]) (.l 3 [.i 200, .i 82, .i 40])) (.l 2 [.i 1, .i 82])) (.l 2 [.ptr (A 250681) 0, .i 1])) (.l 5 [.i 4, .i 1, .i 1, .i 1, .bool false])) (.l 2 [.i 3, .i 1])) true false 156)],
[], A 253417⟩
theorem k252124_144 : KnownOk Tryz.prog 144 e252124_144 := known_tab mixed J [] (knNil) 1000 (by kernel_rfl)

def e253449_45 : Known := ⟨[.c (.ptr (A 253448) 0)], A 253449,
[(A 1, .cells (.l 6 [.str 0 0, .str 3 0x726964, .str 4 0x656c6966, .str 4 0x6b6e696c, .str 4 0x72616863, .str 5 0x6574696877]) true true 431),
(A 4, .cells (.p .u8 10 0x7409720d6e0a5c5c2222) true true 579),
(A 5, .cells (.cat 8 (.l 8 [.str 0 0, .str 0 0, .str 0 0, .str 16 0x2e79616c7265766f2e64657473757274, .str 8 0x2e79616c7265766f, .str 21 0x74636572696465722065757161706f206b6e696c6e, .str 19 0x2e736679616c7265766f657375662e72657375, .str 5 0x2e65737566]) (.l 7 [.str 30 0x74756f65746968772074636572696465722065757161706f206b6e696c6e, .str 0 0, .str 0 0, .str 0 0, .str 4 0x2e647362, .str 4 0x2e647362, .str 6 0x65757161706f])) true true 582),
(A 7, .cells (.cat 8 (.l 8 [.nat .u32 0, .nat .u32 0x1db71064, .nat .u32 0x3b6e20c8, .nat .u32 0x26d930ac, .nat .u32 0x76dc4190, .nat .u32 0x6b6b51f4, .nat .u32 0x4db26158, .nat .u32 0x5005713c]) (.l 8 [.nat .u32 0xedb88320, .nat .u32 0xf00f9344, .nat .u32 0xd6d6a3e8, .nat .u32 0xcb61b38c, .nat .u32 0x9b64c2b0, .nat .u32 0x86d3d2d4, .nat .u32 0xa00ae278, .nat .u32 0xbdbdf21c])) true true 758),
(A 9, .cells (.p .u8 256 0x10000000000000000000000000000000000000101010101000000000000000000) true true 769),
(A 248517, .map [] 2),
(A 248518, .cells (.cat 5 (.l 5 [.slu (A 248522) 0 200 128, .nil .s, .i 118, .neg .i64 0, .bool false]) (.l 1 [.map (A 248517)])) true false 126),
(A 248522, bb10),
(A 253444, .cells (.p .b 76 1) true false 4),
(A 253447, .map [] 0),
(A 253448, .cells (.cat 17 (.cat 13 (.cat 9 (.cat 4 (.cat 1 (.l 1 [.ptr (A 248518) 0]) (.l 3 [.i 200, .i 82, .i 40])) (.l 5 [.i 1, .i 83, .i 84, .i 124, .i 76])) (.cat 3 (.l 3 [.i 200, .i 82, .i 40]) (.l 1 [.sl (A 253444) 0 76 76]))) (.cat 3 (.l 3 [.i 200, .i 82, .i 40]) (.l 1 [.sl (A 253444) 0 76 76]))) (.l 4 [.map (A 253447), .bool false, .bool false, .bool false])) true false 177)],
.t [.c (.slu (A 254609) 0 3 10), .c (.i 0), .c (.i 0)],
[(A 254609, .cells (.cat 20 (.cat 10 (.cat 9 (.cat 8 (.l 8 [.i 0, .str 0 0, .i 1, .nil .s, .str 0 0, .i 0, .i 0, .i 0]) (.l 1 [.bool false])) (.l 1 [.nil .s])) (.cat 9 (.cat 8 (.l 8 [.i 1, .str 1 102, .i 2, .nil .s, .str 0 0, .i 0, .i 0, .i 0]) (.l 1 [.bool false])) (.l 1 [.nil .s]))) (.cat 9 (.cat 8 (.l 8 [.i 1, .str 1 119, .i 5, .nil .s, .str 0 0, .i 0, .i 0, .i 0]) (.l 1 [.bool false])) (.l 1 [.nil .s]))) false false 70)],
[], A 254739⟩
theorem k253449_45 : KnownOk Tryz.prog 45 e253449_45 := known_tab mixed J [] (knNil) 1000 (by kernel_rfl)

def e255202_39 : Known := ⟨[.c (.ptr (A 255201) 0), .a (.l 4 [.i 2, .i 0, .i 3, .nil .s]), .c (.bool false)], A 255202,
[(A 1, .cells (.l 6 [.str 0 0, .str 3 0x726964, .str 4 0x656c6966, .str 4 0x6b6e696c, .str 4 0x72616863, .str 5 0x6574696877]) true true 431),
(A 4, .cells (.p .u8 10 0x7409720d6e0a5c5c2222) true true 579),
(A 5, .cells (.cat 8 (.l 8 [.str 0 0, .str 0 0, .str 0 0, .str 16 0x2e79616c7265766f2e64657473757274, .str 8 0x2e79616c7265766f, .str 21 0x74636572696465722065757161706f206b6e696c6e, .str 19 0x2e736679616c7265766f657375662e72657375, .str 5 0x2e65737566]) (.l 7 [.str 30 0x74756f65746968772074636572696465722065757161706f206b6e696c6e, .str 0 0, .str 0 0, .str 0 0, .str 4 0x2e647362, .str 4 0x2e647362, .str 6 0x65757161706f])) true true 582),
(A 7, .cells (.cat 8 (.l 8 [.nat .u32 0, .nat .u32 0x1db71064, .nat .u32 0x3b6e20c8, .nat .u32 0x26d930ac, .nat .u32 0x76dc4190, .nat .u32 0x6b6b51f4, .nat .u32 0x4db26158, .nat .u32 0x5005713c]) (.l 8 [.nat .u32 0xedb88320, .nat .u32 0xf00f9344, .nat .u32 0xd6d6a3e8, .nat .u32 0xcb61b38c, .nat .u32 0x9b64c2b0, .nat .u32 0x86d3d2d4, .nat .u32 0xa00ae278, .nat .u32 0xbdbdf21c])) true true 758),
(A 9, .cells (.p .u8 256 0x10000000000000000000000000000000000000101010101000000000000000000) true true 769),
(A 166538, .cells (.cat 20 (.cat 10 (.cat 9 (.cat 8 (.l 8 [.i 0, .str 0 0, .i 1, .nil .s, .str 0 0, .i 0, .i 0, .i 0]) (.l 1 [.bool false])) (.l 1 [.nil .s])) (.cat 9 (.cat 8 (.l 8 [.i 1, .str 1 102, .i 2, .nil .s, .str 0 0, .i 0, .i 0, .i 0]) (.l 1 [.bool false])) (.l 1 [.nil .s]))) (.cat 9 (.cat 8 (.l 8 [.i 1, .str 1 119, .i 5, .nil .s, .str 0 0, .i 0, .i 0, .i 0]) (.l 1 [.bool false])) (.l 1 [.nil .s]))) true false 70),
(A 166539, .cells (.cat 4 (.l 4 [.i 1, .i 1, .neg .i64 0, .nil .s]) (.l 4 [.i 2, .i 0, .neg .i64 0, .nil .s])) true false 40),
(A 255195, .map [] 0),
(A 255196, .cells (.cat 5 (.l 5 [.slu (A 255200) 0 200 128, .nil .s, .i 114, .neg .i64 0, .bool false]) (.l 1 [.map (A 255195)])) true false 126),
(A 255200, bb7),
(A 255201, .cells (.cat 6 (.cat 3 (.l 3 [.i 200, .i 82, .i 40]) (.l 3 [.i 4, .sl (A 166538) 0 3 3, .sl (A 166539) 0 2 2])) (.l 1 [.ptr (A 255196) 0])) true false 93)],
.a (.l 4 [.i 13, .i 3, .bool true, .i 0]),
[(A 255195, .map [] 3),
(A 255196, .cells (.cat 5 (.l 5 [.slu (A 255200) 0 200 128, .nil .s, .i 117, .i 0, .bool true]) (.l 1 [.map (A 255195)])) true false 126),
(A 255200, bb12)],
[], A 261610⟩
theorem k255202_39 : KnownOk Tryz.prog 39 e255202_39 := known_tab mixed J [] (knNil) 1000 (by kernel_rfl)
end Go.Proofs.YtfdhdhmeahdpbaaGreatDoor
