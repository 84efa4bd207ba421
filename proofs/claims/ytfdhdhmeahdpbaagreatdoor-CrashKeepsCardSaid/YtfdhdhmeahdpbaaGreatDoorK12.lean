/- Known calls, shown by runs of the evaluator: recover.work .faults, recover.work .branch, convert.Branch. -/
import Derived.Test.YtfdhdhmeahdpbaaGreatDoorDat
namespace Go.Proofs.YtfdhdhmeahdpbaaGreatDoor
open Go Ev
set_option maxRecDepth 1000000
def e263852_143 : Known := ⟨[.c (.ptr (A 261637) 0)], A 263852,
[(A 1, .cells (.l 6 [.str 0 0, .str 3 0x726964, .str 4 0x656c6966, .str 4 0x6b6e696c, .str 4 0x72616863, .str 5 0x6574696877]) true true 431),
(A 4, .cells (.p .u8 10 0x7409720d6e0a5c5c2222) true true 579),
(A 5, .cells (.cat 8 (.l 8 [.str 0 0, .str 0 0, .str 0 0, .str 16 0x2e79616c7265766f2e64657473757274, .str 8 0x2e79616c7265766f, .str 21 0x74636572696465722065757161706f206b6e696c6e, .str 19 0x2e736679616c7265766f657375662e72657375, .str 5 0x2e65737566]) (.l 7 [.str 30 0x74756f65746968772074636572696465722065757161706f206b6e696c6e, .str 0 0, .str 0 0, .str 0 0, .str 4 0x2e647362, .str 4 0x2e647362, .str 6 0x65757161706f])) true true 582),
(A 7, .cells (.cat 8 (.l 8 [.nat .u32 0, .nat .u32 0x1db71064, .nat .u32 0x3b6e20c8, .nat .u32 0x26d930ac, .nat .u32 0x76dc4190, .nat .u32 0x6b6b51f4, .nat .u32 0x4db26158, .nat .u32 0x5005713c]) (.l 8 [.nat .u32 0xedb88320, .nat .u32 0xf00f9344, .nat .u32 0xd6d6a3e8, .nat .u32 0xcb61b38c, .nat .u32 0x9b64c2b0, .nat .u32 0x86d3d2d4, .nat .u32 0xa00ae278, .nat .u32 0xbdbdf21c])) true true 758),
(A 9, .cells (.p .u8 256 0x10000000000000000000000000000000000000101010101000000000000000000) true true 769),
(A 261625, .map [] 2),
(A 261626, .cells (.cat 5 (.l 5 [.slu (A 261630) 0 200 128, .nil .s, .i 119, .neg .i64 0, .bool false]) (.l 1 [.map (A 261625)])) true false 126),
(A 261630, bb10),
(A 261637, .cells (.cat 13 (.cat 8 (.cat 6 (.cat 4 (.cat 1 (.l 1 [.ptr (A 261626) 0]) (.l 3 [.i 200, .i 82, .i 40])) (.l 2 [.i 1, .i 82])) (.l 2 [.ptr (A 263789) 0, .i 1])) (.l 5 [.i 4, .i 1, .i 1, .i 1, .bool false])) (.l 2 [.i 0, .i 0])) true false 156),
(A 263785, .cells (.p .b 76 1) true false 4),
(A 263788, .map [] 0),
(A 263789, .cells (.cat 17 (.cat 13 (.cat 9 (.cat 4 (.cat 1 (.l 1 [.ptr (A 261626) 0]) (.l 3 [.i 200, .i 82, .i 40])) (.l 5 [.i 1, .i 83, .i 84, .i 124, .i 76])) (.cat 3 (.l 3 [.i 200, .i 82, .i 40]) (.l 1 [.sl (A 263785) 0 76 76]))) (.cat 3 (.l 3 [.i 200, .i 82, .i 40]) (.l 1 [.sl (A 263785) 0 76 76]))) (.l 4 [.map (A 263788), .bool false, .bool false, .bool false])) true false 177)],
.c (.i 0),
[],
[], A 265232⟩
theorem k263852_143 : KnownOk Tryz.prog 143 e263852_143 := known_tab mixed J [] (knNil) 1000 (by kernel_rfl)

def e265232_144 : Known := ⟨[.c (.ptr (A 261637) 0)], A 265232,
[(A 1, .cells (.l 6 [.str 0 0, .str 3 0x726964, .str 4 0x656c6966, .str 4 0x6b6e696c, .str 4 0x72616863, .str 5 0x6574696877]) true true 431),
(A 4, .cells (.p .u8 10 0x7409720d6e0a5c5c2222) true true 579),
(A 5, .cells (.cat 8 (.l 8 [.str 0 0, .str 0 0, .str 0 0, .str 16 0x2e79616c7265766f2e64657473757274, .str 8 0x2e79616c7265766f, .str 21 0x74636572696465722065757161706f206b6e696c6e, .str 19 0x2e736679616c7265766f657375662e72657375, .str 5 0x2e65737566]) (.l 7 [.str 30 0x74756f65746968772074636572696465722065757161706f206b6e696c6e, .str 0 0, .str 0 0, .str 0 0, .str 4 0x2e647362, .str 4 0x2e647362, .str 6 0x65757161706f])) true true 582),
(A 7, .cells (.cat 8 (.l 8 [.nat .u32 0, .nat .u32 0x1db71064, .nat .u32 0x3b6e20c8, .nat .u32 0x26d930ac, .nat .u32 0x76dc4190, .nat .u32 0x6b6b51f4, .nat .u32 0x4db26158, .nat .u32 0x5005713c]) (.l 8 [.nat .u32 0xedb88320, .nat .u32 0xf00f9344, .nat .u32 0xd6d6a3e8, .nat .u32 0xcb61b38c, .nat .u32 0x9b64c2b0, .nat .u32 0x86d3d2d4, .nat .u32 0xa00ae278, .nat .u32 0xbdbdf21c])) true true 758),
(A 9, .cells (.p .u8 256 0x10000000000000000000000000000000000000101010101000000000000000000) true true 769),
(A 261625, .map [] 2),
(A 261626, .cells (.cat 5 (.l 5 [.slu (A 261630) 0 200 128, .nil .s, .i 119, .neg .i64 0, .bool false]) (.l 1 [.map (A 261625)])) true false 126),
(A 261630, bb10),
(A 261637, .cells (.cat 13 (.cat 8 (.cat 6 (.cat 4 (.cat 1 (.l 1 [.ptr (A 261626) 0]) (.l 3 [.i 200, .i 82, .i 40])) (.l 2 [.i 1, .i 82])) (.l 2 [.ptr (A 263789) 0, .i 1])) (.l 5 [.i 4, .i 1, .i 1, .i 1, .bool false])) (.l 2 [.i 0, .i 0])) true false 156),
(A 263785, .cells (.p .b 76 1) true false 4),
(A 263788, .map [] 0),
(A 263789, .cells (.cat 17 (.cat 13 (.cat 9 (.cat 4 (.cat 1 (.l 1 [.ptr (A 261626) 0]) (.l 3 [.i 200, .i 82, .i 40])) (.l 5 [.i 1, .i 83, .i 84, .i 124, .i 76])) (.cat 3 (.l 3 [.i 200, .i 82, .i 40]) (.l 1 [.sl (A 263785) 0 76 76]))) (.cat 3 (.l 3 [.i 200, .i 82, .i 40]) (.l 1 [.sl (A 263785) 0 76 76]))) (.l 4 [.map (A 263788), .bool false, .bool false, .bool false])) true false 177)],
.c (.i 0),
[(A 261637, .cells (.cat 13 (.cat 8 (.cat 6 (.cat 4 (.cat 1 (.l 1 [.ptr (A 261626) 0]) (.l 3 [.i 200, .i 82, .i 40])) (.l 2 [.i 1, .i 82])) (.l 2 [.ptr (A 263789) 0, .i 1])) (.l 5 [.i 4, .i 1, .i 1, .i 1, .bool false])) (.l 2 [.i 3, .i 1])) true false 156)],
[], A 266525⟩
theorem k265232_144 : KnownOk Tryz.prog 144 e265232_144 := known_tab mixed J [] (knNil) 1000 (by kernel_rfl)

def e266557_45 : Known := ⟨[.c (.ptr (A 266556) 0)], A 266557,
[(A 1, .cells (.l 6 [.str 0 0, .str 3 0x726964, .str 4 0x656c6966, .str 4 0x6b6e696c, .str 4 0x72616863, .str 5 0x6574696877]) true true 431),
(A 4, .cells (.p .u8 10 0x7409720d6e0a5c5c2222) true true 579),
(A 5, .cells (.cat 8 (.l 8 [.str 0 0, .str 0 0, .str 0 0, .str 16 0x2e79616c7265766f2e64657473757274, .str 8 0x2e79616c7265766f, .str 21 0x74636572696465722065757161706f206b6e696c6e, .str 19 0x2e736679616c7265766f657375662e72657375, .str 5 0x2e65737566]) (.l 7 [.str 30 0x74756f65746968772074636572696465722065757161706f206b6e696c6e, .str 0 0, .str 0 0, .str 0 0, .str 4 0x2e647362, .str 4 0x2e647362, .str 6 0x65757161706f])) true true 582),
(A 7, .cells (.cat 8 (.l 8 [.nat .u32 0, .nat .u32 0x1db71064, .nat .u32 0x3b6e20c8, .nat .u32 0x26d930ac, .nat .u32 0x76dc4190, .nat .u32 0x6b6b51f4, .nat .u32 0x4db26158, .nat .u32 0x5005713c]) (.l 8 [.nat .u32 0xedb88320, .nat .u32 0xf00f9344, .nat .u32 0xd6d6a3e8, .nat .u32 0xcb61b38c, .nat .u32 0x9b64c2b0, .nat .u32 0x86d3d2d4, .nat .u32 0xa00ae278, .nat .u32 0xbdbdf21c])) true true 758),
(A 9, .cells (.p .u8 256 0x10000000000000000000000000000000000000101010101000000000000000000) true true 769),
(A 261625, .map [] 2),
(A 261626, .cells (.cat 5 (.l 5 [.slu (A 261630) 0 200 128, .nil .s, .i 119, .neg .i64 0, .bool false]) (.l 1 [.map (A 261625)])) true false 126),
(A 261630, bb10),
(A 266552, .cells (.p .b 76 1) true false 4),
(A 266555, .map [] 0),
(A 266556, .cells (.cat 17 (.cat 13 (.cat 9 (.cat 4 (.cat 1 (.l 1 [.ptr (A 261626) 0]) (.l 3 [.i 200, .i 82, .i 40])) (.l 5 [.i 1, .i 83, .i 84, .i 124, .i 76])) (.cat 3 (.l 3 [.i 200, .i 82, .i 40]) (.l 1 [.sl (A 266552) 0 76 76]))) (.cat 3 (.l 3 [.i 200, .i 82, .i 40]) (.l 1 [.sl (A 266552) 0 76 76]))) (.l 4 [.map (A 266555), .bool false, .bool false, .bool false])) true false 177)],
.t [.c (.slu (A 267717) 0 3 10), .c (.i 0), .c (.i 0)],
[(A 267717, .cells (.cat 20 (.cat 10 (.cat 9 (.cat 8 (.l 8 [.i 0, .str 0 0, .i 1, .nil .s, .str 0 0, .i 0, .i 0, .i 0]) (.l 1 [.bool false])) (.l 1 [.nil .s])) (.cat 9 (.cat 8 (.l 8 [.i 1, .str 1 102, .i 2, .nil .s, .str 0 0, .i 0, .i 0, .i 0]) (.l 1 [.bool false])) (.l 1 [.nil .s]))) (.cat 9 (.cat 8 (.l 8 [.i 1, .str 1 119, .i 5, .nil .s, .str 0 0, .i 0, .i 0, .i 0]) (.l 1 [.bool false])) (.l 1 [.nil .s]))) false false 70)],
[], A 267847⟩
theorem k266557_45 : KnownOk Tryz.prog 45 e266557_45 := known_tab mixed J [] (knNil) 1000 (by kernel_rfl)
end Go.Proofs.YtfdhdhmeahdpbaaGreatDoor
