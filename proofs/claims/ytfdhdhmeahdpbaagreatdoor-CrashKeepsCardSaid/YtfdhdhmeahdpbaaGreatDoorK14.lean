/- Known calls, shown by runs of the evaluator: recover.Recover, store.Format, load.alone 1. -/
import Derived.Test.YtfdhdhmeahdpbaaGreatDoorDat
import Derived.Test.YtfdhdhmeahdpbaaGreatDoorK01
import Derived.Test.YtfdhdhmeahdpbaaGreatDoorK02
namespace Go.Proofs.YtfdhdhmeahdpbaaGreatDoor
open Go Ev
set_option maxRecDepth 1000000
def e50820_43 : Known := ⟨[.c (.ptr (A 1112) 0), .a (.l 3 [.i 200, .i 82, .i 40])], A 50820,
[(A 1, .cells (.l 6 [.str 0 0, .str 3 0x726964, .str 4 0x656c6966, .str 4 0x6b6e696c, .str 4 0x72616863, .str 5 0x6574696877]) true true 431),
(A 4, .cells (.p .u8 10 0x7409720d6e0a5c5c2222) true true 579),
(A 5, .cells (.cat 8 (.l 8 [.str 0 0, .str 0 0, .str 0 0, .str 16 0x2e79616c7265766f2e64657473757274, .str 8 0x2e79616c7265766f, .str 21 0x74636572696465722065757161706f206b6e696c6e, .str 19 0x2e736679616c7265766f657375662e72657375, .str 5 0x2e65737566]) (.l 7 [.str 30 0x74756f65746968772074636572696465722065757161706f206b6e696c6e, .str 0 0, .str 0 0, .str 0 0, .str 4 0x2e647362, .str 4 0x2e647362, .str 6 0x65757161706f])) true true 582),
(A 7, .cells (.cat 8 (.l 8 [.nat .u32 0, .nat .u32 0x1db71064, .nat .u32 0x3b6e20c8, .nat .u32 0x26d930ac, .nat .u32 0x76dc4190, .nat .u32 0x6b6b51f4, .nat .u32 0x4db26158, .nat .u32 0x5005713c]) (.l 8 [.nat .u32 0xedb88320, .nat .u32 0xf00f9344, .nat .u32 0xd6d6a3e8, .nat .u32 0xcb61b38c, .nat .u32 0x9b64c2b0, .nat .u32 0x86d3d2d4, .nat .u32 0xa00ae278, .nat .u32 0xbdbdf21c])) true true 758),
(A 9, .cells (.p .u8 256 0x10000000000000000000000000000000000000101010101000000000000000000) true true 769),
(A 1111, .map [] 115),
(A 1112, .cells (.cat 5 (.l 5 [.slu (A 1116) 0 200 128, .nil .s, .i 115, .neg .i64 0, .bool false]) (.l 1 [.map (A 1111)])) true false 126),
(A 1116, bb8)],
.t [.a (.cat 6 (.cat 1 (.l 1 [.i 0]) (.l 5 [.i 4, .i 1, .i 0, .i 1, .bool false])) (.l 2 [.i 3, .i 1])), .c (.i 0)],
[(A 1111, .map [] 116),
(A 1112, .cells (.cat 5 (.l 5 [.slu (A 1116) 0 200 128, .nil .s, .i 116, .neg .i64 0, .bool false]) (.l 1 [.map (A 1111)])) true false 126),
(A 1116, bb9)],
[], A 55481⟩
theorem k50820_43 : KnownOk Tryz.prog 43 e50820_43 := known_tab mixed J [(140, e50829_140), (143, e52911_143)] (knCons k50829_140 (knCons k52911_143 (knNil))) 1000 (by kernel_rfl)

def e57473_125 : Known := ⟨[.c (.ptr (A 57298) 0), .a (.l 3 [.i 200, .i 82, .i 40])], A 57473,
[(A 1, .cells (.l 6 [.str 0 0, .str 3 0x726964, .str 4 0x656c6966, .str 4 0x6b6e696c, .str 4 0x72616863, .str 5 0x6574696877]) true true 431),
(A 4, .cells (.p .u8 10 0x7409720d6e0a5c5c2222) true true 579),
(A 5, .cells (.cat 8 (.l 8 [.str 0 0, .str 0 0, .str 0 0, .str 16 0x2e79616c7265766f2e64657473757274, .str 8 0x2e79616c7265766f, .str 21 0x74636572696465722065757161706f206b6e696c6e, .str 19 0x2e736679616c7265766f657375662e72657375, .str 5 0x2e65737566]) (.l 7 [.str 30 0x74756f65746968772074636572696465722065757161706f206b6e696c6e, .str 0 0, .str 0 0, .str 0 0, .str 4 0x2e647362, .str 4 0x2e647362, .str 6 0x65757161706f])) true true 582),
(A 7, .cells (.cat 8 (.l 8 [.nat .u32 0, .nat .u32 0x1db71064, .nat .u32 0x3b6e20c8, .nat .u32 0x26d930ac, .nat .u32 0x76dc4190, .nat .u32 0x6b6b51f4, .nat .u32 0x4db26158, .nat .u32 0x5005713c]) (.l 8 [.nat .u32 0xedb88320, .nat .u32 0xf00f9344, .nat .u32 0xd6d6a3e8, .nat .u32 0xcb61b38c, .nat .u32 0x9b64c2b0, .nat .u32 0x86d3d2d4, .nat .u32 0xa00ae278, .nat .u32 0xbdbdf21c])) true true 758),
(A 9, .cells (.p .u8 256 0x10000000000000000000000000000000000000101010101000000000000000000) true true 769),
(A 57297, .map [] 0),
(A 57298, .cells (.cat 5 (.l 5 [.slu (A 57302) 0 200 128, .nil .s, .i 0, .neg .i64 0, .bool false]) (.l 1 [.map (A 57297)])) true false 126),
(A 57302, .cells (.p .u8 25600 0) false false 129)],
.c (.i 0),
[(A 57297, .map [] 90),
(A 57298, .cells (.cat 5 (.l 5 [.slu (A 57302) 0 200 128, .nil .s, .i 90, .neg .i64 0, .bool false]) (.l 1 [.map (A 57297)])) true false 126),
(A 57302, bb2)],
[], A 68386⟩
theorem k57473_125 : KnownOk Tryz.prog 125 e57473_125 := known_tab mixed J [(246, e57474_246)] (knCons k57474_246 (knNil)) 1000 (by kernel_rfl)

def e69752_248 : Known := ⟨[.c (.ptr (A 68397) 0), .c (.ptr (A 68429) 0)], A 69752,
[(A 1, .cells (.l 6 [.str 0 0, .str 3 0x726964, .str 4 0x656c6966, .str 4 0x6b6e696c, .str 4 0x72616863, .str 5 0x6574696877]) true true 431),
(A 4, .cells (.p .u8 10 0x7409720d6e0a5c5c2222) true true 579),
(A 5, .cells (.cat 8 (.l 8 [.str 0 0, .str 0 0, .str 0 0, .str 16 0x2e79616c7265766f2e64657473757274, .str 8 0x2e79616c7265766f, .str 21 0x74636572696465722065757161706f206b6e696c6e, .str 19 0x2e736679616c7265766f657375662e72657375, .str 5 0x2e65737566]) (.l 7 [.str 30 0x74756f65746968772074636572696465722065757161706f206b6e696c6e, .str 0 0, .str 0 0, .str 0 0, .str 4 0x2e647362, .str 4 0x2e647362, .str 6 0x65757161706f])) true true 582),
(A 7, .cells (.cat 8 (.l 8 [.nat .u32 0, .nat .u32 0x1db71064, .nat .u32 0x3b6e20c8, .nat .u32 0x26d930ac, .nat .u32 0x76dc4190, .nat .u32 0x6b6b51f4, .nat .u32 0x4db26158, .nat .u32 0x5005713c]) (.l 8 [.nat .u32 0xedb88320, .nat .u32 0xf00f9344, .nat .u32 0xd6d6a3e8, .nat .u32 0xcb61b38c, .nat .u32 0x9b64c2b0, .nat .u32 0x86d3d2d4, .nat .u32 0xa00ae278, .nat .u32 0xbdbdf21c])) true true 758),
(A 9, .cells (.p .u8 256 0x10000000000000000000000000000000000000101010101000000000000000000) true true 769),
(A 57297, .map [] 90),
(A 57298, .cells (.cat 5 (.l 5 [.slu (A 57302) 0 200 128, .nil .s, .i 90, .neg .i64 0, .bool false]) (.l 1 [.map (A 57297)])) true false 126),
(A 57302, bb2),
(A 68397, .cells (.l 1 [.i 0]) true false 24),
(A 68424, .cells (.p .b 76 0) true false 4),
(A 68427, .map [⟨.i 85, .a (.l 3 [.i 85, .i 6, .str 9 258]), 0⟩, ⟨.i 124, .a (.l 3 [.i 124, .i 7, .str 3 157185]), 1⟩, ⟨.i 84, .a (.l 3 [.i 84, .i 6, .str 13 0x101000000010101]), 2⟩] 3),
(A 68428, .cells (.cat 17 (.cat 13 (.cat 9 (.cat 4 (.cat 1 (.l 1 [.ptr (A 57298) 0]) (.l 3 [.i 200, .i 82, .i 40])) (.l 5 [.i 1, .i 83, .i 84, .i 124, .i 76])) (.cat 3 (.l 3 [.i 200, .i 82, .i 40]) (.l 1 [.sl (A 68424) 0 76 76]))) (.cat 3 (.l 3 [.i 200, .i 82, .i 40]) (.l 1 [.slu (A 69607) 0 76 1]))) (.l 4 [.map (A 68427), .bool true, .bool false, .bool false])) true false 177),
(A 68429, .cells (.l 1 [.ptr (A 68428) 0]) true false 105),
(A 69607, .cells (.p .b 76 1) false false 4)],
.t [],
[(A 57297, .map [] 100),
(A 57298, .cells (.cat 5 (.l 5 [.slu (A 57302) 0 200 128, .nil .s, .i 100, .neg .i64 0, .bool false]) (.l 1 [.map (A 57297)])) true false 126),
(A 57302, bb4),
(A 68428, .cells (.cat 17 (.cat 13 (.cat 9 (.cat 4 (.cat 1 (.l 1 [.ptr (A 57298) 0]) (.l 3 [.i 200, .i 82, .i 40])) (.l 5 [.i 1, .i 83, .i 84, .i 124, .i 76])) (.cat 3 (.l 3 [.i 200, .i 82, .i 40]) (.l 1 [.sl (A 68424) 0 76 76]))) (.cat 3 (.l 3 [.i 200, .i 82, .i 40]) (.l 1 [.slu (A 69607) 0 76 1]))) (.l 4 [.map (A 68427), .bool true, .bool false, .bool true])) true false 177)],
[], A 81222⟩
theorem k69752_248 : KnownOk Tryz.prog 248 e69752_248 := known_tab mixed J [(401, e75980_401)] (knCons k75980_401 (knNil)) 1000 (by kernel_rfl)
end Go.Proofs.YtfdhdhmeahdpbaaGreatDoor
