/- Known calls, shown by runs of the evaluator: store.Format, load.alone 1, convert.Start 1. -/
import Derived.Test.YtfdhdhmeahdpbaaGreatDoorDat
import Derived.Test.YtfdhdhmeahdpbaaGreatDoorK00
import Derived.Test.YtfdhdhmeahdpbaaGreatDoorK01
namespace Go.Proofs.YtfdhdhmeahdpbaaGreatDoor
open Go Ev
set_option maxRecDepth 1000000
def e1287_125 : Known := ⟨[.c (.ptr (A 1112) 0), .a (.l 3 [.i 200, .i 82, .i 40])], A 1287,
[(A 1, .cells (.l 6 [.str 0 0, .str 3 0x726964, .str 4 0x656c6966, .str 4 0x6b6e696c, .str 4 0x72616863, .str 5 0x6574696877]) true true 431),
(A 4, .cells (.p .u8 10 0x7409720d6e0a5c5c2222) true true 579),
(A 5, .cells (.cat 8 (.l 8 [.str 0 0, .str 0 0, .str 0 0, .str 16 0x2e79616c7265766f2e64657473757274, .str 8 0x2e79616c7265766f, .str 21 0x74636572696465722065757161706f206b6e696c6e, .str 19 0x2e736679616c7265766f657375662e72657375, .str 5 0x2e65737566]) (.l 7 [.str 30 0x74756f65746968772074636572696465722065757161706f206b6e696c6e, .str 0 0, .str 0 0, .str 0 0, .str 4 0x2e647362, .str 4 0x2e647362, .str 6 0x65757161706f])) true true 582),
(A 7, .cells (.cat 8 (.l 8 [.nat .u32 0, .nat .u32 0x1db71064, .nat .u32 0x3b6e20c8, .nat .u32 0x26d930ac, .nat .u32 0x76dc4190, .nat .u32 0x6b6b51f4, .nat .u32 0x4db26158, .nat .u32 0x5005713c]) (.l 8 [.nat .u32 0xedb88320, .nat .u32 0xf00f9344, .nat .u32 0xd6d6a3e8, .nat .u32 0xcb61b38c, .nat .u32 0x9b64c2b0, .nat .u32 0x86d3d2d4, .nat .u32 0xa00ae278, .nat .u32 0xbdbdf21c])) true true 758),
(A 9, .cells (.p .u8 256 0x10000000000000000000000000000000000000101010101000000000000000000) true true 769),
(A 1111, .map [] 0),
(A 1112, .cells (.cat 5 (.l 5 [.slu (A 1116) 0 200 128, .nil .s, .i 0, .neg .i64 0, .bool false]) (.l 1 [.map (A 1111)])) true false 126),
(A 1116, .cells (.p .u8 25600 0) false false 129)],
.c (.i 0),
[(A 1111, .map [] 90),
(A 1112, .cells (.cat 5 (.l 5 [.slu (A 1116) 0 200 128, .nil .s, .i 90, .neg .i64 0, .bool false]) (.l 1 [.map (A 1111)])) true false 126),
(A 1116, bb2)],
[], A 12200⟩
theorem k1287_125 : KnownOk Tryz.prog 125 e1287_125 := known_tab mixed J [(246, e1288_246)] (knCons k1288_246 (knNil)) 1000 (by kernel_rfl)

def e13566_248 : Known := ⟨[.c (.ptr (A 12211) 0), .c (.ptr (A 12243) 0)], A 13566,
[(A 1, .cells (.l 6 [.str 0 0, .str 3 0x726964, .str 4 0x656c6966, .str 4 0x6b6e696c, .str 4 0x72616863, .str 5 0x6574696877]) true true 431),
(A 4, .cells (.p .u8 10 0x7409720d6e0a5c5c2222) true true 579),
(A 5, .cells (.cat 8 (.l 8 [.str 0 0, .str 0 0, .str 0 0, .str 16 0x2e79616c7265766f2e64657473757274, .str 8 0x2e79616c7265766f, .str 21 0x74636572696465722065757161706f206b6e696c6e, .str 19 0x2e736679616c7265766f657375662e72657375, .str 5 0x2e65737566]) (.l 7 [.str 30 0x74756f65746968772074636572696465722065757161706f206b6e696c6e, .str 0 0, .str 0 0, .str 0 0, .str 4 0x2e647362, .str 4 0x2e647362, .str 6 0x65757161706f])) true true 582),
(A 7, .cells (.cat 8 (.l 8 [.nat .u32 0, .nat .u32 0x1db71064, .nat .u32 0x3b6e20c8, .nat .u32 0x26d930ac, .nat .u32 0x76dc4190, .nat .u32 0x6b6b51f4, .nat .u32 0x4db26158, .nat .u32 0x5005713c]) (.l 8 [.nat .u32 0xedb88320, .nat .u32 0xf00f9344, .nat .u32 0xd6d6a3e8, .nat .u32 0xcb61b38c, .nat .u32 0x9b64c2b0, .nat .u32 0x86d3d2d4, .nat .u32 0xa00ae278, .nat .u32 0xbdbdf21c])) true true 758),
(A 9, .cells (.p .u8 256 0x10000000000000000000000000000000000000101010101000000000000000000) true true 769),
(A 1111, .map [] 90),
(A 1112, .cells (.cat 5 (.l 5 [.slu (A 1116) 0 200 128, .nil .s, .i 90, .neg .i64 0, .bool false]) (.l 1 [.map (A 1111)])) true false 126),
(A 1116, bb2),
(A 12211, .cells (.l 1 [.i 0]) true false 24),
(A 12238, .cells (.p .b 76 0) true false 4),
(A 12241, .map [⟨.i 85, .a (.l 3 [.i 85, .i 6, .str 9 258]), 0⟩, ⟨.i 124, .a (.l 3 [.i 124, .i 7, .str 3 157185]), 1⟩, ⟨.i 84, .a (.l 3 [.i 84, .i 6, .str 13 0x101000000010101]), 2⟩] 3),
(A 12242, .cells (.cat 17 (.cat 13 (.cat 9 (.cat 4 (.cat 1 (.l 1 [.ptr (A 1112) 0]) (.l 3 [.i 200, .i 82, .i 40])) (.l 5 [.i 1, .i 83, .i 84, .i 124, .i 76])) (.cat 3 (.l 3 [.i 200, .i 82, .i 40]) (.l 1 [.sl (A 12238) 0 76 76]))) (.cat 3 (.l 3 [.i 200, .i 82, .i 40]) (.l 1 [.slu (A 13421) 0 76 1]))) (.l 4 [.map (A 12241), .bool true, .bool false, .bool false])) true false 177),
(A 12243, .cells (.l 1 [.ptr (A 12242) 0]) true false 105),
(A 13421, .cells (.p .b 76 1) false false 4)],
.t [],
[(A 1111, .map [] 100),
(A 1112, .cells (.cat 5 (.l 5 [.slu (A 1116) 0 200 128, .nil .s, .i 100, .neg .i64 0, .bool false]) (.l 1 [.map (A 1111)])) true false 126),
(A 1116, bb4),
(A 12242, .cells (.cat 17 (.cat 13 (.cat 9 (.cat 4 (.cat 1 (.l 1 [.ptr (A 1112) 0]) (.l 3 [.i 200, .i 82, .i 40])) (.l 5 [.i 1, .i 83, .i 84, .i 124, .i 76])) (.cat 3 (.l 3 [.i 200, .i 82, .i 40]) (.l 1 [.sl (A 12238) 0 76 76]))) (.cat 3 (.l 3 [.i 200, .i 82, .i 40]) (.l 1 [.slu (A 13421) 0 76 1]))) (.l 4 [.map (A 12241), .bool true, .bool false, .bool true])) true false 177)],
[], A 25036⟩
theorem k13566_248 : KnownOk Tryz.prog 248 e13566_248 := known_tab mixed J [(401, e19794_401)] (knCons k19794_401 (knNil)) 1000 (by kernel_rfl)

def e38121_355 : Known := ⟨[.c (.ptr (A 38119) 0), .c (.ptr (A 38085) 0), .c (.ptr (A 38086) 0)], A 38121,
[(A 1, .cells (.l 6 [.str 0 0, .str 3 0x726964, .str 4 0x656c6966, .str 4 0x6b6e696c, .str 4 0x72616863, .str 5 0x6574696877]) true true 431),
(A 4, .cells (.p .u8 10 0x7409720d6e0a5c5c2222) true true 579),
(A 5, .cells (.cat 8 (.l 8 [.str 0 0, .str 0 0, .str 0 0, .str 16 0x2e79616c7265766f2e64657473757274, .str 8 0x2e79616c7265766f, .str 21 0x74636572696465722065757161706f206b6e696c6e, .str 19 0x2e736679616c7265766f657375662e72657375, .str 5 0x2e65737566]) (.l 7 [.str 30 0x74756f65746968772074636572696465722065757161706f206b6e696c6e, .str 0 0, .str 0 0, .str 0 0, .str 4 0x2e647362, .str 4 0x2e647362, .str 6 0x65757161706f])) true true 582),
(A 7, .cells (.cat 8 (.l 8 [.nat .u32 0, .nat .u32 0x1db71064, .nat .u32 0x3b6e20c8, .nat .u32 0x26d930ac, .nat .u32 0x76dc4190, .nat .u32 0x6b6b51f4, .nat .u32 0x4db26158, .nat .u32 0x5005713c]) (.l 8 [.nat .u32 0xedb88320, .nat .u32 0xf00f9344, .nat .u32 0xd6d6a3e8, .nat .u32 0xcb61b38c, .nat .u32 0x9b64c2b0, .nat .u32 0x86d3d2d4, .nat .u32 0xa00ae278, .nat .u32 0xbdbdf21c])) true true 758),
(A 9, .cells (.p .u8 256 0x10000000000000000000000000000000000000101010101000000000000000000) true true 769),
(A 1111, .map [] 110),
(A 1112, .cells (.cat 5 (.l 5 [.slu (A 1116) 0 200 128, .nil .s, .i 110, .neg .i64 0, .bool false]) (.l 1 [.map (A 1111)])) true false 126),
(A 1116, bb0),
(A 38085, .cells (.l 1 [.i 1]) true false 3),
(A 38086, .cells (.l 1 [.i 0]) true false 3),
(A 38115, .cells (.p .b 76 1) true false 4),
(A 38118, .map [] 0),
(A 38119, .cells (.cat 17 (.cat 13 (.cat 9 (.cat 4 (.cat 1 (.l 1 [.ptr (A 1112) 0]) (.l 3 [.i 200, .i 82, .i 40])) (.l 5 [.i 1, .i 83, .i 84, .i 124, .i 76])) (.cat 3 (.l 3 [.i 200, .i 82, .i 40]) (.l 1 [.sl (A 38115) 0 76 76]))) (.cat 3 (.l 3 [.i 200, .i 82, .i 40]) (.l 1 [.sl (A 38115) 0 76 76]))) (.l 4 [.map (A 38118), .bool false, .bool false, .bool false])) true false 177)],
.c (.i 0),
[(A 38118, .map [⟨.i 0, .a (.l 3 [.i 0, .i 4, .str 5 0x1000104]), 0⟩] 1)],
[], A 41310⟩
theorem k38121_355 : KnownOk Tryz.prog 355 e38121_355 := known_tab mixed J [(358, e39390_358)] (knCons k39390_358 (knNil)) 1000 (by kernel_rfl)
end Go.Proofs.YtfdhdhmeahdpbaaGreatDoor
