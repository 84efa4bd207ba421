/- Known calls, shown by runs of the evaluator: crash.world .end, load.Fill, crash.world .call. -/
import Derived.Test.YtfdhdhmeahdpbaaGreatDoorDat
import Derived.Test.YtfdhdhmeahdpbaaGreatDoorK00
import Derived.Test.YtfdhdhmeahdpbaaGreatDoorK12
import Derived.Test.YtfdhdhmeahdpbaaGreatDoorK13
namespace Go.Proofs.YtfdhdhmeahdpbaaGreatDoor
open Go Ev
set_option maxRecDepth 1000000
def e261633_30 : Known := ⟨[.c (.ptr (A 261631) 0)], A 261633,
[(A 1, .cells (.l 6 [.str 0 0, .str 3 0x726964, .str 4 0x656c6966, .str 4 0x6b6e696c, .str 4 0x72616863, .str 5 0x6574696877]) true true 431),
(A 4, .cells (.p .u8 10 0x7409720d6e0a5c5c2222) true true 579),
(A 5, .cells (.cat 8 (.l 8 [.str 0 0, .str 0 0, .str 0 0, .str 16 0x2e79616c7265766f2e64657473757274, .str 8 0x2e79616c7265766f, .str 21 0x74636572696465722065757161706f206b6e696c6e, .str 19 0x2e736679616c7265766f657375662e72657375, .str 5 0x2e65737566]) (.l 7 [.str 30 0x74756f65746968772074636572696465722065757161706f206b6e696c6e, .str 0 0, .str 0 0, .str 0 0, .str 4 0x2e647362, .str 4 0x2e647362, .str 6 0x65757161706f])) true true 582),
(A 7, .cells (.cat 8 (.l 8 [.nat .u32 0, .nat .u32 0x1db71064, .nat .u32 0x3b6e20c8, .nat .u32 0x26d930ac, .nat .u32 0x76dc4190, .nat .u32 0x6b6b51f4, .nat .u32 0x4db26158, .nat .u32 0x5005713c]) (.l 8 [.nat .u32 0xedb88320, .nat .u32 0xf00f9344, .nat .u32 0xd6d6a3e8, .nat .u32 0xcb61b38c, .nat .u32 0x9b64c2b0, .nat .u32 0x86d3d2d4, .nat .u32 0xa00ae278, .nat .u32 0xbdbdf21c])) true true 758),
(A 9, .cells (.p .u8 256 0x10000000000000000000000000000000000000101010101000000000000000000) true true 769),
(A 166538, .cells (.cat 20 (.cat 10 (.cat 9 (.cat 8 (.l 8 [.i 0, .str 0 0, .i 1, .nil .s, .str 0 0, .i 0, .i 0, .i 0]) (.l 1 [.bool false])) (.l 1 [.nil .s])) (.cat 9 (.cat 8 (.l 8 [.i 1, .str 1 102, .i 2, .nil .s, .str 0 0, .i 0, .i 0, .i 0]) (.l 1 [.bool false])) (.l 1 [.nil .s]))) (.cat 9 (.cat 8 (.l 8 [.i 1, .str 1 119, .i 5, .nil .s, .str 0 0, .i 0, .i 0, .i 0]) (.l 1 [.bool false])) (.l 1 [.nil .s]))) true false 70),
(A 166539, .cells (.cat 4 (.l 4 [.i 1, .i 1, .neg .i64 0, .nil .s]) (.l 4 [.i 2, .i 0, .neg .i64 0, .nil .s])) true false 40),
(A 261625, .map [] 0),
(A 261626, .cells (.cat 5 (.l 5 [.slu (A 261630) 0 200 128, .nil .s, .i 117, .neg .i64 0, .bool false]) (.l 1 [.map (A 261625)])) true false 126),
(A 261630, bb12),
(A 261631, .cells (.cat 6 (.cat 3 (.l 3 [.i 200, .i 82, .i 40]) (.l 3 [.i 4, .sl (A 166538) 0 3 3, .sl (A 166539) 0 2 2])) (.l 1 [.ptr (A 261626) 0])) true false 93)],
.t [.a (.l 5 [.i 4, .i 1, .i 1, .i 1, .bool false]), .c (.bool true), .c (.i 0)],
[(A 261625, .map [] 2),
(A 261626, .cells (.cat 5 (.l 5 [.slu (A 261630) 0 200 128, .nil .s, .i 119, .neg .i64 0, .bool false]) (.l 1 [.map (A 261625)])) true false 126),
(A 261630, bb10)],
[], A 268299⟩
theorem k261633_30 : KnownOk Tryz.prog 30 e261633_30 := known_tab mixed J [(143, e263852_143), (144, e265232_144), (45, e266557_45)] (knCons k263852_143 (knCons k265232_144 (knCons k266557_45 (knNil)))) 1000 (by kernel_rfl)

def e1208_66 : Known := ⟨[.c (.ptr (A 1112) 0), .a (.l 3 [.i 200, .i 82, .i 40]), .c (.sl (A 1192) 0 3 3)], A 1208,
[(A 1, .cells (.l 6 [.str 0 0, .str 3 0x726964, .str 4 0x656c6966, .str 4 0x6b6e696c, .str 4 0x72616863, .str 5 0x6574696877]) true true 431),
(A 4, .cells (.p .u8 10 0x7409720d6e0a5c5c2222) true true 579),
(A 5, .cells (.cat 8 (.l 8 [.str 0 0, .str 0 0, .str 0 0, .str 16 0x2e79616c7265766f2e64657473757274, .str 8 0x2e79616c7265766f, .str 21 0x74636572696465722065757161706f206b6e696c6e, .str 19 0x2e736679616c7265766f657375662e72657375, .str 5 0x2e65737566]) (.l 7 [.str 30 0x74756f65746968772074636572696465722065757161706f206b6e696c6e, .str 0 0, .str 0 0, .str 0 0, .str 4 0x2e647362, .str 4 0x2e647362, .str 6 0x65757161706f])) true true 582),
(A 7, .cells (.cat 8 (.l 8 [.nat .u32 0, .nat .u32 0x1db71064, .nat .u32 0x3b6e20c8, .nat .u32 0x26d930ac, .nat .u32 0x76dc4190, .nat .u32 0x6b6b51f4, .nat .u32 0x4db26158, .nat .u32 0x5005713c]) (.l 8 [.nat .u32 0xedb88320, .nat .u32 0xf00f9344, .nat .u32 0xd6d6a3e8, .nat .u32 0xcb61b38c, .nat .u32 0x9b64c2b0, .nat .u32 0x86d3d2d4, .nat .u32 0xa00ae278, .nat .u32 0xbdbdf21c])) true true 758),
(A 9, .cells (.p .u8 256 0x10000000000000000000000000000000000000101010101000000000000000000) true true 769),
(A 1111, .map [] 0),
(A 1112, .cells (.cat 5 (.l 5 [.slu (A 1116) 0 200 128, .nil .s, .i 0, .neg .i64 0, .bool false]) (.l 1 [.map (A 1111)])) true false 126),
(A 1116, .cells (.p .u8 25600 0) false false 129),
(A 1192, .cells (.cat 16 (.cat 8 (.l 8 [.i 0, .str 0 0, .i 1, .nil .s, .str 0 0, .i 0, .i 0, .i 0]) (.l 8 [.i 1, .str 1 102, .i 2, .nil .s, .str 0 0, .i 0, .i 0, .i 0])) (.l 8 [.i 1, .str 1 119, .i 5, .nil .s, .str 0 0, .i 0, .i 0, .i 0])) true false 201)],
.c (.i 0),
[(A 1111, .map [] 106),
(A 1112, .cells (.cat 5 (.l 5 [.slu (A 1116) 0 200 128, .nil .s, .i 106, .neg .i64 0, .bool false]) (.l 1 [.map (A 1111)])) true false 126),
(A 1116, bb1)],
[], A 32773⟩
theorem k1208_66 : KnownOk Tryz.prog 66 e1208_66 := known_tab mixed J [(125, e1287_125), (248, e13566_248), (248, e25484_248)] (knCons k1287_125 (knCons k13566_248 (knCons k25484_248 (knNil)))) 1000 (by kernel_rfl)

def e38081_39 : Known := ⟨[.c (.ptr (A 38079) 0), .a (.l 4 [.i 1, .i 1, .neg .i64 0, .nil .s]), .c (.bool false)], A 38081,
[(A 1, .cells (.l 6 [.str 0 0, .str 3 0x726964, .str 4 0x656c6966, .str 4 0x6b6e696c, .str 4 0x72616863, .str 5 0x6574696877]) true true 431),
(A 4, .cells (.p .u8 10 0x7409720d6e0a5c5c2222) true true 579),
(A 5, .cells (.cat 8 (.l 8 [.str 0 0, .str 0 0, .str 0 0, .str 16 0x2e79616c7265766f2e64657473757274, .str 8 0x2e79616c7265766f, .str 21 0x74636572696465722065757161706f206b6e696c6e, .str 19 0x2e736679616c7265766f657375662e72657375, .str 5 0x2e65737566]) (.l 7 [.str 30 0x74756f65746968772074636572696465722065757161706f206b6e696c6e, .str 0 0, .str 0 0, .str 0 0, .str 4 0x2e647362, .str 4 0x2e647362, .str 6 0x65757161706f])) true true 582),
(A 7, .cells (.cat 8 (.l 8 [.nat .u32 0, .nat .u32 0x1db71064, .nat .u32 0x3b6e20c8, .nat .u32 0x26d930ac, .nat .u32 0x76dc4190, .nat .u32 0x6b6b51f4, .nat .u32 0x4db26158, .nat .u32 0x5005713c]) (.l 8 [.nat .u32 0xedb88320, .nat .u32 0xf00f9344, .nat .u32 0xd6d6a3e8, .nat .u32 0xcb61b38c, .nat .u32 0x9b64c2b0, .nat .u32 0x86d3d2d4, .nat .u32 0xa00ae278, .nat .u32 0xbdbdf21c])) true true 758),
(A 9, .cells (.p .u8 256 0x10000000000000000000000000000000000000101010101000000000000000000) true true 769),
(A 1002, .cells (.cat 20 (.cat 10 (.cat 9 (.cat 8 (.l 8 [.i 0, .str 0 0, .i 1, .nil .s, .str 0 0, .i 0, .i 0, .i 0]) (.l 1 [.bool false])) (.l 1 [.nil .s])) (.cat 9 (.cat 8 (.l 8 [.i 1, .str 1 102, .i 2, .nil .s, .str 0 0, .i 0, .i 0, .i 0]) (.l 1 [.bool false])) (.l 1 [.nil .s]))) (.cat 9 (.cat 8 (.l 8 [.i 1, .str 1 119, .i 5, .nil .s, .str 0 0, .i 0, .i 0, .i 0]) (.l 1 [.bool false])) (.l 1 [.nil .s]))) true false 70),
(A 1003, .cells (.cat 4 (.l 4 [.i 1, .i 1, .neg .i64 0, .nil .s]) (.l 4 [.i 2, .i 0, .i 1, .sl (A 1005) 0 1 1])) true false 40),
(A 1005, .cells (.l 1 [.i 0]) true false 3),
(A 1111, .map [] 110),
(A 1112, .cells (.cat 5 (.l 5 [.slu (A 1116) 0 200 128, .nil .s, .i 110, .neg .i64 0, .bool false]) (.l 1 [.map (A 1111)])) true false 126),
(A 1116, bb0),
(A 38079, .cells (.cat 6 (.cat 3 (.l 3 [.i 200, .i 82, .i 40]) (.l 3 [.i 4, .sl (A 1002) 0 3 3, .sl (A 1003) 0 2 2])) (.l 1 [.ptr (A 1112) 0])) true false 93)],
.a (.l 4 [.i 0, .i 4, .bool false, .i 0]),
[(A 1111, .map [] 114),
(A 1112, .cells (.cat 5 (.l 5 [.slu (A 1116) 0 200 128, .nil .s, .i 114, .neg .i64 0, .bool false]) (.l 1 [.map (A 1111)])) true false 126),
(A 1116, bb7)],
[], A 46520⟩
theorem k38081_39 : KnownOk Tryz.prog 39 e38081_39 := known_tab mixed J [(355, e38121_355)] (knCons k38121_355 (knNil)) 1000 (by kernel_rfl)
end Go.Proofs.YtfdhdhmeahdpbaaGreatDoor
