/- Known calls, shown by runs of the evaluator: crash.Points, crash.All, limewashlaw32.awake. -/
import Derived.Test.YtfdhdhmeahdpbaaGreatDoorDat
import Derived.Test.YtfdhdhmeahdpbaaGreatDoorK02
import Derived.Test.YtfdhdhmeahdpbaaGreatDoorK03
import Derived.Test.YtfdhdhmeahdpbaaGreatDoorK06
import Derived.Test.YtfdhdhmeahdpbaaGreatDoorK08
import Derived.Test.YtfdhdhmeahdpbaaGreatDoorK10
import Derived.Test.YtfdhdhmeahdpbaaGreatDoorK11
import Derived.Test.YtfdhdhmeahdpbaaGreatDoorK14
import Derived.Test.YtfdhdhmeahdpbaaGreatDoorK16
import Derived.Test.YtfdhdhmeahdpbaaGreatDoorK18
import Derived.Test.YtfdhdhmeahdpbaaGreatDoorK19
import Derived.Test.YtfdhdhmeahdpbaaGreatDoorK20
import Derived.Test.YtfdhdhmeahdpbaaGreatDoorK21
import Derived.Test.YtfdhdhmeahdpbaaGreatDoorK22
import Derived.Test.YtfdhdhmeahdpbaaGreatDoorK23
namespace Go.Proofs.YtfdhdhmeahdpbaaGreatDoor
open Go Ev
set_option maxRecDepth 1000000
def e114610_25 : Known := ⟨[.a (.cat 3 (.l 3 [.i 200, .i 82, .i 40]) (.l 3 [.i 4, .sl (A 114608) 0 3 3, .sl (A 114609) 0 2 2]))], A 114610,
[(A 1, .cells (.l 6 [.str 0 0, .str 3 0x726964, .str 4 0x656c6966, .str 4 0x6b6e696c, .str 4 0x72616863, .str 5 0x6574696877]) true true 431),
(A 4, .cells (.p .u8 10 0x7409720d6e0a5c5c2222) true true 579),
(A 5, .cells (.cat 8 (.l 8 [.str 0 0, .str 0 0, .str 0 0, .str 16 0x2e79616c7265766f2e64657473757274, .str 8 0x2e79616c7265766f, .str 21 0x74636572696465722065757161706f206b6e696c6e, .str 19 0x2e736679616c7265766f657375662e72657375, .str 5 0x2e65737566]) (.l 7 [.str 30 0x74756f65746968772074636572696465722065757161706f206b6e696c6e, .str 0 0, .str 0 0, .str 0 0, .str 4 0x2e647362, .str 4 0x2e647362, .str 6 0x65757161706f])) true true 582),
(A 7, .cells (.cat 8 (.l 8 [.nat .u32 0, .nat .u32 0x1db71064, .nat .u32 0x3b6e20c8, .nat .u32 0x26d930ac, .nat .u32 0x76dc4190, .nat .u32 0x6b6b51f4, .nat .u32 0x4db26158, .nat .u32 0x5005713c]) (.l 8 [.nat .u32 0xedb88320, .nat .u32 0xf00f9344, .nat .u32 0xd6d6a3e8, .nat .u32 0xcb61b38c, .nat .u32 0x9b64c2b0, .nat .u32 0x86d3d2d4, .nat .u32 0xa00ae278, .nat .u32 0xbdbdf21c])) true true 758),
(A 9, .cells (.p .u8 256 0x10000000000000000000000000000000000000101010101000000000000000000) true true 769),
(A 114608, .cells (.cat 20 (.cat 10 (.cat 9 (.cat 8 (.l 8 [.i 0, .str 0 0, .i 1, .nil .s, .str 0 0, .i 0, .i 0, .i 0]) (.l 1 [.bool false])) (.l 1 [.nil .s])) (.cat 9 (.cat 8 (.l 8 [.i 1, .str 1 102, .i 2, .nil .s, .str 0 0, .i 0, .i 0, .i 0]) (.l 1 [.bool false])) (.l 1 [.nil .s]))) (.cat 9 (.cat 8 (.l 8 [.i 1, .str 1 119, .i 5, .nil .s, .str 0 0, .i 0, .i 0, .i 0]) (.l 1 [.bool false])) (.l 1 [.nil .s]))) true false 70),
(A 114609, .cells (.cat 4 (.l 4 [.i 1, .i 1, .neg .i64 0, .nil .s]) (.l 4 [.i 2, .i 0, .neg .i64 0, .nil .s])) true false 40)],
.t [.c (.i 4), .c (.i 0)],
[],
[], A 166536⟩
theorem k114610_25 : KnownOk Tryz.prog 25 e114610_25 := known_tab mixed J [(28, e114612_28), (355, e151723_355), (36, e160124_36)] (knCons k114612_28 (knCons k151723_355 (knCons k160124_36 (knNil)))) 1000 (by kernel_rfl)

def e166540_26 : Known := ⟨[.a (.cat 3 (.l 3 [.i 200, .i 82, .i 40]) (.l 3 [.i 4, .sl (A 166538) 0 3 3, .sl (A 166539) 0 2 2])), .c (.i 64)], A 166540,
[(A 1, .cells (.l 6 [.str 0 0, .str 3 0x726964, .str 4 0x656c6966, .str 4 0x6b6e696c, .str 4 0x72616863, .str 5 0x6574696877]) true true 431),
(A 4, .cells (.p .u8 10 0x7409720d6e0a5c5c2222) true true 579),
(A 5, .cells (.cat 8 (.l 8 [.str 0 0, .str 0 0, .str 0 0, .str 16 0x2e79616c7265766f2e64657473757274, .str 8 0x2e79616c7265766f, .str 21 0x74636572696465722065757161706f206b6e696c6e, .str 19 0x2e736679616c7265766f657375662e72657375, .str 5 0x2e65737566]) (.l 7 [.str 30 0x74756f65746968772074636572696465722065757161706f206b6e696c6e, .str 0 0, .str 0 0, .str 0 0, .str 4 0x2e647362, .str 4 0x2e647362, .str 6 0x65757161706f])) true true 582),
(A 7, .cells (.cat 8 (.l 8 [.nat .u32 0, .nat .u32 0x1db71064, .nat .u32 0x3b6e20c8, .nat .u32 0x26d930ac, .nat .u32 0x76dc4190, .nat .u32 0x6b6b51f4, .nat .u32 0x4db26158, .nat .u32 0x5005713c]) (.l 8 [.nat .u32 0xedb88320, .nat .u32 0xf00f9344, .nat .u32 0xd6d6a3e8, .nat .u32 0xcb61b38c, .nat .u32 0x9b64c2b0, .nat .u32 0x86d3d2d4, .nat .u32 0xa00ae278, .nat .u32 0xbdbdf21c])) true true 758),
(A 9, .cells (.p .u8 256 0x10000000000000000000000000000000000000101010101000000000000000000) true true 769),
(A 166538, .cells (.cat 20 (.cat 10 (.cat 9 (.cat 8 (.l 8 [.i 0, .str 0 0, .i 1, .nil .s, .str 0 0, .i 0, .i 0, .i 0]) (.l 1 [.bool false])) (.l 1 [.nil .s])) (.cat 9 (.cat 8 (.l 8 [.i 1, .str 1 102, .i 2, .nil .s, .str 0 0, .i 0, .i 0, .i 0]) (.l 1 [.bool false])) (.l 1 [.nil .s]))) (.cat 9 (.cat 8 (.l 8 [.i 1, .str 1 119, .i 5, .nil .s, .str 0 0, .i 0, .i 0, .i 0]) (.l 1 [.bool false])) (.l 1 [.nil .s]))) true false 70),
(A 166539, .cells (.cat 4 (.l 4 [.i 1, .i 1, .neg .i64 0, .nil .s]) (.l 4 [.i 2, .i 0, .neg .i64 0, .nil .s])) true false 40)],
.t [.a (.l 7 [.i 4, .i 5, .i 1, .i 0, .i 0, .nil .s, .i 0]), .c (.i 0)],
[],
[], A 268300⟩
theorem k166540_26 : KnownOk Tryz.prog 26 e166540_26 := known_tab mixed J [(35, e166639_35), (36, e212167_36), (30, e221883_30), (30, e231495_30), (30, e236788_30), (39, e243132_39), (30, e248525_30), (39, e255202_39), (30, e261633_30)] (knCons k166639_35 (knCons k212167_36 (knCons k221883_30 (knCons k231495_30 (knCons k236788_30 (knCons k243132_39 (knCons k248525_30 (knCons k255202_39 (knCons k261633_30 (knNil)))))))))) 1000 (by kernel_rfl)

def e57190_7 : Known := ⟨[], A 57190,
[(A 1, .cells (.l 6 [.str 0 0, .str 3 0x726964, .str 4 0x656c6966, .str 4 0x6b6e696c, .str 4 0x72616863, .str 5 0x6574696877]) true true 431),
(A 4, .cells (.p .u8 10 0x7409720d6e0a5c5c2222) true true 579),
(A 5, .cells (.cat 8 (.l 8 [.str 0 0, .str 0 0, .str 0 0, .str 16 0x2e79616c7265766f2e64657473757274, .str 8 0x2e79616c7265766f, .str 21 0x74636572696465722065757161706f206b6e696c6e, .str 19 0x2e736679616c7265766f657375662e72657375, .str 5 0x2e65737566]) (.l 7 [.str 30 0x74756f65746968772074636572696465722065757161706f206b6e696c6e, .str 0 0, .str 0 0, .str 0 0, .str 4 0x2e647362, .str 4 0x2e647362, .str 6 0x65757161706f])) true true 582),
(A 7, .cells (.cat 8 (.l 8 [.nat .u32 0, .nat .u32 0x1db71064, .nat .u32 0x3b6e20c8, .nat .u32 0x26d930ac, .nat .u32 0x76dc4190, .nat .u32 0x6b6b51f4, .nat .u32 0x4db26158, .nat .u32 0x5005713c]) (.l 8 [.nat .u32 0xedb88320, .nat .u32 0xf00f9344, .nat .u32 0xd6d6a3e8, .nat .u32 0xcb61b38c, .nat .u32 0x9b64c2b0, .nat .u32 0x86d3d2d4, .nat .u32 0xa00ae278, .nat .u32 0xbdbdf21c])) true true 758),
(A 9, .cells (.p .u8 256 0x10000000000000000000000000000000000000101010101000000000000000000) true true 769)],
.c (.bool true),
[],
[], A 268343⟩
theorem k57190_7 : KnownOk Tryz.prog 7 e57190_7 := known_tab mixed J [(125, e57473_125), (126, e68396_126), (248, e81670_248), (67, e88959_67), (29, e94266_29), (30, e109123_30), (25, e114610_25), (26, e166540_26)] (knCons k57473_125 (knCons k68396_126 (knCons k81670_248 (knCons k88959_67 (knCons k94266_29 (knCons k109123_30 (knCons k114610_25 (knCons k166540_26 (knNil))))))))) 1000 (by kernel_rfl)
end Go.Proofs.YtfdhdhmeahdpbaaGreatDoor
