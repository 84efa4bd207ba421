/- Known calls, shown by runs of the evaluator: convert.Start 1, recover.Recover, store.Format. -/
import Derived.Test.YtfdhdhmeahdpbaaGreatDoorDat
import Derived.Test.YtfdhdhmeahdpbaaGreatDoorK03
import Derived.Test.YtfdhdhmeahdpbaaGreatDoorK04
namespace Go.Proofs.YtfdhdhmeahdpbaaGreatDoor
open Go Ev
set_option maxRecDepth 1000000
def e94307_355 : Known := ⟨[.c (.ptr (A 94305) 0), .c (.ptr (A 94271) 0), .c (.ptr (A 94272) 0)], A 94307,
[(A 1, .cells (.l 6 [.str 0 0, .str 3 0x726964, .str 4 0x656c6966, .str 4 0x6b6e696c, .str 4 0x72616863, .str 5 0x6574696877]) true true 431),
(A 4, .cells (.p .u8 10 0x7409720d6e0a5c5c2222) true true 579),
(A 5, .cells (.cat 8 (.l 8 [.str 0 0, .str 0 0, .str 0 0, .str 16 0x2e79616c7265766f2e64657473757274, .str 8 0x2e79616c7265766f, .str 21 0x74636572696465722065757161706f206b6e696c6e, .str 19 0x2e736679616c7265766f657375662e72657375, .str 5 0x2e65737566]) (.l 7 [.str 30 0x74756f65746968772074636572696465722065757161706f206b6e696c6e, .str 0 0, .str 0 0, .str 0 0, .str 4 0x2e647362, .str 4 0x2e647362, .str 6 0x65757161706f])) true true 582),
(A 7, .cells (.cat 8 (.l 8 [.nat .u32 0, .nat .u32 0x1db71064, .nat .u32 0x3b6e20c8, .nat .u32 0x26d930ac, .nat .u32 0x76dc4190, .nat .u32 0x6b6b51f4, .nat .u32 0x4db26158, .nat .u32 0x5005713c]) (.l 8 [.nat .u32 0xedb88320, .nat .u32 0xf00f9344, .nat .u32 0xd6d6a3e8, .nat .u32 0xcb61b38c, .nat .u32 0x9b64c2b0, .nat .u32 0x86d3d2d4, .nat .u32 0xa00ae278, .nat .u32 0xbdbdf21c])) true true 758),
(A 9, .cells (.p .u8 256 0x10000000000000000000000000000000000000101010101000000000000000000) true true 769),
(A 57297, .map [] 110),
(A 57298, .cells (.cat 5 (.l 5 [.slu (A 57302) 0 200 128, .nil .s, .i 110, .neg .i64 0, .bool false]) (.l 1 [.map (A 57297)])) true false 126),
(A 57302, bb0),
(A 94271, .cells (.l 1 [.i 1]) true false 3),
(A 94272, .cells (.l 1 [.i 0]) true false 3),
(A 94301, .cells (.p .b 76 1) true false 4),
(A 94304, .map [] 0),
(A 94305, .cells (.cat 17 (.cat 13 (.cat 9 (.cat 4 (.cat 1 (.l 1 [.ptr (A 57298) 0]) (.l 3 [.i 200, .i 82, .i 40])) (.l 5 [.i 1, .i 83, .i 84, .i 124, .i 76])) (.cat 3 (.l 3 [.i 200, .i 82, .i 40]) (.l 1 [.sl (A 94301) 0 76 76]))) (.cat 3 (.l 3 [.i 200, .i 82, .i 40]) (.l 1 [.sl (A 94301) 0 76 76]))) (.l 4 [.map (A 94304), .bool false, .bool false, .bool false])) true false 177)],
.c (.i 0),
[(A 94304, .map [⟨.i 0, .a (.l 3 [.i 0, .i 4, .str 5 0x1000104]), 0⟩] 1)],
[], A 97496⟩
theorem k94307_355 : KnownOk Tryz.prog 355 e94307_355 := known_tab mixed J [(358, e95576_358)] (knCons k95576_358 (knNil)) 1000 (by kernel_rfl)

def e109124_43 : Known := ⟨[.c (.ptr (A 57298) 0), .a (.l 3 [.i 200, .i 82, .i 40])], A 109124,
[(A 1, .cells (.l 6 [.str 0 0, .str 3 0x726964, .str 4 0x656c6966, .str 4 0x6b6e696c, .str 4 0x72616863, .str 5 0x6574696877]) true true 431),
(A 4, .cells (.p .u8 10 0x7409720d6e0a5c5c2222) true true 579),
(A 5, .cells (.cat 8 (.l 8 [.str 0 0, .str 0 0, .str 0 0, .str 16 0x2e79616c7265766f2e64657473757274, .str 8 0x2e79616c7265766f, .str 21 0x74636572696465722065757161706f206b6e696c6e, .str 19 0x2e736679616c7265766f657375662e72657375, .str 5 0x2e65737566]) (.l 7 [.str 30 0x74756f65746968772074636572696465722065757161706f206b6e696c6e, .str 0 0, .str 0 0, .str 0 0, .str 4 0x2e647362, .str 4 0x2e647362, .str 6 0x65757161706f])) true true 582),
(A 7, .cells (.cat 8 (.l 8 [.nat .u32 0, .nat .u32 0x1db71064, .nat .u32 0x3b6e20c8, .nat .u32 0x26d930ac, .nat .u32 0x76dc4190, .nat .u32 0x6b6b51f4, .nat .u32 0x4db26158, .nat .u32 0x5005713c]) (.l 8 [.nat .u32 0xedb88320, .nat .u32 0xf00f9344, .nat .u32 0xd6d6a3e8, .nat .u32 0xcb61b38c, .nat .u32 0x9b64c2b0, .nat .u32 0x86d3d2d4, .nat .u32 0xa00ae278, .nat .u32 0xbdbdf21c])) true true 758),
(A 9, .cells (.p .u8 256 0x10000000000000000000000000000000000000101010101000000000000000000) true true 769),
(A 57297, .map [] 118),
(A 57298, .cells (.cat 5 (.l 5 [.slu (A 57302) 0 200 128, .nil .s, .i 118, .neg .i64 0, .bool false]) (.l 1 [.map (A 57297)])) true false 126),
(A 57302, bb10)],
.t [.a (.cat 6 (.cat 1 (.l 1 [.i 0]) (.l 5 [.i 4, .i 1, .i 1, .i 1, .bool false])) (.l 2 [.i 3, .i 1])), .c (.i 0)],
[],
[], A 112831⟩
theorem k109124_43 : KnownOk Tryz.prog 43 e109124_43 := known_tab mixed J [(143, e110158_143), (144, e111538_144)] (knCons k110158_143 (knCons k111538_144 (knNil))) 1000 (by kernel_rfl)

def e114889_125 : Known := ⟨[.c (.ptr (A 114714) 0), .a (.l 3 [.i 200, .i 82, .i 40])], A 114889,
[(A 1, .cells (.l 6 [.str 0 0, .str 3 0x726964, .str 4 0x656c6966, .str 4 0x6b6e696c, .str 4 0x72616863, .str 5 0x6574696877]) true true 431),
(A 4, .cells (.p .u8 10 0x7409720d6e0a5c5c2222) true true 579),
(A 5, .cells (.cat 8 (.l 8 [.str 0 0, .str 0 0, .str 0 0, .str 16 0x2e79616c7265766f2e64657473757274, .str 8 0x2e79616c7265766f, .str 21 0x74636572696465722065757161706f206b6e696c6e, .str 19 0x2e736679616c7265766f657375662e72657375, .str 5 0x2e65737566]) (.l 7 [.str 30 0x74756f65746968772074636572696465722065757161706f206b6e696c6e, .str 0 0, .str 0 0, .str 0 0, .str 4 0x2e647362, .str 4 0x2e647362, .str 6 0x65757161706f])) true true 582),
(A 7, .cells (.cat 8 (.l 8 [.nat .u32 0, .nat .u32 0x1db71064, .nat .u32 0x3b6e20c8, .nat .u32 0x26d930ac, .nat .u32 0x76dc4190, .nat .u32 0x6b6b51f4, .nat .u32 0x4db26158, .nat .u32 0x5005713c]) (.l 8 [.nat .u32 0xedb88320, .nat .u32 0xf00f9344, .nat .u32 0xd6d6a3e8, .nat .u32 0xcb61b38c, .nat .u32 0x9b64c2b0, .nat .u32 0x86d3d2d4, .nat .u32 0xa00ae278, .nat .u32 0xbdbdf21c])) true true 758),
(A 9, .cells (.p .u8 256 0x10000000000000000000000000000000000000101010101000000000000000000) true true 769),
(A 114713, .map [] 0),
(A 114714, .cells (.cat 5 (.l 5 [.slu (A 114718) 0 200 128, .nil .s, .i 0, .neg .i64 0, .bool false]) (.l 1 [.map (A 114713)])) true false 126),
(A 114718, .cells (.p .u8 25600 0) false false 129)],
.c (.i 0),
[(A 114713, .map [] 90),
(A 114714, .cells (.cat 5 (.l 5 [.slu (A 114718) 0 200 128, .nil .s, .i 90, .neg .i64 0, .bool false]) (.l 1 [.map (A 114713)])) true false 126),
(A 114718, bb2)],
[], A 125802⟩
theorem k114889_125 : KnownOk Tryz.prog 125 e114889_125 := known_tab mixed J [(246, e114890_246)] (knCons k114890_246 (knNil)) 1000 (by kernel_rfl)
end Go.Proofs.YtfdhdhmeahdpbaaGreatDoor
