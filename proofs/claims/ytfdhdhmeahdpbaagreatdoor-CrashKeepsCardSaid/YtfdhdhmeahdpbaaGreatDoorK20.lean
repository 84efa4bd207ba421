/- Known calls, shown by runs of the evaluator: crash.world .end, load.alone, crash.world .calls. -/
import Derived.Test.YtfdhdhmeahdpbaaGreatDoorDat
import Derived.Test.YtfdhdhmeahdpbaaGreatDoorK03
import Derived.Test.YtfdhdhmeahdpbaaGreatDoorK14
import Derived.Test.YtfdhdhmeahdpbaaGreatDoorK15
namespace Go.Proofs.YtfdhdhmeahdpbaaGreatDoor
open Go Ev
set_option maxRecDepth 1000000
def e50819_30 : Known := ⟨[.c (.ptr (A 38079) 0)], A 50819,
[(A 1, .cells (.l 6 [.str 0 0, .str 3 0x726964, .str 4 0x656c6966, .str 4 0x6b6e696c, .str 4 0x72616863, .str 5 0x6574696877]) true true 431),
(A 4, .cells (.p .u8 10 0x7409720d6e0a5c5c2222) true true 579),
(A 5, .cells (.cat 8 (.l 8 [.str 0 0, .str 0 0, .str 0 0, .str 16 0x2e79616c7265766f2e64657473757274, .str 8 0x2e79616c7265766f, .str 21 0x74636572696465722065757161706f206b6e696c6e, .str 19 0x2e736679616c7265766f657375662e72657375, .str 5 0x2e65737566]) (.l 7 [.str 30 0x74756f65746968772074636572696465722065757161706f206b6e696c6e, .str 0 0, .str 0 0, .str 0 0, .str 4 0x2e647362, .str 4 0x2e647362, .str 6 0x65757161706f])) true true 582),
(A 7, .cells (.cat 8 (.l 8 [.nat .u32 0, .nat .u32 0x1db71064, .nat .u32 0x3b6e20c8, .nat .u32 0x26d930ac, .nat .u32 0x76dc4190, .nat .u32 0x6b6b51f4, .nat .u32 0x4db26158, .nat .u32 0x5005713c]) (.l 8 [.nat .u32 0xedb88320, .nat .u32 0xf00f9344, .nat .u32 0xd6d6a3e8, .nat .u32 0xcb61b38c, .nat .u32 0x9b64c2b0, .nat .u32 0x86d3d2d4, .nat .u32 0xa00ae278, .nat .u32 0xbdbdf21c])) true true 758),
(A 9, .cells (.p .u8 256 0x10000000000000000000000000000000000000101010101000000000000000000) true true 769),
(A 1002, .cells (.cat 20 (.cat 10 (.cat 9 (.cat 8 (.l 8 [.i 0, .str 0 0, .i 1, .nil .s, .str 0 0, .i 0, .i 0, .i 0]) (.l 1 [.bool false])) (.l 1 [.nil .s])) (.cat 9 (.cat 8 (.l 8 [.i 1, .str 1 102, .i 2, .nil .s, .str 0 0, .i 0, .i 0, .i 0]) (.l 1 [.bool false])) (.l 1 [.nil .s]))) (.cat 9 (.cat 8 (.l 8 [.i 1, .str 1 119, .i 5, .nil .s, .str 0 0, .i 0, .i 0, .i 0]) (.l 1 [.bool false])) (.l 1 [.nil .s]))) true false 70),
(A 1003, .cells (.cat 4 (.l 4 [.i 1, .i 1, .neg .i64 0, .nil .s]) (.l 4 [.i 2, .i 0, .i 1, .sl (A 1005) 0 1 1])) true false 40),
(A 1005, .cells (.l 1 [.i 0]) true false 3),
(A 1111, .map [] 115),
(A 1112, .cells (.cat 5 (.l 5 [.slu (A 1116) 0 200 128, .nil .s, .i 115, .neg .i64 0, .bool false]) (.l 1 [.map (A 1111)])) true false 126),
(A 1116, bb8),
(A 38079, .cells (.cat 6 (.cat 3 (.l 3 [.i 200, .i 82, .i 40]) (.l 3 [.i 4, .sl (A 1002) 0 3 3, .sl (A 1003) 0 2 2])) (.l 1 [.ptr (A 1112) 0])) true false 93)],
.t [.a (.l 5 [.i 4, .i 1, .i 0, .i 1, .bool false]), .c (.bool true), .c (.i 0)],
[(A 1111, .map [] 116),
(A 1112, .cells (.cat 5 (.l 5 [.slu (A 1116) 0 200 128, .nil .s, .i 116, .neg .i64 0, .bool false]) (.l 1 [.map (A 1111)])) true false 126),
(A 1116, bb9)],
[], A 57152⟩
theorem k50819_30 : KnownOk Tryz.prog 30 e50819_30 := known_tab mixed J [(43, e50820_43)] (knCons k50820_43 (knNil)) 1000 (by kernel_rfl)

def e68396_126 : Known := ⟨[.c (.ptr (A 57298) 0), .a (.l 3 [.i 200, .i 82, .i 40]), .c (.fn (.func 129) 0 (.cns (.ptr (A 68389) 0) (.cns (.ptr (A 68392) 0) (.cns (.ptr (A 68395) 0) (.cns (.ptr (A 68387) 0) (.cns (.ptr (A 68391) 0) (.undef)))))))], A 68396,
[(A 1, .cells (.l 6 [.str 0 0, .str 3 0x726964, .str 4 0x656c6966, .str 4 0x6b6e696c, .str 4 0x72616863, .str 5 0x6574696877]) true true 431),
(A 4, .cells (.p .u8 10 0x7409720d6e0a5c5c2222) true true 579),
(A 5, .cells (.cat 8 (.l 8 [.str 0 0, .str 0 0, .str 0 0, .str 16 0x2e79616c7265766f2e64657473757274, .str 8 0x2e79616c7265766f, .str 21 0x74636572696465722065757161706f206b6e696c6e, .str 19 0x2e736679616c7265766f657375662e72657375, .str 5 0x2e65737566]) (.l 7 [.str 30 0x74756f65746968772074636572696465722065757161706f206b6e696c6e, .str 0 0, .str 0 0, .str 0 0, .str 4 0x2e647362, .str 4 0x2e647362, .str 6 0x65757161706f])) true true 582),
(A 7, .cells (.cat 8 (.l 8 [.nat .u32 0, .nat .u32 0x1db71064, .nat .u32 0x3b6e20c8, .nat .u32 0x26d930ac, .nat .u32 0x76dc4190, .nat .u32 0x6b6b51f4, .nat .u32 0x4db26158, .nat .u32 0x5005713c]) (.l 8 [.nat .u32 0xedb88320, .nat .u32 0xf00f9344, .nat .u32 0xd6d6a3e8, .nat .u32 0xcb61b38c, .nat .u32 0x9b64c2b0, .nat .u32 0x86d3d2d4, .nat .u32 0xa00ae278, .nat .u32 0xbdbdf21c])) true true 758),
(A 9, .cells (.p .u8 256 0x10000000000000000000000000000000000000101010101000000000000000000) true true 769),
(A 57297, .map [] 90),
(A 57298, .cells (.cat 5 (.l 5 [.slu (A 57302) 0 200 128, .nil .s, .i 90, .neg .i64 0, .bool false]) (.l 1 [.map (A 57297)])) true false 126),
(A 57302, bb2),
(A 68386, .cells (.l 3 [.i 1, .i 0, .i 0]) true false 3),
(A 68387, .cells (.l 1 [.sl (A 68386) 0 3 3]) true false 27),
(A 68388, .map [] 0),
(A 68389, .cells (.l 1 [.map (A 68388)]) true false 124),
(A 68391, .cells (.l 1 [.i 1]) true false 3),
(A 68392, .cells (.l 8 [.i 1, .str 1 102, .i 2, .nil .s, .str 0 0, .i 0, .i 0, .i 0]) true false 201),
(A 68395, .cells (.l 1 [.i 1]) true false 3)],
.c (.i 0),
[(A 57297, .map [] 100),
(A 57298, .cells (.cat 5 (.l 5 [.slu (A 57302) 0 200 128, .nil .s, .i 100, .neg .i64 0, .bool false]) (.l 1 [.map (A 57297)])) true false 126),
(A 57302, bb4),
(A 68386, .cells (.l 3 [.i 1, .i 2, .i 0]) true false 3),
(A 68388, .map [⟨.i 0, .c (.i 2), 0⟩] 1)],
[], A 81222⟩
theorem k68396_126 : KnownOk Tryz.prog 126 e68396_126 := known_tab mixed J [(248, e69752_248)] (knCons k69752_248 (knNil)) 1000 (by kernel_rfl)

def e94266_29 : Known := ⟨[.c (.ptr (A 94265) 0), .c (.sl (A 57193) 0 2 2)], A 94266,
[(A 1, .cells (.l 6 [.str 0 0, .str 3 0x726964, .str 4 0x656c6966, .str 4 0x6b6e696c, .str 4 0x72616863, .str 5 0x6574696877]) true true 431),
(A 4, .cells (.p .u8 10 0x7409720d6e0a5c5c2222) true true 579),
(A 5, .cells (.cat 8 (.l 8 [.str 0 0, .str 0 0, .str 0 0, .str 16 0x2e79616c7265766f2e64657473757274, .str 8 0x2e79616c7265766f, .str 21 0x74636572696465722065757161706f206b6e696c6e, .str 19 0x2e736679616c7265766f657375662e72657375, .str 5 0x2e65737566]) (.l 7 [.str 30 0x74756f65746968772074636572696465722065757161706f206b6e696c6e, .str 0 0, .str 0 0, .str 0 0, .str 4 0x2e647362, .str 4 0x2e647362, .str 6 0x65757161706f])) true true 582),
(A 7, .cells (.cat 8 (.l 8 [.nat .u32 0, .nat .u32 0x1db71064, .nat .u32 0x3b6e20c8, .nat .u32 0x26d930ac, .nat .u32 0x76dc4190, .nat .u32 0x6b6b51f4, .nat .u32 0x4db26158, .nat .u32 0x5005713c]) (.l 8 [.nat .u32 0xedb88320, .nat .u32 0xf00f9344, .nat .u32 0xd6d6a3e8, .nat .u32 0xcb61b38c, .nat .u32 0x9b64c2b0, .nat .u32 0x86d3d2d4, .nat .u32 0xa00ae278, .nat .u32 0xbdbdf21c])) true true 758),
(A 9, .cells (.p .u8 256 0x10000000000000000000000000000000000000101010101000000000000000000) true true 769),
(A 57192, .cells (.cat 20 (.cat 10 (.cat 9 (.cat 8 (.l 8 [.i 0, .str 0 0, .i 1, .nil .s, .str 0 0, .i 0, .i 0, .i 0]) (.l 1 [.bool false])) (.l 1 [.nil .s])) (.cat 9 (.cat 8 (.l 8 [.i 1, .str 1 102, .i 2, .nil .s, .str 0 0, .i 0, .i 0, .i 0]) (.l 1 [.bool false])) (.l 1 [.nil .s]))) (.cat 9 (.cat 8 (.l 8 [.i 1, .str 1 119, .i 5, .nil .s, .str 0 0, .i 0, .i 0, .i 0]) (.l 1 [.bool false])) (.l 1 [.nil .s]))) true false 70),
(A 57193, .cells (.cat 4 (.l 4 [.i 1, .i 1, .neg .i64 0, .nil .s]) (.l 4 [.i 2, .i 0, .neg .i64 0, .nil .s])) true false 40),
(A 57297, .map [] 110),
(A 57298, .cells (.cat 5 (.l 5 [.slu (A 57302) 0 200 128, .nil .s, .i 110, .neg .i64 0, .bool false]) (.l 1 [.map (A 57297)])) true false 126),
(A 57302, bb0),
(A 94265, .cells (.cat 6 (.cat 3 (.l 3 [.i 200, .i 82, .i 40]) (.l 3 [.i 4, .sl (A 57192) 0 3 3, .sl (A 57193) 0 2 2])) (.l 1 [.ptr (A 57298) 0])) true false 93)],
.c (.slu (A 109121) 0 2 4),
[(A 57297, .map [] 118),
(A 57298, .cells (.cat 5 (.l 5 [.slu (A 57302) 0 200 128, .nil .s, .i 118, .neg .i64 0, .bool false]) (.l 1 [.map (A 57297)])) true false 126),
(A 57302, bb10),
(A 109121, .cells (.cat 4 (.l 4 [.i 0, .i 4, .bool false, .i 0]) (.l 4 [.i 0, .i 4, .bool false, .i 0])) false false 51)],
[], A 109122⟩
theorem k94266_29 : KnownOk Tryz.prog 29 e94266_29 := known_tab mixed J [(355, e94307_355), (39, e102709_39)] (knCons k94307_355 (knCons k102709_39 (knNil))) 1000 (by kernel_rfl)
end Go.Proofs.YtfdhdhmeahdpbaaGreatDoor
