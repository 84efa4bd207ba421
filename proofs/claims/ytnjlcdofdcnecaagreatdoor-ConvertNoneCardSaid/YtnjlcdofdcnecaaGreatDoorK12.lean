/- Known calls, shown by runs of the evaluator: load.alone, convert.Start 1, convert.Step. -/
import Derived.Test.YtnjlcdofdcnecaaGreatDoorDat
import Derived.Test.YtnjlcdofdcnecaaGreatDoorK03
import Derived.Test.YtnjlcdofdcnecaaGreatDoorK04
import Derived.Test.YtnjlcdofdcnecaaGreatDoorK09
namespace Go.Proofs.YtnjlcdofdcnecaaGreatDoor
open Go Ev
set_option maxRecDepth 1000000
def e70971_67 : Known := ⟨[.c (.ptr (A 1007) 0), .a (.l 3 [.i 128, .i 60, .i 10]), .c (.fn (.func 70) 0 (.cns (.ptr (A 13040) 0) (.cns (.ptr (A 70967) 0) (.cns (.ptr (A 70970) 0) (.cns (.ptr (A 13038) 0) (.cns (.ptr (A 70966) 0) (.undef)))))))], A 70971,
[(A 3, .cells (.cat 8 (.l 8 [.str 0 0, .str 0 0, .str 0 0, .str 16 0x2e79616c7265766f2e64657473757274, .str 8 0x2e79616c7265766f, .str 21 0x74636572696465722065757161706f206b6e696c6e, .str 19 0x2e736679616c7265766f657375662e72657375, .str 5 0x2e65737566]) (.l 7 [.str 30 0x74756f65746968772074636572696465722065757161706f206b6e696c6e, .str 0 0, .str 0 0, .str 0 0, .str 4 0x2e647362, .str 4 0x2e647362, .str 6 0x65757161706f])) true true 625),
(A 5, .cells (.cat 8 (.l 8 [.nat .u32 0, .nat .u32 0x1db71064, .nat .u32 0x3b6e20c8, .nat .u32 0x26d930ac, .nat .u32 0x76dc4190, .nat .u32 0x6b6b51f4, .nat .u32 0x4db26158, .nat .u32 0x5005713c]) (.l 8 [.nat .u32 0xedb88320, .nat .u32 0xf00f9344, .nat .u32 0xd6d6a3e8, .nat .u32 0xcb61b38c, .nat .u32 0x9b64c2b0, .nat .u32 0x86d3d2d4, .nat .u32 0xa00ae278, .nat .u32 0xbdbdf21c])) true true 684),
(A 6, .cells (.p .u8 256 0x10000000000000000000000000000000000000101010101000000000000000000) true true 740),
(A 1006, .map [] 114),
(A 1007, .cells (.cat 5 (.l 5 [.slu (A 1011) 0 128 128, .nil .s, .i 114, .neg .i64 0, .bool false]) (.l 1 [.map (A 1006)])) true false 184),
(A 1011, bb15),
(A 13037, .cells (.l 7 [.i 1, .i 2, .i 3, .i 4, .i 5, .i 0, .i 0]) true false 3),
(A 13038, .cells (.l 1 [.sl (A 13037) 0 7 7]) true false 78),
(A 13039, .map [⟨.i 0, .c (.i 5), 0⟩, ⟨.i 1, .c (.i 3), 1⟩] 2),
(A 13040, .cells (.l 1 [.map (A 13039)]) true false 136),
(A 70966, .cells (.l 1 [.i 6]) true false 3),
(A 70967, .cells (.l 8 [.i 1, .str 1 103, .i 2, .nil .s, .str 0 0, .i 0, .i 0, .i 1]) true false 114),
(A 70970, .cells (.l 1 [.i 1]) true false 3)],
.c (.i 0),
[(A 1006, .map [] 122),
(A 1007, .cells (.cat 5 (.l 5 [.slu (A 1011) 0 128 128, .nil .s, .i 122, .neg .i64 0, .bool false]) (.l 1 [.map (A 1006)])) true false 184),
(A 1011, bb16)],
[], A 81029⟩
theorem k70971_67 : KnownOk Tryz.prog 67 e70971_67 := known_tab mixed J [(163, e71658_163)] (knCons k71658_163 (knNil)) 1000 (by kernel_rfl)

def e86373_27 : Known := ⟨[.c (.ptr (A 86371) 0), .c (.ptr (A 86337) 0), .c (.ptr (A 86338) 0)], A 86373,
[(A 3, .cells (.cat 8 (.l 8 [.str 0 0, .str 0 0, .str 0 0, .str 16 0x2e79616c7265766f2e64657473757274, .str 8 0x2e79616c7265766f, .str 21 0x74636572696465722065757161706f206b6e696c6e, .str 19 0x2e736679616c7265766f657375662e72657375, .str 5 0x2e65737566]) (.l 7 [.str 30 0x74756f65746968772074636572696465722065757161706f206b6e696c6e, .str 0 0, .str 0 0, .str 0 0, .str 4 0x2e647362, .str 4 0x2e647362, .str 6 0x65757161706f])) true true 625),
(A 5, .cells (.cat 8 (.l 8 [.nat .u32 0, .nat .u32 0x1db71064, .nat .u32 0x3b6e20c8, .nat .u32 0x26d930ac, .nat .u32 0x76dc4190, .nat .u32 0x6b6b51f4, .nat .u32 0x4db26158, .nat .u32 0x5005713c]) (.l 8 [.nat .u32 0xedb88320, .nat .u32 0xf00f9344, .nat .u32 0xd6d6a3e8, .nat .u32 0xcb61b38c, .nat .u32 0x9b64c2b0, .nat .u32 0x86d3d2d4, .nat .u32 0xa00ae278, .nat .u32 0xbdbdf21c])) true true 684),
(A 6, .cells (.p .u8 256 0x10000000000000000000000000000000000000101010101000000000000000000) true true 740),
(A 1006, .map [] 126),
(A 1007, .cells (.cat 5 (.l 5 [.slu (A 1011) 0 128 128, .nil .s, .i 126, .neg .i64 0, .bool false]) (.l 1 [.map (A 1006)])) true false 184),
(A 1011, bb0),
(A 86337, .cells (.l 1 [.i 4]) true false 3),
(A 86338, .cells (.l 1 [.i 0]) true false 3),
(A 86367, .cells (.p .b 56 7) true false 4),
(A 86370, .map [] 0),
(A 86371, .cells (.cat 17 (.cat 13 (.cat 9 (.cat 4 (.cat 1 (.l 1 [.ptr (A 1007) 0]) (.l 3 [.i 128, .i 60, .i 10])) (.l 5 [.i 1, .i 61, .i 62, .i 72, .i 56])) (.cat 3 (.l 3 [.i 128, .i 60, .i 10]) (.l 1 [.sl (A 86367) 0 56 56]))) (.cat 3 (.l 3 [.i 128, .i 60, .i 10]) (.l 1 [.sl (A 86367) 0 56 56]))) (.l 4 [.map (A 86370), .bool false, .bool false, .bool false])) true false 135)],
.c (.i 0),
[(A 86370, .map [⟨.i 0, .a (.l 3 [.i 0, .i 4, .str 5 0x2000403]), 0⟩] 1)],
[], A 97220⟩
theorem k86373_27 : KnownOk Tryz.prog 27 e86373_27 := known_tab mixed J [(55, e86447_55), (29, e89715_29), (80, e92360_80)] (knCons k86447_55 (knCons k89715_29 (knCons k92360_80 (knNil)))) 1000 (by kernel_rfl)

def e102431_10 : Known := ⟨[.c (.ptr (A 1007) 0), .a (.l 3 [.i 128, .i 60, .i 10])], A 102431,
[(A 3, .cells (.cat 8 (.l 8 [.str 0 0, .str 0 0, .str 0 0, .str 16 0x2e79616c7265766f2e64657473757274, .str 8 0x2e79616c7265766f, .str 21 0x74636572696465722065757161706f206b6e696c6e, .str 19 0x2e736679616c7265766f657375662e72657375, .str 5 0x2e65737566]) (.l 7 [.str 30 0x74756f65746968772074636572696465722065757161706f206b6e696c6e, .str 0 0, .str 0 0, .str 0 0, .str 4 0x2e647362, .str 4 0x2e647362, .str 6 0x65757161706f])) true true 625),
(A 5, .cells (.cat 8 (.l 8 [.nat .u32 0, .nat .u32 0x1db71064, .nat .u32 0x3b6e20c8, .nat .u32 0x26d930ac, .nat .u32 0x76dc4190, .nat .u32 0x6b6b51f4, .nat .u32 0x4db26158, .nat .u32 0x5005713c]) (.l 8 [.nat .u32 0xedb88320, .nat .u32 0xf00f9344, .nat .u32 0xd6d6a3e8, .nat .u32 0xcb61b38c, .nat .u32 0x9b64c2b0, .nat .u32 0x86d3d2d4, .nat .u32 0xa00ae278, .nat .u32 0xbdbdf21c])) true true 684),
(A 6, .cells (.p .u8 256 0x10000000000000000000000000000000000000101010101000000000000000000) true true 740),
(A 1006, .map [] 130),
(A 1007, .cells (.cat 5 (.l 5 [.slu (A 1011) 0 128 128, .nil .s, .i 130, .neg .i64 0, .bool false]) (.l 1 [.map (A 1006)])) true false 184),
(A 1011, bb19)],
.t [.a (.l 8 [.neg .i64 0, .i 0, .i 6, .i 14, .i 0, .i 1, .i 2, .i 0]), .c (.i 0)],
[(A 1006, .map [] 144),
(A 1007, .cells (.cat 5 (.l 5 [.slu (A 1011) 0 128 128, .nil .s, .i 144, .neg .i64 0, .bool false]) (.l 1 [.map (A 1006)])) true false 184),
(A 1011, bb20)],
[], A 121175⟩
theorem k102431_10 : KnownOk Tryz.prog 10 e102431_10 := known_tab mixed J [(34, e102471_34), (91, e105523_91), (344, e113849_344)] (knCons k102471_34 (knCons k105523_91 (knCons k113849_344 (knNil)))) 1000 (by kernel_rfl)
end Go.Proofs.YtnjlcdofdcnecaaGreatDoor
