/- Known calls, shown by runs of the evaluator: load.alone 1, load.alone 1, load.alone. -/
import Derived.Test.YtnjlcdofdcnecaaGreatDoorDat
import Derived.Test.YtnjlcdofdcnecaaGreatDoorK01
namespace Go.Proofs.YtnjlcdofdcnecaaGreatDoor
open Go Ev
set_option maxRecDepth 1000000
def e38903_163 : Known := ⟨[.c (.ptr (A 37805) 0), .c (.ptr (A 37837) 0)], A 38903,
[(A 3, .cells (.cat 8 (.l 8 [.str 0 0, .str 0 0, .str 0 0, .str 16 0x2e79616c7265766f2e64657473757274, .str 8 0x2e79616c7265766f, .str 21 0x74636572696465722065757161706f206b6e696c6e, .str 19 0x2e736679616c7265766f657375662e72657375, .str 5 0x2e65737566]) (.l 7 [.str 30 0x74756f65746968772074636572696465722065757161706f206b6e696c6e, .str 0 0, .str 0 0, .str 0 0, .str 4 0x2e647362, .str 4 0x2e647362, .str 6 0x65757161706f])) true true 625),
(A 5, .cells (.cat 8 (.l 8 [.nat .u32 0, .nat .u32 0x1db71064, .nat .u32 0x3b6e20c8, .nat .u32 0x26d930ac, .nat .u32 0x76dc4190, .nat .u32 0x6b6b51f4, .nat .u32 0x4db26158, .nat .u32 0x5005713c]) (.l 8 [.nat .u32 0xedb88320, .nat .u32 0xf00f9344, .nat .u32 0xd6d6a3e8, .nat .u32 0xcb61b38c, .nat .u32 0x9b64c2b0, .nat .u32 0x86d3d2d4, .nat .u32 0xa00ae278, .nat .u32 0xbdbdf21c])) true true 684),
(A 6, .cells (.p .u8 256 0x10000000000000000000000000000000000000101010101000000000000000000) true true 740),
(A 1006, .map [] 88),
(A 1007, .cells (.cat 5 (.l 5 [.slu (A 1011) 0 128 128, .nil .s, .i 88, .neg .i64 0, .bool false]) (.l 1 [.map (A 1006)])) true false 184),
(A 1011, bb6),
(A 37805, .cells (.l 1 [.i 0]) true false 26),
(A 37832, .cells (.p .b 56 3) true false 4),
(A 37835, .map [⟨.i 65, .a (.l 3 [.i 65, .i 6, .str 9 0x1000000000101]), 0⟩, ⟨.i 72, .a (.l 3 [.i 72, .i 7, .str 17 0x46101026b6e6c702e68772e2e68772e0c]), 1⟩, ⟨.i 62, .a (.l 3 [.i 62, .i 6, .str 13 0x101000000020101]), 2⟩] 3),
(A 37836, .cells (.cat 17 (.cat 13 (.cat 9 (.cat 4 (.cat 1 (.l 1 [.ptr (A 1007) 0]) (.l 3 [.i 128, .i 60, .i 10])) (.l 5 [.i 1, .i 61, .i 62, .i 72, .i 56])) (.cat 3 (.l 3 [.i 128, .i 60, .i 10]) (.l 1 [.sl (A 37832) 0 56 56]))) (.cat 3 (.l 3 [.i 128, .i 60, .i 10]) (.l 1 [.sl (A 37832) 0 56 56]))) (.l 4 [.map (A 37835), .bool false, .bool false, .bool false])) true false 135),
(A 37837, .cells (.l 1 [.ptr (A 37836) 0]) true false 58)],
.t [],
[(A 1006, .map [] 96),
(A 1007, .cells (.cat 5 (.l 5 [.slu (A 1011) 0 128 128, .nil .s, .i 96, .neg .i64 0, .bool false]) (.l 1 [.map (A 1006)])) true false 184),
(A 1011, bb9),
(A 37836, .cells (.cat 17 (.cat 13 (.cat 9 (.cat 4 (.cat 1 (.l 1 [.ptr (A 1007) 0]) (.l 3 [.i 128, .i 60, .i 10])) (.l 5 [.i 1, .i 61, .i 62, .i 72, .i 56])) (.cat 3 (.l 3 [.i 128, .i 60, .i 10]) (.l 1 [.sl (A 37832) 0 56 56]))) (.cat 3 (.l 3 [.i 128, .i 60, .i 10]) (.l 1 [.sl (A 37832) 0 56 56]))) (.l 4 [.map (A 37835), .bool false, .bool false, .bool true])) true false 135)],
[], A 48274⟩
theorem k38903_163 : KnownOk Tryz.prog 163 e38903_163 := known_tab mixed J [(344, e44074_344)] (knCons k44074_344 (knNil)) 1000 (by kernel_rfl)

def e49465_163 : Known := ⟨[.c (.ptr (A 48280) 0), .c (.ptr (A 48312) 0)], A 49465,
[(A 3, .cells (.cat 8 (.l 8 [.str 0 0, .str 0 0, .str 0 0, .str 16 0x2e79616c7265766f2e64657473757274, .str 8 0x2e79616c7265766f, .str 21 0x74636572696465722065757161706f206b6e696c6e, .str 19 0x2e736679616c7265766f657375662e72657375, .str 5 0x2e65737566]) (.l 7 [.str 30 0x74756f65746968772074636572696465722065757161706f206b6e696c6e, .str 0 0, .str 0 0, .str 0 0, .str 4 0x2e647362, .str 4 0x2e647362, .str 6 0x65757161706f])) true true 625),
(A 5, .cells (.cat 8 (.l 8 [.nat .u32 0, .nat .u32 0x1db71064, .nat .u32 0x3b6e20c8, .nat .u32 0x26d930ac, .nat .u32 0x76dc4190, .nat .u32 0x6b6b51f4, .nat .u32 0x4db26158, .nat .u32 0x5005713c]) (.l 8 [.nat .u32 0xedb88320, .nat .u32 0xf00f9344, .nat .u32 0xd6d6a3e8, .nat .u32 0xcb61b38c, .nat .u32 0x9b64c2b0, .nat .u32 0x86d3d2d4, .nat .u32 0xa00ae278, .nat .u32 0xbdbdf21c])) true true 684),
(A 6, .cells (.p .u8 256 0x10000000000000000000000000000000000000101010101000000000000000000) true true 740),
(A 1006, .map [] 96),
(A 1007, .cells (.cat 5 (.l 5 [.slu (A 1011) 0 128 128, .nil .s, .i 96, .neg .i64 0, .bool false]) (.l 1 [.map (A 1006)])) true false 184),
(A 1011, bb9),
(A 48280, .cells (.l 1 [.i 0]) true false 26),
(A 48307, .cells (.p .b 56 3) true false 4),
(A 48310, .map [⟨.i 66, .a (.l 3 [.i 66, .i 6, .str 9 258]), 0⟩, ⟨.i 74, .a (.l 3 [.i 74, .i 7, .str 13 0x571706f2e68772e2e68772e0b]), 1⟩, ⟨.i 65, .a (.l 3 [.i 65, .i 6, .str 13 0x20101000000010101]), 2⟩] 3),
(A 48311, .cells (.cat 17 (.cat 13 (.cat 9 (.cat 4 (.cat 1 (.l 1 [.ptr (A 1007) 0]) (.l 3 [.i 128, .i 60, .i 10])) (.l 5 [.i 1, .i 61, .i 62, .i 72, .i 56])) (.cat 3 (.l 3 [.i 128, .i 60, .i 10]) (.l 1 [.sl (A 48307) 0 56 56]))) (.cat 3 (.l 3 [.i 128, .i 60, .i 10]) (.l 1 [.slu (A 49320) 0 56 1]))) (.l 4 [.map (A 48310), .bool true, .bool false, .bool false])) true false 135),
(A 48312, .cells (.l 1 [.ptr (A 48311) 0]) true false 58),
(A 49320, .cells (.p .b 56 7) false false 4)],
.t [],
[(A 1006, .map [] 106),
(A 1007, .cells (.cat 5 (.l 5 [.slu (A 1011) 0 128 128, .nil .s, .i 106, .neg .i64 0, .bool false]) (.l 1 [.map (A 1006)])) true false 184),
(A 1011, bb12),
(A 48311, .cells (.cat 17 (.cat 13 (.cat 9 (.cat 4 (.cat 1 (.l 1 [.ptr (A 1007) 0]) (.l 3 [.i 128, .i 60, .i 10])) (.l 5 [.i 1, .i 61, .i 62, .i 72, .i 56])) (.cat 3 (.l 3 [.i 128, .i 60, .i 10]) (.l 1 [.sl (A 48307) 0 56 56]))) (.cat 3 (.l 3 [.i 128, .i 60, .i 10]) (.l 1 [.slu (A 49320) 0 56 1]))) (.l 4 [.map (A 48310), .bool true, .bool false, .bool true])) true false 135)],
[], A 60935⟩
theorem k49465_163 : KnownOk Tryz.prog 163 e49465_163 := known_tab mixed J [(344, e55693_344)] (knCons k55693_344 (knNil)) 1000 (by kernel_rfl)

def e60940_67 : Known := ⟨[.c (.ptr (A 1007) 0), .a (.l 3 [.i 128, .i 60, .i 10]), .c (.fn (.func 70) 0 (.cns (.ptr (A 13040) 0) (.cns (.ptr (A 60936) 0) (.cns (.ptr (A 60939) 0) (.cns (.ptr (A 13038) 0) (.cns (.ptr (A 60935) 0) (.undef)))))))], A 60940,
[(A 3, .cells (.cat 8 (.l 8 [.str 0 0, .str 0 0, .str 0 0, .str 16 0x2e79616c7265766f2e64657473757274, .str 8 0x2e79616c7265766f, .str 21 0x74636572696465722065757161706f206b6e696c6e, .str 19 0x2e736679616c7265766f657375662e72657375, .str 5 0x2e65737566]) (.l 7 [.str 30 0x74756f65746968772074636572696465722065757161706f206b6e696c6e, .str 0 0, .str 0 0, .str 0 0, .str 4 0x2e647362, .str 4 0x2e647362, .str 6 0x65757161706f])) true true 625),
(A 5, .cells (.cat 8 (.l 8 [.nat .u32 0, .nat .u32 0x1db71064, .nat .u32 0x3b6e20c8, .nat .u32 0x26d930ac, .nat .u32 0x76dc4190, .nat .u32 0x6b6b51f4, .nat .u32 0x4db26158, .nat .u32 0x5005713c]) (.l 8 [.nat .u32 0xedb88320, .nat .u32 0xf00f9344, .nat .u32 0xd6d6a3e8, .nat .u32 0xcb61b38c, .nat .u32 0x9b64c2b0, .nat .u32 0x86d3d2d4, .nat .u32 0xa00ae278, .nat .u32 0xbdbdf21c])) true true 684),
(A 6, .cells (.p .u8 256 0x10000000000000000000000000000000000000101010101000000000000000000) true true 740),
(A 1006, .map [] 106),
(A 1007, .cells (.cat 5 (.l 5 [.slu (A 1011) 0 128 128, .nil .s, .i 106, .neg .i64 0, .bool false]) (.l 1 [.map (A 1006)])) true false 184),
(A 1011, bb12),
(A 13037, .cells (.l 7 [.i 1, .i 2, .i 3, .i 4, .i 5, .i 0, .i 0]) true false 3),
(A 13038, .cells (.l 1 [.sl (A 13037) 0 7 7]) true false 78),
(A 13039, .map [⟨.i 0, .c (.i 5), 0⟩, ⟨.i 1, .c (.i 3), 1⟩] 2),
(A 13040, .cells (.l 1 [.map (A 13039)]) true false 136),
(A 60935, .cells (.l 1 [.i 5]) true false 3),
(A 60936, .cells (.l 8 [.i 2, .str 1 102, .i 2, .nil .s, .str 0 0, .i 0, .i 0, .i 1]) true false 114),
(A 60939, .cells (.l 1 [.i 4]) true false 3)],
.c (.i 0),
[(A 1006, .map [] 114),
(A 1007, .cells (.cat 5 (.l 5 [.slu (A 1011) 0 128 128, .nil .s, .i 114, .neg .i64 0, .bool false]) (.l 1 [.map (A 1006)])) true false 184),
(A 1011, bb15)],
[], A 70966⟩
theorem k60940_67 : KnownOk Tryz.prog 67 e60940_67 := known_tab mixed J [(181, e62642_181)] (knCons k62642_181 (knNil)) 1000 (by kernel_rfl)
end Go.Proofs.YtnjlcdofdcnecaaGreatDoor
