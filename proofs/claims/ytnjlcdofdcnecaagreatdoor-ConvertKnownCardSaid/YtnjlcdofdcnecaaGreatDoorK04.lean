/- Known calls, shown by runs of the evaluator: load.alone, journal.Commit, load.alone. -/
import Derived.Test.YtnjlcdofdcnecaaGreatDoorDat
import Derived.Test.YtnjlcdofdcnecaaGreatDoorK03
namespace Go.Proofs.YtnjlcdofdcnecaaGreatDoor
open Go Ev
set_option maxRecDepth 1000000
def e48279_67 : Known := ⟨[.c (.ptr (A 1007) 0), .a (.l 3 [.i 128, .i 60, .i 10]), .c (.fn (.func 70) 0 (.cns (.ptr (A 13040) 0) (.cns (.ptr (A 48275) 0) (.cns (.ptr (A 48278) 0) (.cns (.ptr (A 13038) 0) (.cns (.ptr (A 48274) 0) (.undef)))))))], A 48279,
[(A 3, .cells (.cat 8 (.l 8 [.str 0 0, .str 0 0, .str 0 0, .str 16 0x2e79616c7265766f2e64657473757274, .str 8 0x2e79616c7265766f, .str 21 0x74636572696465722065757161706f206b6e696c6e, .str 19 0x2e736679616c7265766f657375662e72657375, .str 5 0x2e65737566]) (.l 7 [.str 30 0x74756f65746968772074636572696465722065757161706f206b6e696c6e, .str 0 0, .str 0 0, .str 0 0, .str 4 0x2e647362, .str 4 0x2e647362, .str 6 0x65757161706f])) true true 625),
(A 5, .cells (.cat 8 (.l 8 [.nat .u32 0, .nat .u32 0x1db71064, .nat .u32 0x3b6e20c8, .nat .u32 0x26d930ac, .nat .u32 0x76dc4190, .nat .u32 0x6b6b51f4, .nat .u32 0x4db26158, .nat .u32 0x5005713c]) (.l 8 [.nat .u32 0xedb88320, .nat .u32 0xf00f9344, .nat .u32 0xd6d6a3e8, .nat .u32 0xcb61b38c, .nat .u32 0x9b64c2b0, .nat .u32 0x86d3d2d4, .nat .u32 0xa00ae278, .nat .u32 0xbdbdf21c])) true true 684),
(A 6, .cells (.p .u8 256 0x10000000000000000000000000000000000000101010101000000000000000000) true true 740),
(A 1006, .map [] 96),
(A 1007, .cells (.cat 5 (.l 5 [.slu (A 1011) 0 128 128, .nil .s, .i 96, .neg .i64 0, .bool false]) (.l 1 [.map (A 1006)])) true false 184),
(A 1011, bb9),
(A 13037, .cells (.l 7 [.i 1, .i 2, .i 3, .i 4, .i 0, .i 0, .i 0]) true false 3),
(A 13038, .cells (.l 1 [.sl (A 13037) 0 7 7]) true false 78),
(A 13039, .map [⟨.i 0, .c (.i 4), 0⟩, ⟨.i 1, .c (.i 3), 1⟩] 2),
(A 13040, .cells (.l 1 [.map (A 13039)]) true false 136),
(A 48274, .cells (.l 1 [.i 4]) true false 3),
(A 48275, .cells (.l 8 [.i 2, .str 11 0x71706f2e68772e2e68772e, .i 2, .nil .s, .str 0 0, .i 0, .i 0, .i 0]) true false 114),
(A 48278, .cells (.l 1 [.i 4]) true false 3)],
.c (.i 0),
[(A 1006, .map [] 106),
(A 1007, .cells (.cat 5 (.l 5 [.slu (A 1011) 0 128 128, .nil .s, .i 106, .neg .i64 0, .bool false]) (.l 1 [.map (A 1006)])) true false 184),
(A 1011, bb12),
(A 13037, .cells (.l 7 [.i 1, .i 2, .i 3, .i 4, .i 5, .i 0, .i 0]) true false 3),
(A 13039, .map [⟨.i 0, .c (.i 5), 0⟩, ⟨.i 1, .c (.i 3), 1⟩] 2)],
[], A 60935⟩
theorem k48279_67 : KnownOk Tryz.prog 67 e48279_67 := known_tab mixed J [(163, e49465_163)] (knCons k49465_163 (knNil)) 1000 (by kernel_rfl)

def e62642_181 : Known := ⟨[.c (.ptr (A 1007) 0), .a (.l 2 [.i 1, .i 60]), .c (.slu (A 61611) 0 3 3)], A 62642,
[(A 3, .cells (.cat 8 (.l 8 [.str 0 0, .str 0 0, .str 0 0, .str 16 0x2e79616c7265766f2e64657473757274, .str 8 0x2e79616c7265766f, .str 21 0x74636572696465722065757161706f206b6e696c6e, .str 19 0x2e736679616c7265766f657375662e72657375, .str 5 0x2e65737566]) (.l 7 [.str 30 0x74756f65746968772074636572696465722065757161706f206b6e696c6e, .str 0 0, .str 0 0, .str 0 0, .str 4 0x2e647362, .str 4 0x2e647362, .str 6 0x65757161706f])) true true 625),
(A 5, .cells (.cat 8 (.l 8 [.nat .u32 0, .nat .u32 0x1db71064, .nat .u32 0x3b6e20c8, .nat .u32 0x26d930ac, .nat .u32 0x76dc4190, .nat .u32 0x6b6b51f4, .nat .u32 0x4db26158, .nat .u32 0x5005713c]) (.l 8 [.nat .u32 0xedb88320, .nat .u32 0xf00f9344, .nat .u32 0xd6d6a3e8, .nat .u32 0xcb61b38c, .nat .u32 0x9b64c2b0, .nat .u32 0x86d3d2d4, .nat .u32 0xa00ae278, .nat .u32 0xbdbdf21c])) true true 684),
(A 6, .cells (.p .u8 256 0x10000000000000000000000000000000000000101010101000000000000000000) true true 740),
(A 1006, .map [] 106),
(A 1007, .cells (.cat 5 (.l 5 [.slu (A 1011) 0 128 128, .nil .s, .i 106, .neg .i64 0, .bool false]) (.l 1 [.map (A 1006)])) true false 184),
(A 1011, bb12),
(A 61611, .cells (.cat 3 (.l 3 [.i 64, .i 6, .str 9 514]) (.cat 3 (.l 3 [.i 65, .i 6, .str 13 0x20101000000020101]) (.l 3 [.i 74, .i 7, .str 16 0x366010571706f2e68772e2e68772e0b]))) false false 190)],
.c (.i 0),
[(A 1006, .map [] 114),
(A 1007, .cells (.cat 5 (.l 5 [.slu (A 1011) 0 128 128, .nil .s, .i 114, .neg .i64 0, .bool false]) (.l 1 [.map (A 1006)])) true false 184),
(A 1011, bb15)],
[], A 70966⟩
theorem k62642_181 : KnownOk Tryz.prog 181 e62642_181 := known_tab mixed J [] (knNil) 1000 (by kernel_rfl)

def e60940_67 : Known := ⟨[.c (.ptr (A 1007) 0), .a (.l 3 [.i 128, .i 60, .i 10]), .c (.fn (.func 70) 0 (.cns (.ptr (A 13040) 0) (.cns (.ptr (A 60936) 0) (.cns (.ptr (A 60939) 0) (.cns (.ptr (A 13038) 0) (.cns (.ptr (A 60935) 0) (.undef)))))))], A 60940,
[(A 3, .cells (.cat 8 (.l 8 [.str 0 0, .str 0 0, .str 0 0, .str 16 0x2e79616c7265766f2e64657473757274, .str 8 0x2e79616c7265766f, .str 21 0x74636572696465722065757161706f206b6e696c6e, .str 19 0x2e736679616c7265766f657375662e72657375, .str 5 0x2e65737566]) (.l 7 [.str 30 0x74756f65746968772074636572696465722065757161706f206b6e696c6e, .str 0 0, .str 0 0, .str 0 0, .str 4 0x2e647362, .str 4 0x2e647362, .str 6 0x65757161706f])) true true 625),
(A 5, .cells (.cat 8 (.l 8 [.nat .u32 0, .nat .u32 0x1db71064, .nat .u32 0x3b6e20c8, .nat .u32 0x26d930ac, .nat .u32 0x76dc4190, .nat .u32 0x6b6b51f4, .nat .u32 0x4db26158, .nat .u32 0x5005713c]) (.l 8 [.nat .u32 0xedb88320, .nat .u32 0xf00f9344, .nat .u32 0xd6d6a3e8, .nat .u32 0xcb61b38c, .nat .u32 0x9b64c2b0, .nat .u32 0x86d3d2d4, .nat .u32 0xa00ae278, .nat .u32 0xbdbdf21c])) true true 684),
(A 6, .cells (.p .u8 256 0x10000000000000000000000000000000000000101010101000000000000000000) true true 740),
(A 1006, .map [] 106),
(A 1007, .cells (.cat 5 (.l 5 [.slu (A 1011) 0 128 128, .nil .s, .i 106, .neg .i64 0, .bool false]) (.l 1 [.map (A 1006)])) true false 184),
(A 1011, bb12),
(A 13037, .cells (.l 7 [.i 1, .i 2, .i 3, .i 4, .i 5, .i 0, .i 0]) true false 3),
(A 13038, .cells (.l 1 [.sl (A 13037) 0 7 7]) true false 78),
(A 13039, .map [⟨.i 0, .c (.i 5), 0⟩, ⟨.i 1, .c (.i 3), 1⟩] 2),
(A 13040, .cells (.l 1 [.map (A 13039)]) true false 136),
(A 60935, .cells (.l 1 [.i 5]) true false 3),
(A 60936, .cells (.l 8 [.i 2, .str 1 102, .i 2, .nil .s, .str 0 0, .i 0, .i 0, .i 1]) true false 114),
(A 60939, .cells (.l 1 [.i 4]) true false 3)],
.c (.i 0),
[(A 1006, .map [] 114),
(A 1007, .cells (.cat 5 (.l 5 [.slu (A 1011) 0 128 128, .nil .s, .i 114, .neg .i64 0, .bool false]) (.l 1 [.map (A 1006)])) true false 184),
(A 1011, bb15)],
[], A 70966⟩
theorem k60940_67 : KnownOk Tryz.prog 67 e60940_67 := known_tab mixed J [(181, e62642_181)] (knCons k62642_181 (knNil)) 1000 (by kernel_rfl)
end Go.Proofs.YtnjlcdofdcnecaaGreatDoor
