/- Known calls, shown by runs of the evaluator: load.alone, load.alone, load.alone. -/
import Derived.Test.YtnjlcdofdcnecaaGreatDoorDat
import Derived.Test.YtnjlcdofdcnecaaGreatDoorK07
import Derived.Test.YtnjlcdofdcnecaaGreatDoorK08
namespace Go.Proofs.YtnjlcdofdcnecaaGreatDoor
open Go Ev
set_option maxRecDepth 1000000
def e25368_67 : Known := ⟨[.c (.ptr (A 1007) 0), .a (.l 3 [.i 128, .i 60, .i 10]), .c (.fn (.func 70) 0 (.cns (.ptr (A 13040) 0) (.cns (.ptr (A 25364) 0) (.cns (.ptr (A 25367) 0) (.cns (.ptr (A 13038) 0) (.cns (.ptr (A 25363) 0) (.undef)))))))], A 25368,
[(A 3, .cells (.cat 8 (.l 8 [.str 0 0, .str 0 0, .str 0 0, .str 16 0x2e79616c7265766f2e64657473757274, .str 8 0x2e79616c7265766f, .str 21 0x74636572696465722065757161706f206b6e696c6e, .str 19 0x2e736679616c7265766f657375662e72657375, .str 5 0x2e65737566]) (.l 7 [.str 30 0x74756f65746968772074636572696465722065757161706f206b6e696c6e, .str 0 0, .str 0 0, .str 0 0, .str 4 0x2e647362, .str 4 0x2e647362, .str 6 0x65757161706f])) true true 625),
(A 5, .cells (.cat 8 (.l 8 [.nat .u32 0, .nat .u32 0x1db71064, .nat .u32 0x3b6e20c8, .nat .u32 0x26d930ac, .nat .u32 0x76dc4190, .nat .u32 0x6b6b51f4, .nat .u32 0x4db26158, .nat .u32 0x5005713c]) (.l 8 [.nat .u32 0xedb88320, .nat .u32 0xf00f9344, .nat .u32 0xd6d6a3e8, .nat .u32 0xcb61b38c, .nat .u32 0x9b64c2b0, .nat .u32 0x86d3d2d4, .nat .u32 0xa00ae278, .nat .u32 0xbdbdf21c])) true true 684),
(A 6, .cells (.p .u8 256 0x10000000000000000000000000000000000000101010101000000000000000000) true true 740),
(A 1006, .map [] 78),
(A 1007, .cells (.cat 5 (.l 5 [.slu (A 1011) 0 128 128, .nil .s, .i 78, .neg .i64 0, .bool false]) (.l 1 [.map (A 1006)])) true false 184),
(A 1011, bb3),
(A 13037, .cells (.l 7 [.i 1, .i 2, .i 0, .i 0, .i 0, .i 0, .i 0]) true false 3),
(A 13038, .cells (.l 1 [.sl (A 13037) 0 7 7]) true false 78),
(A 13039, .map [⟨.i 0, .c (.i 2), 0⟩] 1),
(A 13040, .cells (.l 1 [.map (A 13039)]) true false 136),
(A 25363, .cells (.l 1 [.i 2]) true false 3),
(A 25364, .cells (.l 8 [.i 2, .str 2 12592, .i 2, .nil .s, .str 0 0, .i 0, .i 0, .i 1]) true false 114),
(A 25367, .cells (.l 1 [.i 2]) true false 3)],
.c (.i 0),
[(A 1006, .map [] 88),
(A 1007, .cells (.cat 5 (.l 5 [.slu (A 1011) 0 128 128, .nil .s, .i 88, .neg .i64 0, .bool false]) (.l 1 [.map (A 1006)])) true false 184),
(A 1011, bb6),
(A 13037, .cells (.l 7 [.i 1, .i 2, .i 3, .i 0, .i 0, .i 0, .i 0]) true false 3),
(A 13039, .map [⟨.i 0, .c (.i 2), 0⟩, ⟨.i 1, .c (.i 3), 1⟩] 2)],
[], A 37799⟩
theorem k25368_67 : KnownOk Tryz.prog 67 e25368_67 := known_tab mixed J [(163, e26329_163)] (knCons k26329_163 (knNil)) 1000 (by kernel_rfl)

def e37804_67 : Known := ⟨[.c (.ptr (A 1007) 0), .a (.l 3 [.i 128, .i 60, .i 10]), .c (.fn (.func 70) 0 (.cns (.ptr (A 13040) 0) (.cns (.ptr (A 37800) 0) (.cns (.ptr (A 37803) 0) (.cns (.ptr (A 13038) 0) (.cns (.ptr (A 37799) 0) (.undef)))))))], A 37804,
[(A 3, .cells (.cat 8 (.l 8 [.str 0 0, .str 0 0, .str 0 0, .str 16 0x2e79616c7265766f2e64657473757274, .str 8 0x2e79616c7265766f, .str 21 0x74636572696465722065757161706f206b6e696c6e, .str 19 0x2e736679616c7265766f657375662e72657375, .str 5 0x2e65737566]) (.l 7 [.str 30 0x74756f65746968772074636572696465722065757161706f206b6e696c6e, .str 0 0, .str 0 0, .str 0 0, .str 4 0x2e647362, .str 4 0x2e647362, .str 6 0x65757161706f])) true true 625),
(A 5, .cells (.cat 8 (.l 8 [.nat .u32 0, .nat .u32 0x1db71064, .nat .u32 0x3b6e20c8, .nat .u32 0x26d930ac, .nat .u32 0x76dc4190, .nat .u32 0x6b6b51f4, .nat .u32 0x4db26158, .nat .u32 0x5005713c]) (.l 8 [.nat .u32 0xedb88320, .nat .u32 0xf00f9344, .nat .u32 0xd6d6a3e8, .nat .u32 0xcb61b38c, .nat .u32 0x9b64c2b0, .nat .u32 0x86d3d2d4, .nat .u32 0xa00ae278, .nat .u32 0xbdbdf21c])) true true 684),
(A 6, .cells (.p .u8 256 0x10000000000000000000000000000000000000101010101000000000000000000) true true 740),
(A 1006, .map [] 88),
(A 1007, .cells (.cat 5 (.l 5 [.slu (A 1011) 0 128 128, .nil .s, .i 88, .neg .i64 0, .bool false]) (.l 1 [.map (A 1006)])) true false 184),
(A 1011, bb6),
(A 13037, .cells (.l 7 [.i 1, .i 2, .i 3, .i 0, .i 0, .i 0, .i 0]) true false 3),
(A 13038, .cells (.l 1 [.sl (A 13037) 0 7 7]) true false 78),
(A 13039, .map [⟨.i 0, .c (.i 2), 0⟩, ⟨.i 1, .c (.i 3), 1⟩] 2),
(A 13040, .cells (.l 1 [.map (A 13039)]) true false 136),
(A 37799, .cells (.l 1 [.i 3]) true false 3),
(A 37800, .cells (.l 8 [.i 1, .str 1 97, .i 1, .nil .s, .str 0 0, .i 0, .i 0, .i 0]) true false 114),
(A 37803, .cells (.l 1 [.i 1]) true false 3)],
.c (.i 0),
[(A 1006, .map [] 96),
(A 1007, .cells (.cat 5 (.l 5 [.slu (A 1011) 0 128 128, .nil .s, .i 96, .neg .i64 0, .bool false]) (.l 1 [.map (A 1006)])) true false 184),
(A 1011, bb9),
(A 13037, .cells (.l 7 [.i 1, .i 2, .i 3, .i 4, .i 0, .i 0, .i 0]) true false 3),
(A 13039, .map [⟨.i 0, .c (.i 4), 0⟩, ⟨.i 1, .c (.i 3), 1⟩] 2)],
[], A 48274⟩
theorem k37804_67 : KnownOk Tryz.prog 67 e37804_67 := known_tab mixed J [(163, e38903_163)] (knCons k38903_163 (knNil)) 1000 (by kernel_rfl)

def e48279_67 : Known := ⟨[.c (.ptr (A 1007) 0), .a (.l 3 [.i 128, .i 60, .i 10]), .c (.fn (.func 70) 0 (.cns (.ptr (A 13040) 0) (.cns (.ptr (A 48275) 0) (.cns (.ptr (A 48278) 0) (.cns (.ptr (A 13038) 0) (.cns (.ptr (A 48274) 0) (.undef)))))))], A 48279,
[(A 3, .cells (.cat 8 (.l 8 [.str 0 0, .str 0 0, .str 0 0, .str 16 0x2e79616c7265766f2e64657473757274, .str 8 0x2e79616c7265766f, .str 21 0x74636572696465722065757161706f206b6e696c6e, .str 19 0x2e736679616c7265766f657375662e72657375, .str 5 0x2e65737566]) (.l 7 [.str 30 0x74756f65746968772074636572696465722065757161706f206b6e696c6e, .str 0 0, .str 0 0, .str 0 0, .str 4 0x2e647362, .str 4 0x2e647362, .str 6 0x65757161706f])) true true 625),
(A 5, .cells (.cat 8 (.l 8 [.nat .u32 0, .nat .u32 0x1db71064, .nat .u32 0x3b6e20c8, .nat .u32 0x26d930ac, .nat .u32 0x76dc4190, .nat .u32 0x6b6b51f4, .nat .u32 0x4db26158, .nat .u32 0x5005713c]) (.l 8 [.nat .u32 0xedb88320, .nat .u32 0xf00f9344, .nat .u32 0xd6d6a3e8, .nat .u32 0xcb61b38c, .nat .u32 0x9b64c2b0, .nat .u32 0x86d3d2d4, .nat .u32 0xa00ae278, .nat .u32 0xbdbdf21c])) true true 684),
(A 6, .cells (.p .u8 256 0x10000000000000000000000000000000000000101010101000000000000000000) true true 740),
(A 1006, .map [] 96),
(A 1007, .cells (.cat 5 (.l 5 [.slu (A 1011) 0 128 128, .nil .s, .i 96, .neg .i64 0, .bool false]) (.l 1 [.map (A 1006)])) true false 184),
(A 1011, bb9),
(A 13037, .cells (.l 7 [.i 1, .i 2, .i 3, .i 4, .i 0, .i 0, .i 0]) true false 3),
(A 13038, .cells (.l 1 [.sl (A 13037) 0 7 7]) true false 78),
(A 13039, .map [⟨.i 0, .c (.i 4), 0⟩, ⟨.i 1, .c (.i 3), 1⟩] 2),
(A 13040, .cells (.l 1 [.map (A 13039)]) true false 136),
(A 48274, .cells (.l 1 [.i 4]) true false 3),
(A 48275, .cells (.l 8 [.i 2, .str 11 0x71706f2e68772e2e68772e, .i 2, .nil .s, .str 0 0, .i 0, .i 0, .i 0]) true false 114),
(A 48278, .cells (.l 1 [.i 4]) true false 3)],
.c (.i 0),
[(A 1006, .map [] 106),
(A 1007, .cells (.cat 5 (.l 5 [.slu (A 1011) 0 128 128, .nil .s, .i 106, .neg .i64 0, .bool false]) (.l 1 [.map (A 1006)])) true false 184),
(A 1011, bb12),
(A 13037, .cells (.l 7 [.i 1, .i 2, .i 3, .i 4, .i 5, .i 0, .i 0]) true false 3),
(A 13039, .map [⟨.i 0, .c (.i 5), 0⟩, ⟨.i 1, .c (.i 3), 1⟩] 2)],
[], A 60935⟩
theorem k48279_67 : KnownOk Tryz.prog 67 e48279_67 := known_tab mixed J [(163, e49465_163)] (knCons k49465_163 (knNil)) 1000 (by kernel_rfl)
end Go.Proofs.YtnjlcdofdcnecaaGreatDoor
