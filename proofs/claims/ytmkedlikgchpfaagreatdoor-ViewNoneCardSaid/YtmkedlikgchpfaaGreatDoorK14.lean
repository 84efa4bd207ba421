/- Known calls, shown by runs of the evaluator: load.alone. -/
import Derived.Test.YtmkedlikgchpfaaGreatDoorDat
import Derived.Test.YtmkedlikgchpfaaGreatDoorK02
namespace Go.Proofs.YtmkedlikgchpfaaGreatDoor
open Go Ev
set_option maxRecDepth 1000000
def e24919_46 : Known := ⟨[.c (.ptr (A 1165) 0), .a (.l 3 [.i 256, .i 40, .i 40]), .c (.fn (.func 49) 0 (.cns (.ptr (A 12081) 0) (.cns (.ptr (A 24915) 0) (.cns (.ptr (A 24918) 0) (.cns (.ptr (A 12079) 0) (.cns (.ptr (A 24914) 0) (.undef)))))))], A 24919,
[(A 3, .cells (.cat 8 (.l 8 [.str 0 0, .str 0 0, .str 0 0, .str 16 0x2e79616c7265766f2e64657473757274, .str 8 0x2e79616c7265766f, .str 21 0x74636572696465722065757161706f206b6e696c6e, .str 19 0x2e736679616c7265766f657375662e72657375, .str 5 0x2e65737566]) (.l 7 [.str 30 0x74756f65746968772074636572696465722065757161706f206b6e696c6e, .str 0 0, .str 0 0, .str 0 0, .str 4 0x2e647362, .str 4 0x2e647362, .str 6 0x65757161706f])) true true 511),
(A 5, .cells (.cat 8 (.l 8 [.nat .u32 0, .nat .u32 0x1db71064, .nat .u32 0x3b6e20c8, .nat .u32 0x26d930ac, .nat .u32 0x76dc4190, .nat .u32 0x6b6b51f4, .nat .u32 0x4db26158, .nat .u32 0x5005713c]) (.l 8 [.nat .u32 0xedb88320, .nat .u32 0xf00f9344, .nat .u32 0xd6d6a3e8, .nat .u32 0xcb61b38c, .nat .u32 0x9b64c2b0, .nat .u32 0x86d3d2d4, .nat .u32 0xa00ae278, .nat .u32 0xbdbdf21c])) true true 675),
(A 6, .cells (.p .u8 256 0x10000000000000000000000000000000000000101010101000000000000000000) true true 678),
(A 1164, .map [] 58),
(A 1165, .cells (.cat 5 (.l 5 [.slu (A 1169) 0 256 128, .nil .s, .i 58, .neg .i64 0, .bool false]) (.l 1 [.map (A 1164)])) true false 194),
(A 1169, bb3),
(A 12078, .cells (.l 5 [.i 1, .i 2, .i 0, .i 0, .i 0]) true false 3),
(A 12079, .cells (.l 1 [.sl (A 12078) 0 5 5]) true false 106),
(A 12080, .map [⟨.i 0, .c (.i 2), 0⟩] 1),
(A 12081, .cells (.l 1 [.map (A 12080)]) true false 152),
(A 24914, .cells (.l 1 [.i 2]) true false 3),
(A 24915, .cells (.l 8 [.i 2, .str 1 120, .i 5, .nil .s, .str 0 0, .i 0, .i 0, .i 0]) true false 61),
(A 24918, .cells (.l 1 [.i 2]) true false 3)],
.c (.i 0),
[(A 1164, .map [] 66),
(A 1165, .cells (.cat 5 (.l 5 [.slu (A 1169) 0 256 128, .nil .s, .i 66, .neg .i64 0, .bool false]) (.l 1 [.map (A 1164)])) true false 194),
(A 1169, bb6),
(A 12080, .map [⟨.i 0, .c (.i 0), 0⟩] 1)],
[], A 34723⟩
theorem k24919_46 : KnownOk Tryz.prog 46 e24919_46 := known_tab mixed J [(339, e30523_339)] (knCons k30523_339 (knNil)) 1000 (by kernel_rfl)
end Go.Proofs.YtmkedlikgchpfaaGreatDoor
