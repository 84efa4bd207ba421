/- Known calls, shown by runs of the evaluator: journal.Commit. -/
import Derived.Test.YtmkedlikgchpfaaGreatDoorDat
import Derived.Test.YtmkedlikgchpfaaGreatDoorK06
namespace Go.Proofs.YtmkedlikgchpfaaGreatDoor
open Go Ev
set_option maxRecDepth 1000000
def e52688_227 : Known := ⟨[.c (.ptr (A 1165) 0), .a (.l 2 [.i 1, .i 40]), .c (.slu (A 51615) 0 5 3)], A 52688,
[(A 3, .cells (.cat 8 (.l 8 [.str 0 0, .str 0 0, .str 0 0, .str 16 0x2e79616c7265766f2e64657473757274, .str 8 0x2e79616c7265766f, .str 21 0x74636572696465722065757161706f206b6e696c6e, .str 19 0x2e736679616c7265766f657375662e72657375, .str 5 0x2e65737566]) (.l 7 [.str 30 0x74756f65746968772074636572696465722065757161706f206b6e696c6e, .str 0 0, .str 0 0, .str 0 0, .str 4 0x2e647362, .str 4 0x2e647362, .str 6 0x65757161706f])) true true 511),
(A 5, .cells (.cat 8 (.l 8 [.nat .u32 0, .nat .u32 0x1db71064, .nat .u32 0x3b6e20c8, .nat .u32 0x26d930ac, .nat .u32 0x76dc4190, .nat .u32 0x6b6b51f4, .nat .u32 0x4db26158, .nat .u32 0x5005713c]) (.l 8 [.nat .u32 0xedb88320, .nat .u32 0xf00f9344, .nat .u32 0xd6d6a3e8, .nat .u32 0xcb61b38c, .nat .u32 0x9b64c2b0, .nat .u32 0x86d3d2d4, .nat .u32 0xa00ae278, .nat .u32 0xbdbdf21c])) true true 675),
(A 6, .cells (.p .u8 256 0x10000000000000000000000000000000000000101010101000000000000000000) true true 678),
(A 1164, .map [] 78),
(A 1165, .cells (.cat 5 (.l 5 [.slu (A 1169) 0 256 128, .nil .s, .i 78, .neg .i64 0, .bool false]) (.l 1 [.map (A 1164)])) true false 194),
(A 1169, bb9),
(A 51615, .cells (.cat 3 (.l 3 [.i 41, .i 5, .str 96 15]) (.cat 3 (.l 3 [.i 42, .i 6, .str 13 0x101000000020101]) (.cat 3 (.l 3 [.i 45, .i 6, .str 13 0x3010001000000000101]) (.cat 3 (.l 3 [.i 82, .i 7, .str 6 0x46f01026101]) (.l 3 [.i 85, .i 9, .str 12 0x65757161706f2e6473620a]))))) false false 353)],
.c (.i 0),
[(A 1164, .map [] 90),
(A 1165, .cells (.cat 5 (.l 5 [.slu (A 1169) 0 256 128, .nil .s, .i 90, .neg .i64 0, .bool false]) (.l 1 [.map (A 1164)])) true false 194),
(A 1169, bb0)],
[], A 65146⟩
theorem k52688_227 : KnownOk Tryz.prog 227 e52688_227 := known_tab mixed J [(339, e58862_339)] (knCons k58862_339 (knNil)) 1000 (by kernel_rfl)
end Go.Proofs.YtmkedlikgchpfaaGreatDoor
