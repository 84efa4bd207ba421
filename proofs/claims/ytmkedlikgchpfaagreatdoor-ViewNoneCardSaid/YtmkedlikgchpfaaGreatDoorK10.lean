/- Known calls, shown by runs of the evaluator: view.Read. -/
import Derived.Test.YtmkedlikgchpfaaGreatDoorDat
namespace Go.Proofs.YtmkedlikgchpfaaGreatDoor
open Go Ev
set_option maxRecDepth 1000000
def e71250_10 : Known := ⟨[.c (.ptr (A 65178) 0), .c (.i 4), .c (.sl (A 65180) 0 1 1), .c (.sl (A 71249) 0 2 2), .c (.i 0), .c (.i 9)], A 71250,
[(A 3, .cells (.cat 8 (.l 8 [.str 0 0, .str 0 0, .str 0 0, .str 16 0x2e79616c7265766f2e64657473757274, .str 8 0x2e79616c7265766f, .str 21 0x74636572696465722065757161706f206b6e696c6e, .str 19 0x2e736679616c7265766f657375662e72657375, .str 5 0x2e65737566]) (.l 7 [.str 30 0x74756f65746968772074636572696465722065757161706f206b6e696c6e, .str 0 0, .str 0 0, .str 0 0, .str 4 0x2e647362, .str 4 0x2e647362, .str 6 0x65757161706f])) true true 511),
(A 5, .cells (.cat 8 (.l 8 [.nat .u32 0, .nat .u32 0x1db71064, .nat .u32 0x3b6e20c8, .nat .u32 0x26d930ac, .nat .u32 0x76dc4190, .nat .u32 0x6b6b51f4, .nat .u32 0x4db26158, .nat .u32 0x5005713c]) (.l 8 [.nat .u32 0xedb88320, .nat .u32 0xf00f9344, .nat .u32 0xd6d6a3e8, .nat .u32 0xcb61b38c, .nat .u32 0x9b64c2b0, .nat .u32 0x86d3d2d4, .nat .u32 0xa00ae278, .nat .u32 0xbdbdf21c])) true true 675),
(A 6, .cells (.p .u8 256 0x10000000000000000000000000000000000000101010101000000000000000000) true true 678),
(A 1164, .map [] 90),
(A 1165, .cells (.cat 5 (.l 5 [.slu (A 1169) 0 256 128, .nil .s, .i 90, .neg .i64 0, .bool false]) (.l 1 [.map (A 1164)])) true false 194),
(A 1169, bb0),
(A 65174, .cells (.p .b 174 15) true false 4),
(A 65177, .map [] 0),
(A 65178, .cells (.cat 17 (.cat 13 (.cat 9 (.cat 4 (.cat 1 (.l 1 [.ptr (A 1165) 0]) (.l 3 [.i 256, .i 40, .i 40])) (.l 5 [.i 1, .i 41, .i 42, .i 82, .i 174])) (.cat 3 (.l 3 [.i 256, .i 40, .i 40]) (.l 1 [.sl (A 65174) 0 174 174]))) (.cat 3 (.l 3 [.i 256, .i 40, .i 40]) (.l 1 [.sl (A 65174) 0 174 174]))) (.l 4 [.map (A 65177), .bool false, .bool false, .bool false])) true false 51),
(A 65179, .cells (.cat 56 (.cat 48 (.cat 40 (.cat 32 (.cat 24 (.cat 16 (.cat 8 (.l 8 [.i 0, .str 0 0, .i 1, .nil .s, .str 0 0, .i 0, .i 0, .i 0]) (.l 8 [.i 1, .str 1 97, .i 1, .nil .s, .str 0 0, .i 0, .i 0, .i 0])) (.l 8 [.i 2, .str 1 120, .i 2, .nil .s, .str 1 50, .i 0, .i 0, .i 0])) (.l 8 [.i 2, .str 1 121, .i 2, .nil .s, .str 2 12850, .i 0, .i 0, .i 0])) (.l 8 [.i 2, .str 1 122, .i 2, .nil .s, .str 3 0x323232, .i 0, .i 0, .i 0])) (.l 8 [.i 1, .str 1 111, .i 1, .nil .s, .str 0 0, .i 0, .i 0, .i 0])) (.l 8 [.i 2, .str 1 112, .i 2, .nil .s, .str 0 0, .i 0, .i 0, .i 0])) (.l 8 [.i 1, .str 1 113, .i 2, .nil .s, .str 0 0, .i 0, .i 0, .i 0])) true false 61),
(A 65180, .cells (.l 1 [.sl (A 65179) 0 8 8]) true false 62),
(A 71249, .cells (.l 2 [.str 1 97, .str 1 121]) true false 9)],
.t [.c (.str 1 49), .c (.i 0)],
[],
[], A 72978⟩
theorem k71250_10 : KnownOk Tryz.prog 10 e71250_10 := known_tab mixed J [] (knNil) 1000 (by kernel_rfl)
end Go.Proofs.YtmkedlikgchpfaaGreatDoor
