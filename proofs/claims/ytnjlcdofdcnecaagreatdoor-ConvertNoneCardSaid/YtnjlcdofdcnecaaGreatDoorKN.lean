/- A call with an int that is not looked at, for every int. -/
import Derived.Test.YtnjlcdofdcnecaaGreatDoorK06
import Derived.Test.YtnjlcdofdcnecaaGreatDoorK10
import Derived.Test.YtnjlcdofdcnecaaGreatDoorK12
import Derived.Test.YtnjlcdofdcnecaaGreatDoorK13
namespace Go.Proofs.YtnjlcdofdcnecaaGreatDoor
open Go Ev
set_option maxRecDepth 1000000
def eN (c : Cell) : Known := ⟨[.c c], A 645,
[(A 3, .cells (.cat 8 (.l 8 [.str 0 0, .str 0 0, .str 0 0, .str 16 0x2e79616c7265766f2e64657473757274, .str 8 0x2e79616c7265766f, .str 21 0x74636572696465722065757161706f206b6e696c6e, .str 19 0x2e736679616c7265766f657375662e72657375, .str 5 0x2e65737566]) (.l 7 [.str 30 0x74756f65746968772074636572696465722065757161706f206b6e696c6e, .str 0 0, .str 0 0, .str 0 0, .str 4 0x2e647362, .str 4 0x2e647362, .str 6 0x65757161706f])) true true 625),
(A 5, .cells (.cat 8 (.l 8 [.nat .u32 0, .nat .u32 0x1db71064, .nat .u32 0x3b6e20c8, .nat .u32 0x26d930ac, .nat .u32 0x76dc4190, .nat .u32 0x6b6b51f4, .nat .u32 0x4db26158, .nat .u32 0x5005713c]) (.l 8 [.nat .u32 0xedb88320, .nat .u32 0xf00f9344, .nat .u32 0xd6d6a3e8, .nat .u32 0xcb61b38c, .nat .u32 0x9b64c2b0, .nat .u32 0x86d3d2d4, .nat .u32 0xa00ae278, .nat .u32 0xbdbdf21c])) true true 684),
(A 6, .cells (.p .u8 256 0x10000000000000000000000000000000000000101010101000000000000000000) true true 740)],
.c (.bool true),
[],
[], A 157562⟩
theorem kNp (n : Nat) : KnownOk Tryz.prog 4 (eN (.i n)) := known_tab mixed J [(16, e1002_16), (9, e86336_9), (10, e102431_10), (10, e121176_10), (10, e128866_10), (10, e148785_10), (18, e155537_18)] (knCons k1002_16 (knCons k86336_9 (knCons k102431_10 (knCons k121176_10 (knCons k128866_10 (knCons k148785_10 (knCons k155537_18 (knNil)))))))) 1000 (by kernel_rfl)
theorem kNm (n : Nat) : KnownOk Tryz.prog 4 (eN (.neg .i64 n)) := known_tab mixed J [(16, e1002_16), (9, e86336_9), (10, e102431_10), (10, e121176_10), (10, e128866_10), (10, e148785_10), (18, e155537_18)] (knCons k1002_16 (knCons k86336_9 (knCons k102431_10 (knCons k121176_10 (knCons k128866_10 (knCons k148785_10 (knCons k155537_18 (knNil)))))))) 1000 (by kernel_rfl)
end Go.Proofs.YtnjlcdofdcnecaaGreatDoor
