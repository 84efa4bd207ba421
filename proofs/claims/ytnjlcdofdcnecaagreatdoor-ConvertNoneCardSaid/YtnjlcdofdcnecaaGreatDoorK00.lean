/- Known calls, shown by runs of the evaluator: txn.Format, journal.Commit 2, journal.Commit 2. -/
import Derived.Test.YtnjlcdofdcnecaaGreatDoorDat
namespace Go.Proofs.YtnjlcdofdcnecaaGreatDoor
open Go Ev
set_option maxRecDepth 1000000
def e2213_161 : Known := ⟨[.c (.ptr (A 1007) 0), .a (.l 3 [.i 128, .i 60, .i 10])], A 2213,
[(A 3, .cells (.cat 8 (.l 8 [.str 0 0, .str 0 0, .str 0 0, .str 16 0x2e79616c7265766f2e64657473757274, .str 8 0x2e79616c7265766f, .str 21 0x74636572696465722065757161706f206b6e696c6e, .str 19 0x2e736679616c7265766f657375662e72657375, .str 5 0x2e65737566]) (.l 7 [.str 30 0x74756f65746968772074636572696465722065757161706f206b6e696c6e, .str 0 0, .str 0 0, .str 0 0, .str 4 0x2e647362, .str 4 0x2e647362, .str 6 0x65757161706f])) true true 625),
(A 5, .cells (.cat 8 (.l 8 [.nat .u32 0, .nat .u32 0x1db71064, .nat .u32 0x3b6e20c8, .nat .u32 0x26d930ac, .nat .u32 0x76dc4190, .nat .u32 0x6b6b51f4, .nat .u32 0x4db26158, .nat .u32 0x5005713c]) (.l 8 [.nat .u32 0xedb88320, .nat .u32 0xf00f9344, .nat .u32 0xd6d6a3e8, .nat .u32 0xcb61b38c, .nat .u32 0x9b64c2b0, .nat .u32 0x86d3d2d4, .nat .u32 0xa00ae278, .nat .u32 0xbdbdf21c])) true true 684),
(A 6, .cells (.p .u8 256 0x10000000000000000000000000000000000000101010101000000000000000000) true true 740),
(A 1006, .map [] 0),
(A 1007, .cells (.cat 5 (.l 5 [.slu (A 1011) 0 128 128, .nil .s, .i 0, .neg .i64 0, .bool false]) (.l 1 [.map (A 1006)])) true false 184),
(A 1011, .cells (.p .u8 16384 0) false false 224)],
.c (.i 0),
[(A 1006, .map [] 64),
(A 1007, .cells (.cat 5 (.l 5 [.slu (A 1011) 0 128 128, .nil .s, .i 64, .neg .i64 0, .bool false]) (.l 1 [.map (A 1006)])) true false 184),
(A 1011, bb2)],
[], A 7689⟩
theorem k2213_161 : KnownOk Tryz.prog 161 e2213_161 := known_tab mixed J [] (knNil) 1000 (by kernel_rfl)

def e20121_344 : Known := ⟨[.c (.ptr (A 14972) 0), .c (.ptr (A 14973) 0)], A 20121,
[(A 3, .cells (.cat 8 (.l 8 [.str 0 0, .str 0 0, .str 0 0, .str 16 0x2e79616c7265766f2e64657473757274, .str 8 0x2e79616c7265766f, .str 21 0x74636572696465722065757161706f206b6e696c6e, .str 19 0x2e736679616c7265766f657375662e72657375, .str 5 0x2e65737566]) (.l 7 [.str 30 0x74756f65746968772074636572696465722065757161706f206b6e696c6e, .str 0 0, .str 0 0, .str 0 0, .str 4 0x2e647362, .str 4 0x2e647362, .str 6 0x65757161706f])) true true 625),
(A 5, .cells (.cat 8 (.l 8 [.nat .u32 0, .nat .u32 0x1db71064, .nat .u32 0x3b6e20c8, .nat .u32 0x26d930ac, .nat .u32 0x76dc4190, .nat .u32 0x6b6b51f4, .nat .u32 0x4db26158, .nat .u32 0x5005713c]) (.l 8 [.nat .u32 0xedb88320, .nat .u32 0xf00f9344, .nat .u32 0xd6d6a3e8, .nat .u32 0xcb61b38c, .nat .u32 0x9b64c2b0, .nat .u32 0x86d3d2d4, .nat .u32 0xa00ae278, .nat .u32 0xbdbdf21c])) true true 684),
(A 6, .cells (.p .u8 256 0x10000000000000000000000000000000000000101010101000000000000000000) true true 740),
(A 1006, .map [] 73),
(A 1007, .cells (.cat 5 (.l 5 [.slu (A 1011) 0 128 128, .nil .s, .i 73, .neg .i64 0, .bool false]) (.l 1 [.map (A 1006)])) true false 184),
(A 1011, bb4),
(A 14972, .cells (.l 1 [.ptr (A 1007) 0]) true false 54),
(A 14973, .cells (.l 2 [.i 1, .i 60]) true false 268)],
.c (.i 0),
[(A 1006, .map [] 77),
(A 1007, .cells (.cat 5 (.l 5 [.slu (A 1011) 0 128 128, .nil .s, .i 77, .neg .i64 0, .bool false]) (.l 1 [.map (A 1006)])) true false 184),
(A 1011, bb5)],
[], A 24325⟩
theorem k20121_344 : KnownOk Tryz.prog 344 e20121_344 := known_tab mixed J [] (knNil) 1000 (by kernel_rfl)

def e32557_344 : Known := ⟨[.c (.ptr (A 27408) 0), .c (.ptr (A 27409) 0)], A 32557,
[(A 3, .cells (.cat 8 (.l 8 [.str 0 0, .str 0 0, .str 0 0, .str 16 0x2e79616c7265766f2e64657473757274, .str 8 0x2e79616c7265766f, .str 21 0x74636572696465722065757161706f206b6e696c6e, .str 19 0x2e736679616c7265766f657375662e72657375, .str 5 0x2e65737566]) (.l 7 [.str 30 0x74756f65746968772074636572696465722065757161706f206b6e696c6e, .str 0 0, .str 0 0, .str 0 0, .str 4 0x2e647362, .str 4 0x2e647362, .str 6 0x65757161706f])) true true 625),
(A 5, .cells (.cat 8 (.l 8 [.nat .u32 0, .nat .u32 0x1db71064, .nat .u32 0x3b6e20c8, .nat .u32 0x26d930ac, .nat .u32 0x76dc4190, .nat .u32 0x6b6b51f4, .nat .u32 0x4db26158, .nat .u32 0x5005713c]) (.l 8 [.nat .u32 0xedb88320, .nat .u32 0xf00f9344, .nat .u32 0xd6d6a3e8, .nat .u32 0xcb61b38c, .nat .u32 0x9b64c2b0, .nat .u32 0x86d3d2d4, .nat .u32 0xa00ae278, .nat .u32 0xbdbdf21c])) true true 684),
(A 6, .cells (.p .u8 256 0x10000000000000000000000000000000000000101010101000000000000000000) true true 740),
(A 1006, .map [] 83),
(A 1007, .cells (.cat 5 (.l 5 [.slu (A 1011) 0 128 128, .nil .s, .i 83, .neg .i64 0, .bool false]) (.l 1 [.map (A 1006)])) true false 184),
(A 1011, bb7),
(A 27408, .cells (.l 1 [.ptr (A 1007) 0]) true false 54),
(A 27409, .cells (.l 2 [.i 1, .i 60]) true false 268)],
.c (.i 0),
[(A 1006, .map [] 87),
(A 1007, .cells (.cat 5 (.l 5 [.slu (A 1011) 0 128 128, .nil .s, .i 87, .neg .i64 0, .bool false]) (.l 1 [.map (A 1006)])) true false 184),
(A 1011, bb8)],
[], A 36761⟩
theorem k32557_344 : KnownOk Tryz.prog 344 e32557_344 := known_tab mixed J [] (knNil) 1000 (by kernel_rfl)
end Go.Proofs.YtnjlcdofdcnecaaGreatDoor
