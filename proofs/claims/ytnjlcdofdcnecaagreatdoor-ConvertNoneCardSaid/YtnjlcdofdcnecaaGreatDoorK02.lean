/- Known calls, shown by runs of the evaluator: journal.Commit 2, convert.alone, load.Tree 2. -/
import Derived.Test.YtnjlcdofdcnecaaGreatDoorDat
namespace Go.Proofs.YtnjlcdofdcnecaaGreatDoor
open Go Ev
set_option maxRecDepth 1000000
def e76829_344 : Known := ⟨[.c (.ptr (A 72705) 0), .c (.ptr (A 72706) 0)], A 76829,
[(A 3, .cells (.cat 8 (.l 8 [.str 0 0, .str 0 0, .str 0 0, .str 16 0x2e79616c7265766f2e64657473757274, .str 8 0x2e79616c7265766f, .str 21 0x74636572696465722065757161706f206b6e696c6e, .str 19 0x2e736679616c7265766f657375662e72657375, .str 5 0x2e65737566]) (.l 7 [.str 30 0x74756f65746968772074636572696465722065757161706f206b6e696c6e, .str 0 0, .str 0 0, .str 0 0, .str 4 0x2e647362, .str 4 0x2e647362, .str 6 0x65757161706f])) true true 625),
(A 5, .cells (.cat 8 (.l 8 [.nat .u32 0, .nat .u32 0x1db71064, .nat .u32 0x3b6e20c8, .nat .u32 0x26d930ac, .nat .u32 0x76dc4190, .nat .u32 0x6b6b51f4, .nat .u32 0x4db26158, .nat .u32 0x5005713c]) (.l 8 [.nat .u32 0xedb88320, .nat .u32 0xf00f9344, .nat .u32 0xd6d6a3e8, .nat .u32 0xcb61b38c, .nat .u32 0x9b64c2b0, .nat .u32 0x86d3d2d4, .nat .u32 0xa00ae278, .nat .u32 0xbdbdf21c])) true true 684),
(A 6, .cells (.p .u8 256 0x10000000000000000000000000000000000000101010101000000000000000000) true true 740),
(A 1006, .map [] 118),
(A 1007, .cells (.cat 5 (.l 5 [.slu (A 1011) 0 128 128, .nil .s, .i 118, .neg .i64 0, .bool false]) (.l 1 [.map (A 1006)])) true false 184),
(A 1011, bb17),
(A 72705, .cells (.l 1 [.ptr (A 1007) 0]) true false 54),
(A 72706, .cells (.l 2 [.i 1, .i 60]) true false 268)],
.c (.i 0),
[(A 1006, .map [] 121),
(A 1007, .cells (.cat 5 (.l 5 [.slu (A 1011) 0 128 128, .nil .s, .i 121, .neg .i64 0, .bool false]) (.l 1 [.map (A 1006)])) true false 184),
(A 1011, bb18)],
[], A 79991⟩
theorem k76829_344 : KnownOk Tryz.prog 344 e76829_344 := known_tab mixed J [] (knNil) 1000 (by kernel_rfl)

def e81030_23 : Known := ⟨[.c (.ptr (A 1007) 0), .a (.l 3 [.i 128, .i 60, .i 10]), .c (.fn (.func 24) 0 (.cns (.ptr (A 1013) 0) (.undef)))], A 81030,
[(A 3, .cells (.cat 8 (.l 8 [.str 0 0, .str 0 0, .str 0 0, .str 16 0x2e79616c7265766f2e64657473757274, .str 8 0x2e79616c7265766f, .str 21 0x74636572696465722065757161706f206b6e696c6e, .str 19 0x2e736679616c7265766f657375662e72657375, .str 5 0x2e65737566]) (.l 7 [.str 30 0x74756f65746968772074636572696465722065757161706f206b6e696c6e, .str 0 0, .str 0 0, .str 0 0, .str 4 0x2e647362, .str 4 0x2e647362, .str 6 0x65757161706f])) true true 625),
(A 5, .cells (.cat 8 (.l 8 [.nat .u32 0, .nat .u32 0x1db71064, .nat .u32 0x3b6e20c8, .nat .u32 0x26d930ac, .nat .u32 0x76dc4190, .nat .u32 0x6b6b51f4, .nat .u32 0x4db26158, .nat .u32 0x5005713c]) (.l 8 [.nat .u32 0xedb88320, .nat .u32 0xf00f9344, .nat .u32 0xd6d6a3e8, .nat .u32 0xcb61b38c, .nat .u32 0x9b64c2b0, .nat .u32 0x86d3d2d4, .nat .u32 0xa00ae278, .nat .u32 0xbdbdf21c])) true true 684),
(A 6, .cells (.p .u8 256 0x10000000000000000000000000000000000000101010101000000000000000000) true true 740),
(A 1006, .map [] 122),
(A 1007, .cells (.cat 5 (.l 5 [.slu (A 1011) 0 128 128, .nil .s, .i 122, .neg .i64 0, .bool false]) (.l 1 [.map (A 1006)])) true false 184),
(A 1011, bb16),
(A 1013, .cells (.l 1 [.i 3]) true false 3)],
.c (.i 0),
[(A 1006, .map [] 126),
(A 1007, .cells (.cat 5 (.l 5 [.slu (A 1011) 0 128 128, .nil .s, .i 126, .neg .i64 0, .bool false]) (.l 1 [.map (A 1006)])) true false 184),
(A 1011, bb0)],
[], A 86336⟩
theorem k81030_23 : KnownOk Tryz.prog 23 e81030_23 := known_tab mixed J [] (knNil) 1000 (by kernel_rfl)

def e87858_55 : Known := ⟨[.c (.i 1), .c (.str 1 97), .c (.i 4), .c (.ptr (A 86446) 0), .c (.ptr (A 86438) 0), .c (.ptr (A 86443) 0), .c (.ptr (A 86444) 0), .c (.ptr (A 86439) 0), .c (.ptr (A 86441) 0), .c (.ptr (A 86445) 0)], A 87858,
[(A 3, .cells (.cat 8 (.l 8 [.str 0 0, .str 0 0, .str 0 0, .str 16 0x2e79616c7265766f2e64657473757274, .str 8 0x2e79616c7265766f, .str 21 0x74636572696465722065757161706f206b6e696c6e, .str 19 0x2e736679616c7265766f657375662e72657375, .str 5 0x2e65737566]) (.l 7 [.str 30 0x74756f65746968772074636572696465722065757161706f206b6e696c6e, .str 0 0, .str 0 0, .str 0 0, .str 4 0x2e647362, .str 4 0x2e647362, .str 6 0x65757161706f])) true true 625),
(A 5, .cells (.cat 8 (.l 8 [.nat .u32 0, .nat .u32 0x1db71064, .nat .u32 0x3b6e20c8, .nat .u32 0x26d930ac, .nat .u32 0x76dc4190, .nat .u32 0x6b6b51f4, .nat .u32 0x4db26158, .nat .u32 0x5005713c]) (.l 8 [.nat .u32 0xedb88320, .nat .u32 0xf00f9344, .nat .u32 0xd6d6a3e8, .nat .u32 0xcb61b38c, .nat .u32 0x9b64c2b0, .nat .u32 0x86d3d2d4, .nat .u32 0xa00ae278, .nat .u32 0xbdbdf21c])) true true 684),
(A 6, .cells (.p .u8 256 0x10000000000000000000000000000000000000101010101000000000000000000) true true 740),
(A 1006, .map [] 126),
(A 1007, .cells (.cat 5 (.l 5 [.slu (A 1011) 0 128 128, .nil .s, .i 126, .neg .i64 0, .bool false]) (.l 1 [.map (A 1006)])) true false 184),
(A 1011, bb0),
(A 86367, .cells (.p .b 56 7) true false 4),
(A 86370, .map [] 0),
(A 86371, .cells (.cat 17 (.cat 13 (.cat 9 (.cat 4 (.cat 1 (.l 1 [.ptr (A 1007) 0]) (.l 3 [.i 128, .i 60, .i 10])) (.l 5 [.i 1, .i 61, .i 62, .i 72, .i 56])) (.cat 3 (.l 3 [.i 128, .i 60, .i 10]) (.l 1 [.sl (A 86367) 0 56 56]))) (.cat 3 (.l 3 [.i 128, .i 60, .i 10]) (.l 1 [.sl (A 86367) 0 56 56]))) (.l 4 [.map (A 86370), .bool false, .bool false, .bool false])) true false 135),
(A 86438, .cells (.l 1 [.ptr (A 86371) 0]) true false 58),
(A 86439, .cells (.l 1 [.slu (A 87856) 0 3 8]) true false 61),
(A 86440, .map [⟨.i 1, .c (.i 1), 0⟩, ⟨.i 2, .c (.i 1), 1⟩, ⟨.i 3, .c (.i 3), 2⟩] 3),
(A 86441, .cells (.l 1 [.map (A 86440)]) true false 136),
(A 86442, .map [⟨.i 1, .c (.slu (A 86737) 0 1 1), 0⟩, ⟨.i 2, .c (.slu (A 87243) 0 1 1), 1⟩, ⟨.i 3, .c (.slu (A 87854) 0 1 1), 2⟩] 3),
(A 86443, .cells (.l 1 [.map (A 86442)]) true false 137),
(A 86444, .cells (.l 1 [.slu (A 87852) 0 3 1]) true false 78),
(A 86445, .cells (.l 1 [.fn (.func 55) 0 (.cns (.ptr (A 86446) 0) (.cns (.ptr (A 86438) 0) (.cns (.ptr (A 86443) 0) (.cns (.ptr (A 86444) 0) (.cns (.ptr (A 86439) 0) (.cns (.ptr (A 86441) 0) (.cns (.ptr (A 86445) 0) (.undef))))))))]) true false 138),
(A 86446, .cells (.l 1 [.fn (.func 54) 0 (.cns (.ptr (A 86439) 0) (.undef))]) true false 53),
(A 86737, .cells (.l 1 [.i 0]) false false 3),
(A 87243, .cells (.l 1 [.i 1]) false false 3),
(A 87852, .cells (.cat 2 (.cat 1 (.l 1 [.i 1]) (.l 1 [.i 2])) (.l 1 [.i 3])) false false 3),
(A 87854, .cells (.l 1 [.i 2]) false false 3),
(A 87856, .cells (.cat 16 (.cat 8 (.l 8 [.i 0, .str 0 0, .i 1, .nil .s, .str 0 0, .i 0, .i 0, .i 0]) (.l 8 [.i 1, .str 12 0x6b6e6c702e68772e2e68772e, .i 1, .nil .s, .str 0 0, .i 0, .i 0, .i 0])) (.l 8 [.i 2, .str 2 12592, .i 2, .nil .s, .str 0 0, .i 0, .i 0, .i 0])) false false 114)],
.c (.i 0),
[(A 86439, .cells (.l 1 [.slu (A 89200) 0 6 8]) true false 61),
(A 86440, .map [⟨.i 1, .c (.i 1), 0⟩, ⟨.i 2, .c (.i 1), 1⟩, ⟨.i 3, .c (.i 3), 2⟩, ⟨.i 4, .c (.i 1), 3⟩, ⟨.i 5, .c (.i 1), 4⟩] 5),
(A 86442, .map [⟨.i 1, .c (.slu (A 86737) 0 1 1), 0⟩, ⟨.i 2, .c (.slu (A 87243) 0 1 1), 1⟩, ⟨.i 3, .c (.slu (A 89198) 0 2 1), 2⟩, ⟨.i 4, .c (.slu (A 88148) 0 1 1), 3⟩, ⟨.i 5, .c (.slu (A 88773) 0 1 1), 4⟩] 5),
(A 86444, .cells (.l 1 [.slu (A 88771) 0 5 1]) true false 78),
(A 88148, .cells (.l 1 [.i 3]) false false 3),
(A 88771, .cells (.cat 4 (.cat 3 (.cat 2 (.cat 1 (.l 1 [.i 1]) (.l 1 [.i 2])) (.l 1 [.i 3])) (.l 1 [.i 4])) (.l 1 [.i 5])) false false 3),
(A 88773, .cells (.l 1 [.i 4]) false false 3),
(A 89198, .cells (.cat 1 (.l 1 [.i 2]) (.l 1 [.i 5])) false false 3),
(A 89200, .cells (.cat 40 (.cat 32 (.cat 24 (.cat 16 (.cat 8 (.l 8 [.i 0, .str 0 0, .i 1, .nil .s, .str 0 0, .i 0, .i 0, .i 0]) (.l 8 [.i 1, .str 12 0x6b6e6c702e68772e2e68772e, .i 1, .nil .s, .str 0 0, .i 0, .i 0, .i 0])) (.l 8 [.i 2, .str 2 12592, .i 2, .nil .s, .str 0 0, .i 0, .i 0, .i 0])) (.l 8 [.i 1, .str 1 97, .i 1, .nil .s, .str 0 0, .i 0, .i 0, .i 0])) (.l 8 [.i 2, .str 11 0x71706f2e68772e2e68772e, .i 2, .nil .s, .str 0 0, .i 0, .i 0, .i 0])) (.l 8 [.i 2, .str 1 102, .i 2, .nil .s, .str 0 0, .i 0, .i 0, .i 0])) false false 114)],
[A 87852, A 87854, A 87856], A 89201⟩
theorem k87858_55 : KnownOk Tryz.prog 55 e87858_55 := known_tab mixed J [] (knNil) 1000 (by kernel_rfl)
end Go.Proofs.YtnjlcdofdcnecaaGreatDoor
