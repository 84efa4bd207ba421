/- Known calls, shown by runs of the evaluator: journal.Commit 2, convert.Step, load.Tree 2. -/
import Derived.Test.YtnjlcdofdcnecaaGreatDoorDat
namespace Go.Proofs.YtnjlcdofdcnecaaGreatDoor
open Go Ev
set_option maxRecDepth 1000000
def e141458_344 : Known := ⟨[.c (.ptr (A 134259) 0), .c (.ptr (A 134260) 0)], A 141458,
[(A 3, .cells (.cat 8 (.l 8 [.str 0 0, .str 0 0, .str 0 0, .str 16 0x2e79616c7265766f2e64657473757274, .str 8 0x2e79616c7265766f, .str 21 0x74636572696465722065757161706f206b6e696c6e, .str 19 0x2e736679616c7265766f657375662e72657375, .str 5 0x2e65737566]) (.l 7 [.str 30 0x74756f65746968772074636572696465722065757161706f206b6e696c6e, .str 0 0, .str 0 0, .str 0 0, .str 4 0x2e647362, .str 4 0x2e647362, .str 6 0x65757161706f])) true true 625),
(A 5, .cells (.cat 8 (.l 8 [.nat .u32 0, .nat .u32 0x1db71064, .nat .u32 0x3b6e20c8, .nat .u32 0x26d930ac, .nat .u32 0x76dc4190, .nat .u32 0x6b6b51f4, .nat .u32 0x4db26158, .nat .u32 0x5005713c]) (.l 8 [.nat .u32 0xedb88320, .nat .u32 0xf00f9344, .nat .u32 0xd6d6a3e8, .nat .u32 0xcb61b38c, .nat .u32 0x9b64c2b0, .nat .u32 0x86d3d2d4, .nat .u32 0xa00ae278, .nat .u32 0xbdbdf21c])) true true 684),
(A 6, .cells (.p .u8 256 0x10000000000000000000000000000000000000101010101000000000000000000) true true 740),
(A 1006, .map [] 155),
(A 1007, .cells (.cat 5 (.l 5 [.slu (A 1011) 0 128 128, .nil .s, .i 155, .neg .i64 0, .bool false]) (.l 1 [.map (A 1006)])) true false 184),
(A 1011, bb25),
(A 134259, .cells (.l 1 [.ptr (A 1007) 0]) true false 54),
(A 134260, .cells (.l 2 [.i 1, .i 60]) true false 268)],
.c (.i 0),
[(A 1006, .map [] 161),
(A 1007, .cells (.cat 5 (.l 5 [.slu (A 1011) 0 128 128, .nil .s, .i 161, .neg .i64 0, .bool false]) (.l 1 [.map (A 1006)])) true false 184),
(A 1011, bb26)],
[], A 147746⟩
theorem k141458_344 : KnownOk Tryz.prog 344 e141458_344 := known_tab mixed J [] (knNil) 1000 (by kernel_rfl)

def e148785_10 : Known := ⟨[.c (.ptr (A 1007) 0), .a (.l 3 [.i 128, .i 60, .i 10])], A 148785,
[(A 3, .cells (.cat 8 (.l 8 [.str 0 0, .str 0 0, .str 0 0, .str 16 0x2e79616c7265766f2e64657473757274, .str 8 0x2e79616c7265766f, .str 21 0x74636572696465722065757161706f206b6e696c6e, .str 19 0x2e736679616c7265766f657375662e72657375, .str 5 0x2e65737566]) (.l 7 [.str 30 0x74756f65746968772074636572696465722065757161706f206b6e696c6e, .str 0 0, .str 0 0, .str 0 0, .str 4 0x2e647362, .str 4 0x2e647362, .str 6 0x65757161706f])) true true 625),
(A 5, .cells (.cat 8 (.l 8 [.nat .u32 0, .nat .u32 0x1db71064, .nat .u32 0x3b6e20c8, .nat .u32 0x26d930ac, .nat .u32 0x76dc4190, .nat .u32 0x6b6b51f4, .nat .u32 0x4db26158, .nat .u32 0x5005713c]) (.l 8 [.nat .u32 0xedb88320, .nat .u32 0xf00f9344, .nat .u32 0xd6d6a3e8, .nat .u32 0xcb61b38c, .nat .u32 0x9b64c2b0, .nat .u32 0x86d3d2d4, .nat .u32 0xa00ae278, .nat .u32 0xbdbdf21c])) true true 684),
(A 6, .cells (.p .u8 256 0x10000000000000000000000000000000000000101010101000000000000000000) true true 740),
(A 1006, .map [] 162),
(A 1007, .cells (.cat 5 (.l 5 [.slu (A 1011) 0 128 128, .nil .s, .i 162, .neg .i64 0, .bool false]) (.l 1 [.map (A 1006)])) true false 184),
(A 1011, bb24)],
.t [.a (.l 8 [.i 2, .i 0, .i 1, .i 4, .i 0, .i 0, .i 0, .i 0]), .c (.i 0)],
[(A 1006, .map [] 166),
(A 1007, .cells (.cat 5 (.l 5 [.slu (A 1011) 0 128 128, .nil .s, .i 166, .neg .i64 0, .bool false]) (.l 1 [.map (A 1006)])) true false 184),
(A 1011, bb27)],
[], A 155192⟩
theorem k148785_10 : KnownOk Tryz.prog 10 e148785_10 := known_tab mixed J [] (knNil) 1000 (by kernel_rfl)

def e156038_55 : Known := ⟨[.c (.i 1), .c (.str 1 97), .c (.i 4), .c (.ptr (A 155545) 0), .c (.ptr (A 155537) 0), .c (.ptr (A 155542) 0), .c (.ptr (A 155543) 0), .c (.ptr (A 155538) 0), .c (.ptr (A 155540) 0), .c (.ptr (A 155544) 0)], A 156038,
[(A 3, .cells (.cat 8 (.l 8 [.str 0 0, .str 0 0, .str 0 0, .str 16 0x2e79616c7265766f2e64657473757274, .str 8 0x2e79616c7265766f, .str 21 0x74636572696465722065757161706f206b6e696c6e, .str 19 0x2e736679616c7265766f657375662e72657375, .str 5 0x2e65737566]) (.l 7 [.str 30 0x74756f65746968772074636572696465722065757161706f206b6e696c6e, .str 0 0, .str 0 0, .str 0 0, .str 4 0x2e647362, .str 4 0x2e647362, .str 6 0x65757161706f])) true true 625),
(A 5, .cells (.cat 8 (.l 8 [.nat .u32 0, .nat .u32 0x1db71064, .nat .u32 0x3b6e20c8, .nat .u32 0x26d930ac, .nat .u32 0x76dc4190, .nat .u32 0x6b6b51f4, .nat .u32 0x4db26158, .nat .u32 0x5005713c]) (.l 8 [.nat .u32 0xedb88320, .nat .u32 0xf00f9344, .nat .u32 0xd6d6a3e8, .nat .u32 0xcb61b38c, .nat .u32 0x9b64c2b0, .nat .u32 0x86d3d2d4, .nat .u32 0xa00ae278, .nat .u32 0xbdbdf21c])) true true 684),
(A 6, .cells (.p .u8 256 0x10000000000000000000000000000000000000101010101000000000000000000) true true 740),
(A 1006, .map [] 166),
(A 1007, .cells (.cat 5 (.l 5 [.slu (A 1011) 0 128 128, .nil .s, .i 166, .neg .i64 0, .bool false]) (.l 1 [.map (A 1006)])) true false 184),
(A 1011, bb27),
(A 155532, .cells (.p .b 56 7) true false 4),
(A 155535, .map [] 0),
(A 155536, .cells (.cat 17 (.cat 13 (.cat 9 (.cat 4 (.cat 1 (.l 1 [.ptr (A 1007) 0]) (.l 3 [.i 128, .i 60, .i 10])) (.l 5 [.i 1, .i 61, .i 62, .i 72, .i 56])) (.cat 3 (.l 3 [.i 128, .i 60, .i 10]) (.l 1 [.sl (A 155532) 0 56 56]))) (.cat 3 (.l 3 [.i 128, .i 60, .i 10]) (.l 1 [.sl (A 155532) 0 56 56]))) (.l 4 [.map (A 155535), .bool false, .bool false, .bool false])) true false 135),
(A 155537, .cells (.l 1 [.ptr (A 155536) 0]) true false 58),
(A 155538, .cells (.l 1 [.slu (A 155838) 0 1 8]) true false 61),
(A 155539, .map [⟨.i 1, .c (.i 1), 0⟩] 1),
(A 155540, .cells (.l 1 [.map (A 155539)]) true false 136),
(A 155541, .map [⟨.i 1, .c (.slu (A 155836) 0 1 1), 0⟩] 1),
(A 155542, .cells (.l 1 [.map (A 155541)]) true false 137),
(A 155543, .cells (.l 1 [.slu (A 155834) 0 1 1]) true false 78),
(A 155544, .cells (.l 1 [.fn (.func 55) 0 (.cns (.ptr (A 155545) 0) (.cns (.ptr (A 155537) 0) (.cns (.ptr (A 155542) 0) (.cns (.ptr (A 155543) 0) (.cns (.ptr (A 155538) 0) (.cns (.ptr (A 155540) 0) (.cns (.ptr (A 155544) 0) (.undef))))))))]) true false 138),
(A 155545, .cells (.l 1 [.fn (.func 54) 0 (.cns (.ptr (A 155538) 0) (.undef))]) true false 53),
(A 155834, .cells (.l 1 [.i 1]) false false 3),
(A 155836, .cells (.l 1 [.i 0]) false false 3),
(A 155838, .cells (.l 8 [.i 0, .str 0 0, .i 1, .nil .s, .str 0 0, .i 0, .i 0, .i 0]) false false 114)],
.c (.i 0),
[(A 155538, .cells (.l 1 [.slu (A 156997) 0 3 8]) true false 61),
(A 155539, .map [⟨.i 1, .c (.i 1), 0⟩, ⟨.i 4, .c (.i 1), 1⟩, ⟨.i 3, .c (.i 2), 2⟩] 3),
(A 155541, .map [⟨.i 1, .c (.slu (A 155836) 0 1 1), 0⟩, ⟨.i 4, .c (.slu (A 156380) 0 1 1), 1⟩, ⟨.i 3, .c (.slu (A 156995) 0 1 1), 2⟩] 3),
(A 155543, .cells (.l 1 [.slu (A 156993) 0 3 1]) true false 78),
(A 156358, .cells (.l 2 [.str 10 0x65757161706f2e647362, .str 0 0]) false false 161),
(A 156380, .cells (.l 1 [.i 1]) false false 3),
(A 156993, .cells (.cat 2 (.cat 1 (.l 1 [.i 1]) (.l 1 [.i 4])) (.l 1 [.i 3])) false false 3),
(A 156995, .cells (.l 1 [.i 2]) false false 3),
(A 156997, .cells (.cat 16 (.cat 8 (.l 8 [.i 0, .str 0 0, .i 1, .nil .s, .str 0 0, .i 0, .i 0, .i 0]) (.l 8 [.i 1, .str 1 97, .i 1, .slu (A 156358) 0 1 2, .str 0 0, .i 0, .i 0, .i 0])) (.l 8 [.i 2, .str 1 102, .i 2, .nil .s, .str 0 0, .i 0, .i 0, .i 0])) false false 114)],
[A 155834, A 155838], A 156998⟩
theorem k156038_55 : KnownOk Tryz.prog 55 e156038_55 := known_tab mixed J [] (knNil) 1000 (by kernel_rfl)
end Go.Proofs.YtnjlcdofdcnecaaGreatDoor
