/- Known calls, shown by runs of the evaluator: load.alone 1, load.Tree 2, convert.Step 1. -/
import Derived.Test.YtnjlcdofdcnecaaGreatDoorDat
import Derived.Test.YtnjlcdofdcnecaaGreatDoorK02
import Derived.Test.YtnjlcdofdcnecaaGreatDoorK03
namespace Go.Proofs.YtnjlcdofdcnecaaGreatDoor
open Go Ev
set_option maxRecDepth 1000000
def e71658_163 : Known := ⟨[.c (.ptr (A 70972) 0), .c (.ptr (A 71004) 0)], A 71658,
[(A 3, .cells (.cat 8 (.l 8 [.str 0 0, .str 0 0, .str 0 0, .str 16 0x2e79616c7265766f2e64657473757274, .str 8 0x2e79616c7265766f, .str 21 0x74636572696465722065757161706f206b6e696c6e, .str 19 0x2e736679616c7265766f657375662e72657375, .str 5 0x2e65737566]) (.l 7 [.str 30 0x74756f65746968772074636572696465722065757161706f206b6e696c6e, .str 0 0, .str 0 0, .str 0 0, .str 4 0x2e647362, .str 4 0x2e647362, .str 6 0x65757161706f])) true true 625),
(A 5, .cells (.cat 8 (.l 8 [.nat .u32 0, .nat .u32 0x1db71064, .nat .u32 0x3b6e20c8, .nat .u32 0x26d930ac, .nat .u32 0x76dc4190, .nat .u32 0x6b6b51f4, .nat .u32 0x4db26158, .nat .u32 0x5005713c]) (.l 8 [.nat .u32 0xedb88320, .nat .u32 0xf00f9344, .nat .u32 0xd6d6a3e8, .nat .u32 0xcb61b38c, .nat .u32 0x9b64c2b0, .nat .u32 0x86d3d2d4, .nat .u32 0xa00ae278, .nat .u32 0xbdbdf21c])) true true 684),
(A 6, .cells (.p .u8 256 0x10000000000000000000000000000000000000101010101000000000000000000) true true 740),
(A 1006, .map [] 114),
(A 1007, .cells (.cat 5 (.l 5 [.slu (A 1011) 0 128 128, .nil .s, .i 114, .neg .i64 0, .bool false]) (.l 1 [.map (A 1006)])) true false 184),
(A 1011, bb15),
(A 70972, .cells (.l 1 [.i 0]) true false 26),
(A 70999, .cells (.p .b 56 7) true false 4),
(A 71002, .map [⟨.i 72, .a (.l 3 [.i 72, .i 7, .str 20 0x36701046101026b6e6c702e68772e2e68772e0c]), 0⟩, ⟨.i 62, .a (.l 3 [.i 62, .i 6, .str 13 0x101000000030101]), 1⟩, ⟨.i 64, .a (.l 3 [.i 64, .i 6, .str 9 770]), 2⟩] 3),
(A 71003, .cells (.cat 17 (.cat 13 (.cat 9 (.cat 4 (.cat 1 (.l 1 [.ptr (A 1007) 0]) (.l 3 [.i 128, .i 60, .i 10])) (.l 5 [.i 1, .i 61, .i 62, .i 72, .i 56])) (.cat 3 (.l 3 [.i 128, .i 60, .i 10]) (.l 1 [.sl (A 70999) 0 56 56]))) (.cat 3 (.l 3 [.i 128, .i 60, .i 10]) (.l 1 [.sl (A 70999) 0 56 56]))) (.l 4 [.map (A 71002), .bool false, .bool false, .bool false])) true false 135),
(A 71004, .cells (.l 1 [.ptr (A 71003) 0]) true false 58)],
.t [],
[(A 1006, .map [] 122),
(A 1007, .cells (.cat 5 (.l 5 [.slu (A 1011) 0 128 128, .nil .s, .i 122, .neg .i64 0, .bool false]) (.l 1 [.map (A 1006)])) true false 184),
(A 1011, bb16),
(A 71003, .cells (.cat 17 (.cat 13 (.cat 9 (.cat 4 (.cat 1 (.l 1 [.ptr (A 1007) 0]) (.l 3 [.i 128, .i 60, .i 10])) (.l 5 [.i 1, .i 61, .i 62, .i 72, .i 56])) (.cat 3 (.l 3 [.i 128, .i 60, .i 10]) (.l 1 [.sl (A 70999) 0 56 56]))) (.cat 3 (.l 3 [.i 128, .i 60, .i 10]) (.l 1 [.sl (A 70999) 0 56 56]))) (.l 4 [.map (A 71002), .bool false, .bool false, .bool true])) true false 135)],
[], A 81029⟩
theorem k71658_163 : KnownOk Tryz.prog 163 e71658_163 := known_tab mixed J [(344, e76829_344)] (knCons k76829_344 (knNil)) 1000 (by kernel_rfl)

def e86447_55 : Known := ⟨[.c (.i 0), .c (.str 0 0), .c (.i 1), .c (.ptr (A 86446) 0), .c (.ptr (A 86438) 0), .c (.ptr (A 86443) 0), .c (.ptr (A 86444) 0), .c (.ptr (A 86439) 0), .c (.ptr (A 86441) 0), .c (.ptr (A 86445) 0)], A 86447,
[(A 3, .cells (.cat 8 (.l 8 [.str 0 0, .str 0 0, .str 0 0, .str 16 0x2e79616c7265766f2e64657473757274, .str 8 0x2e79616c7265766f, .str 21 0x74636572696465722065757161706f206b6e696c6e, .str 19 0x2e736679616c7265766f657375662e72657375, .str 5 0x2e65737566]) (.l 7 [.str 30 0x74756f65746968772074636572696465722065757161706f206b6e696c6e, .str 0 0, .str 0 0, .str 0 0, .str 4 0x2e647362, .str 4 0x2e647362, .str 6 0x65757161706f])) true true 625),
(A 5, .cells (.cat 8 (.l 8 [.nat .u32 0, .nat .u32 0x1db71064, .nat .u32 0x3b6e20c8, .nat .u32 0x26d930ac, .nat .u32 0x76dc4190, .nat .u32 0x6b6b51f4, .nat .u32 0x4db26158, .nat .u32 0x5005713c]) (.l 8 [.nat .u32 0xedb88320, .nat .u32 0xf00f9344, .nat .u32 0xd6d6a3e8, .nat .u32 0xcb61b38c, .nat .u32 0x9b64c2b0, .nat .u32 0x86d3d2d4, .nat .u32 0xa00ae278, .nat .u32 0xbdbdf21c])) true true 684),
(A 6, .cells (.p .u8 256 0x10000000000000000000000000000000000000101010101000000000000000000) true true 740),
(A 1006, .map [] 126),
(A 1007, .cells (.cat 5 (.l 5 [.slu (A 1011) 0 128 128, .nil .s, .i 126, .neg .i64 0, .bool false]) (.l 1 [.map (A 1006)])) true false 184),
(A 1011, bb0),
(A 86367, .cells (.p .b 56 7) true false 4),
(A 86370, .map [] 0),
(A 86371, .cells (.cat 17 (.cat 13 (.cat 9 (.cat 4 (.cat 1 (.l 1 [.ptr (A 1007) 0]) (.l 3 [.i 128, .i 60, .i 10])) (.l 5 [.i 1, .i 61, .i 62, .i 72, .i 56])) (.cat 3 (.l 3 [.i 128, .i 60, .i 10]) (.l 1 [.sl (A 86367) 0 56 56]))) (.cat 3 (.l 3 [.i 128, .i 60, .i 10]) (.l 1 [.sl (A 86367) 0 56 56]))) (.l 4 [.map (A 86370), .bool false, .bool false, .bool false])) true false 135),
(A 86438, .cells (.l 1 [.ptr (A 86371) 0]) true false 58),
(A 86439, .cells (.l 1 [.nil .s]) true false 61),
(A 86440, .map [] 0),
(A 86441, .cells (.l 1 [.map (A 86440)]) true false 136),
(A 86442, .map [] 0),
(A 86443, .cells (.l 1 [.map (A 86442)]) true false 137),
(A 86444, .cells (.l 1 [.nil .s]) true false 78),
(A 86445, .cells (.l 1 [.fn (.func 55) 0 (.cns (.ptr (A 86446) 0) (.cns (.ptr (A 86438) 0) (.cns (.ptr (A 86443) 0) (.cns (.ptr (A 86444) 0) (.cns (.ptr (A 86439) 0) (.cns (.ptr (A 86441) 0) (.cns (.ptr (A 86445) 0) (.undef))))))))]) true false 138),
(A 86446, .cells (.l 1 [.fn (.func 54) 0 (.cns (.ptr (A 86439) 0) (.undef))]) true false 53)],
.c (.i 0),
[(A 86439, .cells (.l 1 [.slu (A 89625) 0 7 8]) true false 61),
(A 86440, .map [⟨.i 1, .c (.i 1), 0⟩, ⟨.i 2, .c (.i 1), 1⟩, ⟨.i 3, .c (.i 3), 2⟩, ⟨.i 4, .c (.i 1), 3⟩, ⟨.i 5, .c (.i 1), 4⟩] 5),
(A 86442, .map [⟨.i 1, .c (.slu (A 86737) 0 1 1), 0⟩, ⟨.i 2, .c (.slu (A 87243) 0 1 1), 1⟩, ⟨.i 3, .c (.slu (A 89623) 0 3 1), 2⟩, ⟨.i 4, .c (.slu (A 88148) 0 1 1), 3⟩, ⟨.i 5, .c (.slu (A 88773) 0 1 1), 4⟩] 5),
(A 86444, .cells (.l 1 [.slu (A 88771) 0 5 1]) true false 78),
(A 86737, .cells (.l 1 [.i 0]) false false 3),
(A 87243, .cells (.l 1 [.i 1]) false false 3),
(A 88148, .cells (.l 1 [.i 3]) false false 3),
(A 88771, .cells (.cat 4 (.cat 3 (.cat 2 (.cat 1 (.l 1 [.i 1]) (.l 1 [.i 2])) (.l 1 [.i 3])) (.l 1 [.i 4])) (.l 1 [.i 5])) false false 3),
(A 88773, .cells (.l 1 [.i 4]) false false 3),
(A 89623, .cells (.cat 2 (.cat 1 (.l 1 [.i 2]) (.l 1 [.i 5])) (.l 1 [.i 6])) false false 3),
(A 89625, .cells (.cat 48 (.cat 40 (.cat 32 (.cat 24 (.cat 16 (.cat 8 (.l 8 [.i 0, .str 0 0, .i 1, .nil .s, .str 0 0, .i 0, .i 0, .i 0]) (.l 8 [.i 1, .str 12 0x6b6e6c702e68772e2e68772e, .i 1, .nil .s, .str 0 0, .i 0, .i 0, .i 0])) (.l 8 [.i 2, .str 2 12592, .i 2, .nil .s, .str 0 0, .i 0, .i 0, .i 0])) (.l 8 [.i 1, .str 1 97, .i 1, .nil .s, .str 0 0, .i 0, .i 0, .i 0])) (.l 8 [.i 2, .str 11 0x71706f2e68772e2e68772e, .i 2, .nil .s, .str 0 0, .i 0, .i 0, .i 0])) (.l 8 [.i 2, .str 1 102, .i 2, .nil .s, .str 0 0, .i 0, .i 0, .i 0])) (.l 8 [.i 1, .str 1 103, .i 2, .nil .s, .str 0 0, .i 0, .i 0, .i 0])) false false 114)],
[], A 89626⟩
theorem k86447_55 : KnownOk Tryz.prog 55 e86447_55 := known_tab mixed J [(55, e87858_55)] (knCons k87858_55 (knNil)) 1000 (by kernel_rfl)

def e102471_34 : Known := ⟨[.c (.ptr (A 102469) 0), .c (.ptr (A 102431) 0), .c (.ptr (A 102436) 0), .c (.ptr (A 102435) 0)], A 102471,
[(A 3, .cells (.cat 8 (.l 8 [.str 0 0, .str 0 0, .str 0 0, .str 16 0x2e79616c7265766f2e64657473757274, .str 8 0x2e79616c7265766f, .str 21 0x74636572696465722065757161706f206b6e696c6e, .str 19 0x2e736679616c7265766f657375662e72657375, .str 5 0x2e65737566]) (.l 7 [.str 30 0x74756f65746968772074636572696465722065757161706f206b6e696c6e, .str 0 0, .str 0 0, .str 0 0, .str 4 0x2e647362, .str 4 0x2e647362, .str 6 0x65757161706f])) true true 625),
(A 5, .cells (.cat 8 (.l 8 [.nat .u32 0, .nat .u32 0x1db71064, .nat .u32 0x3b6e20c8, .nat .u32 0x26d930ac, .nat .u32 0x76dc4190, .nat .u32 0x6b6b51f4, .nat .u32 0x4db26158, .nat .u32 0x5005713c]) (.l 8 [.nat .u32 0xedb88320, .nat .u32 0xf00f9344, .nat .u32 0xd6d6a3e8, .nat .u32 0xcb61b38c, .nat .u32 0x9b64c2b0, .nat .u32 0x86d3d2d4, .nat .u32 0xa00ae278, .nat .u32 0xbdbdf21c])) true true 684),
(A 6, .cells (.p .u8 256 0x10000000000000000000000000000000000000101010101000000000000000000) true true 740),
(A 1006, .map [] 130),
(A 1007, .cells (.cat 5 (.l 5 [.slu (A 1011) 0 128 128, .nil .s, .i 130, .neg .i64 0, .bool false]) (.l 1 [.map (A 1006)])) true false 184),
(A 1011, bb19),
(A 102431, .cells (.l 1 [.ptr (A 1007) 0]) true false 54),
(A 102434, .cells (.cat 6 (.l 6 [.nil .p, .i 0, .i 0, .i 0, .i 0, .bool false]) (.l 8 [.i 0, .i 0, .i 0, .i 0, .i 0, .i 0, .i 0, .i 0])) true false 84),
(A 102435, .cells (.l 1 [.ptr (A 102434) 0]) true false 82),
(A 102436, .cells (.l 1 [.i 0]) true false 2),
(A 102465, .cells (.p .b 56 7) true false 4),
(A 102468, .map [] 0),
(A 102469, .cells (.cat 17 (.cat 13 (.cat 9 (.cat 4 (.cat 1 (.l 1 [.ptr (A 1007) 0]) (.l 3 [.i 128, .i 60, .i 10])) (.l 5 [.i 1, .i 61, .i 62, .i 72, .i 56])) (.cat 3 (.l 3 [.i 128, .i 60, .i 10]) (.l 1 [.sl (A 102465) 0 56 56]))) (.cat 3 (.l 3 [.i 128, .i 60, .i 10]) (.l 1 [.sl (A 102465) 0 56 56]))) (.l 4 [.map (A 102468), .bool false, .bool false, .bool false])) true false 135)],
.c (.i 0),
[(A 102434, .cells (.cat 6 (.cat 1 (.l 1 [.ptr (A 102469) 0]) (.l 5 [.i 3, .i 4, .i 0, .i 2, .bool false])) (.l 8 [.neg .i64 0, .i 0, .i 6, .i 0, .i 0, .i 1, .i 2, .i 0])) true false 84),
(A 102436, .cells (.l 1 [.i 130]) true false 2),
(A 102468, .map [⟨.i 63, .a (.l 3 [.i 63, .i 6, .str 9 0]), 0⟩, ⟨.i 64, .a (.l 3 [.i 64, .i 6, .str 9 514]), 1⟩, ⟨.i 72, .a (.l 3 [.i 72, .i 7, .str 6 0x36701046101]), 2⟩, ⟨.i 62, .a (.l 3 [.i 62, .i 6, .str 13 0x101000000020101]), 3⟩, ⟨.i 0, .a (.l 3 [.i 0, .i 4, .str 5 0x2010403]), 4⟩] 5),
(A 102469, .cells (.cat 17 (.cat 13 (.cat 9 (.cat 4 (.cat 1 (.l 1 [.ptr (A 1007) 0]) (.l 3 [.i 128, .i 60, .i 10])) (.l 5 [.i 1, .i 61, .i 62, .i 72, .i 56])) (.cat 3 (.l 3 [.i 128, .i 60, .i 10]) (.l 1 [.sl (A 102465) 0 56 56]))) (.cat 3 (.l 3 [.i 128, .i 60, .i 10]) (.l 1 [.slu (A 103441) 0 56 1]))) (.l 4 [.map (A 102468), .bool true, .bool false, .bool false])) true false 135),
(A 103441, .cells (.p .b 56 5) false false 4)],
[], A 105523⟩
theorem k102471_34 : KnownOk Tryz.prog 34 e102471_34 := known_tab mixed J [(91, e104387_91)] (knCons k104387_91 (knNil)) 1000 (by kernel_rfl)
end Go.Proofs.YtnjlcdofdcnecaaGreatDoor
