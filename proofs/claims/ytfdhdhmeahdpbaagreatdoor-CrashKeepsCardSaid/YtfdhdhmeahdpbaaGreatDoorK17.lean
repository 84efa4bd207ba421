/- Known calls, shown by runs of the evaluator: load.alone 1, convert.Start 1, recover.Recover. -/
import Derived.Test.YtfdhdhmeahdpbaaGreatDoorDat
import Derived.Test.YtfdhdhmeahdpbaaGreatDoorK06
import Derived.Test.YtfdhdhmeahdpbaaGreatDoorK07
import Derived.Test.YtfdhdhmeahdpbaaGreatDoorK08
namespace Go.Proofs.YtfdhdhmeahdpbaaGreatDoor
open Go Ev
set_option maxRecDepth 1000000
def e179196_248 : Known := ⟨[.c (.ptr (A 177841) 0), .c (.ptr (A 177873) 0)], A 179196,
[(A 1, .cells (.l 6 [.str 0 0, .str 3 0x726964, .str 4 0x656c6966, .str 4 0x6b6e696c, .str 4 0x72616863, .str 5 0x6574696877]) true true 431),
(A 4, .cells (.p .u8 10 0x7409720d6e0a5c5c2222) true true 579),
(A 5, .cells (.cat 8 (.l 8 [.str 0 0, .str 0 0, .str 0 0, .str 16 0x2e79616c7265766f2e64657473757274, .str 8 0x2e79616c7265766f, .str 21 0x74636572696465722065757161706f206b6e696c6e, .str 19 0x2e736679616c7265766f657375662e72657375, .str 5 0x2e65737566]) (.l 7 [.str 30 0x74756f65746968772074636572696465722065757161706f206b6e696c6e, .str 0 0, .str 0 0, .str 0 0, .str 4 0x2e647362, .str 4 0x2e647362, .str 6 0x65757161706f])) true true 582),
(A 7, .cells (.cat 8 (.l 8 [.nat .u32 0, .nat .u32 0x1db71064, .nat .u32 0x3b6e20c8, .nat .u32 0x26d930ac, .nat .u32 0x76dc4190, .nat .u32 0x6b6b51f4, .nat .u32 0x4db26158, .nat .u32 0x5005713c]) (.l 8 [.nat .u32 0xedb88320, .nat .u32 0xf00f9344, .nat .u32 0xd6d6a3e8, .nat .u32 0xcb61b38c, .nat .u32 0x9b64c2b0, .nat .u32 0x86d3d2d4, .nat .u32 0xa00ae278, .nat .u32 0xbdbdf21c])) true true 758),
(A 9, .cells (.p .u8 256 0x10000000000000000000000000000000000000101010101000000000000000000) true true 769),
(A 166741, .map [] 90),
(A 166742, .cells (.cat 5 (.l 5 [.slu (A 166746) 0 200 128, .nil .s, .i 90, .neg .i64 0, .bool false]) (.l 1 [.map (A 166741)])) true false 126),
(A 166746, bb2),
(A 177841, .cells (.l 1 [.i 0]) true false 24),
(A 177868, .cells (.p .b 76 0) true false 4),
(A 177871, .map [⟨.i 85, .a (.l 3 [.i 85, .i 6, .str 9 258]), 0⟩, ⟨.i 124, .a (.l 3 [.i 124, .i 7, .str 3 157185]), 1⟩, ⟨.i 84, .a (.l 3 [.i 84, .i 6, .str 13 0x101000000010101]), 2⟩] 3),
(A 177872, .cells (.cat 17 (.cat 13 (.cat 9 (.cat 4 (.cat 1 (.l 1 [.ptr (A 166742) 0]) (.l 3 [.i 200, .i 82, .i 40])) (.l 5 [.i 1, .i 83, .i 84, .i 124, .i 76])) (.cat 3 (.l 3 [.i 200, .i 82, .i 40]) (.l 1 [.sl (A 177868) 0 76 76]))) (.cat 3 (.l 3 [.i 200, .i 82, .i 40]) (.l 1 [.slu (A 179051) 0 76 1]))) (.l 4 [.map (A 177871), .bool true, .bool false, .bool false])) true false 177),
(A 177873, .cells (.l 1 [.ptr (A 177872) 0]) true false 105),
(A 179051, .cells (.p .b 76 1) false false 4)],
.t [],
[(A 166741, .map [] 100),
(A 166742, .cells (.cat 5 (.l 5 [.slu (A 166746) 0 200 128, .nil .s, .i 100, .neg .i64 0, .bool false]) (.l 1 [.map (A 166741)])) true false 126),
(A 166746, bb4),
(A 177872, .cells (.cat 17 (.cat 13 (.cat 9 (.cat 4 (.cat 1 (.l 1 [.ptr (A 166742) 0]) (.l 3 [.i 200, .i 82, .i 40])) (.l 5 [.i 1, .i 83, .i 84, .i 124, .i 76])) (.cat 3 (.l 3 [.i 200, .i 82, .i 40]) (.l 1 [.sl (A 177868) 0 76 76]))) (.cat 3 (.l 3 [.i 200, .i 82, .i 40]) (.l 1 [.slu (A 179051) 0 76 1]))) (.l 4 [.map (A 177871), .bool true, .bool false, .bool true])) true false 177)],
[], A 190666⟩
theorem k179196_248 : KnownOk Tryz.prog 248 e179196_248 := known_tab mixed J [(401, e185424_401)] (knCons k185424_401 (knNil)) 1000 (by kernel_rfl)

def e203751_355 : Known := ⟨[.c (.ptr (A 203749) 0), .c (.ptr (A 203715) 0), .c (.ptr (A 203716) 0)], A 203751,
[(A 1, .cells (.l 6 [.str 0 0, .str 3 0x726964, .str 4 0x656c6966, .str 4 0x6b6e696c, .str 4 0x72616863, .str 5 0x6574696877]) true true 431),
(A 4, .cells (.p .u8 10 0x7409720d6e0a5c5c2222) true true 579),
(A 5, .cells (.cat 8 (.l 8 [.str 0 0, .str 0 0, .str 0 0, .str 16 0x2e79616c7265766f2e64657473757274, .str 8 0x2e79616c7265766f, .str 21 0x74636572696465722065757161706f206b6e696c6e, .str 19 0x2e736679616c7265766f657375662e72657375, .str 5 0x2e65737566]) (.l 7 [.str 30 0x74756f65746968772074636572696465722065757161706f206b6e696c6e, .str 0 0, .str 0 0, .str 0 0, .str 4 0x2e647362, .str 4 0x2e647362, .str 6 0x65757161706f])) true true 582),
(A 7, .cells (.cat 8 (.l 8 [.nat .u32 0, .nat .u32 0x1db71064, .nat .u32 0x3b6e20c8, .nat .u32 0x26d930ac, .nat .u32 0x76dc4190, .nat .u32 0x6b6b51f4, .nat .u32 0x4db26158, .nat .u32 0x5005713c]) (.l 8 [.nat .u32 0xedb88320, .nat .u32 0xf00f9344, .nat .u32 0xd6d6a3e8, .nat .u32 0xcb61b38c, .nat .u32 0x9b64c2b0, .nat .u32 0x86d3d2d4, .nat .u32 0xa00ae278, .nat .u32 0xbdbdf21c])) true true 758),
(A 9, .cells (.p .u8 256 0x10000000000000000000000000000000000000101010101000000000000000000) true true 769),
(A 166741, .map [] 110),
(A 166742, .cells (.cat 5 (.l 5 [.slu (A 166746) 0 200 128, .nil .s, .i 110, .neg .i64 0, .bool false]) (.l 1 [.map (A 166741)])) true false 126),
(A 166746, bb0),
(A 203715, .cells (.l 1 [.i 1]) true false 3),
(A 203716, .cells (.l 1 [.i 0]) true false 3),
(A 203745, .cells (.p .b 76 1) true false 4),
(A 203748, .map [] 0),
(A 203749, .cells (.cat 17 (.cat 13 (.cat 9 (.cat 4 (.cat 1 (.l 1 [.ptr (A 166742) 0]) (.l 3 [.i 200, .i 82, .i 40])) (.l 5 [.i 1, .i 83, .i 84, .i 124, .i 76])) (.cat 3 (.l 3 [.i 200, .i 82, .i 40]) (.l 1 [.sl (A 203745) 0 76 76]))) (.cat 3 (.l 3 [.i 200, .i 82, .i 40]) (.l 1 [.sl (A 203745) 0 76 76]))) (.l 4 [.map (A 203748), .bool false, .bool false, .bool false])) true false 177)],
.c (.i 0),
[(A 203748, .map [⟨.i 0, .a (.l 3 [.i 0, .i 4, .str 5 0x1000104]), 0⟩] 1)],
[], A 206940⟩
theorem k203751_355 : KnownOk Tryz.prog 355 e203751_355 := known_tab mixed J [(358, e205020_358)] (knCons k205020_358 (knNil)) 1000 (by kernel_rfl)

def e221884_43 : Known := ⟨[.c (.ptr (A 221876) 0), .a (.l 3 [.i 200, .i 82, .i 40])], A 221884,
[(A 1, .cells (.l 6 [.str 0 0, .str 3 0x726964, .str 4 0x656c6966, .str 4 0x6b6e696c, .str 4 0x72616863, .str 5 0x6574696877]) true true 431),
(A 4, .cells (.p .u8 10 0x7409720d6e0a5c5c2222) true true 579),
(A 5, .cells (.cat 8 (.l 8 [.str 0 0, .str 0 0, .str 0 0, .str 16 0x2e79616c7265766f2e64657473757274, .str 8 0x2e79616c7265766f, .str 21 0x74636572696465722065757161706f206b6e696c6e, .str 19 0x2e736679616c7265766f657375662e72657375, .str 5 0x2e65737566]) (.l 7 [.str 30 0x74756f65746968772074636572696465722065757161706f206b6e696c6e, .str 0 0, .str 0 0, .str 0 0, .str 4 0x2e647362, .str 4 0x2e647362, .str 6 0x65757161706f])) true true 582),
(A 7, .cells (.cat 8 (.l 8 [.nat .u32 0, .nat .u32 0x1db71064, .nat .u32 0x3b6e20c8, .nat .u32 0x26d930ac, .nat .u32 0x76dc4190, .nat .u32 0x6b6b51f4, .nat .u32 0x4db26158, .nat .u32 0x5005713c]) (.l 8 [.nat .u32 0xedb88320, .nat .u32 0xf00f9344, .nat .u32 0xd6d6a3e8, .nat .u32 0xcb61b38c, .nat .u32 0x9b64c2b0, .nat .u32 0x86d3d2d4, .nat .u32 0xa00ae278, .nat .u32 0xbdbdf21c])) true true 758),
(A 9, .cells (.p .u8 256 0x10000000000000000000000000000000000000101010101000000000000000000) true true 769),
(A 221875, .map [] 0),
(A 221876, .cells (.cat 5 (.l 5 [.slu (A 221880) 0 200 128, .nil .s, .i 114, .neg .i64 0, .bool false]) (.l 1 [.map (A 221875)])) true false 126),
(A 221880, bb7)],
.t [.a (.cat 6 (.cat 1 (.l 1 [.i 0]) (.l 5 [.i 4, .i 1, .i 0, .i 1, .bool false])) (.l 2 [.i 3, .i 1])), .c (.i 0)],
[],
[], A 225488⟩
theorem k221884_43 : KnownOk Tryz.prog 43 e221884_43 := known_tab mixed J [(143, e222918_143), (144, e224298_144)] (knCons k222918_143 (knCons k224298_144 (knNil))) 1000 (by kernel_rfl)
end Go.Proofs.YtfdhdhmeahdpbaaGreatDoor
