/- Known calls, shown by runs of the evaluator: txn.Format, journal.Commit 2, load.alone 1. -/
import Derived.Test.YtfdhdhmeahdpbaaGreatDoorDat
namespace Go.Proofs.YtfdhdhmeahdpbaaGreatDoor
open Go Ev
set_option maxRecDepth 1000000
def e1288_246 : Known := ⟨[.c (.ptr (A 1112) 0), .a (.l 3 [.i 200, .i 82, .i 40])], A 1288,
[(A 1, .cells (.l 6 [.str 0 0, .str 3 0x726964, .str 4 0x656c6966, .str 4 0x6b6e696c, .str 4 0x72616863, .str 5 0x6574696877]) true true 431),
(A 4, .cells (.p .u8 10 0x7409720d6e0a5c5c2222) true true 579),
(A 5, .cells (.cat 8 (.l 8 [.str 0 0, .str 0 0, .str 0 0, .str 16 0x2e79616c7265766f2e64657473757274, .str 8 0x2e79616c7265766f, .str 21 0x74636572696465722065757161706f206b6e696c6e, .str 19 0x2e736679616c7265766f657375662e72657375, .str 5 0x2e65737566]) (.l 7 [.str 30 0x74756f65746968772074636572696465722065757161706f206b6e696c6e, .str 0 0, .str 0 0, .str 0 0, .str 4 0x2e647362, .str 4 0x2e647362, .str 6 0x65757161706f])) true true 582),
(A 7, .cells (.cat 8 (.l 8 [.nat .u32 0, .nat .u32 0x1db71064, .nat .u32 0x3b6e20c8, .nat .u32 0x26d930ac, .nat .u32 0x76dc4190, .nat .u32 0x6b6b51f4, .nat .u32 0x4db26158, .nat .u32 0x5005713c]) (.l 8 [.nat .u32 0xedb88320, .nat .u32 0xf00f9344, .nat .u32 0xd6d6a3e8, .nat .u32 0xcb61b38c, .nat .u32 0x9b64c2b0, .nat .u32 0x86d3d2d4, .nat .u32 0xa00ae278, .nat .u32 0xbdbdf21c])) true true 758),
(A 9, .cells (.p .u8 256 0x10000000000000000000000000000000000000101010101000000000000000000) true true 769),
(A 1111, .map [] 0),
(A 1112, .cells (.cat 5 (.l 5 [.slu (A 1116) 0 200 128, .nil .s, .i 0, .neg .i64 0, .bool false]) (.l 1 [.map (A 1111)])) true false 126),
(A 1116, .cells (.p .u8 25600 0) false false 129)],
.c (.i 0),
[(A 1111, .map [] 86),
(A 1112, .cells (.cat 5 (.l 5 [.slu (A 1116) 0 200 128, .nil .s, .i 86, .neg .i64 0, .bool false]) (.l 1 [.map (A 1111)])) true false 126),
(A 1116, bb3)],
[], A 6852⟩
theorem k1288_246 : KnownOk Tryz.prog 246 e1288_246 := known_tab mixed J [] (knNil) 1000 (by kernel_rfl)

def e19794_401 : Known := ⟨[.c (.ptr (A 14645) 0), .c (.ptr (A 14646) 0)], A 19794,
[(A 1, .cells (.l 6 [.str 0 0, .str 3 0x726964, .str 4 0x656c6966, .str 4 0x6b6e696c, .str 4 0x72616863, .str 5 0x6574696877]) true true 431),
(A 4, .cells (.p .u8 10 0x7409720d6e0a5c5c2222) true true 579),
(A 5, .cells (.cat 8 (.l 8 [.str 0 0, .str 0 0, .str 0 0, .str 16 0x2e79616c7265766f2e64657473757274, .str 8 0x2e79616c7265766f, .str 21 0x74636572696465722065757161706f206b6e696c6e, .str 19 0x2e736679616c7265766f657375662e72657375, .str 5 0x2e65737566]) (.l 7 [.str 30 0x74756f65746968772074636572696465722065757161706f206b6e696c6e, .str 0 0, .str 0 0, .str 0 0, .str 4 0x2e647362, .str 4 0x2e647362, .str 6 0x65757161706f])) true true 582),
(A 7, .cells (.cat 8 (.l 8 [.nat .u32 0, .nat .u32 0x1db71064, .nat .u32 0x3b6e20c8, .nat .u32 0x26d930ac, .nat .u32 0x76dc4190, .nat .u32 0x6b6b51f4, .nat .u32 0x4db26158, .nat .u32 0x5005713c]) (.l 8 [.nat .u32 0xedb88320, .nat .u32 0xf00f9344, .nat .u32 0xd6d6a3e8, .nat .u32 0xcb61b38c, .nat .u32 0x9b64c2b0, .nat .u32 0x86d3d2d4, .nat .u32 0xa00ae278, .nat .u32 0xbdbdf21c])) true true 758),
(A 9, .cells (.p .u8 256 0x10000000000000000000000000000000000000101010101000000000000000000) true true 769),
(A 1111, .map [] 95),
(A 1112, .cells (.cat 5 (.l 5 [.slu (A 1116) 0 200 128, .nil .s, .i 95, .neg .i64 0, .bool false]) (.l 1 [.map (A 1111)])) true false 126),
(A 1116, bb5),
(A 14645, .cells (.l 1 [.ptr (A 1112) 0]) true false 91),
(A 14646, .cells (.l 2 [.i 1, .i 82]) true false 154)],
.c (.i 0),
[(A 1111, .map [] 99),
(A 1112, .cells (.cat 5 (.l 5 [.slu (A 1116) 0 200 128, .nil .s, .i 99, .neg .i64 0, .bool false]) (.l 1 [.map (A 1111)])) true false 126),
(A 1116, bb6)],
[], A 23998⟩
theorem k19794_401 : KnownOk Tryz.prog 401 e19794_401 := known_tab mixed J [] (knNil) 1000 (by kernel_rfl)

def e25484_248 : Known := ⟨[.c (.ptr (A 25042) 0), .c (.ptr (A 25074) 0)], A 25484,
[(A 1, .cells (.l 6 [.str 0 0, .str 3 0x726964, .str 4 0x656c6966, .str 4 0x6b6e696c, .str 4 0x72616863, .str 5 0x6574696877]) true true 431),
(A 4, .cells (.p .u8 10 0x7409720d6e0a5c5c2222) true true 579),
(A 5, .cells (.cat 8 (.l 8 [.str 0 0, .str 0 0, .str 0 0, .str 16 0x2e79616c7265766f2e64657473757274, .str 8 0x2e79616c7265766f, .str 21 0x74636572696465722065757161706f206b6e696c6e, .str 19 0x2e736679616c7265766f657375662e72657375, .str 5 0x2e65737566]) (.l 7 [.str 30 0x74756f65746968772074636572696465722065757161706f206b6e696c6e, .str 0 0, .str 0 0, .str 0 0, .str 4 0x2e647362, .str 4 0x2e647362, .str 6 0x65757161706f])) true true 582),
(A 7, .cells (.cat 8 (.l 8 [.nat .u32 0, .nat .u32 0x1db71064, .nat .u32 0x3b6e20c8, .nat .u32 0x26d930ac, .nat .u32 0x76dc4190, .nat .u32 0x6b6b51f4, .nat .u32 0x4db26158, .nat .u32 0x5005713c]) (.l 8 [.nat .u32 0xedb88320, .nat .u32 0xf00f9344, .nat .u32 0xd6d6a3e8, .nat .u32 0xcb61b38c, .nat .u32 0x9b64c2b0, .nat .u32 0x86d3d2d4, .nat .u32 0xa00ae278, .nat .u32 0xbdbdf21c])) true true 758),
(A 9, .cells (.p .u8 256 0x10000000000000000000000000000000000000101010101000000000000000000) true true 769),
(A 1111, .map [] 100),
(A 1112, .cells (.cat 5 (.l 5 [.slu (A 1116) 0 200 128, .nil .s, .i 100, .neg .i64 0, .bool false]) (.l 1 [.map (A 1111)])) true false 126),
(A 1116, bb4),
(A 25042, .cells (.l 1 [.i 0]) true false 24),
(A 25069, .cells (.p .b 76 1) true false 4),
(A 25072, .map [⟨.i 124, .a (.l 3 [.i 124, .i 7, .str 6 0x7781026601]), 0⟩, ⟨.i 84, .a (.l 3 [.i 84, .i 6, .str 13 0x101000000020101]), 1⟩] 2),
(A 25073, .cells (.cat 17 (.cat 13 (.cat 9 (.cat 4 (.cat 1 (.l 1 [.ptr (A 1112) 0]) (.l 3 [.i 200, .i 82, .i 40])) (.l 5 [.i 1, .i 83, .i 84, .i 124, .i 76])) (.cat 3 (.l 3 [.i 200, .i 82, .i 40]) (.l 1 [.sl (A 25069) 0 76 76]))) (.cat 3 (.l 3 [.i 200, .i 82, .i 40]) (.l 1 [.sl (A 25069) 0 76 76]))) (.l 4 [.map (A 25072), .bool false, .bool false, .bool false])) true false 177),
(A 25074, .cells (.l 1 [.ptr (A 25073) 0]) true false 105)],
.t [],
[(A 1111, .map [] 106),
(A 1112, .cells (.cat 5 (.l 5 [.slu (A 1116) 0 200 128, .nil .s, .i 106, .neg .i64 0, .bool false]) (.l 1 [.map (A 1111)])) true false 126),
(A 1116, bb1),
(A 25073, .cells (.cat 17 (.cat 13 (.cat 9 (.cat 4 (.cat 1 (.l 1 [.ptr (A 1112) 0]) (.l 3 [.i 200, .i 82, .i 40])) (.l 5 [.i 1, .i 83, .i 84, .i 124, .i 76])) (.cat 3 (.l 3 [.i 200, .i 82, .i 40]) (.l 1 [.sl (A 25069) 0 76 76]))) (.cat 3 (.l 3 [.i 200, .i 82, .i 40]) (.l 1 [.sl (A 25069) 0 76 76]))) (.l 4 [.map (A 25072), .bool false, .bool false, .bool true])) true false 177)],
[], A 32772⟩
theorem k25484_248 : KnownOk Tryz.prog 248 e25484_248 := known_tab mixed J [] (knNil) 1000 (by kernel_rfl)
end Go.Proofs.YtfdhdhmeahdpbaaGreatDoor
