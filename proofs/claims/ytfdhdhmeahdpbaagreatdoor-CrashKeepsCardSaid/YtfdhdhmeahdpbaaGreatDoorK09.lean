/- Known calls, shown by runs of the evaluator: recover.work .faults, recover.work .branch, recover.work .replay. -/
import Derived.Test.YtfdhdhmeahdpbaaGreatDoorDat
namespace Go.Proofs.YtfdhdhmeahdpbaaGreatDoor
open Go Ev
set_option maxRecDepth 1000000
def e232530_143 : Known := ⟨[.c (.ptr (A 231499) 0)], A 232530,
[(A 1, .cells (.l 6 [.str 0 0, .str 3 0x726964, .str 4 0x656c6966, .str 4 0x6b6e696c, .str 4 0x72616863, .str 5 0x6574696877]) true true 431),
(A 4, .cells (.p .u8 10 0x7409720d6e0a5c5c2222) true true 579),
(A 5, .cells (.cat 8 (.l 8 [.str 0 0, .str 0 0, .str 0 0, .str 16 0x2e79616c7265766f2e64657473757274, .str 8 0x2e79616c7265766f, .str 21 0x74636572696465722065757161706f206b6e696c6e, .str 19 0x2e736679616c7265766f657375662e72657375, .str 5 0x2e65737566]) (.l 7 [.str 30 0x74756f65746968772074636572696465722065757161706f206b6e696c6e, .str 0 0, .str 0 0, .str 0 0, .str 4 0x2e647362, .str 4 0x2e647362, .str 6 0x65757161706f])) true true 582),
(A 7, .cells (.cat 8 (.l 8 [.nat .u32 0, .nat .u32 0x1db71064, .nat .u32 0x3b6e20c8, .nat .u32 0x26d930ac, .nat .u32 0x76dc4190, .nat .u32 0x6b6b51f4, .nat .u32 0x4db26158, .nat .u32 0x5005713c]) (.l 8 [.nat .u32 0xedb88320, .nat .u32 0xf00f9344, .nat .u32 0xd6d6a3e8, .nat .u32 0xcb61b38c, .nat .u32 0x9b64c2b0, .nat .u32 0x86d3d2d4, .nat .u32 0xa00ae278, .nat .u32 0xbdbdf21c])) true true 758),
(A 9, .cells (.p .u8 256 0x10000000000000000000000000000000000000101010101000000000000000000) true true 769),
(A 231484, .map [] 1),
(A 231485, .cells (.cat 5 (.l 5 [.slu (A 231489) 0 200 128, .nil .s, .i 115, .neg .i64 0, .bool false]) (.l 1 [.map (A 231484)])) true false 126),
(A 231489, bb7),
(A 231499, .cells (.cat 13 (.cat 8 (.cat 6 (.cat 4 (.cat 1 (.l 1 [.ptr (A 231485) 0]) (.l 3 [.i 200, .i 82, .i 40])) (.l 2 [.i 1, .i 82])) (.l 2 [.ptr (A 232467) 0, .i 0])) (.l 5 [.i 4, .i 1, .i 0, .i 1, .bool false])) (.l 2 [.i 0, .i 0])) true false 156),
(A 232463, .cells (.p .b 76 1) true false 4),
(A 232466, .map [] 0),
(A 232467, .cells (.cat 17 (.cat 13 (.cat 9 (.cat 4 (.cat 1 (.l 1 [.ptr (A 231485) 0]) (.l 3 [.i 200, .i 82, .i 40])) (.l 5 [.i 1, .i 83, .i 84, .i 124, .i 76])) (.cat 3 (.l 3 [.i 200, .i 82, .i 40]) (.l 1 [.sl (A 232463) 0 76 76]))) (.cat 3 (.l 3 [.i 200, .i 82, .i 40]) (.l 1 [.sl (A 232463) 0 76 76]))) (.l 4 [.map (A 232466), .bool false, .bool false, .bool false])) true false 177)],
.c (.i 0),
[],
[], A 233910⟩
theorem k232530_143 : KnownOk Tryz.prog 143 e232530_143 := known_tab mixed J [] (knNil) 1000 (by kernel_rfl)

def e233910_144 : Known := ⟨[.c (.ptr (A 231499) 0)], A 233910,
[(A 1, .cells (.l 6 [.str 0 0, .str 3 0x726964, .str 4 0x656c6966, .str 4 0x6b6e696c, .str 4 0x72616863, .str 5 0x6574696877]) true true 431),
(A 4, .cells (.p .u8 10 0x7409720d6e0a5c5c2222) true true 579),
(A 5, .cells (.cat 8 (.l 8 [.str 0 0, .str 0 0, .str 0 0, .str 16 0x2e79616c7265766f2e64657473757274, .str 8 0x2e79616c7265766f, .str 21 0x74636572696465722065757161706f206b6e696c6e, .str 19 0x2e736679616c7265766f657375662e72657375, .str 5 0x2e65737566]) (.l 7 [.str 30 0x74756f65746968772074636572696465722065757161706f206b6e696c6e, .str 0 0, .str 0 0, .str 0 0, .str 4 0x2e647362, .str 4 0x2e647362, .str 6 0x65757161706f])) true true 582),
(A 7, .cells (.cat 8 (.l 8 [.nat .u32 0, .nat .u32 0x1db71064, .nat .u32 0x3b6e20c8, .nat .u32 0x26d930ac, .nat .u32 0x76dc4190, .nat .u32 0x6b6b51f4, .nat .u32 0x4db26158, .nat .u32 0x5005713c]) (.l 8 [.nat .u32 0xedb88320, .nat .u32 0xf00f9344, .nat .u32 0xd6d6a3e8, .nat .u32 0xcb61b38c, .nat .u32 0x9b64c2b0, .nat .u32 0x86d3d2d4, .nat .u32 0xa00ae278, .nat .u32 0xbdbdf21c])) true true 758),
(A 9, .cells (.p .u8 256 0x10000000000000000000000000000000000000101010101000000000000000000) true true 769),
(A 231484, .map [] 1),
(A 231485, .cells (.cat 5 (.l 5 [.slu (A 231489) 0 200 128, .nil .s, .i 115, .neg .i64 0, .bool false]) (.l 1 [.map (A 231484)])) true false 126),
(A 231489, bb7),
(A 231499, .cells (.cat 13 (.cat 8 (.cat 6 (.cat 4 (.cat 1 (.l 1 [.ptr (A 231485) 0]) (.l 3 [.i 200, .i 82, .i 40])) (.l 2 [.i 1, .i 82])) (.l 2 [.ptr (A 232467) 0, .i 0])) (.l 5 [.i 4, .i 1, .i 0, .i 1, .bool false])) (.l 2 [.i 0, .i 0])) true false 156),
(A 232463, .cells (.p .b 76 1) true false 4),
(A 232466, .map [] 0),
(A 232467, .cells (.cat 17 (.cat 13 (.cat 9 (.cat 4 (.cat 1 (.l 1 [.ptr (A 231485) 0]) (.l 3 [.i 200, .i 82, .i 40])) (.l 5 [.i 1, .i 83, .i 84, .i 124, .i 76])) (.cat 3 (.l 3 [.i 200, .i 82, .i 40]) (.l 1 [.sl (A 232463) 0 76 76]))) (.cat 3 (.l 3 [.i 200, .i 82, .i 40]) (.l 1 [.sl (A 232463) 0 76 76]))) (.l 4 [.map (A 232466), .bool false, .bool false, .bool false])) true false 177)],
.c (.i 0),
[(A 231499, .cells (.cat 13 (.cat 8 (.cat 6 (.cat 4 (.cat 1 (.l 1 [.ptr (A 231485) 0]) (.l 3 [.i 200, .i 82, .i 40])) (.l 2 [.i 1, .i 82])) (.l 2 [.ptr (A 232467) 0, .i 0])) (.l 5 [.i 4, .i 1, .i 0, .i 1, .bool false])) (.l 2 [.i 3, .i 1])) true false 156)],
[], A 235100⟩
theorem k233910_144 : KnownOk Tryz.prog 144 e233910_144 := known_tab mixed J [] (knNil) 1000 (by kernel_rfl)

def e236798_140 : Known := ⟨[.c (.ptr (A 236792) 0)], A 236798,
[(A 1, .cells (.l 6 [.str 0 0, .str 3 0x726964, .str 4 0x656c6966, .str 4 0x6b6e696c, .str 4 0x72616863, .str 5 0x6574696877]) true true 431),
(A 4, .cells (.p .u8 10 0x7409720d6e0a5c5c2222) true true 579),
(A 5, .cells (.cat 8 (.l 8 [.str 0 0, .str 0 0, .str 0 0, .str 16 0x2e79616c7265766f2e64657473757274, .str 8 0x2e79616c7265766f, .str 21 0x74636572696465722065757161706f206b6e696c6e, .str 19 0x2e736679616c7265766f657375662e72657375, .str 5 0x2e65737566]) (.l 7 [.str 30 0x74756f65746968772074636572696465722065757161706f206b6e696c6e, .str 0 0, .str 0 0, .str 0 0, .str 4 0x2e647362, .str 4 0x2e647362, .str 6 0x65757161706f])) true true 582),
(A 7, .cells (.cat 8 (.l 8 [.nat .u32 0, .nat .u32 0x1db71064, .nat .u32 0x3b6e20c8, .nat .u32 0x26d930ac, .nat .u32 0x76dc4190, .nat .u32 0x6b6b51f4, .nat .u32 0x4db26158, .nat .u32 0x5005713c]) (.l 8 [.nat .u32 0xedb88320, .nat .u32 0xf00f9344, .nat .u32 0xd6d6a3e8, .nat .u32 0xcb61b38c, .nat .u32 0x9b64c2b0, .nat .u32 0x86d3d2d4, .nat .u32 0xa00ae278, .nat .u32 0xbdbdf21c])) true true 758),
(A 9, .cells (.p .u8 256 0x10000000000000000000000000000000000000101010101000000000000000000) true true 769),
(A 236776, .map [] 1),
(A 236777, .cells (.cat 5 (.l 5 [.slu (A 236781) 0 200 128, .nil .s, .i 115, .neg .i64 0, .bool false]) (.l 1 [.map (A 236776)])) true false 126),
(A 236781, bb8),
(A 236792, .cells (.cat 6 (.cat 4 (.cat 1 (.l 1 [.ptr (A 236777) 0]) (.l 3 [.i 200, .i 82, .i 40])) (.l 2 [.i 1, .i 82])) (.cat 6 (.cat 2 (.l 2 [.nil .p, .i 0]) (.l 4 [.i 0, .i 0, .i 0, .i 0])) (.l 3 [.bool false, .i 0, .i 0]))) true false 156)],
.c (.i 0),
[(A 236776, .map [] 2),
(A 236777, .cells (.cat 5 (.l 5 [.slu (A 236781) 0 200 128, .nil .s, .i 116, .neg .i64 0, .bool false]) (.l 1 [.map (A 236776)])) true false 126),
(A 236781, bb9)],
[], A 238787⟩
theorem k236798_140 : KnownOk Tryz.prog 140 e236798_140 := known_tab mixed J [] (knNil) 1000 (by kernel_rfl)
end Go.Proofs.YtfdhdhmeahdpbaaGreatDoor
