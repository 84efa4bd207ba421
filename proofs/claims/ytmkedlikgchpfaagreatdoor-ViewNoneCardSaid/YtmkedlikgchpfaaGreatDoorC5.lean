/- The law ViewNone, walked: it is true. -/
import Derived.Test.YtmkedlikgchpfaaGreatDoorC3
import Derived.Test.YtmkedlikgchpfaaGreatDoorC4
import Derived.Deep.Cut
namespace Go.Proofs.YtmkedlikgchpfaaGreatDoor
open Go.RowKit
set_option linter.unusedVariables false
/-- the world behind some calls: what was there stands, and the row of the argument -/
structure Sit (W : World) (BY : Nat) (y : List Value) (w : World) : Prop where
  fr : Fr (fun _ => False) W w
  row : RowB w BY 25 y
theorem Sit.next {W w w' : World} {BY : Nat} {y : List Value} (h : Sit W BY y w) (f : Fr (fun _ => False) w w') : Sit W BY y w' := ⟨h.fr.then f, h.row.fr f (fun h => h)⟩
theorem Sit.alloc {W w : World} {BY : Nat} {y : List Value} (h : Sit W BY y w) (o : Obj) : Sit W BY y (w.alloc o) := h.next ((Fr.refl _ _).alloc o)
theorem sit_abort {W w w' w7 : World} {BY base : Nat} {y : List Value} (h : Sit W BY y w) (hb : BY < base) (h7 : Fr (fun _ => False) W w ∧ W.heap.size ≤ base) (f : Fr (fun k => base ≤ k) w w') : Sit W BY y w' :=
  ⟨h.fr.trans f (fun k hk hs => by omega), h.row.fr f (by omega)⟩
theorem SlOk.sit {W w : World} {BY : Nat} {y : List Value} {a : Option Addr} {n c : Nat} (s : SlOk W a n c) (h : Sit W BY y w) : SlOk w a n c := s.fr h.fr
/-- what is known of the arguments -/
structure Args (W : World) (n c r d : Nat) (a0 a1 : Option Addr) : Prop where
  laid : Laid0 W
  glob : Tryz.prog.globals.size ≤ W.heap.size
  pos : 0 < W.heap.size
  s0 : SlOk W a0 n c
  s1 : SlOk W a1 r d
  lowers : LowersAt W a0 n
  path : StrsAt W a1 r
set_option maxRecDepth 100000 in
set_option maxHeartbeats 8000000 in
theorem viewNone_good (z : Int) (n c r d : Nat) (a0 a1 : Option Addr) (o m : Int) (W : World) (ha : Args W n c r d a0 a1) (hz1 : ¬ z < 1) (hz4 : ¬ 4 < z) :
    Calls Tryz.prog 3 #[.int .i64 z, .slice a0 n c, .agg #[Value.slice a1 r d, Value.int .i64 o, Value.int .i64 m]] W (Ret (.bool true) W) := by
  have e1 : errN z 1 = 1 := by rw [errN_eq, if_neg (by omega)]
  have e9 : errN z 9 = 9 := by rw [errN_eq, if_neg (by omega)]
  have q1 : decide (z < 1) = false := by simp; omega
  have q4 : decide (4 < z) = false := by simp; omega
  have CA := Lib.hid (fun (BY : Nat) (w : World) (h : Sit W BY [Value.slice a1 r d, Value.int .i64 o, Value.int .i64 m] w) => awake_call ha.laid ha.glob h.fr)
  have CFar := Lib.hid (fun (BY : Nat) (w : World) (h : Sit W BY [Value.slice a1 r d, Value.int .i64 o, Value.int .i64 m] w) => far_walk n c r d a0 a1 w (ha.lowers.fr h.fr) (ha.path.fr h.fr))
  have CF := Lib.hid (fun (BY : Nat) (w : World) (h : Sit W BY [Value.slice a1 r d, Value.int .i64 o, Value.int .i64 m] w) => FindNil_call z n c r d a0 a1 w (Nat.le_trans ha.glob h.fr.size) (Nat.lt_of_lt_of_le ha.pos h.fr.size) (ha.s0.sit h) (ha.s1.sit h))
  have CS := Lib.hid (fun (BY b : Nat) (w : World) (h : Sit W BY [Value.slice a1 r d, Value.int .i64 o, Value.int .i64 m] w) (hb : RowB w b 51 txV) => StatTx_call z n c r d a0 a1 w hb (Nat.le_trans ha.glob h.fr.size) (Nat.lt_of_lt_of_le ha.pos h.fr.size) (ha.s0.sit h) (ha.s1.sit h))
  have CL := Lib.hid (fun (BY : Nat) (w : World) (h : Sit W BY [Value.slice a1 r d, Value.int .i64 o, Value.int .i64 m] w) => ListNil_call z n c r d a0 a1 w (Nat.le_trans ha.glob h.fr.size) (Nat.lt_of_lt_of_le ha.pos h.fr.size) (ha.s0.sit h) (ha.s1.sit h))
  have CK := Lib.hid (fun (BY : Nat) (w : World) (h : Sit W BY [Value.slice a1 r d, Value.int .i64 o, Value.int .i64 m] w) => LinkNil_call z n c r d a0 a1 w (Nat.le_trans ha.glob h.fr.size) (Nat.lt_of_lt_of_le ha.pos h.fr.size) (ha.s0.sit h) (ha.s1.sit h))
  have CR := Lib.hid (fun (BY b : Nat) (w : World) (h : Sit W BY [Value.slice a1 r d, Value.int .i64 o, Value.int .i64 m] w) (hb : RowB w b 51 txV) => ReadTx_call z n c r d a0 a1 o m w hb (Nat.le_trans ha.glob h.fr.size) (Nat.lt_of_lt_of_le ha.pos h.fr.size) (ha.s0.sit h) (ha.s1.sit h))
  have CC := Lib.hid (fun (BY : Nat) (w : World) (h : Sit W BY [Value.slice a1 r d, Value.int .i64 o, Value.int .i64 m] w) => CheckNil_call z n c r d a0 a1 w (Nat.le_trans ha.glob h.fr.size) (Nat.lt_of_lt_of_le ha.pos h.fr.size) (ha.s0.sit h) (ha.s1.sit h))
  have CFill := Lib.hid (fun (BY b : Nat) (w : World) (h : Sit W BY [Value.slice a1 r d, Value.int .i64 o, Value.int .i64 m] w) (hb : RowB w b 61 argV) => filled_call ha.laid ha.glob h.fr hb)
  have CF2 := Lib.hid (fun (BY base bt ot : Nat) (w : World) (h : Sit W BY [Value.slice a1 r d, Value.int .i64 o, Value.int .i64 m] w) (hh : Held base true bt ot w) => FindEnd_call hh z n c r d a0 a1 (Nat.lt_of_lt_of_le ha.pos h.fr.size) (ha.s0.sit h) (ha.s1.sit h))
  have CC2 := Lib.hid (fun (BY base bt ot : Nat) (w : World) (h : Sit W BY [Value.slice a1 r d, Value.int .i64 o, Value.int .i64 m] w) (hh : Held base true bt ot w) => CheckEnd_call hh z n c r d a0 a1 (Nat.lt_of_lt_of_le ha.pos h.fr.size) (ha.s0.sit h) (ha.s1.sit h))
  rw [e1, show ((1 : Nat) : Int) = 1 from rfl] at CF CS CL CK CR CC
  rw [e9, show ((9 : Nat) : Int) = 9 from rfl] at CF2 CC2
  clear e1 e9 ha hz1 hz4
  go_enter Tryz.func3, Tryz.ntmps3
  go_upto_region 1 with (fail)
  have hS : Sit W W.heap.size [Value.slice a1 r d, Value.int .i64 o, Value.int .i64 m] (W.alloc (Obj.cells #[Value.slice a1 r d, Value.int .i64 o, Value.int .i64 m] 25)) := ⟨(Fr.refl (fun _ => False) W).alloc _, RowB.new W _ _⟩
  change Code.wp _ _ _ _ (W.alloc (Obj.cells #[Value.slice a1 r d, Value.int .i64 o, Value.int .i64 m] 25))
  generalize W.alloc (Obj.cells #[Value.slice a1 r d, Value.int .i64 o, Value.int .i64 m] 25) = A0 at *
  obtain ⟨BY, hBY⟩ : ∃ BY, BY = W.heap.size := ⟨_, rfl⟩
  rw [← hBY] at hS ⊢
  have S0 := Lib.hid hS
  have y0 : A0.cell? ⟨BY, 0, none⟩ = some (.slice a1 r d) := hS.row.cell 0
  clear hS hBY
  go_upto_region 3 with (first
    | (go_at_call 4; go_must (refine (CFar.out BY _ S0.out).mono ?_; rintro e w1 ⟨p, rfl, hF⟩; have S1 := Lib.hid (S0.out.next hF); clear y0 hF; have y0 : w1.cell? ⟨BY, 0, none⟩ = some (.slice a1 r d) := S1.out.row.cell 0; have y1 : w1.cell? ⟨BY, 1, none⟩ = some (.int .i64 o) := S1.out.row.cell 1; have y2 : w1.cell? ⟨BY, 2, none⟩ = some (.int .i64 m) := S1.out.row.cell 2; cases p))
    | (go_at_call 5; go_must (refine (CA.out BY _ S1.out).mono ?_; rintro e w2 ⟨rfl, hF⟩; have S2 := Lib.hid (S1.out.next hF); clear hF)))
  all_goals first | (go_ret; exact ⟨rfl, S2.out.fr⟩) | skip
  go_upto_region 7 with (go_at_call 6; go_must (refine (CF.out BY _ S1.out).mono ?_; rintro e w2 ⟨rfl, hF⟩; have S2 := Lib.hid (S1.out.next hF); clear y0 y1 y2 hF))
  have hS : Sit W BY [Value.slice a1 r d, Value.int .i64 o, Value.int .i64 m] (w2.alloc (Obj.cells #[Value.int .i64 0, Value.int .i64 0] 30)) := S2.out.alloc _
  change Code.wp _ _ _ _ (w2.alloc (Obj.cells #[Value.int .i64 0, Value.int .i64 0] 30))
  generalize w2.alloc (Obj.cells #[Value.int .i64 0, Value.int .i64 0] 30) = A2 at *
  have T2 := Lib.hid hS
  clear hS
  have y0 : A2.cell? ⟨BY, 0, none⟩ = some (.slice a1 r d) := T2.out.row.cell 0
  have y1 : A2.cell? ⟨BY, 1, none⟩ = some (.int .i64 o) := T2.out.row.cell 1
  have y2 : A2.cell? ⟨BY, 2, none⟩ = some (.int .i64 m) := T2.out.row.cell 2
  have hby : BY < A2.heap.size := T2.out.row.lt
  go_upto_region 8 with (go_at_call 7; go_must (refine (CS.out BY _ _ (T2.out.alloc _) (RowB.new A2 51 txV)).mono ?_; rintro e w3 ⟨rfl, hF⟩; have S3 := Lib.hid ((T2.out.alloc _).next hF); clear y0 y1 y2 hby hF))
  have hS : Sit W BY [Value.slice a1 r d, Value.int .i64 o, Value.int .i64 m] (w3.alloc (Obj.cells #[Value.int .i64 0, Value.int .i64 0, Value.int .i64 0, Value.int .i64 0, Value.int .i64 0, Value.slice none 0 0] 35)) := S3.out.alloc _
  change Code.wp _ _ _ _ (w3.alloc (Obj.cells #[Value.int .i64 0, Value.int .i64 0, Value.int .i64 0, Value.int .i64 0, Value.int .i64 0, Value.slice none 0 0] 35))
  generalize w3.alloc (Obj.cells #[Value.int .i64 0, Value.int .i64 0, Value.int .i64 0, Value.int .i64 0, Value.int .i64 0, Value.slice none 0 0] 35) = A3 at *
  have T3 := Lib.hid hS
  clear hS
  have y0 : A3.cell? ⟨BY, 0, none⟩ = some (.slice a1 r d) := T3.out.row.cell 0
  have y1 : A3.cell? ⟨BY, 1, none⟩ = some (.int .i64 o) := T3.out.row.cell 1
  have y2 : A3.cell? ⟨BY, 2, none⟩ = some (.int .i64 m) := T3.out.row.cell 2
  have hby : BY < A3.heap.size := T3.out.row.lt
  go_upto_region 9 with (go_at_call 8; go_must (refine (CL.out BY _ T3.out).mono ?_; rintro e w4 ⟨rfl, hF⟩; have S4 := Lib.hid (T3.out.next hF); clear y0 y1 y2 hby hF; have y0 : w4.cell? ⟨BY, 0, none⟩ = some (.slice a1 r d) := S4.out.row.cell 0; have y1 : w4.cell? ⟨BY, 1, none⟩ = some (.int .i64 o) := S4.out.row.cell 1; have y2 : w4.cell? ⟨BY, 2, none⟩ = some (.int .i64 m) := S4.out.row.cell 2; have hby : BY < w4.heap.size := S4.out.row.lt))
  go_upto_region 10 with (go_at_call 9; go_must (refine (CK.out BY _ S4.out).mono ?_; rintro e w5 ⟨rfl, hF⟩; have S5 := Lib.hid (S4.out.next hF); clear y0 y1 y2 hby hF; have y0 : w5.cell? ⟨BY, 0, none⟩ = some (.slice a1 r d) := S5.out.row.cell 0; have y1 : w5.cell? ⟨BY, 1, none⟩ = some (.int .i64 o) := S5.out.row.cell 1; have y2 : w5.cell? ⟨BY, 2, none⟩ = some (.int .i64 m) := S5.out.row.cell 2; have hby : BY < w5.heap.size := S5.out.row.lt))
  go_upto_region 11 with (go_at_call 10; go_must (refine (CR.out BY _ _ (S5.out.alloc _) (RowB.new w5 51 txV)).mono ?_; rintro e w6 ⟨rfl, hF⟩; have S6 := Lib.hid ((S5.out.alloc _).next hF); clear y0 y1 y2 hby hF; have y0 : w6.cell? ⟨BY, 0, none⟩ = some (.slice a1 r d) := S6.out.row.cell 0; have y1 : w6.cell? ⟨BY, 1, none⟩ = some (.int .i64 o) := S6.out.row.cell 1; have y2 : w6.cell? ⟨BY, 2, none⟩ = some (.int .i64 m) := S6.out.row.cell 2; have hby : BY < w6.heap.size := S6.out.row.lt))
  go_upto_region 13 with (go_at_call 11; go_must (refine (CC.out BY _ S6.out).mono ?_; rintro e w7 ⟨rfl, hF⟩; have S7 := Lib.hid (S6.out.next hF); clear y0 y1 y2 hby hF; have y0 : w7.cell? ⟨BY, 0, none⟩ = some (.slice a1 r d) := S7.out.row.cell 0; have y1 : w7.cell? ⟨BY, 1, none⟩ = some (.int .i64 o) := S7.out.row.cell 1; have y2 : w7.cell? ⟨BY, 2, none⟩ = some (.int .i64 m) := S7.out.row.cell 2; have hby : BY < w7.heap.size := S7.out.row.lt))
  go_upto_region 14 with (go_at_call 12; go_must (refine (CFill.out BY _ _ (S7.out.alloc _) (RowB.new w7 61 argV)).mono ?_; rintro e w8 ⟨bd, od, bt, ot, rfl, hH, hF⟩; have S8 := Lib.hid ((S7.out.alloc _).next hF); have H8 := Lib.hid hH; have HB := Lib.hid (show BY < (w7.alloc (Obj.cells argV.toArray 61)).heap.size by rw [alloc_size]; omega); clear y0 y1 y2 hby hF hH; have y0 : w8.cell? ⟨BY, 0, none⟩ = some (.slice a1 r d) := S8.out.row.cell 0; have y1 : w8.cell? ⟨BY, 1, none⟩ = some (.int .i64 o) := S8.out.row.cell 1; have y2 : w8.cell? ⟨BY, 2, none⟩ = some (.int .i64 m) := S8.out.row.cell 2; have hby : BY < w8.heap.size := S8.out.row.lt))
  go_upto_region 16 with (go_at_call 13; go_must (refine (abort_call H8.out).mono ?_; rintro e w9 ⟨rfl, hH, hF⟩; have S9 := Lib.hid (show Sit W BY [Value.slice a1 r d, Value.int .i64 o, Value.int .i64 m] w9 from sit_abort (w7 := w7) S8.out HB.out ⟨S8.out.fr, by have := (S7.out.alloc (Obj.cells argV.toArray 61)).fr.size; exact this⟩ hF); have H9 := Lib.hid hH; clear y0 y1 y2 hby hF hH; have y0 : w9.cell? ⟨BY, 0, none⟩ = some (.slice a1 r d) := S9.out.row.cell 0; have y1 : w9.cell? ⟨BY, 1, none⟩ = some (.int .i64 o) := S9.out.row.cell 1; have y2 : w9.cell? ⟨BY, 2, none⟩ = some (.int .i64 m) := S9.out.row.cell 2; have hby : BY < w9.heap.size := S9.out.row.lt))
  go_upto_region 19 with (go_at_call 6; go_must (refine (CF2.out BY _ _ _ _ S9.out H9.out).mono ?_; rintro e w10 ⟨rfl, hF⟩; have S10 := Lib.hid (S9.out.next hF); have HFF := Lib.hid hF; clear y0 y1 y2 hby hF; have y0 : w10.cell? ⟨BY, 0, none⟩ = some (.slice a1 r d) := S10.out.row.cell 0; have y1 : w10.cell? ⟨BY, 1, none⟩ = some (.int .i64 o) := S10.out.row.cell 1; have y2 : w10.cell? ⟨BY, 2, none⟩ = some (.int .i64 m) := S10.out.row.cell 2; have H10 := Lib.hid (H9.out.fr HFF.out); have hby : BY < w10.heap.size := S10.out.row.lt))
  go_wp2_with (first
    | (go_at_call 11; go_must (refine (CC2.out BY _ _ _ _ S10.out H10.out).mono ?_; rintro e w11 ⟨rfl, hF⟩; have S11 := Lib.hid (S10.out.next hF); clear y0 y1 y2 hby hF; have y0 : w11.cell? ⟨BY, 0, none⟩ = some (.slice a1 r d) := S11.out.row.cell 0; have y1 : w11.cell? ⟨BY, 1, none⟩ = some (.int .i64 o) := S11.out.row.cell 1; have y2 : w11.cell? ⟨BY, 2, none⟩ = some (.int .i64 m) := S11.out.row.cell 2; have hby : BY < w11.heap.size := S11.out.row.lt))
    | (go_at_call 5; go_must (refine (CA.out BY _ S11.out).mono ?_; rintro e w12 ⟨rfl, hF⟩; have S12 := Lib.hid (S11.out.next hF); clear hF)))
  go_ret
  exact ⟨rfl, S12.out.fr⟩
set_option maxRecDepth 100000 in
set_option maxHeartbeats 8000000 in
theorem viewNone_low (z : Int) (n c r d : Nat) (a0 a1 : Option Addr) (o m : Int) (W : World) (ha : Args W n c r d a0 a1) (hz1 : z < 1) :
    Calls Tryz.prog 3 #[.int .i64 z, .slice a0 n c, .agg #[Value.slice a1 r d, Value.int .i64 o, Value.int .i64 m]] W (Ret (.bool true) W) := by
  have e1 : errN z 1 = 2 := by rw [errN_eq, if_pos (Or.inl hz1)]
  have e9 : errN z 9 = 2 := by rw [errN_eq, if_pos (Or.inl hz1)]
  have q1 : decide (z < 1) = true := by simp; omega
  have CA := Lib.hid (fun (BY : Nat) (w : World) (h : Sit W BY [Value.slice a1 r d, Value.int .i64 o, Value.int .i64 m] w) => awake_call ha.laid ha.glob h.fr)
  have CFar := Lib.hid (fun (BY : Nat) (w : World) (h : Sit W BY [Value.slice a1 r d, Value.int .i64 o, Value.int .i64 m] w) => far_walk n c r d a0 a1 w (ha.lowers.fr h.fr) (ha.path.fr h.fr))
  have CF := Lib.hid (fun (BY : Nat) (w : World) (h : Sit W BY [Value.slice a1 r d, Value.int .i64 o, Value.int .i64 m] w) => FindNil_call z n c r d a0 a1 w (Nat.le_trans ha.glob h.fr.size) (Nat.lt_of_lt_of_le ha.pos h.fr.size) (ha.s0.sit h) (ha.s1.sit h))
  have CS := Lib.hid (fun (BY b : Nat) (w : World) (h : Sit W BY [Value.slice a1 r d, Value.int .i64 o, Value.int .i64 m] w) (hb : RowB w b 51 txV) => StatTx_call z n c r d a0 a1 w hb (Nat.le_trans ha.glob h.fr.size) (Nat.lt_of_lt_of_le ha.pos h.fr.size) (ha.s0.sit h) (ha.s1.sit h))
  have CL := Lib.hid (fun (BY : Nat) (w : World) (h : Sit W BY [Value.slice a1 r d, Value.int .i64 o, Value.int .i64 m] w) => ListNil_call z n c r d a0 a1 w (Nat.le_trans ha.glob h.fr.size) (Nat.lt_of_lt_of_le ha.pos h.fr.size) (ha.s0.sit h) (ha.s1.sit h))
  have CK := Lib.hid (fun (BY : Nat) (w : World) (h : Sit W BY [Value.slice a1 r d, Value.int .i64 o, Value.int .i64 m] w) => LinkNil_call z n c r d a0 a1 w (Nat.le_trans ha.glob h.fr.size) (Nat.lt_of_lt_of_le ha.pos h.fr.size) (ha.s0.sit h) (ha.s1.sit h))
  have CR := Lib.hid (fun (BY b : Nat) (w : World) (h : Sit W BY [Value.slice a1 r d, Value.int .i64 o, Value.int .i64 m] w) (hb : RowB w b 51 txV) => ReadTx_call z n c r d a0 a1 o m w hb (Nat.le_trans ha.glob h.fr.size) (Nat.lt_of_lt_of_le ha.pos h.fr.size) (ha.s0.sit h) (ha.s1.sit h))
  have CC := Lib.hid (fun (BY : Nat) (w : World) (h : Sit W BY [Value.slice a1 r d, Value.int .i64 o, Value.int .i64 m] w) => CheckNil_call z n c r d a0 a1 w (Nat.le_trans ha.glob h.fr.size) (Nat.lt_of_lt_of_le ha.pos h.fr.size) (ha.s0.sit h) (ha.s1.sit h))
  have CFill := Lib.hid (fun (BY b : Nat) (w : World) (h : Sit W BY [Value.slice a1 r d, Value.int .i64 o, Value.int .i64 m] w) (hb : RowB w b 61 argV) => filled_call ha.laid ha.glob h.fr hb)
  have CF2 := Lib.hid (fun (BY base bt ot : Nat) (w : World) (h : Sit W BY [Value.slice a1 r d, Value.int .i64 o, Value.int .i64 m] w) (hh : Held base true bt ot w) => FindEnd_call hh z n c r d a0 a1 (Nat.lt_of_lt_of_le ha.pos h.fr.size) (ha.s0.sit h) (ha.s1.sit h))
  have CC2 := Lib.hid (fun (BY base bt ot : Nat) (w : World) (h : Sit W BY [Value.slice a1 r d, Value.int .i64 o, Value.int .i64 m] w) (hh : Held base true bt ot w) => CheckEnd_call hh z n c r d a0 a1 (Nat.lt_of_lt_of_le ha.pos h.fr.size) (ha.s0.sit h) (ha.s1.sit h))
  rw [e1, show ((2 : Nat) : Int) = 2 from rfl] at CF CS CL CK CR CC
  rw [e9, show ((2 : Nat) : Int) = 2 from rfl] at CF2 CC2
  clear e1 e9 ha hz1
  go_enter Tryz.func3, Tryz.ntmps3
  go_upto_region 1 with (fail)
  have hS : Sit W W.heap.size [Value.slice a1 r d, Value.int .i64 o, Value.int .i64 m] (W.alloc (Obj.cells #[Value.slice a1 r d, Value.int .i64 o, Value.int .i64 m] 25)) := ⟨(Fr.refl (fun _ => False) W).alloc _, RowB.new W _ _⟩
  change Code.wp _ _ _ _ (W.alloc (Obj.cells #[Value.slice a1 r d, Value.int .i64 o, Value.int .i64 m] 25))
  generalize W.alloc (Obj.cells #[Value.slice a1 r d, Value.int .i64 o, Value.int .i64 m] 25) = A0 at *
  obtain ⟨BY, hBY⟩ : ∃ BY, BY = W.heap.size := ⟨_, rfl⟩
  rw [← hBY] at hS ⊢
  have S0 := Lib.hid hS
  have y0 : A0.cell? ⟨BY, 0, none⟩ = some (.slice a1 r d) := hS.row.cell 0
  clear hS hBY
  go_upto_region 3 with (first
    | (go_at_call 4; go_must (refine (CFar.out BY _ S0.out).mono ?_; rintro e w1 ⟨p, rfl, hF⟩; have S1 := Lib.hid (S0.out.next hF); clear y0 hF; have y0 : w1.cell? ⟨BY, 0, none⟩ = some (.slice a1 r d) := S1.out.row.cell 0; have y1 : w1.cell? ⟨BY, 1, none⟩ = some (.int .i64 o) := S1.out.row.cell 1; have y2 : w1.cell? ⟨BY, 2, none⟩ = some (.int .i64 m) := S1.out.row.cell 2; cases p))
    | (go_at_call 5; go_must (refine (CA.out BY _ S1.out).mono ?_; rintro e w2 ⟨rfl, hF⟩; have S2 := Lib.hid (S1.out.next hF); clear hF)))
  all_goals first | (go_ret; exact ⟨rfl, S2.out.fr⟩) | skip
  go_upto_region 7 with (go_at_call 6; go_must (refine (CF.out BY _ S1.out).mono ?_; rintro e w2 ⟨rfl, hF⟩; have S2 := Lib.hid (S1.out.next hF); clear y0 y1 y2 hF))
  have hS : Sit W BY [Value.slice a1 r d, Value.int .i64 o, Value.int .i64 m] (w2.alloc (Obj.cells #[Value.int .i64 0, Value.int .i64 0] 30)) := S2.out.alloc _
  change Code.wp _ _ _ _ (w2.alloc (Obj.cells #[Value.int .i64 0, Value.int .i64 0] 30))
  generalize w2.alloc (Obj.cells #[Value.int .i64 0, Value.int .i64 0] 30) = A2 at *
  have T2 := Lib.hid hS
  clear hS
  have y0 : A2.cell? ⟨BY, 0, none⟩ = some (.slice a1 r d) := T2.out.row.cell 0
  have y1 : A2.cell? ⟨BY, 1, none⟩ = some (.int .i64 o) := T2.out.row.cell 1
  have y2 : A2.cell? ⟨BY, 2, none⟩ = some (.int .i64 m) := T2.out.row.cell 2
  have hby : BY < A2.heap.size := T2.out.row.lt
  go_upto_region 8 with (go_at_call 7; go_must (refine (CS.out BY _ _ (T2.out.alloc _) (RowB.new A2 51 txV)).mono ?_; rintro e w3 ⟨rfl, hF⟩; have S3 := Lib.hid ((T2.out.alloc _).next hF); clear y0 y1 y2 hby hF))
  have hS : Sit W BY [Value.slice a1 r d, Value.int .i64 o, Value.int .i64 m] (w3.alloc (Obj.cells #[Value.int .i64 0, Value.int .i64 0, Value.int .i64 0, Value.int .i64 0, Value.int .i64 0, Value.slice none 0 0] 35)) := S3.out.alloc _
  change Code.wp _ _ _ _ (w3.alloc (Obj.cells #[Value.int .i64 0, Value.int .i64 0, Value.int .i64 0, Value.int .i64 0, Value.int .i64 0, Value.slice none 0 0] 35))
  generalize w3.alloc (Obj.cells #[Value.int .i64 0, Value.int .i64 0, Value.int .i64 0, Value.int .i64 0, Value.int .i64 0, Value.slice none 0 0] 35) = A3 at *
  have T3 := Lib.hid hS
  clear hS
  have y0 : A3.cell? ⟨BY, 0, none⟩ = some (.slice a1 r d) := T3.out.row.cell 0
  have y1 : A3.cell? ⟨BY, 1, none⟩ = some (.int .i64 o) := T3.out.row.cell 1
  have y2 : A3.cell? ⟨BY, 2, none⟩ = some (.int .i64 m) := T3.out.row.cell 2
  have hby : BY < A3.heap.size := T3.out.row.lt
  go_upto_region 9 with (go_at_call 8; go_must (refine (CL.out BY _ T3.out).mono ?_; rintro e w4 ⟨rfl, hF⟩; have S4 := Lib.hid (T3.out.next hF); clear y0 y1 y2 hby hF; have y0 : w4.cell? ⟨BY, 0, none⟩ = some (.slice a1 r d) := S4.out.row.cell 0; have y1 : w4.cell? ⟨BY, 1, none⟩ = some (.int .i64 o) := S4.out.row.cell 1; have y2 : w4.cell? ⟨BY, 2, none⟩ = some (.int .i64 m) := S4.out.row.cell 2; have hby : BY < w4.heap.size := S4.out.row.lt))
  go_upto_region 10 with (go_at_call 9; go_must (refine (CK.out BY _ S4.out).mono ?_; rintro e w5 ⟨rfl, hF⟩; have S5 := Lib.hid (S4.out.next hF); clear y0 y1 y2 hby hF; have y0 : w5.cell? ⟨BY, 0, none⟩ = some (.slice a1 r d) := S5.out.row.cell 0; have y1 : w5.cell? ⟨BY, 1, none⟩ = some (.int .i64 o) := S5.out.row.cell 1; have y2 : w5.cell? ⟨BY, 2, none⟩ = some (.int .i64 m) := S5.out.row.cell 2; have hby : BY < w5.heap.size := S5.out.row.lt))
  go_upto_region 11 with (go_at_call 10; go_must (refine (CR.out BY _ _ (S5.out.alloc _) (RowB.new w5 51 txV)).mono ?_; rintro e w6 ⟨rfl, hF⟩; have S6 := Lib.hid ((S5.out.alloc _).next hF); clear y0 y1 y2 hby hF; have y0 : w6.cell? ⟨BY, 0, none⟩ = some (.slice a1 r d) := S6.out.row.cell 0; have y1 : w6.cell? ⟨BY, 1, none⟩ = some (.int .i64 o) := S6.out.row.cell 1; have y2 : w6.cell? ⟨BY, 2, none⟩ = some (.int .i64 m) := S6.out.row.cell 2; have hby : BY < w6.heap.size := S6.out.row.lt))
  go_upto_region 13 with (go_at_call 11; go_must (refine (CC.out BY _ S6.out).mono ?_; rintro e w7 ⟨rfl, hF⟩; have S7 := Lib.hid (S6.out.next hF); clear y0 y1 y2 hby hF; have y0 : w7.cell? ⟨BY, 0, none⟩ = some (.slice a1 r d) := S7.out.row.cell 0; have y1 : w7.cell? ⟨BY, 1, none⟩ = some (.int .i64 o) := S7.out.row.cell 1; have y2 : w7.cell? ⟨BY, 2, none⟩ = some (.int .i64 m) := S7.out.row.cell 2; have hby : BY < w7.heap.size := S7.out.row.lt))
  go_upto_region 14 with (go_at_call 12; go_must (refine (CFill.out BY _ _ (S7.out.alloc _) (RowB.new w7 61 argV)).mono ?_; rintro e w8 ⟨bd, od, bt, ot, rfl, hH, hF⟩; have S8 := Lib.hid ((S7.out.alloc _).next hF); have H8 := Lib.hid hH; have HB := Lib.hid (show BY < (w7.alloc (Obj.cells argV.toArray 61)).heap.size by rw [alloc_size]; omega); clear y0 y1 y2 hby hF hH; have y0 : w8.cell? ⟨BY, 0, none⟩ = some (.slice a1 r d) := S8.out.row.cell 0; have y1 : w8.cell? ⟨BY, 1, none⟩ = some (.int .i64 o) := S8.out.row.cell 1; have y2 : w8.cell? ⟨BY, 2, none⟩ = some (.int .i64 m) := S8.out.row.cell 2; have hby : BY < w8.heap.size := S8.out.row.lt))
  go_upto_region 16 with (go_at_call 13; go_must (refine (abort_call H8.out).mono ?_; rintro e w9 ⟨rfl, hH, hF⟩; have S9 := Lib.hid (show Sit W BY [Value.slice a1 r d, Value.int .i64 o, Value.int .i64 m] w9 from sit_abort (w7 := w7) S8.out HB.out ⟨S8.out.fr, by have := (S7.out.alloc (Obj.cells argV.toArray 61)).fr.size; exact this⟩ hF); have H9 := Lib.hid hH; clear y0 y1 y2 hby hF hH; have y0 : w9.cell? ⟨BY, 0, none⟩ = some (.slice a1 r d) := S9.out.row.cell 0; have y1 : w9.cell? ⟨BY, 1, none⟩ = some (.int .i64 o) := S9.out.row.cell 1; have y2 : w9.cell? ⟨BY, 2, none⟩ = some (.int .i64 m) := S9.out.row.cell 2; have hby : BY < w9.heap.size := S9.out.row.lt))
  go_upto_region 19 with (go_at_call 6; go_must (refine (CF2.out BY _ _ _ _ S9.out H9.out).mono ?_; rintro e w10 ⟨rfl, hF⟩; have S10 := Lib.hid (S9.out.next hF); have HFF := Lib.hid hF; clear y0 y1 y2 hby hF; have y0 : w10.cell? ⟨BY, 0, none⟩ = some (.slice a1 r d) := S10.out.row.cell 0; have y1 : w10.cell? ⟨BY, 1, none⟩ = some (.int .i64 o) := S10.out.row.cell 1; have y2 : w10.cell? ⟨BY, 2, none⟩ = some (.int .i64 m) := S10.out.row.cell 2; have H10 := Lib.hid (H9.out.fr HFF.out); have hby : BY < w10.heap.size := S10.out.row.lt))
  go_wp2_with (first
    | (go_at_call 11; go_must (refine (CC2.out BY _ _ _ _ S10.out H10.out).mono ?_; rintro e w11 ⟨rfl, hF⟩; have S11 := Lib.hid (S10.out.next hF); clear y0 y1 y2 hby hF; have y0 : w11.cell? ⟨BY, 0, none⟩ = some (.slice a1 r d) := S11.out.row.cell 0; have y1 : w11.cell? ⟨BY, 1, none⟩ = some (.int .i64 o) := S11.out.row.cell 1; have y2 : w11.cell? ⟨BY, 2, none⟩ = some (.int .i64 m) := S11.out.row.cell 2; have hby : BY < w11.heap.size := S11.out.row.lt))
    | (go_at_call 5; go_must (refine (CA.out BY _ S11.out).mono ?_; rintro e w12 ⟨rfl, hF⟩; have S12 := Lib.hid (S11.out.next hF); clear hF)))
  go_ret
  exact ⟨rfl, S12.out.fr⟩
set_option maxRecDepth 100000 in
set_option maxHeartbeats 8000000 in
theorem viewNone_high (z : Int) (n c r d : Nat) (a0 a1 : Option Addr) (o m : Int) (W : World) (ha : Args W n c r d a0 a1) (hz1 : ¬ z < 1) (hz4 : 4 < z) :
    Calls Tryz.prog 3 #[.int .i64 z, .slice a0 n c, .agg #[Value.slice a1 r d, Value.int .i64 o, Value.int .i64 m]] W (Ret (.bool true) W) := by
  have e1 : errN z 1 = 2 := by rw [errN_eq, if_pos (Or.inr hz4)]
  have e9 : errN z 9 = 2 := by rw [errN_eq, if_pos (Or.inr hz4)]
  have q1 : decide (z < 1) = false := by simp; omega
  have q4 : decide (4 < z) = true := by simp; omega
  have CA := Lib.hid (fun (BY : Nat) (w : World) (h : Sit W BY [Value.slice a1 r d, Value.int .i64 o, Value.int .i64 m] w) => awake_call ha.laid ha.glob h.fr)
  have CFar := Lib.hid (fun (BY : Nat) (w : World) (h : Sit W BY [Value.slice a1 r d, Value.int .i64 o, Value.int .i64 m] w) => far_walk n c r d a0 a1 w (ha.lowers.fr h.fr) (ha.path.fr h.fr))
  have CF := Lib.hid (fun (BY : Nat) (w : World) (h : Sit W BY [Value.slice a1 r d, Value.int .i64 o, Value.int .i64 m] w) => FindNil_call z n c r d a0 a1 w (Nat.le_trans ha.glob h.fr.size) (Nat.lt_of_lt_of_le ha.pos h.fr.size) (ha.s0.sit h) (ha.s1.sit h))
  have CS := Lib.hid (fun (BY b : Nat) (w : World) (h : Sit W BY [Value.slice a1 r d, Value.int .i64 o, Value.int .i64 m] w) (hb : RowB w b 51 txV) => StatTx_call z n c r d a0 a1 w hb (Nat.le_trans ha.glob h.fr.size) (Nat.lt_of_lt_of_le ha.pos h.fr.size) (ha.s0.sit h) (ha.s1.sit h))
  have CL := Lib.hid (fun (BY : Nat) (w : World) (h : Sit W BY [Value.slice a1 r d, Value.int .i64 o, Value.int .i64 m] w) => ListNil_call z n c r d a0 a1 w (Nat.le_trans ha.glob h.fr.size) (Nat.lt_of_lt_of_le ha.pos h.fr.size) (ha.s0.sit h) (ha.s1.sit h))
  have CK := Lib.hid (fun (BY : Nat) (w : World) (h : Sit W BY [Value.slice a1 r d, Value.int .i64 o, Value.int .i64 m] w) => LinkNil_call z n c r d a0 a1 w (Nat.le_trans ha.glob h.fr.size) (Nat.lt_of_lt_of_le ha.pos h.fr.size) (ha.s0.sit h) (ha.s1.sit h))
  have CR := Lib.hid (fun (BY b : Nat) (w : World) (h : Sit W BY [Value.slice a1 r d, Value.int .i64 o, Value.int .i64 m] w) (hb : RowB w b 51 txV) => ReadTx_call z n c r d a0 a1 o m w hb (Nat.le_trans ha.glob h.fr.size) (Nat.lt_of_lt_of_le ha.pos h.fr.size) (ha.s0.sit h) (ha.s1.sit h))
  have CC := Lib.hid (fun (BY : Nat) (w : World) (h : Sit W BY [Value.slice a1 r d, Value.int .i64 o, Value.int .i64 m] w) => CheckNil_call z n c r d a0 a1 w (Nat.le_trans ha.glob h.fr.size) (Nat.lt_of_lt_of_le ha.pos h.fr.size) (ha.s0.sit h) (ha.s1.sit h))
  have CFill := Lib.hid (fun (BY b : Nat) (w : World) (h : Sit W BY [Value.slice a1 r d, Value.int .i64 o, Value.int .i64 m] w) (hb : RowB w b 61 argV) => filled_call ha.laid ha.glob h.fr hb)
  have CF2 := Lib.hid (fun (BY base bt ot : Nat) (w : World) (h : Sit W BY [Value.slice a1 r d, Value.int .i64 o, Value.int .i64 m] w) (hh : Held base true bt ot w) => FindEnd_call hh z n c r d a0 a1 (Nat.lt_of_lt_of_le ha.pos h.fr.size) (ha.s0.sit h) (ha.s1.sit h))
  have CC2 := Lib.hid (fun (BY base bt ot : Nat) (w : World) (h : Sit W BY [Value.slice a1 r d, Value.int .i64 o, Value.int .i64 m] w) (hh : Held base true bt ot w) => CheckEnd_call hh z n c r d a0 a1 (Nat.lt_of_lt_of_le ha.pos h.fr.size) (ha.s0.sit h) (ha.s1.sit h))
  rw [e1, show ((2 : Nat) : Int) = 2 from rfl] at CF CS CL CK CR CC
  rw [e9, show ((2 : Nat) : Int) = 2 from rfl] at CF2 CC2
  clear e1 e9 ha hz1 hz4
  go_enter Tryz.func3, Tryz.ntmps3
  go_upto_region 1 with (fail)
  have hS : Sit W W.heap.size [Value.slice a1 r d, Value.int .i64 o, Value.int .i64 m] (W.alloc (Obj.cells #[Value.slice a1 r d, Value.int .i64 o, Value.int .i64 m] 25)) := ⟨(Fr.refl (fun _ => False) W).alloc _, RowB.new W _ _⟩
  change Code.wp _ _ _ _ (W.alloc (Obj.cells #[Value.slice a1 r d, Value.int .i64 o, Value.int .i64 m] 25))
  generalize W.alloc (Obj.cells #[Value.slice a1 r d, Value.int .i64 o, Value.int .i64 m] 25) = A0 at *
  obtain ⟨BY, hBY⟩ : ∃ BY, BY = W.heap.size := ⟨_, rfl⟩
  rw [← hBY] at hS ⊢
  have S0 := Lib.hid hS
  have y0 : A0.cell? ⟨BY, 0, none⟩ = some (.slice a1 r d) := hS.row.cell 0
  clear hS hBY
  go_upto_region 3 with (first
    | (go_at_call 4; go_must (refine (CFar.out BY _ S0.out).mono ?_; rintro e w1 ⟨p, rfl, hF⟩; have S1 := Lib.hid (S0.out.next hF); clear y0 hF; have y0 : w1.cell? ⟨BY, 0, none⟩ = some (.slice a1 r d) := S1.out.row.cell 0; have y1 : w1.cell? ⟨BY, 1, none⟩ = some (.int .i64 o) := S1.out.row.cell 1; have y2 : w1.cell? ⟨BY, 2, none⟩ = some (.int .i64 m) := S1.out.row.cell 2; cases p))
    | (go_at_call 5; go_must (refine (CA.out BY _ S1.out).mono ?_; rintro e w2 ⟨rfl, hF⟩; have S2 := Lib.hid (S1.out.next hF); clear hF)))
  all_goals first | (go_ret; exact ⟨rfl, S2.out.fr⟩) | skip
  go_upto_region 7 with (go_at_call 6; go_must (refine (CF.out BY _ S1.out).mono ?_; rintro e w2 ⟨rfl, hF⟩; have S2 := Lib.hid (S1.out.next hF); clear y0 y1 y2 hF))
  have hS : Sit W BY [Value.slice a1 r d, Value.int .i64 o, Value.int .i64 m] (w2.alloc (Obj.cells #[Value.int .i64 0, Value.int .i64 0] 30)) := S2.out.alloc _
  change Code.wp _ _ _ _ (w2.alloc (Obj.cells #[Value.int .i64 0, Value.int .i64 0] 30))
  generalize w2.alloc (Obj.cells #[Value.int .i64 0, Value.int .i64 0] 30) = A2 at *
  have T2 := Lib.hid hS
  clear hS
  have y0 : A2.cell? ⟨BY, 0, none⟩ = some (.slice a1 r d) := T2.out.row.cell 0
  have y1 : A2.cell? ⟨BY, 1, none⟩ = some (.int .i64 o) := T2.out.row.cell 1
  have y2 : A2.cell? ⟨BY, 2, none⟩ = some (.int .i64 m) := T2.out.row.cell 2
  have hby : BY < A2.heap.size := T2.out.row.lt
  go_upto_region 8 with (go_at_call 7; go_must (refine (CS.out BY _ _ (T2.out.alloc _) (RowB.new A2 51 txV)).mono ?_; rintro e w3 ⟨rfl, hF⟩; have S3 := Lib.hid ((T2.out.alloc _).next hF); clear y0 y1 y2 hby hF))
  have hS : Sit W BY [Value.slice a1 r d, Value.int .i64 o, Value.int .i64 m] (w3.alloc (Obj.cells #[Value.int .i64 0, Value.int .i64 0, Value.int .i64 0, Value.int .i64 0, Value.int .i64 0, Value.slice none 0 0] 35)) := S3.out.alloc _
  change Code.wp _ _ _ _ (w3.alloc (Obj.cells #[Value.int .i64 0, Value.int .i64 0, Value.int .i64 0, Value.int .i64 0, Value.int .i64 0, Value.slice none 0 0] 35))
  generalize w3.alloc (Obj.cells #[Value.int .i64 0, Value.int .i64 0, Value.int .i64 0, Value.int .i64 0, Value.int .i64 0, Value.slice none 0 0] 35) = A3 at *
  have T3 := Lib.hid hS
  clear hS
  have y0 : A3.cell? ⟨BY, 0, none⟩ = some (.slice a1 r d) := T3.out.row.cell 0
  have y1 : A3.cell? ⟨BY, 1, none⟩ = some (.int .i64 o) := T3.out.row.cell 1
  have y2 : A3.cell? ⟨BY, 2, none⟩ = some (.int .i64 m) := T3.out.row.cell 2
  have hby : BY < A3.heap.size := T3.out.row.lt
  go_upto_region 9 with (go_at_call 8; go_must (refine (CL.out BY _ T3.out).mono ?_; rintro e w4 ⟨rfl, hF⟩; have S4 := Lib.hid (T3.out.next hF); clear y0 y1 y2 hby hF; have y0 : w4.cell? ⟨BY, 0, none⟩ = some (.slice a1 r d) := S4.out.row.cell 0; have y1 : w4.cell? ⟨BY, 1, none⟩ = some (.int .i64 o) := S4.out.row.cell 1; have y2 : w4.cell? ⟨BY, 2, none⟩ = some (.int .i64 m) := S4.out.row.cell 2; have hby : BY < w4.heap.size := S4.out.row.lt))
  go_upto_region 10 with (go_at_call 9; go_must (refine (CK.out BY _ S4.out).mono ?_; rintro e w5 ⟨rfl, hF⟩; have S5 := Lib.hid (S4.out.next hF); clear y0 y1 y2 hby hF; have y0 : w5.cell? ⟨BY, 0, none⟩ = some (.slice a1 r d) := S5.out.row.cell 0; have y1 : w5.cell? ⟨BY, 1, none⟩ = some (.int .i64 o) := S5.out.row.cell 1; have y2 : w5.cell? ⟨BY, 2, none⟩ = some (.int .i64 m) := S5.out.row.cell 2; have hby : BY < w5.heap.size := S5.out.row.lt))
  go_upto_region 11 with (go_at_call 10; go_must (refine (CR.out BY _ _ (S5.out.alloc _) (RowB.new w5 51 txV)).mono ?_; rintro e w6 ⟨rfl, hF⟩; have S6 := Lib.hid ((S5.out.alloc _).next hF); clear y0 y1 y2 hby hF; have y0 : w6.cell? ⟨BY, 0, none⟩ = some (.slice a1 r d) := S6.out.row.cell 0; have y1 : w6.cell? ⟨BY, 1, none⟩ = some (.int .i64 o) := S6.out.row.cell 1; have y2 : w6.cell? ⟨BY, 2, none⟩ = some (.int .i64 m) := S6.out.row.cell 2; have hby : BY < w6.heap.size := S6.out.row.lt))
  go_upto_region 13 with (go_at_call 11; go_must (refine (CC.out BY _ S6.out).mono ?_; rintro e w7 ⟨rfl, hF⟩; have S7 := Lib.hid (S6.out.next hF); clear y0 y1 y2 hby hF; have y0 : w7.cell? ⟨BY, 0, none⟩ = some (.slice a1 r d) := S7.out.row.cell 0; have y1 : w7.cell? ⟨BY, 1, none⟩ = some (.int .i64 o) := S7.out.row.cell 1; have y2 : w7.cell? ⟨BY, 2, none⟩ = some (.int .i64 m) := S7.out.row.cell 2; have hby : BY < w7.heap.size := S7.out.row.lt))
  go_upto_region 14 with (go_at_call 12; go_must (refine (CFill.out BY _ _ (S7.out.alloc _) (RowB.new w7 61 argV)).mono ?_; rintro e w8 ⟨bd, od, bt, ot, rfl, hH, hF⟩; have S8 := Lib.hid ((S7.out.alloc _).next hF); have H8 := Lib.hid hH; have HB := Lib.hid (show BY < (w7.alloc (Obj.cells argV.toArray 61)).heap.size by rw [alloc_size]; omega); clear y0 y1 y2 hby hF hH; have y0 : w8.cell? ⟨BY, 0, none⟩ = some (.slice a1 r d) := S8.out.row.cell 0; have y1 : w8.cell? ⟨BY, 1, none⟩ = some (.int .i64 o) := S8.out.row.cell 1; have y2 : w8.cell? ⟨BY, 2, none⟩ = some (.int .i64 m) := S8.out.row.cell 2; have hby : BY < w8.heap.size := S8.out.row.lt))
  go_upto_region 16 with (go_at_call 13; go_must (refine (abort_call H8.out).mono ?_; rintro e w9 ⟨rfl, hH, hF⟩; have S9 := Lib.hid (show Sit W BY [Value.slice a1 r d, Value.int .i64 o, Value.int .i64 m] w9 from sit_abort (w7 := w7) S8.out HB.out ⟨S8.out.fr, by have := (S7.out.alloc (Obj.cells argV.toArray 61)).fr.size; exact this⟩ hF); have H9 := Lib.hid hH; clear y0 y1 y2 hby hF hH; have y0 : w9.cell? ⟨BY, 0, none⟩ = some (.slice a1 r d) := S9.out.row.cell 0; have y1 : w9.cell? ⟨BY, 1, none⟩ = some (.int .i64 o) := S9.out.row.cell 1; have y2 : w9.cell? ⟨BY, 2, none⟩ = some (.int .i64 m) := S9.out.row.cell 2; have hby : BY < w9.heap.size := S9.out.row.lt))
  go_upto_region 19 with (go_at_call 6; go_must (refine (CF2.out BY _ _ _ _ S9.out H9.out).mono ?_; rintro e w10 ⟨rfl, hF⟩; have S10 := Lib.hid (S9.out.next hF); have HFF := Lib.hid hF; clear y0 y1 y2 hby hF; have y0 : w10.cell? ⟨BY, 0, none⟩ = some (.slice a1 r d) := S10.out.row.cell 0; have y1 : w10.cell? ⟨BY, 1, none⟩ = some (.int .i64 o) := S10.out.row.cell 1; have y2 : w10.cell? ⟨BY, 2, none⟩ = some (.int .i64 m) := S10.out.row.cell 2; have H10 := Lib.hid (H9.out.fr HFF.out); have hby : BY < w10.heap.size := S10.out.row.lt))
  go_wp2_with (first
    | (go_at_call 11; go_must (refine (CC2.out BY _ _ _ _ S10.out H10.out).mono ?_; rintro e w11 ⟨rfl, hF⟩; have S11 := Lib.hid (S10.out.next hF); clear y0 y1 y2 hby hF; have y0 : w11.cell? ⟨BY, 0, none⟩ = some (.slice a1 r d) := S11.out.row.cell 0; have y1 : w11.cell? ⟨BY, 1, none⟩ = some (.int .i64 o) := S11.out.row.cell 1; have y2 : w11.cell? ⟨BY, 2, none⟩ = some (.int .i64 m) := S11.out.row.cell 2; have hby : BY < w11.heap.size := S11.out.row.lt))
    | (go_at_call 5; go_must (refine (CA.out BY _ S11.out).mono ?_; rintro e w12 ⟨rfl, hF⟩; have S12 := Lib.hid (S11.out.next hF); clear hF)))
  go_ret
  exact ⟨rfl, S12.out.fr⟩
/-- **the law is true** -/
theorem viewNone_walk (z : Int) (n c r d : Nat) (a0 a1 : Option Addr) (o m : Int) (W : World) (ha : Args W n c r d a0 a1) :
    Calls Tryz.prog 3 #[.int .i64 z, .slice a0 n c, .agg #[Value.slice a1 r d, Value.int .i64 o, Value.int .i64 m]] W (Ret (.bool true) W) := by
  by_cases h1 : z < 1
  · exact viewNone_low z n c r d a0 a1 o m W ha h1
  · by_cases h4 : 4 < z
    · exact viewNone_high z n c r d a0 a1 o m W ha h1 h4
    · exact viewNone_good z n c r d a0 a1 o m W ha h1 h4
end Go.Proofs.YtmkedlikgchpfaaGreatDoor
