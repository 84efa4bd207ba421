/- The law's `do`: one call on a map and on a list, walked. -/
import Derived.Test.YtbnjeglbbadcbaaDoorW22
import Derived.Test.YtbnjeglbbadcbaaDoorW21
namespace Go.Proofs.YtbnjeglbbadcbaaDoor
open Go.RowKit
open BM
set_option linter.unusedVariables false

/-- what `do` hands back: a map and a list of the same bits, and true -/
def Did (w : World) (m N : Nat) (e : Ending) (w' : World) : Prop :=
  ∃ m' a' c' Y, e = .returned (.tuple #[.pointer (some ⟨m', 0, none⟩), .slice (some ⟨a', 0, none⟩) N c', .bool true]) ∧ Y.length = N ∧ IsMap w' m' Y ∧ BoolS w' a' Y ∧ (m' = m ∨ w.heap.size ≤ m') ∧ Fr (fun k => k = m) w w'
theorem turn_set (l : List Bool) (i : Int) : setL l i (!getV l i) = turnL l i := by
  unfold turnL setL getV
  by_cases h : 0 ≤ i ∧ i < l.length
  · rw [if_pos h, if_pos h, if_pos h]
  · rw [if_neg h, if_neg h]
def boxC (q : Nat) (I J : Int) (V : Bool) : List Value := [.int .u8 q, .int .i64 I, .int .i64 J, .bool V]
theorem alloc_size (w : World) (o : Obj) : (w.alloc o).heap.size = w.heap.size + 1 := Array.size_push _
theorem Fr.up {w w' : World} {b : Nat} (h : Fr (fun _ => False) w w') : Fr (fun k => k = b) w w' := h.mono (fun _ _ h => h.elim)

set_option maxRecDepth 100000 in
set_option maxHeartbeats 2000000 in
theorem do_set (m a c q : Nat) (X : List Bool) (I J : Int) (V : Bool) (w : World) (hT : Tab w) (hm : IsMap w m X) (ha : BoolS w a X) (hN : X.length ≤ 4096) (hq : (q : Int).tmod 9 = 0) (hq2 : q < 256) (hJ : J ≤ 9223372036854775807) :
    Calls Tryd.prog 37 #[.pointer (some ⟨m, 0, none⟩), .slice (some ⟨a, 0, none⟩) X.length c, .agg #[.int .u8 q, .int .i64 I, .int .i64 J, .bool V]] w (Did w m X.length) := by
  have hF0 : Fr (fun _ => False) w (w.alloc (Obj.cells #[.int .u8 q, .int .i64 I, .int .i64 J, .bool V] 63)) := (Fr.refl _ w).alloc _
  have HX := Lib.hid (show RowB (w.alloc (Obj.cells #[.int .u8 q, .int .i64 I, .int .i64 J, .bool V] 63)) w.heap.size 63 (boxC q I J V) from RowB.new w 63 (boxC q I J V))
  have HM := Lib.hid (hm.fr hF0 (fun h => h))
  have HA := Lib.hid (ha.fr hF0 (fun h => h))
  have HT := Lib.hid (hT.fr hF0 (fun h => h))
  have HF0 := Lib.hid hF0
  have Hne := Lib.hid (hm.ne_bools ha)
  clear hm ha hT hF0
  go_enter Tryd.func37, Tryd.ntmps37
  go_wp2_with (first
    | (go_at_call 50; go_must (refine (rset_walk a c X I V _ (by exact HA.out) hN).mono ?_; rintro e w1 ⟨b', c', rfl, hB, hF⟩; have HB := Lib.hid hB; have HF := Lib.hid hF; have HM1 := Lib.hid (HM.out.fr hF (fun h => h)); have b1_w1 : w1.cell? ⟨w.heap.size, 1, none⟩ = some (.int .i64 I) := (HX.out.fr hF (fun h => h)).cell 1; have b2_w1 : w1.cell? ⟨w.heap.size, 2, none⟩ = some (.int .i64 J) := (HX.out.fr hF (fun h => h)).cell 2; have b3_w1 : w1.cell? ⟨w.heap.size, 3, none⟩ = some (.bool V) := (HX.out.fr hF (fun h => h)).cell 3; clear hB hF))
    | (go_at_call 38; go_must (refine (set_walk m X I V _ (by exact HM1.out)).mono ?_; rintro e w2 ⟨rfl, hM, hF⟩; have HM2 := Lib.hid hM; have HF2 := Lib.hid hF; clear hM hF)))
  go_ret3
  exact ⟨m, b', c', setL X I V, rfl, setL_length X I V, HM2.out, HB.out.fr HF2.out (HM1.out.ne_bools HB.out), Or.inl rfl, ((HF0.out.trans HF.out (fun _ _ h => h)).up).trans HF2.out (fun _ _ h => h)⟩

set_option maxRecDepth 100000 in
set_option maxHeartbeats 2000000 in
theorem do_fill (m a c q : Nat) (X : List Bool) (I J : Int) (V : Bool) (w : World) (hT : Tab w) (hm : IsMap w m X) (ha : BoolS w a X) (hN : X.length ≤ 4096) (hq : (q : Int).tmod 9 = 2) (hq2 : q < 256) (hJ : J ≤ 9223372036854775807) :
    Calls Tryd.prog 37 #[.pointer (some ⟨m, 0, none⟩), .slice (some ⟨a, 0, none⟩) X.length c, .agg #[.int .u8 q, .int .i64 I, .int .i64 J, .bool V]] w (Did w m X.length) := by
  have hF0 : Fr (fun _ => False) w (w.alloc (Obj.cells #[.int .u8 q, .int .i64 I, .int .i64 J, .bool V] 63)) := (Fr.refl _ w).alloc _
  have HX := Lib.hid (show RowB (w.alloc (Obj.cells #[.int .u8 q, .int .i64 I, .int .i64 J, .bool V] 63)) w.heap.size 63 (boxC q I J V) from RowB.new w 63 (boxC q I J V))
  have HM := Lib.hid (hm.fr hF0 (fun h => h))
  have HA := Lib.hid (ha.fr hF0 (fun h => h))
  have HT := Lib.hid (hT.fr hF0 (fun h => h))
  have HF0 := Lib.hid hF0
  have Hne := Lib.hid (hm.ne_bools ha)
  clear hm ha hT hF0
  go_enter Tryd.func37, Tryd.ntmps37
  go_wp2_with (first
    | (go_at_call 52; go_must (refine (rfill_walk a c X I J V _ (by exact HA.out) hN).mono ?_; rintro e w1 ⟨b', c', rfl, hB, hF⟩; have HB := Lib.hid hB; have HF := Lib.hid hF; have HM1 := Lib.hid (HM.out.fr hF (fun h => h)); have b1_w1 : w1.cell? ⟨w.heap.size, 1, none⟩ = some (.int .i64 I) := (HX.out.fr hF (fun h => h)).cell 1; have b2_w1 : w1.cell? ⟨w.heap.size, 2, none⟩ = some (.int .i64 J) := (HX.out.fr hF (fun h => h)).cell 2; have b3_w1 : w1.cell? ⟨w.heap.size, 3, none⟩ = some (.bool V) := (HX.out.fr hF (fun h => h)).cell 3; clear hB hF))
    | (go_at_call 36; go_must (refine (fill_walk m X I J V _ (by exact HM1.out)).mono ?_; rintro e w2 ⟨rfl, hM, hF⟩; have HM2 := Lib.hid hM; have HF2 := Lib.hid hF; clear hM hF)))
  go_ret3
  exact ⟨m, b', c', fillL X I J V, rfl, fillL_length X I J V, HM2.out, HB.out.fr HF2.out (HM1.out.ne_bools HB.out), Or.inl rfl, ((HF0.out.trans HF.out (fun _ _ h => h)).up).trans HF2.out (fun _ _ h => h)⟩

set_option maxRecDepth 100000 in
set_option maxHeartbeats 2000000 in
theorem do_turn (m a c q : Nat) (X : List Bool) (I J : Int) (V : Bool) (w : World) (hT : Tab w) (hm : IsMap w m X) (ha : BoolS w a X) (hN : X.length ≤ 4096) (hq : (q : Int).tmod 9 = 1) (hq2 : q < 256) (hJ : J ≤ 9223372036854775807) :
    Calls Tryd.prog 37 #[.pointer (some ⟨m, 0, none⟩), .slice (some ⟨a, 0, none⟩) X.length c, .agg #[.int .u8 q, .int .i64 I, .int .i64 J, .bool V]] w (Did w m X.length) := by
  have hF0 : Fr (fun _ => False) w (w.alloc (Obj.cells #[.int .u8 q, .int .i64 I, .int .i64 J, .bool V] 63)) := (Fr.refl _ w).alloc _
  have HX := Lib.hid (show RowB (w.alloc (Obj.cells #[.int .u8 q, .int .i64 I, .int .i64 J, .bool V] 63)) w.heap.size 63 (boxC q I J V) from RowB.new w 63 (boxC q I J V))
  have HM := Lib.hid (hm.fr hF0 (fun h => h))
  have HA := Lib.hid (ha.fr hF0 (fun h => h))
  have HT := Lib.hid (hT.fr hF0 (fun h => h))
  have HF0 := Lib.hid hF0
  have Hne := Lib.hid (hm.ne_bools ha)
  clear hm ha hT hF0
  go_enter Tryd.func37, Tryd.ntmps37
  go_wp2_with (first
    | (go_at_call 51; go_must (refine (rget_walk a c X I _ (by exact HA.out) hN).mono ?_; rintro e w' ⟨rfl, rfl⟩))
    | (go_at_call 50; go_must (refine (rset_walk a c X I (!getV X I) _ (by exact HA.out) hN).mono ?_; rintro e w1 ⟨b', c', rfl, hB, hF⟩; rw [turn_set] at hB; have HB := Lib.hid hB; have HF := Lib.hid hF; have HM1 := Lib.hid (HM.out.fr hF (fun h => h)); have b1_w1 : w1.cell? ⟨w.heap.size, 1, none⟩ = some (.int .i64 I) := (HX.out.fr hF (fun h => h)).cell 1; have b2_w1 : w1.cell? ⟨w.heap.size, 2, none⟩ = some (.int .i64 J) := (HX.out.fr hF (fun h => h)).cell 2; have b3_w1 : w1.cell? ⟨w.heap.size, 3, none⟩ = some (.bool V) := (HX.out.fr hF (fun h => h)).cell 3; clear hB hF))
    | (go_at_call 35; go_must (refine (turn_walk m X I _ (by exact HM1.out)).mono ?_; rintro e w2 ⟨rfl, hM, hF⟩; have HM2 := Lib.hid hM; have HF2 := Lib.hid hF; clear hM hF)))
  go_ret3
  exact ⟨m, b', c', turnL X I, rfl, (by rw [← turn_set]; exact setL_length X I _), HM2.out, HB.out.fr HF2.out (HM1.out.ne_bools HB.out), Or.inl rfl, ((HF0.out.trans HF.out (fun _ _ h => h)).up).trans HF2.out (fun _ _ h => h)⟩

set_option maxRecDepth 100000 in
set_option maxHeartbeats 2000000 in
theorem do_count (m a c q : Nat) (X : List Bool) (I J : Int) (V : Bool) (w : World) (hT : Tab w) (hm : IsMap w m X) (ha : BoolS w a X) (hN : X.length ≤ 4096) (hq : (q : Int).tmod 9 = 3) (hq2 : q < 256) (hJ : J ≤ 9223372036854775807) :
    Calls Tryd.prog 37 #[.pointer (some ⟨m, 0, none⟩), .slice (some ⟨a, 0, none⟩) X.length c, .agg #[.int .u8 q, .int .i64 I, .int .i64 J, .bool V]] w (Did w m X.length) := by
  have hF0 : Fr (fun _ => False) w (w.alloc (Obj.cells #[.int .u8 q, .int .i64 I, .int .i64 J, .bool V] 63)) := (Fr.refl _ w).alloc _
  have HX := Lib.hid (show RowB (w.alloc (Obj.cells #[.int .u8 q, .int .i64 I, .int .i64 J, .bool V] 63)) w.heap.size 63 (boxC q I J V) from RowB.new w 63 (boxC q I J V))
  have HM := Lib.hid (hm.fr hF0 (fun h => h))
  have HA := Lib.hid (ha.fr hF0 (fun h => h))
  have HT := Lib.hid (hT.fr hF0 (fun h => h))
  have HF0 := Lib.hid hF0
  have Hne := Lib.hid (hm.ne_bools ha)
  clear hm ha hT hF0
  go_enter Tryd.func37, Tryd.ntmps37
  go_wp2_with (first
    | (go_at_call 14; go_must (refine (count_walk m X I J _ (by exact HM.out)).mono ?_; rintro e w' ⟨rfl, q, rfl⟩))
    | (go_at_call 53; go_must (refine (rcount_walk a c X I J _ (by exact HA.out) hN).mono ?_; rintro e w' ⟨rfl, rfl⟩)))
  go_ret3
  exact ⟨m, a, c, X, rfl, rfl, HM.out, HA.out, Or.inl rfl, (HF0.out.up).drewN _⟩

set_option maxRecDepth 100000 in
set_option maxHeartbeats 2000000 in
theorem do_next (m a c q : Nat) (X : List Bool) (I J : Int) (V : Bool) (w : World) (hT : Tab w) (hm : IsMap w m X) (ha : BoolS w a X) (hN : X.length ≤ 4096) (hq : (q : Int).tmod 9 = 4) (hq2 : q < 256) (hJ : J ≤ 9223372036854775807) :
    Calls Tryd.prog 37 #[.pointer (some ⟨m, 0, none⟩), .slice (some ⟨a, 0, none⟩) X.length c, .agg #[.int .u8 q, .int .i64 I, .int .i64 J, .bool V]] w (Did w m X.length) := by
  have hF0 : Fr (fun _ => False) w (w.alloc (Obj.cells #[.int .u8 q, .int .i64 I, .int .i64 J, .bool V] 63)) := (Fr.refl _ w).alloc _
  have HX := Lib.hid (show RowB (w.alloc (Obj.cells #[.int .u8 q, .int .i64 I, .int .i64 J, .bool V] 63)) w.heap.size 63 (boxC q I J V) from RowB.new w 63 (boxC q I J V))
  have HM := Lib.hid (hm.fr hF0 (fun h => h))
  have HA := Lib.hid (ha.fr hF0 (fun h => h))
  have HT := Lib.hid (hT.fr hF0 (fun h => h))
  have HF0 := Lib.hid hF0
  have Hne := Lib.hid (hm.ne_bools ha)
  clear hm ha hT hF0
  go_enter Tryd.func37, Tryd.ntmps37
  go_wp2_with (first
    | (go_at_call 30; go_must (refine (next_walk m X I V _ (by exact HM.out) (by exact HT.out)).mono ?_; rintro e w' ⟨b1, e1, rfl, hn, q, rfl⟩; have H1 := Lib.hid hn; clear hn))
    | (go_at_call 54; go_must (refine (rnext_walk a c X I V _ (by exact HA.out) hN).mono ?_; rintro e w' ⟨⟨b2, e2, rfl, hn⟩, rfl⟩; obtain ⟨rfl, rfl⟩ := hn.uniq H1.out; clear hn)))
  go_ret3
  exact ⟨m, a, c, X, rfl, rfl, HM.out, HA.out, Or.inl rfl, (HF0.out.up).drewN _⟩

set_option maxRecDepth 100000 in
set_option maxHeartbeats 2000000 in
theorem do_last (m a c q : Nat) (X : List Bool) (I J : Int) (V : Bool) (w : World) (hT : Tab w) (hm : IsMap w m X) (ha : BoolS w a X) (hN : X.length ≤ 4096) (hq : (q : Int).tmod 9 = 5) (hq2 : q < 256) (hJ : J ≤ 9223372036854775807) :
    Calls Tryd.prog 37 #[.pointer (some ⟨m, 0, none⟩), .slice (some ⟨a, 0, none⟩) X.length c, .agg #[.int .u8 q, .int .i64 I, .int .i64 J, .bool V]] w (Did w m X.length) := by
  have hF0 : Fr (fun _ => False) w (w.alloc (Obj.cells #[.int .u8 q, .int .i64 I, .int .i64 J, .bool V] 63)) := (Fr.refl _ w).alloc _
  have HX := Lib.hid (show RowB (w.alloc (Obj.cells #[.int .u8 q, .int .i64 I, .int .i64 J, .bool V] 63)) w.heap.size 63 (boxC q I J V) from RowB.new w 63 (boxC q I J V))
  have HM := Lib.hid (hm.fr hF0 (fun h => h))
  have HA := Lib.hid (ha.fr hF0 (fun h => h))
  have HT := Lib.hid (hT.fr hF0 (fun h => h))
  have HF0 := Lib.hid hF0
  have Hne := Lib.hid (hm.ne_bools ha)
  clear hm ha hT hF0
  go_enter Tryd.func37, Tryd.ntmps37
  go_wp2_with (first
    | (go_at_call 32; go_must (refine (last_walk m X I V _ (by exact HM.out)).mono ?_; rintro e w' ⟨b1, e1, rfl, hn, q, rfl⟩; have H1 := Lib.hid hn; clear hn))
    | (go_at_call 55; go_must (refine (rlast_walk a c X I V _ (by exact HA.out) hN).mono ?_; rintro e w' ⟨⟨b2, e2, rfl, hn⟩, rfl⟩; obtain ⟨rfl, rfl⟩ := hn.uniq H1.out; clear hn)))
  go_ret3
  exact ⟨m, a, c, X, rfl, rfl, HM.out, HA.out, Or.inl rfl, (HF0.out.up).drewN _⟩

set_option maxRecDepth 100000 in
set_option maxHeartbeats 2000000 in
theorem do_run (m a c q : Nat) (X : List Bool) (I J : Int) (V : Bool) (w : World) (hT : Tab w) (hm : IsMap w m X) (ha : BoolS w a X) (hN : X.length ≤ 4096) (hq : (q : Int).tmod 9 = 6) (hq2 : q < 256) (hJ : J ≤ 9223372036854775807) :
    Calls Tryd.prog 37 #[.pointer (some ⟨m, 0, none⟩), .slice (some ⟨a, 0, none⟩) X.length c, .agg #[.int .u8 q, .int .i64 I, .int .i64 J, .bool V]] w (Did w m X.length) := by
  have hF0 : Fr (fun _ => False) w (w.alloc (Obj.cells #[.int .u8 q, .int .i64 I, .int .i64 J, .bool V] 63)) := (Fr.refl _ w).alloc _
  have HX := Lib.hid (show RowB (w.alloc (Obj.cells #[.int .u8 q, .int .i64 I, .int .i64 J, .bool V] 63)) w.heap.size 63 (boxC q I J V) from RowB.new w 63 (boxC q I J V))
  have HM := Lib.hid (hm.fr hF0 (fun h => h))
  have HA := Lib.hid (ha.fr hF0 (fun h => h))
  have HT := Lib.hid (hT.fr hF0 (fun h => h))
  have HF0 := Lib.hid hF0
  have Hne := Lib.hid (hm.ne_bools ha)
  clear hm ha hT hF0
  go_enter Tryd.func37, Tryd.ntmps37
  go_wp2_with (first
    | (go_at_call 12; go_must (refine (run_walk m X I J V _ (by exact HM.out) (by exact HT.out) hJ).mono ?_; rintro e w' ⟨b1, e1, rfl, hn, q, rfl⟩; have H1 := Lib.hid hn; clear hn))
    | (go_at_call 56; go_must (refine (rrun_walk a c X I J V _ (by exact HA.out) hN hJ).mono ?_; rintro e w' ⟨⟨b2, e2, rfl, hn⟩, rfl⟩; obtain ⟨rfl, rfl⟩ := hn.uniq H1.out; clear hn)))
  go_ret3
  exact ⟨m, a, c, X, rfl, rfl, HM.out, HA.out, Or.inl rfl, (HF0.out.up).drewN _⟩

set_option maxRecDepth 100000 in
set_option maxHeartbeats 2000000 in
theorem do_get (m a c q : Nat) (X : List Bool) (I J : Int) (V : Bool) (w : World) (hT : Tab w) (hm : IsMap w m X) (ha : BoolS w a X) (hN : X.length ≤ 4096) (hq : (q : Int).tmod 9 = 7) (hq2 : q < 256) (hJ : J ≤ 9223372036854775807) :
    Calls Tryd.prog 37 #[.pointer (some ⟨m, 0, none⟩), .slice (some ⟨a, 0, none⟩) X.length c, .agg #[.int .u8 q, .int .i64 I, .int .i64 J, .bool V]] w (Did w m X.length) := by
  have hF0 : Fr (fun _ => False) w (w.alloc (Obj.cells #[.int .u8 q, .int .i64 I, .int .i64 J, .bool V] 63)) := (Fr.refl _ w).alloc _
  have HX := Lib.hid (show RowB (w.alloc (Obj.cells #[.int .u8 q, .int .i64 I, .int .i64 J, .bool V] 63)) w.heap.size 63 (boxC q I J V) from RowB.new w 63 (boxC q I J V))
  have HM := Lib.hid (hm.fr hF0 (fun h => h))
  have HA := Lib.hid (ha.fr hF0 (fun h => h))
  have HT := Lib.hid (hT.fr hF0 (fun h => h))
  have HF0 := Lib.hid hF0
  have Hne := Lib.hid (hm.ne_bools ha)
  clear hm ha hT hF0
  go_enter Tryd.func37, Tryd.ntmps37
  go_wp2_with (first
    | (go_at_call 31; go_must (refine (get_walk m X I _ (by exact HM.out)).mono ?_; rintro e w' ⟨rfl, rfl⟩))
    | (go_at_call 51; go_must (refine (rget_walk a c X I _ (by exact HA.out) hN).mono ?_; rintro e w' ⟨rfl, rfl⟩)))
  go_ret3
  exact ⟨m, a, c, X, rfl, rfl, HM.out, HA.out, Or.inl rfl, HF0.out.up⟩

set_option maxRecDepth 100000 in
set_option maxHeartbeats 2000000 in
theorem do_not (m a c q : Nat) (X : List Bool) (I J : Int) (V : Bool) (w : World) (hT : Tab w) (hm : IsMap w m X) (ha : BoolS w a X) (hN : X.length ≤ 4096) (hq : (q : Int).tmod 9 = 8) (hq2 : q < 256) (hJ : J ≤ 9223372036854775807) :
    Calls Tryd.prog 37 #[.pointer (some ⟨m, 0, none⟩), .slice (some ⟨a, 0, none⟩) X.length c, .agg #[.int .u8 q, .int .i64 I, .int .i64 J, .bool V]] w (Did w m X.length) := by
  have hF0 : Fr (fun _ => False) w (w.alloc (Obj.cells #[.int .u8 q, .int .i64 I, .int .i64 J, .bool V] 63)) := (Fr.refl _ w).alloc _
  have HX := Lib.hid (show RowB (w.alloc (Obj.cells #[.int .u8 q, .int .i64 I, .int .i64 J, .bool V] 63)) w.heap.size 63 (boxC q I J V) from RowB.new w 63 (boxC q I J V))
  have HM := Lib.hid (hm.fr hF0 (fun h => h))
  have HA := Lib.hid (ha.fr hF0 (fun h => h))
  have HT := Lib.hid (hT.fr hF0 (fun h => h))
  have HF0 := Lib.hid hF0
  have Hne := Lib.hid (hm.ne_bools ha)
  clear hm ha hT hF0
  have T1 : Hid True := Lib.hid trivial
  have T2 : Hid True := Lib.hid trivial
  go_enter Tryd.func37, Tryd.ntmps37
  go_wp2_with (first
    | (go_at_call 33; go_must (refine (not_walk m X _ (by exact HM.out)).mono ?_; rintro e w1 ⟨rfl, hM, hF⟩; rw [alloc_size] at hM; have HM1 := Lib.hid hM; have HF1 := Lib.hid hF; clear hM hF))
    | (go_at_call 57; go_must (refine (rnot_walk a c X _ (by exact HA.out.fr HF1.out (fun h => h)) hN).mono ?_; rintro e w2 ⟨rfl, hB, hF⟩; have HB2 := Lib.hid hB; have HF2 := Lib.hid hF; clear hB hF))
    | (go_at_call 18; have tok := T1.out; go_must (refine (lsamet _ _ X.length _ (notL X) (notL X) _ (by have h := HM1.out.fr HF2.out (fun h => h); exact h) (by exact HB2.out) (notL_length X) rfl).mono ?_; rintro e w3 ⟨rfl, hF⟩; have HF3 := Lib.hid hF; clear hF); clear T1)
    | (go_at_call 18; have tok := T2.out; go_must (refine (lsamet _ _ X.length _ X X _ (by have h := ((HM.out.fr HF1.out (fun h => h)).fr HF2.out (fun h => h)).fr HF3.out (fun h => h); exact h) (by have h := ((HA.out.fr HF1.out (fun h => h)).fr HF2.out (fun h => h)).fr HF3.out (fun h => h); exact h) rfl rfl).mono ?_; rintro e w4 ⟨rfl, hF⟩; have HF4 := Lib.hid hF; clear hF); clear T2))
  go_ret3
  exact ⟨_, _, _, notL X, rfl, notL_length X, ((HM1.out.fr HF2.out (fun h => h)).fr HF3.out (fun h => h)).fr HF4.out (fun h => h), (HB2.out.fr HF3.out (fun h => h)).fr HF4.out (fun h => h), Or.inr (Nat.le_succ _), ((((HF0.out.trans HF1.out (fun _ _ h => h)).trans HF2.out (fun _ _ h => h)).trans HF3.out (fun _ _ h => h)).trans HF4.out (fun _ _ h => h)).up⟩

/-- **do**: whatever the call, the map and the list stay alike -/
theorem do_walk (m a c q : Nat) (X : List Bool) (I J : Int) (V : Bool) (w : World) (hT : Tab w) (hm : IsMap w m X) (ha : BoolS w a X) (hN : X.length ≤ 4096) (hq2 : q < 256) (hJ : J ≤ 9223372036854775807) :
    Calls Tryd.prog 37 #[.pointer (some ⟨m, 0, none⟩), .slice (some ⟨a, 0, none⟩) X.length c, .agg #[.int .u8 q, .int .i64 I, .int .i64 J, .bool V]] w (Did w m X.length) := by
  have h9 : (q : Int).tmod 9 = ((q % 9 : Nat) : Int) := by rw [Int.tmod_eq_emod_of_nonneg (by omega), Int.natCast_emod]; rfl
  have hlt : q % 9 < 9 := Nat.mod_lt _ (by decide)
  obtain h | h | h | h | h | h | h | h | h : q % 9 = 0 ∨ q % 9 = 1 ∨ q % 9 = 2 ∨ q % 9 = 3 ∨ q % 9 = 4 ∨ q % 9 = 5 ∨ q % 9 = 6 ∨ q % 9 = 7 ∨ q % 9 = 8 := by omega
  · exact do_set m a c q X I J V w hT hm ha hN (by rw [h9, h]; rfl) hq2 hJ
  · exact do_turn m a c q X I J V w hT hm ha hN (by rw [h9, h]; rfl) hq2 hJ
  · exact do_fill m a c q X I J V w hT hm ha hN (by rw [h9, h]; rfl) hq2 hJ
  · exact do_count m a c q X I J V w hT hm ha hN (by rw [h9, h]; rfl) hq2 hJ
  · exact do_next m a c q X I J V w hT hm ha hN (by rw [h9, h]; rfl) hq2 hJ
  · exact do_last m a c q X I J V w hT hm ha hN (by rw [h9, h]; rfl) hq2 hJ
  · exact do_run m a c q X I J V w hT hm ha hN (by rw [h9, h]; rfl) hq2 hJ
  · exact do_get m a c q X I J V w hT hm ha hN (by rw [h9, h]; rfl) hq2 hJ
  · exact do_not m a c q X I J V w hT hm ha hN (by rw [h9, h]; rfl) hq2 hJ
end Go.Proofs.YtbnjeglbbadcbaaDoor
