/- The reference's Sum, walked. -/
import Derived.Test.YtogjfifpbplahaaDoorS1
import Derived.RegionTactic
import Derived.ChangeAlike
import Derived.BigRegion
import Derived.Deep.Cut
namespace Go.Proofs.YtogjfifpbplahaaDoor
open Go.RowKit
open CM
set_option linter.unusedVariables false

def sumCells (U : Nat → Nat → Int) (k : Nat) : List Value := [.int .i64 0, .int .i64 (sumF U 1 k), .int .i64 (sumF U 2 k), .int .i64 (sumF U 3 k), .int .i64 (sumF U 4 k), .int .i64 (sumF U 5 k), .int .i64 (sumF U 6 k), .int .i64 (sumF U 7 k)]
/-- what Sum returns -/
def sumV (n : Nat) (U : Nat → Nat → Int) : Value := if listE n U = 0 then .tuple #[.agg (sumCells U n).toArray, .int .i64 0] else .tuple #[.agg #[.int .i64 0, .int .i64 0, .int .i64 0, .int .i64 0, .int .i64 0, .int .i64 0, .int .i64 0, .int .i64 0], .int .i64 (listE n U)]
theorem sumV_ok {n : Nat} {U : Nat → Nat → Int} (h : listE n U = 0) : sumV n U = .tuple #[.agg #[.int .i64 0, .int .i64 (sumF U 1 n), .int .i64 (sumF U 2 n), .int .i64 (sumF U 3 n), .int .i64 (sumF U 4 n), .int .i64 (sumF U 5 n), .int .i64 (sumF U 6 n), .int .i64 (sumF U 7 n)], .int .i64 0] := by
  unfold sumV
  rw [if_pos h]
  rfl
theorem sumV_bad {n : Nat} {U : Nat → Nat → Int} (h : listE n U ≠ 0) : sumV n U = .tuple #[.agg #[.int .i64 0, .int .i64 0, .int .i64 0, .int .i64 0, .int .i64 0, .int .i64 0, .int .i64 0, .int .i64 0], .int .i64 (listE n U)] := by
  unfold sumV
  rw [if_neg h]
theorem RowB.drew {w : World} {b : Nat} {T : TypeId} {vs : List Value} (h : RowB w b T vs) : RowB w.drew b T vs := h
theorem sumCells_step (U : Nat → Nat → Int) (k : Nat) : (((((((sumCells U k).set 1 (.int .i64 (sumF U 1 k + U k 1))).set 2 (.int .i64 (sumF U 2 k + U k 2))).set 3 (.int .i64 (sumF U 3 k + U k 3))).set 4 (.int .i64 (sumF U 4 k + U k 4))).set 5 (.int .i64 (sumF U 5 k + U k 5))).set 6 (.int .i64 (sumF U 6 k + U k 6))).set 7 (.int .i64 (sumF U 7 k + U k 7)) = sumCells U (k + 1) := rfl
theorem listE_ok {n : Nat} {U : Nat → Nat → Int} (h : listE n U = 0) : n ≤ 70 ∧ okB U n = true := by
  unfold listE at h
  split at h
  · cases h
  · split at h
    · exact ⟨by omega, by assumption⟩
    · cases h
theorem sumF_le {U : Nat → Nat → Int} {n k : Nat} (h : okB U n = true) (hn : n ≤ 70) (hk : k ≤ n) (j : Nat) (h1 : 1 ≤ j) (h8 : j < 8) : 0 ≤ sumF U j k ∧ sumF U j k ≤ 70000000 := by
  have := sumF_bd (U := U) (j := j) (n := k) (fun i hi => ok1_bd (okB_at h (by omega)) j h1 h8)
  omega

set_option maxRecDepth 100000 in
set_option maxHeartbeats 4000000 in
theorem rsum_some (n c b o : Nat) (U : Nat → Nat → Int) (w : World) (hE : listE n U = 0) (hb : b < w.heap.size) (hc : Hid (∀ i j, i < n → j < 8 → w.cell? ⟨b, o + i * 8 + j, none⟩ = some (.int .i64 (U i j)))) :
    Calls Tryd.prog 9 #[.slice (some ⟨b, o, none⟩) n c] w (Ret (sumV n U) w) := by
  have HL := Lib.hid (fun (w0 : World) (hF : Fr (fun _ => False) w w0) => list_walk n c (some ⟨b, o, none⟩) U w0 (Uses.fr (w := w) (fun _ => ⟨b, o, rfl, hb, hc.out⟩) hF (fun _ _ h => h)))
  rw [hE] at HL
  rw [sumV_ok hE]
  obtain ⟨hn, hok⟩ := listE_ok hE
  have HOK := Lib.hid hok
  clear hE hok
  go_enter Tryd.func9, Tryd.ntmps9
  go_wp2_with (go_at_call 18; go_must (refine (HL.out _ ((Fr.refl _ _).alloc _)).mono ?_; rintro e w1 ⟨rfl, hF⟩; have HF1 := Lib.hid (((Fr.refl _ w).alloc _).then hF); have HR1 := Lib.hid ((RowB.new w 28 [.int .i64 0, .int .i64 0, .int .i64 0, .int .i64 0, .int .i64 0, .int .i64 0, .int .i64 0, .int .i64 0]).fr hF (fun h => h)); clear hF))
  have hF2 : Fr (fun _ => False) w (w1.alloc (Obj.cells #[Value.int .i64 0, Value.int .i64 0, Value.int .i64 0, Value.int .i64 0, Value.int .i64 0, Value.int .i64 0, Value.int .i64 0, Value.int .i64 0] 28)) := HF1.out.alloc _
  have hR2 : RowB (w1.alloc (Obj.cells #[Value.int .i64 0, Value.int .i64 0, Value.int .i64 0, Value.int .i64 0, Value.int .i64 0, Value.int .i64 0, Value.int .i64 0, Value.int .i64 0] 28)) w1.heap.size 28 (sumCells U 0) := RowB.new w1 28 _
  have hR1 : RowB (w1.alloc (Obj.cells #[Value.int .i64 0, Value.int .i64 0, Value.int .i64 0, Value.int .i64 0, Value.int .i64 0, Value.int .i64 0, Value.int .i64 0, Value.int .i64 0] 28)) w.heap.size 28 [.int .i64 0, .int .i64 0, .int .i64 0, .int .i64 0, .int .i64 0, .int .i64 0, .int .i64 0, .int .i64 0] := HR1.out.fr ((Fr.refl (fun _ => False) w1).alloc _) (fun h => h)
  have hzz : w.heap.size < w1.heap.size := HR1.out.lt
  have hz1 : w.heap.size ≤ w1.heap.size := Nat.le_of_lt hzz
  generalize w1.alloc (Obj.cells #[Value.int .i64 0, Value.int .i64 0, Value.int .i64 0, Value.int .i64 0, Value.int .i64 0, Value.int .i64 0, Value.int .i64 0, Value.int .i64 0] 28) = W2 at *
  generalize w1.heap.size = B at *
  have HR1 := Lib.hid hR1
  have HR2 := Lib.hid hR2
  have HF2 := Lib.hid hF2
  clear hR1 hR2 hF2
  go_loopw [6] (fun i wr => ∃ k : Nat, k ≤ n ∧ i = .int .i64 k ∧ RowB wr B 28 (sumCells U k) ∧ Fr (fun x => x = B) W2 wr) (fun i _ => n - (intOf i).toNat)
  case atStart => exact ⟨0, by omega, rfl, HR2.out, Fr.refl _ _⟩
  case round =>
    obtain ⟨k, hk, rfl, hR, hF⟩ := hrel
    by_cases hlt : k < n
    · have c1 : wr.cell? ⟨b, o + k * 8 + 1, none⟩ = some (.int .i64 (U k 1)) := hF.cell (w := W2) (p := ⟨b, o + k * 8 + 1, none⟩) (by have := HF2.out.size; exact Nat.lt_of_lt_of_le hb this) (fun h => by have h : b = B := h; omega) (HF2.out.cell hb (fun h => h) (hc.out k 1 hlt (by omega)))
      have s1 : wr.cell? ⟨B, 1, none⟩ = some (.int .i64 (sumF U 1 k)) := hR.cell 1
      have f1 := hR.frozen 1
      have q1 := sumF_le HOK.out hn hk 1 (by omega) (by omega)
      have p1 := ok1_bd (okB_at HOK.out hlt) 1 (by omega) (by omega)
      obtain ⟨q1a, q1b⟩ := q1
      obtain ⟨p1a, p1b⟩ := p1
      have c2 : wr.cell? ⟨b, o + k * 8 + 2, none⟩ = some (.int .i64 (U k 2)) := hF.cell (w := W2) (p := ⟨b, o + k * 8 + 2, none⟩) (by have := HF2.out.size; exact Nat.lt_of_lt_of_le hb this) (fun h => by have h : b = B := h; omega) (HF2.out.cell hb (fun h => h) (hc.out k 2 hlt (by omega)))
      have s2 : wr.cell? ⟨B, 2, none⟩ = some (.int .i64 (sumF U 2 k)) := hR.cell 2
      have f2 := hR.frozen 2
      have q2 := sumF_le HOK.out hn hk 2 (by omega) (by omega)
      have p2 := ok1_bd (okB_at HOK.out hlt) 2 (by omega) (by omega)
      obtain ⟨q2a, q2b⟩ := q2
      obtain ⟨p2a, p2b⟩ := p2
      have c3 : wr.cell? ⟨b, o + k * 8 + 3, none⟩ = some (.int .i64 (U k 3)) := hF.cell (w := W2) (p := ⟨b, o + k * 8 + 3, none⟩) (by have := HF2.out.size; exact Nat.lt_of_lt_of_le hb this) (fun h => by have h : b = B := h; omega) (HF2.out.cell hb (fun h => h) (hc.out k 3 hlt (by omega)))
      have s3 : wr.cell? ⟨B, 3, none⟩ = some (.int .i64 (sumF U 3 k)) := hR.cell 3
      have f3 := hR.frozen 3
      have q3 := sumF_le HOK.out hn hk 3 (by omega) (by omega)
      have p3 := ok1_bd (okB_at HOK.out hlt) 3 (by omega) (by omega)
      obtain ⟨q3a, q3b⟩ := q3
      obtain ⟨p3a, p3b⟩ := p3
      have c4 : wr.cell? ⟨b, o + k * 8 + 4, none⟩ = some (.int .i64 (U k 4)) := hF.cell (w := W2) (p := ⟨b, o + k * 8 + 4, none⟩) (by have := HF2.out.size; exact Nat.lt_of_lt_of_le hb this) (fun h => by have h : b = B := h; omega) (HF2.out.cell hb (fun h => h) (hc.out k 4 hlt (by omega)))
      have s4 : wr.cell? ⟨B, 4, none⟩ = some (.int .i64 (sumF U 4 k)) := hR.cell 4
      have f4 := hR.frozen 4
      have q4 := sumF_le HOK.out hn hk 4 (by omega) (by omega)
      have p4 := ok1_bd (okB_at HOK.out hlt) 4 (by omega) (by omega)
      obtain ⟨q4a, q4b⟩ := q4
      obtain ⟨p4a, p4b⟩ := p4
      have c5 : wr.cell? ⟨b, o + k * 8 + 5, none⟩ = some (.int .i64 (U k 5)) := hF.cell (w := W2) (p := ⟨b, o + k * 8 + 5, none⟩) (by have := HF2.out.size; exact Nat.lt_of_lt_of_le hb this) (fun h => by have h : b = B := h; omega) (HF2.out.cell hb (fun h => h) (hc.out k 5 hlt (by omega)))
      have s5 : wr.cell? ⟨B, 5, none⟩ = some (.int .i64 (sumF U 5 k)) := hR.cell 5
      have f5 := hR.frozen 5
      have q5 := sumF_le HOK.out hn hk 5 (by omega) (by omega)
      have p5 := ok1_bd (okB_at HOK.out hlt) 5 (by omega) (by omega)
      obtain ⟨q5a, q5b⟩ := q5
      obtain ⟨p5a, p5b⟩ := p5
      have c6 : wr.cell? ⟨b, o + k * 8 + 6, none⟩ = some (.int .i64 (U k 6)) := hF.cell (w := W2) (p := ⟨b, o + k * 8 + 6, none⟩) (by have := HF2.out.size; exact Nat.lt_of_lt_of_le hb this) (fun h => by have h : b = B := h; omega) (HF2.out.cell hb (fun h => h) (hc.out k 6 hlt (by omega)))
      have s6 : wr.cell? ⟨B, 6, none⟩ = some (.int .i64 (sumF U 6 k)) := hR.cell 6
      have f6 := hR.frozen 6
      have q6 := sumF_le HOK.out hn hk 6 (by omega) (by omega)
      have p6 := ok1_bd (okB_at HOK.out hlt) 6 (by omega) (by omega)
      obtain ⟨q6a, q6b⟩ := q6
      obtain ⟨p6a, p6b⟩ := p6
      have c7 : wr.cell? ⟨b, o + k * 8 + 7, none⟩ = some (.int .i64 (U k 7)) := hF.cell (w := W2) (p := ⟨b, o + k * 8 + 7, none⟩) (by have := HF2.out.size; exact Nat.lt_of_lt_of_le hb this) (fun h => by have h : b = B := h; omega) (HF2.out.cell hb (fun h => h) (hc.out k 7 hlt (by omega)))
      have s7 : wr.cell? ⟨B, 7, none⟩ = some (.int .i64 (sumF U 7 k)) := hR.cell 7
      have f7 := hR.frozen 7
      have q7 := sumF_le HOK.out hn hk 7 (by omega) (by omega)
      have p7 := ok1_bd (okB_at HOK.out hlt) 7 (by omega) (by omega)
      obtain ⟨q7a, q7b⟩ := q7
      obtain ⟨p7a, p7b⟩ := p7
      have g1 : (0 : Int) ≤ (k : Int) := by omega
      have g2 : (k : Int) < (n : Int) := by omega
      have hBb : ¬ B = b := by omega
      have hbB : ¬ b = B := by omega
      have HR := Lib.hid hR
      have HF := Lib.hid hF
      clear hR hF
      go_wp2_with fail
      go_region
      go_wp2_with fail
      go_region
      go_wp2_with fail
      go_region
      go_wp2_with fail
      go_region
      go_wp2_with fail
      go_region
      go_wp2_with fail
      go_region
      go_wp2_with fail
      go_region
      go_wp2_with fail
      go_roundw
      case rel =>
        refine ⟨k + 1, by omega, by go_num, ?_, ?_⟩
        · have h := (((((((HR.out.set 1 (Value.int .i64 (sumF U 1 k + U k 1))).set 2 (Value.int .i64 (sumF U 2 k + U k 2))).set 3 (Value.int .i64 (sumF U 3 k + U k 3))).set 4 (Value.int .i64 (sumF U 4 k + U k 4))).set 5 (Value.int .i64 (sumF U 5 k + U k 5))).set 6 (Value.int .i64 (sumF U 6 k + U k 6))).set 7 (Value.int .i64 (sumF U 7 k + U k 7)))
          rw [sumCells_step] at h
          exact h.drew.drew.drew.drew.drew.drew.drew
        · exact (Fr.setCell (S := fun x => x = B) (Fr.setCell (S := fun x => x = B) (Fr.setCell (S := fun x => x = B) (Fr.setCell (S := fun x => x = B) (Fr.setCell (S := fun x => x = B) (Fr.setCell (S := fun x => x = B) (Fr.setCell (S := fun x => x = B) HF.out (a := ⟨B, 1, none⟩) (fun _ => rfl) _) (a := ⟨B, 2, none⟩) (fun _ => rfl) _) (a := ⟨B, 3, none⟩) (fun _ => rfl) _) (a := ⟨B, 4, none⟩) (fun _ => rfl) _) (a := ⟨B, 5, none⟩) (fun _ => rfl) _) (a := ⟨B, 6, none⟩) (fun _ => rfl) _) (a := ⟨B, 7, none⟩) (fun _ => rfl) _).drew.drew.drew.drew.drew.drew.drew
      case measure => simp [intOf]; omega
    · obtain rfl : k = n := by omega
      have hF9 := HF2.out.mono (S' := fun x => x = B) (fun _ _ h => h.elim)
      have hF3 : Fr (fun x => x = B) w wr := hF9.trans hF (fun _ _ h => h)
      have HR1b := Lib.hid (HR1.out.fr hF (fun h => by have h : w.heap.size = B := h; omega))
      have r0 : wr.cell? ⟨B, 0, none⟩ = some (.int .i64 0) := hR.cell 0
      have z0 := HR1b.out.frozen 0
      have z1 := HR1b.out.frozen 1
      have z2 := HR1b.out.frozen 2
      have z3 := HR1b.out.frozen 3
      have z4 := HR1b.out.frozen 4
      have z5 := HR1b.out.frozen 5
      have z6 := HR1b.out.frozen 6
      have z7 := HR1b.out.frozen 7
      have HF3 := Lib.hid hF3
      have r1 : wr.cell? ⟨B, 1, none⟩ = some (.int .i64 (sumF U 1 k)) := hR.cell 1
      have r2 : wr.cell? ⟨B, 2, none⟩ = some (.int .i64 (sumF U 2 k)) := hR.cell 2
      have r3 : wr.cell? ⟨B, 3, none⟩ = some (.int .i64 (sumF U 3 k)) := hR.cell 3
      have r4 : wr.cell? ⟨B, 4, none⟩ = some (.int .i64 (sumF U 4 k)) := hR.cell 4
      have r5 : wr.cell? ⟨B, 5, none⟩ = some (.int .i64 (sumF U 5 k)) := hR.cell 5
      have r6 : wr.cell? ⟨B, 6, none⟩ = some (.int .i64 (sumF U 6 k)) := hR.cell 6
      have r7 : wr.cell? ⟨B, 7, none⟩ = some (.int .i64 (sumF U 7 k)) := hR.cell 7
      clear hR hF hF9 hF3
      have v0 : wr.cell? ⟨w.heap.size, 0, none⟩ = some (.int .i64 0) := HR1b.out.cell 0
      have v1 : wr.cell? ⟨w.heap.size, 1, none⟩ = some (.int .i64 0) := HR1b.out.cell 1
      have v2 : wr.cell? ⟨w.heap.size, 2, none⟩ = some (.int .i64 0) := HR1b.out.cell 2
      have v3 : wr.cell? ⟨w.heap.size, 3, none⟩ = some (.int .i64 0) := HR1b.out.cell 3
      have v4 : wr.cell? ⟨w.heap.size, 4, none⟩ = some (.int .i64 0) := HR1b.out.cell 4
      have v5 : wr.cell? ⟨w.heap.size, 5, none⟩ = some (.int .i64 0) := HR1b.out.cell 5
      have v6 : wr.cell? ⟨w.heap.size, 6, none⟩ = some (.int .i64 0) := HR1b.out.cell 6
      have v7 : wr.cell? ⟨w.heap.size, 7, none⟩ = some (.int .i64 0) := HR1b.out.cell 7
      go_wp2_with fail
      have hRes : RowB (((((((((wr.setCell ⟨w.heap.size, 0, none⟩ (Value.int .i64 0)).setCell ⟨w.heap.size, 1, none⟩ (Value.int .i64 (sumF U 1 k))).setCell ⟨w.heap.size, 2, none⟩ (Value.int .i64 (sumF U 2 k))).setCell ⟨w.heap.size, 3, none⟩ (Value.int .i64 (sumF U 3 k))).setCell ⟨w.heap.size, 4, none⟩ (Value.int .i64 (sumF U 4 k))).setCell ⟨w.heap.size, 5, none⟩ (Value.int .i64 (sumF U 5 k))).setCell ⟨w.heap.size, 6, none⟩ (Value.int .i64 (sumF U 6 k))).setCell ⟨w.heap.size, 7, none⟩ (Value.int .i64 (sumF U 7 k)))) w.heap.size 28 (sumCells U k) := ((((((((HR1b.out.set 0 (Value.int .i64 0)).set 1 (Value.int .i64 (sumF U 1 k))).set 2 (Value.int .i64 (sumF U 2 k))).set 3 (Value.int .i64 (sumF U 3 k))).set 4 (Value.int .i64 (sumF U 4 k))).set 5 (Value.int .i64 (sumF U 5 k))).set 6 (Value.int .i64 (sumF U 6 k))).set 7 (Value.int .i64 (sumF U 7 k)))
      have hFr : Fr (fun x => x = w.heap.size ∨ x = B) w (((((((((wr.setCell ⟨w.heap.size, 0, none⟩ (Value.int .i64 0)).setCell ⟨w.heap.size, 1, none⟩ (Value.int .i64 (sumF U 1 k))).setCell ⟨w.heap.size, 2, none⟩ (Value.int .i64 (sumF U 2 k))).setCell ⟨w.heap.size, 3, none⟩ (Value.int .i64 (sumF U 3 k))).setCell ⟨w.heap.size, 4, none⟩ (Value.int .i64 (sumF U 4 k))).setCell ⟨w.heap.size, 5, none⟩ (Value.int .i64 (sumF U 5 k))).setCell ⟨w.heap.size, 6, none⟩ (Value.int .i64 (sumF U 6 k))).setCell ⟨w.heap.size, 7, none⟩ (Value.int .i64 (sumF U 7 k)))) := (Fr.setCell (S := fun x => x = w.heap.size ∨ x = B) (Fr.setCell (S := fun x => x = w.heap.size ∨ x = B) (Fr.setCell (S := fun x => x = w.heap.size ∨ x = B) (Fr.setCell (S := fun x => x = w.heap.size ∨ x = B) (Fr.setCell (S := fun x => x = w.heap.size ∨ x = B) (Fr.setCell (S := fun x => x = w.heap.size ∨ x = B) (Fr.setCell (S := fun x => x = w.heap.size ∨ x = B) (Fr.setCell (S := fun x => x = w.heap.size ∨ x = B) (HF3.out.mono (S' := fun x => x = w.heap.size ∨ x = B) (fun _ _ h => Or.inr h)) (a := ⟨w.heap.size, 0, none⟩) (fun _ => Or.inl rfl) _) (a := ⟨w.heap.size, 1, none⟩) (fun _ => Or.inl rfl) _) (a := ⟨w.heap.size, 2, none⟩) (fun _ => Or.inl rfl) _) (a := ⟨w.heap.size, 3, none⟩) (fun _ => Or.inl rfl) _) (a := ⟨w.heap.size, 4, none⟩) (fun _ => Or.inl rfl) _) (a := ⟨w.heap.size, 5, none⟩) (fun _ => Or.inl rfl) _) (a := ⟨w.heap.size, 6, none⟩) (fun _ => Or.inl rfl) _) (a := ⟨w.heap.size, 7, none⟩) (fun _ => Or.inl rfl) _)
      generalize ((((((((wr.setCell ⟨w.heap.size, 0, none⟩ (Value.int .i64 0)).setCell ⟨w.heap.size, 1, none⟩ (Value.int .i64 (sumF U 1 k))).setCell ⟨w.heap.size, 2, none⟩ (Value.int .i64 (sumF U 2 k))).setCell ⟨w.heap.size, 3, none⟩ (Value.int .i64 (sumF U 3 k))).setCell ⟨w.heap.size, 4, none⟩ (Value.int .i64 (sumF U 4 k))).setCell ⟨w.heap.size, 5, none⟩ (Value.int .i64 (sumF U 5 k))).setCell ⟨w.heap.size, 6, none⟩ (Value.int .i64 (sumF U 6 k))).setCell ⟨w.heap.size, 7, none⟩ (Value.int .i64 (sumF U 7 k))) = W9 at *
      have k0 : W9.cell? ⟨w.heap.size, 0, none⟩ = some (.int .i64 0) := hRes.cell 0
      have k1 : W9.cell? ⟨w.heap.size, 1, none⟩ = some (.int .i64 (sumF U 1 k)) := hRes.cell 1
      have k2 : W9.cell? ⟨w.heap.size, 2, none⟩ = some (.int .i64 (sumF U 2 k)) := hRes.cell 2
      have k3 : W9.cell? ⟨w.heap.size, 3, none⟩ = some (.int .i64 (sumF U 3 k)) := hRes.cell 3
      have k4 : W9.cell? ⟨w.heap.size, 4, none⟩ = some (.int .i64 (sumF U 4 k)) := hRes.cell 4
      have k5 : W9.cell? ⟨w.heap.size, 5, none⟩ = some (.int .i64 (sumF U 5 k)) := hRes.cell 5
      have k6 : W9.cell? ⟨w.heap.size, 6, none⟩ = some (.int .i64 (sumF U 6 k)) := hRes.cell 6
      have k7 : W9.cell? ⟨w.heap.size, 7, none⟩ = some (.int .i64 (sumF U 7 k)) := hRes.cell 7
      refine bodyPost_ret (v := .tuple #[.agg #[.int .i64 0, .int .i64 (sumF U 1 k), .int .i64 (sumF U 2 k), .int .i64 (sumF U 3 k), .int .i64 (sumF U 4 k), .int .i64 (sumF U 5 k), .int .i64 (sumF U 6 k), .int .i64 (sumF U 7 k)], .int .i64 0]) (by simp [results, Tryd.results9, go_sem, k0, k1, k2, k3, k4, k5, k6, k7]) rfl ⟨rfl, hFr.mono (fun x hx h => ?_)⟩
      rcases h with h | h <;> omega
set_option maxRecDepth 100000 in
set_option maxHeartbeats 1000000 in
theorem rsum_bad (n c : Nat) (a0 : Option Addr) (U : Nat → Nat → Int) (w : World) (hE : listE n U ≠ 0) (h : Uses w a0 n U) :
    Calls Tryd.prog 9 #[.slice a0 n c] w (Ret (sumV n U) w) := by
  have HL := Lib.hid (fun (w0 : World) (hF : Fr (fun _ => False) w w0) => list_walk n c a0 U w0 (h.fr hF (fun _ _ h => h)))
  rw [sumV_bad hE]
  generalize listE n U = E at *
  have e1 : (E != 0) = true := by simp [hE]
  clear hE h
  go_enter Tryd.func9, Tryd.ntmps9
  go_upto_region 1 with (fail)
  have hR1 := RowB.new w 28 [.int .i64 0, .int .i64 0, .int .i64 0, .int .i64 0, .int .i64 0, .int .i64 0, .int .i64 0, .int .i64 0]
  have hF0 : Fr (fun _ => False) w (w.alloc (Obj.cells #[Value.int .i64 0, Value.int .i64 0, Value.int .i64 0, Value.int .i64 0, Value.int .i64 0, Value.int .i64 0, Value.int .i64 0, Value.int .i64 0] 28)) := (Fr.refl _ w).alloc _
  change RowB (w.alloc (Obj.cells #[Value.int .i64 0, Value.int .i64 0, Value.int .i64 0, Value.int .i64 0, Value.int .i64 0, Value.int .i64 0, Value.int .i64 0, Value.int .i64 0] 28)) _ _ _ at hR1
  generalize w.alloc (Obj.cells #[Value.int .i64 0, Value.int .i64 0, Value.int .i64 0, Value.int .i64 0, Value.int .i64 0, Value.int .i64 0, Value.int .i64 0, Value.int .i64 0] 28) = W0 at *
  have HR1 := Lib.hid hR1
  have HF0 := Lib.hid hF0
  clear hR1 hF0
  go_upto_region 3 with (go_at_call 18; go_must (refine (HL.out _ HF0.out).mono ?_; rintro e w1 ⟨rfl, hF⟩; have HR2 := Lib.hid (HR1.out.fr hF (fun h => h)); have HF1 : Hid (Fr (fun _ => False) w w1) := Lib.hid (HF0.out.then hF); clear hF))
  have v0 : w1.cell? ⟨w.heap.size, 0, none⟩ = some (.int .i64 0) := HR2.out.cell 0
  have v1 : w1.cell? ⟨w.heap.size, 1, none⟩ = some (.int .i64 0) := HR2.out.cell 1
  have v2 : w1.cell? ⟨w.heap.size, 2, none⟩ = some (.int .i64 0) := HR2.out.cell 2
  have v3 : w1.cell? ⟨w.heap.size, 3, none⟩ = some (.int .i64 0) := HR2.out.cell 3
  have v4 : w1.cell? ⟨w.heap.size, 4, none⟩ = some (.int .i64 0) := HR2.out.cell 4
  have v5 : w1.cell? ⟨w.heap.size, 5, none⟩ = some (.int .i64 0) := HR2.out.cell 5
  have v6 : w1.cell? ⟨w.heap.size, 6, none⟩ = some (.int .i64 0) := HR2.out.cell 6
  have v7 : w1.cell? ⟨w.heap.size, 7, none⟩ = some (.int .i64 0) := HR2.out.cell 7
  have z0 := HR2.out.frozen 0
  have z1 := HR2.out.frozen 1
  have z2 := HR2.out.frozen 2
  have z3 := HR2.out.frozen 3
  have z4 := HR2.out.frozen 4
  have z5 := HR2.out.frozen 5
  have z6 := HR2.out.frozen 6
  have z7 := HR2.out.frozen 7
  go_wp2_with fail
  have hRes : RowB (((((((((w1.setCell ⟨w.heap.size, 0, none⟩ (Value.int .i64 0)).setCell ⟨w.heap.size, 1, none⟩ (Value.int .i64 0)).setCell ⟨w.heap.size, 2, none⟩ (Value.int .i64 0)).setCell ⟨w.heap.size, 3, none⟩ (Value.int .i64 0)).setCell ⟨w.heap.size, 4, none⟩ (Value.int .i64 0)).setCell ⟨w.heap.size, 5, none⟩ (Value.int .i64 0)).setCell ⟨w.heap.size, 6, none⟩ (Value.int .i64 0)).setCell ⟨w.heap.size, 7, none⟩ (Value.int .i64 0))) w.heap.size 28 [.int .i64 0, .int .i64 0, .int .i64 0, .int .i64 0, .int .i64 0, .int .i64 0, .int .i64 0, .int .i64 0] := ((((((((HR2.out.set 0 (Value.int .i64 0)).set 1 (Value.int .i64 0)).set 2 (Value.int .i64 0)).set 3 (Value.int .i64 0)).set 4 (Value.int .i64 0)).set 5 (Value.int .i64 0)).set 6 (Value.int .i64 0)).set 7 (Value.int .i64 0))
  have hFr : Fr (fun x => x = w.heap.size) w (((((((((w1.setCell ⟨w.heap.size, 0, none⟩ (Value.int .i64 0)).setCell ⟨w.heap.size, 1, none⟩ (Value.int .i64 0)).setCell ⟨w.heap.size, 2, none⟩ (Value.int .i64 0)).setCell ⟨w.heap.size, 3, none⟩ (Value.int .i64 0)).setCell ⟨w.heap.size, 4, none⟩ (Value.int .i64 0)).setCell ⟨w.heap.size, 5, none⟩ (Value.int .i64 0)).setCell ⟨w.heap.size, 6, none⟩ (Value.int .i64 0)).setCell ⟨w.heap.size, 7, none⟩ (Value.int .i64 0))) := (Fr.setCell (S := fun x => x = w.heap.size) (Fr.setCell (S := fun x => x = w.heap.size) (Fr.setCell (S := fun x => x = w.heap.size) (Fr.setCell (S := fun x => x = w.heap.size) (Fr.setCell (S := fun x => x = w.heap.size) (Fr.setCell (S := fun x => x = w.heap.size) (Fr.setCell (S := fun x => x = w.heap.size) (Fr.setCell (S := fun x => x = w.heap.size) HF1.out.up (a := ⟨w.heap.size, 0, none⟩) (fun _ => rfl) _) (a := ⟨w.heap.size, 1, none⟩) (fun _ => rfl) _) (a := ⟨w.heap.size, 2, none⟩) (fun _ => rfl) _) (a := ⟨w.heap.size, 3, none⟩) (fun _ => rfl) _) (a := ⟨w.heap.size, 4, none⟩) (fun _ => rfl) _) (a := ⟨w.heap.size, 5, none⟩) (fun _ => rfl) _) (a := ⟨w.heap.size, 6, none⟩) (fun _ => rfl) _) (a := ⟨w.heap.size, 7, none⟩) (fun _ => rfl) _)
  generalize ((((((((w1.setCell ⟨w.heap.size, 0, none⟩ (Value.int .i64 0)).setCell ⟨w.heap.size, 1, none⟩ (Value.int .i64 0)).setCell ⟨w.heap.size, 2, none⟩ (Value.int .i64 0)).setCell ⟨w.heap.size, 3, none⟩ (Value.int .i64 0)).setCell ⟨w.heap.size, 4, none⟩ (Value.int .i64 0)).setCell ⟨w.heap.size, 5, none⟩ (Value.int .i64 0)).setCell ⟨w.heap.size, 6, none⟩ (Value.int .i64 0)).setCell ⟨w.heap.size, 7, none⟩ (Value.int .i64 0)) = W9 at *
  have k0 : W9.cell? ⟨w.heap.size, 0, none⟩ = some (.int .i64 0) := hRes.cell 0
  have k1 : W9.cell? ⟨w.heap.size, 1, none⟩ = some (.int .i64 0) := hRes.cell 1
  have k2 : W9.cell? ⟨w.heap.size, 2, none⟩ = some (.int .i64 0) := hRes.cell 2
  have k3 : W9.cell? ⟨w.heap.size, 3, none⟩ = some (.int .i64 0) := hRes.cell 3
  have k4 : W9.cell? ⟨w.heap.size, 4, none⟩ = some (.int .i64 0) := hRes.cell 4
  have k5 : W9.cell? ⟨w.heap.size, 5, none⟩ = some (.int .i64 0) := hRes.cell 5
  have k6 : W9.cell? ⟨w.heap.size, 6, none⟩ = some (.int .i64 0) := hRes.cell 6
  have k7 : W9.cell? ⟨w.heap.size, 7, none⟩ = some (.int .i64 0) := hRes.cell 7
  refine bodyPost_ret (v := .tuple #[.agg #[.int .i64 0, .int .i64 0, .int .i64 0, .int .i64 0, .int .i64 0, .int .i64 0, .int .i64 0, .int .i64 0], .int .i64 E]) (by simp [results, Tryd.results9, go_sem, k0, k1, k2, k3, k4, k5, k6, k7]) rfl ⟨rfl, hFr.mono (fun x hx h => by omega)⟩
set_option maxRecDepth 100000 in
set_option maxHeartbeats 1000000 in
theorem rsum_zero (c : Nat) (a0 : Option Addr) (U : Nat → Nat → Int) (w : World) :
    Calls Tryd.prog 9 #[.slice a0 0 c] w (Ret (sumV 0 U) w) := by
  have HL := Lib.hid (fun (w0 : World) => list_zero c a0 w0)
  rw [sumV_ok (show listE 0 U = 0 from rfl)]
  simp only [sumF]
  go_enter Tryd.func9, Tryd.ntmps9
  go_upto_region 1 with (fail)
  have hR1 := RowB.new w 28 [.int .i64 0, .int .i64 0, .int .i64 0, .int .i64 0, .int .i64 0, .int .i64 0, .int .i64 0, .int .i64 0]
  have hF0 : Fr (fun _ => False) w (w.alloc (Obj.cells #[Value.int .i64 0, Value.int .i64 0, Value.int .i64 0, Value.int .i64 0, Value.int .i64 0, Value.int .i64 0, Value.int .i64 0, Value.int .i64 0] 28)) := (Fr.refl _ w).alloc _
  change RowB (w.alloc (Obj.cells #[Value.int .i64 0, Value.int .i64 0, Value.int .i64 0, Value.int .i64 0, Value.int .i64 0, Value.int .i64 0, Value.int .i64 0, Value.int .i64 0] 28)) _ _ _ at hR1
  generalize w.alloc (Obj.cells #[Value.int .i64 0, Value.int .i64 0, Value.int .i64 0, Value.int .i64 0, Value.int .i64 0, Value.int .i64 0, Value.int .i64 0, Value.int .i64 0] 28) = W0 at *
  have HR1 := Lib.hid hR1
  have HF0 := Lib.hid hF0
  clear hR1 hF0
  go_upto_region 4 with (go_at_call 18; go_must (refine (HL.out _).mono ?_; rintro e w1 ⟨rfl, hF⟩; have HR2 := Lib.hid (HR1.out.fr hF (fun h => h)); have HF1 : Hid (Fr (fun _ => False) w w1) := Lib.hid (HF0.out.then hF); clear hF))
  go_wp2_with fail
  have hR3 : RowB (w1.alloc (Obj.cells #[Value.int .i64 0, Value.int .i64 0, Value.int .i64 0, Value.int .i64 0, Value.int .i64 0, Value.int .i64 0, Value.int .i64 0, Value.int .i64 0] 28)) w.heap.size 28 [.int .i64 0, .int .i64 0, .int .i64 0, .int .i64 0, .int .i64 0, .int .i64 0, .int .i64 0, .int .i64 0] := HR2.out.fr ((Fr.refl (fun _ => False) w1).alloc _) (fun h => h)
  have hR4 : RowB (w1.alloc (Obj.cells #[Value.int .i64 0, Value.int .i64 0, Value.int .i64 0, Value.int .i64 0, Value.int .i64 0, Value.int .i64 0, Value.int .i64 0, Value.int .i64 0] 28)) w1.heap.size 28 [.int .i64 0, .int .i64 0, .int .i64 0, .int .i64 0, .int .i64 0, .int .i64 0, .int .i64 0, .int .i64 0] := RowB.new w1 28 [.int .i64 0, .int .i64 0, .int .i64 0, .int .i64 0, .int .i64 0, .int .i64 0, .int .i64 0, .int .i64 0]
  have hF3 : Fr (fun _ => False) w (w1.alloc (Obj.cells #[Value.int .i64 0, Value.int .i64 0, Value.int .i64 0, Value.int .i64 0, Value.int .i64 0, Value.int .i64 0, Value.int .i64 0, Value.int .i64 0] 28)) := HF1.out.alloc _
  generalize w1.alloc (Obj.cells #[Value.int .i64 0, Value.int .i64 0, Value.int .i64 0, Value.int .i64 0, Value.int .i64 0, Value.int .i64 0, Value.int .i64 0, Value.int .i64 0] 28) = W3 at *
  have hzB : w.heap.size < w1.heap.size := HR2.out.lt
  generalize w1.heap.size = B at *
  have HF3 := Lib.hid hF3
  have HR3 := Lib.hid hR3
  have x0 : W3.cell? ⟨B, 0, none⟩ = some (.int .i64 0) := hR4.cell 0
  have x1 : W3.cell? ⟨B, 1, none⟩ = some (.int .i64 0) := hR4.cell 1
  have x2 : W3.cell? ⟨B, 2, none⟩ = some (.int .i64 0) := hR4.cell 2
  have x3 : W3.cell? ⟨B, 3, none⟩ = some (.int .i64 0) := hR4.cell 3
  have x4 : W3.cell? ⟨B, 4, none⟩ = some (.int .i64 0) := hR4.cell 4
  have x5 : W3.cell? ⟨B, 5, none⟩ = some (.int .i64 0) := hR4.cell 5
  have x6 : W3.cell? ⟨B, 6, none⟩ = some (.int .i64 0) := hR4.cell 6
  have x7 : W3.cell? ⟨B, 7, none⟩ = some (.int .i64 0) := hR4.cell 7
  have v0 : W3.cell? ⟨w.heap.size, 0, none⟩ = some (.int .i64 0) := HR3.out.cell 0
  have v1 : W3.cell? ⟨w.heap.size, 1, none⟩ = some (.int .i64 0) := HR3.out.cell 1
  have v2 : W3.cell? ⟨w.heap.size, 2, none⟩ = some (.int .i64 0) := HR3.out.cell 2
  have v3 : W3.cell? ⟨w.heap.size, 3, none⟩ = some (.int .i64 0) := HR3.out.cell 3
  have v4 : W3.cell? ⟨w.heap.size, 4, none⟩ = some (.int .i64 0) := HR3.out.cell 4
  have v5 : W3.cell? ⟨w.heap.size, 5, none⟩ = some (.int .i64 0) := HR3.out.cell 5
  have v6 : W3.cell? ⟨w.heap.size, 6, none⟩ = some (.int .i64 0) := HR3.out.cell 6
  have v7 : W3.cell? ⟨w.heap.size, 7, none⟩ = some (.int .i64 0) := HR3.out.cell 7
  have z0 := HR3.out.frozen 0
  have z1 := HR3.out.frozen 1
  have z2 := HR3.out.frozen 2
  have z3 := HR3.out.frozen 3
  have z4 := HR3.out.frozen 4
  have z5 := HR3.out.frozen 5
  have z6 := HR3.out.frozen 6
  have z7 := HR3.out.frozen 7
  clear hF3 hR3 hR4
  refine wp_loop_once ?_
  go_wp2_with fail
  have hRes : RowB (((((((((W3.setCell ⟨w.heap.size, 0, none⟩ (Value.int .i64 0)).setCell ⟨w.heap.size, 1, none⟩ (Value.int .i64 0)).setCell ⟨w.heap.size, 2, none⟩ (Value.int .i64 0)).setCell ⟨w.heap.size, 3, none⟩ (Value.int .i64 0)).setCell ⟨w.heap.size, 4, none⟩ (Value.int .i64 0)).setCell ⟨w.heap.size, 5, none⟩ (Value.int .i64 0)).setCell ⟨w.heap.size, 6, none⟩ (Value.int .i64 0)).setCell ⟨w.heap.size, 7, none⟩ (Value.int .i64 0))) w.heap.size 28 [.int .i64 0, .int .i64 0, .int .i64 0, .int .i64 0, .int .i64 0, .int .i64 0, .int .i64 0, .int .i64 0] := ((((((((HR3.out.set 0 (Value.int .i64 0)).set 1 (Value.int .i64 0)).set 2 (Value.int .i64 0)).set 3 (Value.int .i64 0)).set 4 (Value.int .i64 0)).set 5 (Value.int .i64 0)).set 6 (Value.int .i64 0)).set 7 (Value.int .i64 0))
  have hFr : Fr (fun x => x = w.heap.size) w (((((((((W3.setCell ⟨w.heap.size, 0, none⟩ (Value.int .i64 0)).setCell ⟨w.heap.size, 1, none⟩ (Value.int .i64 0)).setCell ⟨w.heap.size, 2, none⟩ (Value.int .i64 0)).setCell ⟨w.heap.size, 3, none⟩ (Value.int .i64 0)).setCell ⟨w.heap.size, 4, none⟩ (Value.int .i64 0)).setCell ⟨w.heap.size, 5, none⟩ (Value.int .i64 0)).setCell ⟨w.heap.size, 6, none⟩ (Value.int .i64 0)).setCell ⟨w.heap.size, 7, none⟩ (Value.int .i64 0))) := (Fr.setCell (S := fun x => x = w.heap.size) (Fr.setCell (S := fun x => x = w.heap.size) (Fr.setCell (S := fun x => x = w.heap.size) (Fr.setCell (S := fun x => x = w.heap.size) (Fr.setCell (S := fun x => x = w.heap.size) (Fr.setCell (S := fun x => x = w.heap.size) (Fr.setCell (S := fun x => x = w.heap.size) (Fr.setCell (S := fun x => x = w.heap.size) HF3.out.up (a := ⟨w.heap.size, 0, none⟩) (fun _ => rfl) _) (a := ⟨w.heap.size, 1, none⟩) (fun _ => rfl) _) (a := ⟨w.heap.size, 2, none⟩) (fun _ => rfl) _) (a := ⟨w.heap.size, 3, none⟩) (fun _ => rfl) _) (a := ⟨w.heap.size, 4, none⟩) (fun _ => rfl) _) (a := ⟨w.heap.size, 5, none⟩) (fun _ => rfl) _) (a := ⟨w.heap.size, 6, none⟩) (fun _ => rfl) _) (a := ⟨w.heap.size, 7, none⟩) (fun _ => rfl) _)
  generalize ((((((((W3.setCell ⟨w.heap.size, 0, none⟩ (Value.int .i64 0)).setCell ⟨w.heap.size, 1, none⟩ (Value.int .i64 0)).setCell ⟨w.heap.size, 2, none⟩ (Value.int .i64 0)).setCell ⟨w.heap.size, 3, none⟩ (Value.int .i64 0)).setCell ⟨w.heap.size, 4, none⟩ (Value.int .i64 0)).setCell ⟨w.heap.size, 5, none⟩ (Value.int .i64 0)).setCell ⟨w.heap.size, 6, none⟩ (Value.int .i64 0)).setCell ⟨w.heap.size, 7, none⟩ (Value.int .i64 0)) = W9 at *
  have k0 : W9.cell? ⟨w.heap.size, 0, none⟩ = some (.int .i64 0) := hRes.cell 0
  have k1 : W9.cell? ⟨w.heap.size, 1, none⟩ = some (.int .i64 0) := hRes.cell 1
  have k2 : W9.cell? ⟨w.heap.size, 2, none⟩ = some (.int .i64 0) := hRes.cell 2
  have k3 : W9.cell? ⟨w.heap.size, 3, none⟩ = some (.int .i64 0) := hRes.cell 3
  have k4 : W9.cell? ⟨w.heap.size, 4, none⟩ = some (.int .i64 0) := hRes.cell 4
  have k5 : W9.cell? ⟨w.heap.size, 5, none⟩ = some (.int .i64 0) := hRes.cell 5
  have k6 : W9.cell? ⟨w.heap.size, 6, none⟩ = some (.int .i64 0) := hRes.cell 6
  have k7 : W9.cell? ⟨w.heap.size, 7, none⟩ = some (.int .i64 0) := hRes.cell 7
  refine bodyPost_ret (v := .tuple #[.agg #[.int .i64 0, .int .i64 0, .int .i64 0, .int .i64 0, .int .i64 0, .int .i64 0, .int .i64 0, .int .i64 0], .int .i64 0]) (by simp [results, Tryd.results9, go_sem, k0, k1, k2, k3, k4, k5, k6, k7]) rfl ⟨rfl, hFr.mono (fun x hx h => by omega)⟩
/-- **the reference's Sum** -/
theorem rsum_walk (n c : Nat) (a0 : Option Addr) (U : Nat → Nat → Int) (w : World) (h : Uses w a0 n U) :
    Calls Tryd.prog 9 #[.slice a0 n c] w (Ret (sumV n U) w) := by
  by_cases hE : listE n U = 0
  · by_cases h0 : n = 0
    · subst h0
      exact rsum_zero c a0 U w
    · obtain ⟨b, o, rfl, hb, hc⟩ := h (by omega)
      exact rsum_some n c b o U w hE hb (Lib.hid hc)
  · exact rsum_bad n c a0 U w hE h
end Go.Proofs.YtogjfifpbplahaaDoor
