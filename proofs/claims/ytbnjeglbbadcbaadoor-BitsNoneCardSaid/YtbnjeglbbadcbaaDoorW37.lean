/- The law BitsNone, walked. -/
import Derived.Test.YtbnjeglbbadcbaaDoorW36
import Derived.Test.YtbnjeglbbadcbaaDoorW35
import Derived.Deep.Cut
namespace Go.Proofs.YtbnjeglbbadcbaaDoor
open Go.RowKit
open BM
set_option linter.unusedVariables false

theorem zero68' : Tryd.zeroCells68 = mcells (fun _ => 0) 0 false := by kernel_rfl
set_option maxRecDepth 100000 in
set_option maxHeartbeats 4000000 in
theorem none_walk (i n : Int) (v : Bool) (w : World) (hT : Tab w) :
    Calls Tryd.prog 10 #[.int .i64 i, .int .i64 n, .bool v] w (LawOk w) := by
  have HT := Lib.hid hT
  clear hT
  go_enter Tryd.func10, Tryd.ntmps10
  go_upto_region 3 with (fail)
  have hF0 : Fr (fun _ => False) w ((w.alloc (Obj.cells Tryd.zeroCells68 68)).alloc (Obj.cells #[Value.pointer none, Value.pointer (some ⟨w.heap.size, 0, none⟩)] 69)) := ((Fr.refl _ w).alloc _).alloc _
  have hB0 : RowB ((w.alloc (Obj.cells Tryd.zeroCells68 68)).alloc (Obj.cells #[Value.pointer none, Value.pointer (some ⟨w.heap.size, 0, none⟩)] 69)) (w.heap.size + 1) 69 [Value.pointer none, Value.pointer (some ⟨w.heap.size, 0, none⟩)] := by
    have := RowB.new (w.alloc (Obj.cells Tryd.zeroCells68 68)) 69 [Value.pointer none, Value.pointer (some ⟨w.heap.size, 0, none⟩)]
    rw [show (w.alloc (Obj.cells Tryd.zeroCells68 68)).heap.size = w.heap.size + 1 from Array.size_push _] at this
    exact this
  have hZ0 : MapB ((w.alloc (Obj.cells Tryd.zeroCells68 68)).alloc (Obj.cells #[Value.pointer none, Value.pointer (some ⟨w.heap.size, 0, none⟩)] 69)) w.heap.size (fun _ => 0) 0 false := by
    rw [zero68']
    exact (MapB.new w (fun _ => 0) 0 false).fr ((Fr.refl (fun _ => False) _).alloc _) (fun h => h)
  generalize (w.alloc (Obj.cells Tryd.zeroCells68 68)).alloc (Obj.cells #[Value.pointer none, Value.pointer (some ⟨w.heap.size, 0, none⟩)] 69) = W0 at *
  have HF0 := Lib.hid hF0
  have HB0 := Lib.hid hB0
  have HZ0 := Lib.hid hZ0
  clear hF0 hB0 hZ0
  generalize w.heap.size = z at *
  go_wp2_with (first
    | (go_at_call 34; go_must (refine (ex_walk _).mono ?_; rintro e w1 ⟨m1, rfl, hM, -, hF⟩; have HM1 := Lib.hid hM; have HF1 : Hid (Fr (fun _ => False) W0 w1) := Lib.hid ⟨hF.1, hF.2, hF.3, hF.4, hF.5⟩; clear hM hF)))
  have HN0 := Lib.hid (show NoMap w1 none from Or.inl rfl)
  have HZ1 := Lib.hid (HZ0.out.fr HF1.out (fun h => h))
  have HN1 := Lib.hid (show NoMap w1 (some ⟨z, 0, none⟩) from Or.inr ⟨z, rfl, HZ1.out.made, HZ1.out.lt⟩)
  have HMD := Lib.hid (HM1.out.1.made)
  have b0 : w1.cell? ⟨z + 1, 0, none⟩ = some (.pointer none) := (HB0.out.fr HF1.out (fun h => h)).cell 0
  have b1 : w1.cell? ⟨z + 1, 1, none⟩ = some (.pointer (some ⟨z, 0, none⟩)) := (HB0.out.fr HF1.out (fun h => h)).cell 1
  have T0 : Hid True := Lib.hid trivial
  have T1 : Hid True := Lib.hid trivial
  have T2 : Hid True := Lib.hid trivial
  go_loopw [10] (fun i wr => ∃ k : Nat, k ≤ 2 ∧ i = .int .i64 k ∧ ∃ q, wr = w1.drewN q) (fun i _ => (2 - intOf i).toNat)
  case atStart => exact ⟨0, by omega, rfl, 0, rfl⟩
  case round =>
    obtain ⟨k, hk, rfl, q2, rfl⟩ := hrel
    obtain rfl | rfl | rfl : k = 0 ∨ k = 1 ∨ k = 2 := by omega
    · have NP := HN0
      go_wp2_with (first
        | (go_at_call 31; go_must (refine (get_no (none) i _ (by exact NP.out)).mono ?_; rintro e w' ⟨rfl, rfl⟩))
        | (go_at_call 14; go_must (refine (count_no (none) i n _ (by exact NP.out)).mono ?_; rintro e w' ⟨rfl, rfl⟩))
        | (go_at_call 30; go_must (refine (next_no (none) i v _ (by exact NP.out)).mono ?_; rintro e w' ⟨rfl, rfl⟩))
        | (go_at_call 32; go_must (refine (last_no (none) i v _ (by exact NP.out)).mono ?_; rintro e w' ⟨rfl, rfl⟩))
        | (go_at_call 12; go_must (refine (run_no (none) i n v _ (by exact NP.out)).mono ?_; rintro e w' ⟨rfl, rfl⟩))
        | (go_at_call 23; go_must (refine (and_noL (none) (some ⟨m1, 0, none⟩) _ (by exact NP.out)).mono ?_; rintro e w' ⟨rfl, rfl⟩))
        | (go_at_call 24; go_must (refine (or_noR m1 (none) _ (by exact HMD.out) (by exact NP.out)).mono ?_; rintro e w' ⟨rfl, rfl⟩))
        | (go_at_call 33; go_must (refine (not_no (none) _ (by exact NP.out)).mono ?_; rintro e w' ⟨rfl, rfl⟩))
        | (go_at_call 25; go_must (refine (xor_noR m1 (none) _ (by exact HMD.out) (by exact NP.out)).mono ?_; rintro e w' ⟨rfl, rfl⟩))
        | (go_at_call 38; go_must (refine (set_no (none) i v _ (by exact NP.out)).mono ?_; rintro e w' ⟨rfl, rfl⟩))
        | (go_at_call 35; go_must (refine (turn_no (none) i _ (by exact NP.out)).mono ?_; rintro e w' ⟨rfl, rfl⟩))
        | (go_at_call 36; go_must (refine (fill_no (none) i n v _ (by exact NP.out)).mono ?_; rintro e w' ⟨rfl, rfl⟩))
        | (go_at_call 13; go_must (refine (len_no (none) _ (by exact NP.out)).mono ?_; rintro e w' ⟨rfl, rfl⟩))
        | (go_at_call 21; go_must (refine (bytes_no (none) _ (by exact NP.out)).mono ?_; rintro e w' ⟨rfl, rfl⟩))
        | (go_at_call 22; have tok := T0.out; go_must (refine (same_noL (none) (some ⟨m1, 0, none⟩) _ (by exact NP.out)).mono ?_; rintro e w' ⟨rfl, q3, rfl⟩); clear T0)
        | (go_at_call 22; have tok := T1.out; go_must (refine (same_noR m1 (none) _ (by exact HMD.out) (by exact NP.out)).mono ?_; rintro e w' ⟨rfl, q4, rfl⟩); clear T1)
        | (go_at_call 22; have tok := T2.out; go_must (refine (same_noL (none) (none) _ (by exact NP.out)).mono ?_; rintro e w' ⟨rfl, q5, rfl⟩); clear T2))
      go_roundw
      case rel => exact ⟨1, by omega, rfl, _, rfl⟩
      case measure => simp [intOf]
    · have NP := HN1
      go_wp2_with (first
        | (go_at_call 31; go_must (refine (get_no (some ⟨z, 0, none⟩) i _ (by exact NP.out)).mono ?_; rintro e w' ⟨rfl, rfl⟩))
        | (go_at_call 14; go_must (refine (count_no (some ⟨z, 0, none⟩) i n _ (by exact NP.out)).mono ?_; rintro e w' ⟨rfl, rfl⟩))
        | (go_at_call 30; go_must (refine (next_no (some ⟨z, 0, none⟩) i v _ (by exact NP.out)).mono ?_; rintro e w' ⟨rfl, rfl⟩))
        | (go_at_call 32; go_must (refine (last_no (some ⟨z, 0, none⟩) i v _ (by exact NP.out)).mono ?_; rintro e w' ⟨rfl, rfl⟩))
        | (go_at_call 12; go_must (refine (run_no (some ⟨z, 0, none⟩) i n v _ (by exact NP.out)).mono ?_; rintro e w' ⟨rfl, rfl⟩))
        | (go_at_call 23; go_must (refine (and_noL (some ⟨z, 0, none⟩) (some ⟨m1, 0, none⟩) _ (by exact NP.out)).mono ?_; rintro e w' ⟨rfl, rfl⟩))
        | (go_at_call 24; go_must (refine (or_noR m1 (some ⟨z, 0, none⟩) _ (by exact HMD.out) (by exact NP.out)).mono ?_; rintro e w' ⟨rfl, rfl⟩))
        | (go_at_call 33; go_must (refine (not_no (some ⟨z, 0, none⟩) _ (by exact NP.out)).mono ?_; rintro e w' ⟨rfl, rfl⟩))
        | (go_at_call 25; go_must (refine (xor_noR m1 (some ⟨z, 0, none⟩) _ (by exact HMD.out) (by exact NP.out)).mono ?_; rintro e w' ⟨rfl, rfl⟩))
        | (go_at_call 38; go_must (refine (set_no (some ⟨z, 0, none⟩) i v _ (by exact NP.out)).mono ?_; rintro e w' ⟨rfl, rfl⟩))
        | (go_at_call 35; go_must (refine (turn_no (some ⟨z, 0, none⟩) i _ (by exact NP.out)).mono ?_; rintro e w' ⟨rfl, rfl⟩))
        | (go_at_call 36; go_must (refine (fill_no (some ⟨z, 0, none⟩) i n v _ (by exact NP.out)).mono ?_; rintro e w' ⟨rfl, rfl⟩))
        | (go_at_call 13; go_must (refine (len_no (some ⟨z, 0, none⟩) _ (by exact NP.out)).mono ?_; rintro e w' ⟨rfl, rfl⟩))
        | (go_at_call 21; go_must (refine (bytes_no (some ⟨z, 0, none⟩) _ (by exact NP.out)).mono ?_; rintro e w' ⟨rfl, rfl⟩))
        | (go_at_call 22; have tok := T0.out; go_must (refine (same_noL (some ⟨z, 0, none⟩) (some ⟨m1, 0, none⟩) _ (by exact NP.out)).mono ?_; rintro e w' ⟨rfl, q3, rfl⟩); clear T0)
        | (go_at_call 22; have tok := T1.out; go_must (refine (same_noR m1 (some ⟨z, 0, none⟩) _ (by exact HMD.out) (by exact NP.out)).mono ?_; rintro e w' ⟨rfl, q4, rfl⟩); clear T1)
        | (go_at_call 22; have tok := T2.out; go_must (refine (same_noL (some ⟨z, 0, none⟩) (some ⟨z, 0, none⟩) _ (by exact NP.out)).mono ?_; rintro e w' ⟨rfl, q5, rfl⟩); clear T2))
      go_roundw
      case rel => exact ⟨2, by omega, rfl, _, rfl⟩
      case measure => simp [intOf]
    · go_wp2_with (first
        | (go_at_call 15; go_must (refine (awake_walk _ (by have h := (HT.out.fr HF0.out (fun h => h)).fr HF1.out (fun h => h); exact h)).mono ?_; rintro e w2 ⟨rfl, hF2⟩; have HF2 := Lib.hid hF2.of_drewN; clear hF2)))
      go_ret
      exact ⟨rfl, (HF0.out.trans HF1.out (fun _ _ h => h)).trans HF2.out (fun _ _ h => h)⟩
end Go.Proofs.YtbnjeglbbadcbaaDoor
