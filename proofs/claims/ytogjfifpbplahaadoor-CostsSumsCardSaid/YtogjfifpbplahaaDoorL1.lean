/- The reference's list, walked: which lists of batches are refused. -/
import Derived.Test.YtogjfifpbplahaaDoorK1
namespace Go.Proofs.YtogjfifpbplahaaDoor
open Go.RowKit
open CM
set_option linter.unusedVariables false

theorem within_any (a l h : Int) (w : World) : Calls Tryd.prog 31 #[.int .i64 a, .int .i64 l, .int .i64 h] w fun e w' => e = .returned (.bool (decide (l ≤ a) && decide (a ≤ h))) ∧ w = w' := by
  go_enter Tryd.func31, Tryd.ntmps31
  go_wp2
  all_goals go_ret
  all_goals first | exact ⟨rfl, rfl⟩ | exact ⟨ret_bool (by simp; omega), rfl⟩
theorem within_in (a l h : Int) (w : World) (h0 : l ≤ a ∧ a ≤ h) : Calls Tryd.prog 31 #[.int .i64 a, .int .i64 l, .int .i64 h] w fun e w' => e = .returned (.bool true) ∧ w = w' := by
  have := within_any a l h w
  rw [show (decide (l ≤ a) && decide (a ≤ h)) = true by simp; omega] at this
  exact this
theorem within_out (a l h : Int) (w : World) (h0 : ¬ (l ≤ a ∧ a ≤ h)) : Calls Tryd.prog 31 #[.int .i64 a, .int .i64 l, .int .i64 h] w fun e w' => e = .returned (.bool false) ∧ w = w' := by
  have := within_any a l h w
  rw [show (decide (l ≤ a) && decide (a ≤ h)) = false by simp; omega] at this
  exact this
set_option maxRecDepth 100000 in
theorem numbers_walk (u : Nat → Int) (w : World) : Calls Tryd.prog 28 #[.agg #[.int .i64 (u 0), .int .i64 (u 1), .int .i64 (u 2), .int .i64 (u 3), .int .i64 (u 4), .int .i64 (u 5), .int .i64 (u 6), .int .i64 (u 7)]] w (Ret (.agg #[.int .i64 (u 0), .int .i64 (u 1), .int .i64 (u 2), .int .i64 (u 3), .int .i64 (u 4), .int .i64 (u 5), .int .i64 (u 6), .int .i64 (u 7)]) w) := by
  go_enter Tryd.func28, Tryd.ntmps28
  go_wp2
  refine bodyPost_ret (v := .agg #[.int .i64 (u 0), .int .i64 (u 1), .int .i64 (u 2), .int .i64 (u 3), .int .i64 (u 4), .int .i64 (u 5), .int .i64 (u 6), .int .i64 (u 7)]) (by simp [results, Tryd.results28, go_sem]) rfl ⟨rfl, ?_⟩
  exact ((Fr.refl _ w).alloc _).alloc _
theorem ok0_iff (u : Nat → Int) : okAt u 0 = true ↔ (u 0 = -3 ∨ u 0 = -1 ∨ (0 ≤ u 0 ∧ u 0 ≤ 60)) := by
  simp [okAt, or_assoc]
theorem okS_iff (u : Nat → Int) (x : Nat) (hx : x ≠ 0) : okAt u x = true ↔ (0 ≤ u x ∧ u x ≤ 1000000) := by
  simp [okAt, hx]

set_option maxRecDepth 100000 in
set_option maxHeartbeats 2000000 in
theorem list_some (n c b o : Nat) (U : Nat → Nat → Int) (w : World) (hn : n ≤ 70) (hb : b < w.heap.size) (hc : Hid (∀ i j, i < n → j < 8 → w.cell? ⟨b, o + i * 8 + j, none⟩ = some (.int .i64 (U i j)))) :
    Calls Tryd.prog 18 #[.slice (some ⟨b, o, none⟩) n c] w (Ret (.int .i64 (listE n U)) w) := by
  have t0 : decide ((70 : Int) < (n : Int)) = false := by simp; omega
  go_enter Tryd.func18, Tryd.ntmps18
  go_wp2_with fail
  clear t0
  go_loopw [3] (fun i wr => ∃ k : Nat, k ≤ n ∧ i = .int .i64 k ∧ Fr (fun _ => False) w wr ∧ Hid (okB U k = true)) (fun i _ => n - (intOf i).toNat)
  case atStart => exact ⟨0, by omega, rfl, Fr.refl _ _, Lib.hid rfl⟩
  case round =>
    obtain ⟨k, hk, rfl, hF, HOK⟩ := hrel
    obtain ⟨wo, rfl⟩ : ∃ wo : World, wo = wr := ⟨_, rfl⟩
    have HF := Lib.hid hF
    clear hF
    by_cases hlt : k < n
    · have c0 : wo.cell? ⟨b, o + k * 8, none⟩ = some (.int .i64 (U k 0)) := HF.out.cell hb (fun h => h) (hc.out k 0 hlt (by omega))
      have c1 : wo.cell? ⟨b, o + k * 8 + 1, none⟩ = some (.int .i64 (U k 1)) := HF.out.cell hb (fun h => h) (hc.out k 1 hlt (by omega))
      have c2 : wo.cell? ⟨b, o + k * 8 + 2, none⟩ = some (.int .i64 (U k 2)) := HF.out.cell hb (fun h => h) (hc.out k 2 hlt (by omega))
      have c3 : wo.cell? ⟨b, o + k * 8 + 3, none⟩ = some (.int .i64 (U k 3)) := HF.out.cell hb (fun h => h) (hc.out k 3 hlt (by omega))
      have c4 : wo.cell? ⟨b, o + k * 8 + 4, none⟩ = some (.int .i64 (U k 4)) := HF.out.cell hb (fun h => h) (hc.out k 4 hlt (by omega))
      have c5 : wo.cell? ⟨b, o + k * 8 + 5, none⟩ = some (.int .i64 (U k 5)) := HF.out.cell hb (fun h => h) (hc.out k 5 hlt (by omega))
      have c6 : wo.cell? ⟨b, o + k * 8 + 6, none⟩ = some (.int .i64 (U k 6)) := HF.out.cell hb (fun h => h) (hc.out k 6 hlt (by omega))
      have c7 : wo.cell? ⟨b, o + k * 8 + 7, none⟩ = some (.int .i64 (U k 7)) := HF.out.cell hb (fun h => h) (hc.out k 7 hlt (by omega))
      have g1 : (0 : Int) ≤ (k : Int) := by omega
      have g2 : (k : Int) < (n : Int) := by omega
      have HN := Lib.hid (fun w0 => numbers_walk (U k) w0)
      obtain ⟨v, hv⟩ : ∃ v, U k 0 = v := ⟨_, rfl⟩
      have HV := Lib.hid hv
      rw [hv] at c0 HN
      clear hv
      have hcs : v = -3 ∨ (v ≠ -3 ∧ v = -1) ∨ (v ≠ -3 ∧ v ≠ -1 ∧ 0 ≤ v ∧ v ≤ 60) ∨ (v ≠ -3 ∧ v ≠ -1 ∧ ¬ (0 ≤ v ∧ v ≤ 60)) := by omega
      rcases hcs with h3 | ⟨h3, h1⟩ | ⟨h3, h1, hr⟩ | ⟨h3, h1, hr⟩
      · have HX := Lib.hid (show okAt (U k) 0 = true by rw [ok0_iff, HV.out]; exact Or.inl h3)
        have e1 : (v != -3) = false := by simp [h3]
        have e2 : (v == -3) = true := by simp [h3]
        clear h3
        go_wp2_with (first | (go_at_call 28; go_must (refine (HN.out _).mono ?_; rintro e w1 ⟨rfl, hF1⟩; have HF1 := Lib.hid hF1; clear hF1)))
        have hR2 : RowB (w1.alloc (Obj.cells #[Value.int .i64 v, Value.int .i64 (U k 1), Value.int .i64 (U k 2), Value.int .i64 (U k 3), Value.int .i64 (U k 4), Value.int .i64 (U k 5), Value.int .i64 (U k 6), Value.int .i64 (U k 7)] 70)) w1.heap.size 70 (useV (U k)) := by
          have := RowB.new w1 70 (useV (U k))
          simp only [useV, HV.out] at this ⊢
          exact this
        have hF2 : Fr (fun _ => False) w (w1.alloc (Obj.cells #[Value.int .i64 v, Value.int .i64 (U k 1), Value.int .i64 (U k 2), Value.int .i64 (U k 3), Value.int .i64 (U k 4), Value.int .i64 (U k 5), Value.int .i64 (U k 6), Value.int .i64 (U k 7)] 70)) := (HF.out.then HF1.out).alloc _
        generalize w1.alloc (Obj.cells #[Value.int .i64 v, Value.int .i64 (U k 1), Value.int .i64 (U k 2), Value.int .i64 (U k 3), Value.int .i64 (U k 4), Value.int .i64 (U k 5), Value.int .i64 (U k 6), Value.int .i64 (U k 7)] 70) = W2 at *
        generalize w1.heap.size = B at *
        have HR2 := Lib.hid hR2
        have HF2 := Lib.hid hF2
        clear hR2 hF2 c0 c1 c2 c3 c4 c5 c6 c7
        go_loop [5] (fun i => ∃ j : Nat, 1 ≤ j ∧ j ≤ 8 ∧ i = .int .i64 j ∧ Hid (∀ y, y < j → okAt (U k) y = true)) (fun i => 8 - (intOf i).toNat)
        case atStart => exact ⟨1, by omega, by omega, rfl, Lib.hid (fun y hy => by rw [show y = 0 by omega]; exact HX.out)⟩
        case round =>
          obtain ⟨j, hj1, hj8, rfl, HJ⟩ := hrel
          by_cases hjl : j < 8
          · have q1 : (0 : Int) ≤ (j : Int) := by omega
            have q2 : (j : Int) < 8 := by omega
            have cj : W2.cell? ⟨B, j, none⟩ = some (.int .i64 (U k j)) := by rw [HR2.out.cell j]; exact useV_at (U k) j hjl
            cases hy : okAt (U k) j
            · have HX2 := Lib.hid hy
              have HG2 := Lib.hid (show ¬ (0 ≤ U k j ∧ U k j ≤ 1000000) by
                intro h
                rw [(okS_iff (U k) j (by omega)).2 h] at hy
                cases hy)
              have HL := Lib.hid (show listE n U = 7 by unfold listE; rw [if_neg (by omega), if_neg (by rw [okB_false hlt (ok1_none _ j hjl HX2.out)]; decide)])
              clear hy
              go_wp2_with (first | (go_at_call 31; go_must (refine (within_out _ 0 1000000 _ HG2.out).mono ?_; rintro e w' ⟨rfl, rfl⟩)))
              go_ret
              exact ⟨by rw [HL.out]; rfl, HF2.out⟩
            · have HX2 := Lib.hid hy
              have HG2 := Lib.hid ((okS_iff (U k) j (by omega)).1 hy)
              clear hy
              go_wp2_with (first | (go_at_call 31; go_must (refine (within_in _ 0 1000000 _ HG2.out).mono ?_; rintro e w' ⟨rfl, rfl⟩)))
              go_round
              case rel => exact ⟨j + 1, by omega, by omega, by go_num, Lib.hid (fun y hy => by
                by_cases e : y = j
                · rw [e]; exact HX2.out
                · exact HJ.out y (by omega))⟩
              case measure => simp [intOf]; omega
          · obtain rfl : j = 8 := by omega
            have HOK2 := Lib.hid (show okB U (k + 1) = true by
              simp only [okB, Bool.and_eq_true]
              exact ⟨HOK.out, ok1_all _ (fun x => HJ.out x.val x.isLt)⟩)
            go_wp2_with fail
            go_roundw
            case rel => exact ⟨k + 1, by omega, by go_num, HF2.out, HOK2⟩
            case measure => simp [intOf]; omega
      · have HX := Lib.hid (show okAt (U k) 0 = true by rw [ok0_iff, HV.out]; exact Or.inr (Or.inl h1))
        have e1 : (v != -3) = true := by simp [h3]
        have e2 : (v == -3) = false := by simp [h3]
        have e3 : (v != -1) = false := by simp [h1]
        have e4 : (v == -1) = true := by simp [h1]
        clear h3 h1
        go_wp2_with (first | (go_at_call 28; go_must (refine (HN.out _).mono ?_; rintro e w1 ⟨rfl, hF1⟩; have HF1 := Lib.hid hF1; clear hF1)))
        have hR2 : RowB (w1.alloc (Obj.cells #[Value.int .i64 v, Value.int .i64 (U k 1), Value.int .i64 (U k 2), Value.int .i64 (U k 3), Value.int .i64 (U k 4), Value.int .i64 (U k 5), Value.int .i64 (U k 6), Value.int .i64 (U k 7)] 70)) w1.heap.size 70 (useV (U k)) := by
          have := RowB.new w1 70 (useV (U k))
          simp only [useV, HV.out] at this ⊢
          exact this
        have hF2 : Fr (fun _ => False) w (w1.alloc (Obj.cells #[Value.int .i64 v, Value.int .i64 (U k 1), Value.int .i64 (U k 2), Value.int .i64 (U k 3), Value.int .i64 (U k 4), Value.int .i64 (U k 5), Value.int .i64 (U k 6), Value.int .i64 (U k 7)] 70)) := (HF.out.then HF1.out).alloc _
        generalize w1.alloc (Obj.cells #[Value.int .i64 v, Value.int .i64 (U k 1), Value.int .i64 (U k 2), Value.int .i64 (U k 3), Value.int .i64 (U k 4), Value.int .i64 (U k 5), Value.int .i64 (U k 6), Value.int .i64 (U k 7)] 70) = W2 at *
        generalize w1.heap.size = B at *
        have HR2 := Lib.hid hR2
        have HF2 := Lib.hid hF2
        clear hR2 hF2 c0 c1 c2 c3 c4 c5 c6 c7
        go_loop [5] (fun i => ∃ j : Nat, 1 ≤ j ∧ j ≤ 8 ∧ i = .int .i64 j ∧ Hid (∀ y, y < j → okAt (U k) y = true)) (fun i => 8 - (intOf i).toNat)
        case atStart => exact ⟨1, by omega, by omega, rfl, Lib.hid (fun y hy => by rw [show y = 0 by omega]; exact HX.out)⟩
        case round =>
          obtain ⟨j, hj1, hj8, rfl, HJ⟩ := hrel
          by_cases hjl : j < 8
          · have q1 : (0 : Int) ≤ (j : Int) := by omega
            have q2 : (j : Int) < 8 := by omega
            have cj : W2.cell? ⟨B, j, none⟩ = some (.int .i64 (U k j)) := by rw [HR2.out.cell j]; exact useV_at (U k) j hjl
            cases hy : okAt (U k) j
            · have HX2 := Lib.hid hy
              have HG2 := Lib.hid (show ¬ (0 ≤ U k j ∧ U k j ≤ 1000000) by
                intro h
                rw [(okS_iff (U k) j (by omega)).2 h] at hy
                cases hy)
              have HL := Lib.hid (show listE n U = 7 by unfold listE; rw [if_neg (by omega), if_neg (by rw [okB_false hlt (ok1_none _ j hjl HX2.out)]; decide)])
              clear hy
              go_wp2_with (first | (go_at_call 31; go_must (refine (within_out _ 0 1000000 _ HG2.out).mono ?_; rintro e w' ⟨rfl, rfl⟩)))
              go_ret
              exact ⟨by rw [HL.out]; rfl, HF2.out⟩
            · have HX2 := Lib.hid hy
              have HG2 := Lib.hid ((okS_iff (U k) j (by omega)).1 hy)
              clear hy
              go_wp2_with (first | (go_at_call 31; go_must (refine (within_in _ 0 1000000 _ HG2.out).mono ?_; rintro e w' ⟨rfl, rfl⟩)))
              go_round
              case rel => exact ⟨j + 1, by omega, by omega, by go_num, Lib.hid (fun y hy => by
                by_cases e : y = j
                · rw [e]; exact HX2.out
                · exact HJ.out y (by omega))⟩
              case measure => simp [intOf]; omega
          · obtain rfl : j = 8 := by omega
            have HOK2 := Lib.hid (show okB U (k + 1) = true by
              simp only [okB, Bool.and_eq_true]
              exact ⟨HOK.out, ok1_all _ (fun x => HJ.out x.val x.isLt)⟩)
            go_wp2_with fail
            go_roundw
            case rel => exact ⟨k + 1, by omega, by go_num, HF2.out, HOK2⟩
            case measure => simp [intOf]; omega
      · have HX := Lib.hid (show okAt (U k) 0 = true by rw [ok0_iff, HV.out]; exact Or.inr (Or.inr hr))
        have e1 : (v != -3) = true := by simp [h3]
        have e2 : (v == -3) = false := by simp [h3]
        have e3 : (v != -1) = true := by simp [h1]
        have e4 : (v == -1) = false := by simp [h1]
        have HG := Lib.hid hr
        clear h3 h1 hr
        go_wp2_with (first | (go_at_call 28; go_must (refine (HN.out _).mono ?_; rintro e w1 ⟨rfl, hF1⟩; have HF1 := Lib.hid hF1; clear hF1)) | (go_at_call 31; go_must (refine (within_in _ 0 60 _ HG.out).mono ?_; rintro e w' ⟨rfl, rfl⟩)))
        have hR2 : RowB (w1.alloc (Obj.cells #[Value.int .i64 v, Value.int .i64 (U k 1), Value.int .i64 (U k 2), Value.int .i64 (U k 3), Value.int .i64 (U k 4), Value.int .i64 (U k 5), Value.int .i64 (U k 6), Value.int .i64 (U k 7)] 70)) w1.heap.size 70 (useV (U k)) := by
          have := RowB.new w1 70 (useV (U k))
          simp only [useV, HV.out] at this ⊢
          exact this
        have hF2 : Fr (fun _ => False) w (w1.alloc (Obj.cells #[Value.int .i64 v, Value.int .i64 (U k 1), Value.int .i64 (U k 2), Value.int .i64 (U k 3), Value.int .i64 (U k 4), Value.int .i64 (U k 5), Value.int .i64 (U k 6), Value.int .i64 (U k 7)] 70)) := (HF.out.then HF1.out).alloc _
        generalize w1.alloc (Obj.cells #[Value.int .i64 v, Value.int .i64 (U k 1), Value.int .i64 (U k 2), Value.int .i64 (U k 3), Value.int .i64 (U k 4), Value.int .i64 (U k 5), Value.int .i64 (U k 6), Value.int .i64 (U k 7)] 70) = W2 at *
        generalize w1.heap.size = B at *
        have HR2 := Lib.hid hR2
        have HF2 := Lib.hid hF2
        clear hR2 hF2 c0 c1 c2 c3 c4 c5 c6 c7
        go_loop [5] (fun i => ∃ j : Nat, 1 ≤ j ∧ j ≤ 8 ∧ i = .int .i64 j ∧ Hid (∀ y, y < j → okAt (U k) y = true)) (fun i => 8 - (intOf i).toNat)
        case atStart => exact ⟨1, by omega, by omega, rfl, Lib.hid (fun y hy => by rw [show y = 0 by omega]; exact HX.out)⟩
        case round =>
          obtain ⟨j, hj1, hj8, rfl, HJ⟩ := hrel
          by_cases hjl : j < 8
          · have q1 : (0 : Int) ≤ (j : Int) := by omega
            have q2 : (j : Int) < 8 := by omega
            have cj : W2.cell? ⟨B, j, none⟩ = some (.int .i64 (U k j)) := by rw [HR2.out.cell j]; exact useV_at (U k) j hjl
            cases hy : okAt (U k) j
            · have HX2 := Lib.hid hy
              have HG2 := Lib.hid (show ¬ (0 ≤ U k j ∧ U k j ≤ 1000000) by
                intro h
                rw [(okS_iff (U k) j (by omega)).2 h] at hy
                cases hy)
              have HL := Lib.hid (show listE n U = 7 by unfold listE; rw [if_neg (by omega), if_neg (by rw [okB_false hlt (ok1_none _ j hjl HX2.out)]; decide)])
              clear hy
              go_wp2_with (first | (go_at_call 31; go_must (refine (within_out _ 0 1000000 _ HG2.out).mono ?_; rintro e w' ⟨rfl, rfl⟩)))
              go_ret
              exact ⟨by rw [HL.out]; rfl, HF2.out⟩
            · have HX2 := Lib.hid hy
              have HG2 := Lib.hid ((okS_iff (U k) j (by omega)).1 hy)
              clear hy
              go_wp2_with (first | (go_at_call 31; go_must (refine (within_in _ 0 1000000 _ HG2.out).mono ?_; rintro e w' ⟨rfl, rfl⟩)))
              go_round
              case rel => exact ⟨j + 1, by omega, by omega, by go_num, Lib.hid (fun y hy => by
                by_cases e : y = j
                · rw [e]; exact HX2.out
                · exact HJ.out y (by omega))⟩
              case measure => simp [intOf]; omega
          · obtain rfl : j = 8 := by omega
            have HOK2 := Lib.hid (show okB U (k + 1) = true by
              simp only [okB, Bool.and_eq_true]
              exact ⟨HOK.out, ok1_all _ (fun x => HJ.out x.val x.isLt)⟩)
            go_wp2_with fail
            go_roundw
            case rel => exact ⟨k + 1, by omega, by go_num, HF2.out, HOK2⟩
            case measure => simp [intOf]; omega
      · have HX := Lib.hid (show okAt (U k) 0 = false by
          cases hq : okAt (U k) 0 with
          | false => rfl
          | true => rw [ok0_iff, HV.out] at hq; omega)
        have e1 : (v != -3) = true := by simp [h3]
        have e2 : (v == -3) = false := by simp [h3]
        have e3 : (v != -1) = true := by simp [h1]
        have e4 : (v == -1) = false := by simp [h1]
        have HG := Lib.hid hr
        have HL := Lib.hid (show listE n U = 7 by unfold listE; rw [if_neg (by omega), if_neg (by rw [okB_false hlt (ok1_none _ 0 (by omega) HX.out)]; decide)])
        clear h3 h1 hr
        go_wp2_with (first | (go_at_call 28; go_must (refine (HN.out _).mono ?_; rintro e w1 ⟨rfl, hF1⟩; have HF1 := Lib.hid hF1; clear hF1)) | (go_at_call 31; go_must (refine (within_out _ 0 60 _ HG.out).mono ?_; rintro e w' ⟨rfl, rfl⟩)))
        go_ret
        exact ⟨by rw [HL.out]; rfl, (HF.out.then HF1.out).alloc _⟩
    · obtain rfl : k = n := by omega
      have HL := Lib.hid (show listE k U = 0 by unfold listE; rw [if_neg (by omega), if_pos HOK.out])
      go_wp2_with fail
      go_ret
      exact ⟨by rw [HL.out]; rfl, HF.out⟩
set_option maxRecDepth 100000 in
theorem list_many (n c : Nat) (a0 : Option Addr) (w : World) (hn : 70 < n) :
    Calls Tryd.prog 18 #[.slice a0 n c] w (Ret (.int .i64 3) w) := by
  have h1 : (70 : Int) < (n : Int) := by omega
  go_enter Tryd.func18, Tryd.ntmps18
  go_wp2_with fail
  go_ret
  exact ⟨rfl, Fr.refl _ w⟩
set_option maxRecDepth 100000 in
theorem list_zero (c : Nat) (a0 : Option Addr) (w : World) :
    Calls Tryd.prog 18 #[.slice a0 0 c] w (Ret (.int .i64 0) w) := by
  go_enter Tryd.func18, Tryd.ntmps18
  go_wp2_with fail
  refine wp_loop_once ?_
  go_wp2_with fail
  go_ret
  exact ⟨rfl, Fr.refl _ w⟩
/-- **list** -/
theorem list_walk (n c : Nat) (a0 : Option Addr) (U : Nat → Nat → Int) (w : World) (h : Uses w a0 n U) :
    Calls Tryd.prog 18 #[.slice a0 n c] w (Ret (.int .i64 (listE n U)) w) := by
  by_cases h1 : 70 < n
  · rw [show listE n U = 3 by unfold listE; rw [if_pos h1]]
    exact list_many n c a0 w h1
  · by_cases h0 : n = 0
    · subst h0
      exact list_zero c a0 w
    · obtain ⟨b, o, rfl, hb, hc⟩ := h (by omega)
      exact list_some n c b o U w (by omega) hb (Lib.hid hc)
end Go.Proofs.YtogjfifpbplahaaDoor
