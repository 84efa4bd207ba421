/- The reference's Text, walked. -/
import Derived.Test.YtogjfifpbplahaaDoorT3
namespace Go.Proofs.YtogjfifpbplahaaDoor
open Go.RowKit Go.Shelf
open CM
set_option linter.unusedVariables false
attribute [local go_sem] Oper.semAt_some

theorem all8_step (u : Nat → Int) (j : Nat) (hj : j < 8) : rowT u (all8.take (j + 1)) = rowT u (all8.take j) ++ fldB u j := by
  obtain rfl | rfl | rfl | rfl | rfl | rfl | rfl | rfl : j = 0 ∨ j = 1 ∨ j = 2 ∨ j = 3 ∨ j = 4 ∨ j = 5 ∨ j = 6 ∨ j = 7 := by omega
  all_goals rw [← rowT_snoc u _ ⟨_, hj⟩]; rfl
theorem cat_bytes (x y : List UInt8) : ((⟨x.toArray⟩ : ByteArray) ++ ⟨y.toArray⟩) = ⟨(x ++ y).toArray⟩ := by
  apply ByteArray.ext
  simp

set_option maxRecDepth 100000 in
set_option maxHeartbeats 4000000 in
theorem rtext_ok (n c b o : Nat) (a0 : Option Addr) (U : Nat → Nat → Int) (w : World) (hE : listE n U = 0) (hU : Hid (Uses w a0 n U)) (ha : 0 < n → a0 = some ⟨b, o, none⟩) (hb : 0 < n → b < w.heap.size) (hc : Hid (∀ i j, i < n → j < 8 → w.cell? ⟨b, o + i * 8 + j, none⟩ = some (.int .i64 (U i j)))) :
    Calls Tryd.prog 13 #[.slice a0 n c] w (Ret (.tuple #[.string ⟨(textB U n).toArray⟩, .int .i64 0]) w) := by
  have HL := Lib.hid (fun (w0 : World) (hF : Fr (fun _ => False) w w0) => list_walk n c a0 U w0 (hU.out.fr hF (fun _ _ h => h)))
  rw [hE] at HL
  obtain ⟨hn, hok⟩ := listE_ok hE
  have HOK := Lib.hid hok
  have HA := Lib.hid ha
  have HB := Lib.hid hb
  clear ha hb hE hok
  go_enter Tryd.func13, Tryd.ntmps13
  go_wp2_with (go_at_call 18; go_must (refine (HL.out _ (Fr.refl _ _)).mono ?_; rintro e w1 ⟨rfl, hF⟩; have HF1 := Lib.hid hF; clear hF))
  go_loopw [6, 5] (fun i t wr => ∃ k : Nat, k ≤ n ∧ i = .int .i64 k ∧ t = .string ⟨(textB U k).toArray⟩ ∧ Fr (fun _ => False) w wr) (fun i _ _ => n - (intOf i).toNat)
  case atStart => exact ⟨0, by omega, rfl, rfl, HF1.out⟩
  case round =>
    obtain ⟨k, hk, rfl, rfl, hF⟩ := hrel
    obtain ⟨wo, rfl⟩ : ∃ wo : World, wo = wr := ⟨_, rfl⟩
    have HF := Lib.hid hF
    clear hF
    have HTL := Lib.hid (textB_len (okB_le HOK.out hk))
    by_cases hlt : k < n
    · have ha := HA.out (by omega)
      have hb := HB.out (by omega)
      subst ha
      have c0 : wo.cell? ⟨b, o + k * 8, none⟩ = some (.int .i64 (U k 0)) := HF.out.cell hb (fun h => h) (hc.out k 0 hlt (by omega))
      have c1 : wo.cell? ⟨b, o + k * 8 + 1, none⟩ = some (.int .i64 (U k 1)) := HF.out.cell hb (fun h => h) (hc.out k 1 hlt (by omega))
      have c2 : wo.cell? ⟨b, o + k * 8 + 2, none⟩ = some (.int .i64 (U k 2)) := HF.out.cell hb (fun h => h) (hc.out k 2 hlt (by omega))
      have c3 : wo.cell? ⟨b, o + k * 8 + 3, none⟩ = some (.int .i64 (U k 3)) := HF.out.cell hb (fun h => h) (hc.out k 3 hlt (by omega))
      have c4 : wo.cell? ⟨b, o + k * 8 + 4, none⟩ = some (.int .i64 (U k 4)) := HF.out.cell hb (fun h => h) (hc.out k 4 hlt (by omega))
      have c5 : wo.cell? ⟨b, o + k * 8 + 5, none⟩ = some (.int .i64 (U k 5)) := HF.out.cell hb (fun h => h) (hc.out k 5 hlt (by omega))
      have c6 : wo.cell? ⟨b, o + k * 8 + 6, none⟩ = some (.int .i64 (U k 6)) := HF.out.cell hb (fun h => h) (hc.out k 6 hlt (by omega))
      have c7 : wo.cell? ⟨b, o + k * 8 + 7, none⟩ = some (.int .i64 (U k 7)) := HF.out.cell hb (fun h => h) (hc.out k 7 hlt (by omega))
      have HOKk := Lib.hid (okB_at HOK.out hlt)
      have g1 : (0 : Int) ≤ (k : Int) := by omega
      have g2 : (k : Int) < (n : Int) := by omega
      have HN := Lib.hid (fun w0 => numbers_walk (U k) w0)
      obtain ⟨X, hX⟩ : ∃ X : List UInt8, textB U k = X := ⟨_, rfl⟩
      have HX := Lib.hid hX
      rw [hX] at HTL ⊢
      clear hX
      go_wp2_with (first | (go_at_call 28; go_must (refine (HN.out _).mono ?_; rintro e w1 ⟨rfl, hF1⟩; have HF1 := Lib.hid hF1; clear hF1)))
      have hR2 : RowB (w1.alloc (Obj.cells #[Value.int .i64 (U k 0), Value.int .i64 (U k 1), Value.int .i64 (U k 2), Value.int .i64 (U k 3), Value.int .i64 (U k 4), Value.int .i64 (U k 5), Value.int .i64 (U k 6), Value.int .i64 (U k 7)] 70)) w1.heap.size 70 (useV (U k)) := RowB.new w1 70 (useV (U k))
      have hF2 : Fr (fun _ => False) w (w1.alloc (Obj.cells #[Value.int .i64 (U k 0), Value.int .i64 (U k 1), Value.int .i64 (U k 2), Value.int .i64 (U k 3), Value.int .i64 (U k 4), Value.int .i64 (U k 5), Value.int .i64 (U k 6), Value.int .i64 (U k 7)] 70)) := (HF.out.then HF1.out).alloc _
      generalize w1.alloc (Obj.cells #[Value.int .i64 (U k 0), Value.int .i64 (U k 1), Value.int .i64 (U k 2), Value.int .i64 (U k 3), Value.int .i64 (U k 4), Value.int .i64 (U k 5), Value.int .i64 (U k 6), Value.int .i64 (U k 7)] 70) = W2 at *
      generalize w1.heap.size = B at *
      have HR2 := Lib.hid hR2
      have HF2 := Lib.hid hF2
      clear hR2 hF2 c0 c1 c2 c3 c4 c5 c6 c7
      go_loopw [8, 5] (fun i t wr => ∃ j : Nat, j ≤ 8 ∧ i = .int .i64 j ∧ t = .string ⟨(X ++ rowT (U k) (all8.take j)).toArray⟩ ∧ Fr (fun _ => False) W2 wr) (fun i _ _ => 8 - (intOf i).toNat)
      case atStart => exact ⟨0, by omega, rfl, by simp [rowT], Fr.refl _ _⟩
      case round =>
        obtain ⟨j, hj8, rfl, rfl, hF3⟩ := hrel
        have HF3 := Lib.hid hF3
        have HRL := Lib.hid (rowT_len HOKk.out (all8.take j))
        by_cases hjl : j < 8
        · have q2 : (j : Int) < 8 := by omega
          have q3 : (0 : Int) ≤ (j : Int) := by omega
          have cj : wr.cell? ⟨B, j, none⟩ = some (.int .i64 (U k j)) := by rw [(HR2.out.fr hF3 (fun h => h)).cell j]; exact useV_at (U k) j hjl
          clear hF3
          have hb0 := ok1_bd0 HOKk.out j hjl
          have HDG := Lib.hid (fun w0 => digits_walk (U k j) hb0.1 hb0.2 w0)
          have hIL := itoa_len hb0.1 hb0.2
          have hTk : (all8.take j).length ≤ 8 := by rw [List.length_take]; omega
          have HST := Lib.hid (all8_step (U k) j hjl)
          obtain ⟨Y, hY⟩ : ∃ Y : List UInt8, X ++ rowT (U k) (all8.take j) = Y := ⟨_, rfl⟩
          have hYl : Y.length ≤ 13000 := by rw [← hY, List.length_append]; have := HTL.out; have := HRL.out; omega
          have HYY := Lib.hid hY
          rw [hY]
          clear hY hTk
          obtain ⟨D, hD⟩ : ∃ D : List UInt8, Lib.itoa (U k j) = D := ⟨_, rfl⟩
          rw [hD] at HDG hIL
          by_cases hj0 : j = 0
          · subst hj0
            have HFD := Lib.hid (show fldB (U k) 0 = D by unfold fldB; rw [if_pos rfl, hD]; rfl)
            have hct := cat_bytes Y D
            have hln : ¬ 9223372036854775807 < Y.length + D.length := by omega
            clear hD hb0
            go_wp2_with (go_at_call 29; go_must (refine (HDG.out _).mono ?_; rintro e w4 ⟨rfl, hF4⟩; have HF4 := Lib.hid hF4; clear hF4))
            go_roundw
            case rel =>
              refine ⟨1, by omega, by go_num, ?_, HF3.out.then HF4.out⟩
              rw [HST.out, HFD.out, ← List.append_assoc, HYY.out]
            case measure => simp [intOf]
          · have hj1 : (0 : Int) < (j : Int) := by omega
            have HFD := Lib.hid (show fldB (U k) j = [32] ++ D by unfold fldB; rw [if_neg hj0, hD])
            have hct1 : ((⟨Y.toArray⟩ : ByteArray) ++ ⟨#[32]⟩) = ⟨(Y ++ [32]).toArray⟩ := cat_bytes Y [32]
            obtain ⟨Z, hZ⟩ : ∃ Z : List UInt8, Y ++ [32] = Z := ⟨_, rfl⟩
            have hZl : Z.length = Y.length + 1 := by rw [← hZ]; simp
            have HZ := Lib.hid hZ
            rw [hZ] at hct1
            have hct := cat_bytes Z D
            have hln1 : ¬ 9223372036854775807 < Y.length + 1 := by omega
            have hln : ¬ 9223372036854775807 < Z.length + D.length := by omega
            clear hD hb0 hZ hZl
            go_wp2_with (go_at_call 29; go_must (refine (HDG.out _).mono ?_; rintro e w4 ⟨rfl, hF4⟩; have HF4 := Lib.hid hF4; clear hF4))
            go_roundw
            case rel =>
              refine ⟨j + 1, by omega, by go_num, ?_, HF3.out.then HF4.out⟩
              rw [HST.out, HFD.out, ← List.append_assoc, ← List.append_assoc, HYY.out, HZ.out]
            case measure => simp [intOf]; omega
        · obtain rfl : j = 8 := by omega
          clear hF3
          obtain ⟨Y, hY⟩ : ∃ Y : List UInt8, X ++ rowT (U k) (all8.take 8) = Y := ⟨_, rfl⟩
          have hYl : Y.length ≤ 13000 := by rw [← hY, List.length_append]; have := HTL.out; have := HRL.out; have : (all8.take 8).length ≤ 8 := by rw [List.length_take]; omega
                                            omega
          have HYY := Lib.hid hY
          rw [hY]
          clear hY
          have hct : ((⟨Y.toArray⟩ : ByteArray) ++ ⟨#[10]⟩) = ⟨(Y ++ [10]).toArray⟩ := cat_bytes Y [10]
          obtain ⟨Z, hZ⟩ : ∃ Z : List UInt8, Y ++ [10] = Z := ⟨_, rfl⟩
          have HZ := Lib.hid hZ
          rw [hZ] at hct
          have hln : ¬ 9223372036854775807 < Y.length + 1 := by omega
          clear hZ hYl
          go_wp2_with fail
          go_roundw
          case rel =>
            refine ⟨k + 1, by omega, by go_num, ?_, HF2.out.then HF3.out⟩
            rw [← HZ.out, ← HYY.out, ← HX.out]
            rfl
          case measure => simp [intOf]; omega
    · obtain rfl : k = n := by omega
      go_wp2_with fail
      exact bodyPost_ret (v := .tuple #[.string ⟨(textB U k).toArray⟩, .int .i64 0]) (by simp [results, Tryd.results13, go_sem]) rfl ⟨rfl, HF.out⟩
set_option maxRecDepth 100000 in
set_option maxHeartbeats 1000000 in
theorem rtext_bad (n c : Nat) (a0 : Option Addr) (U : Nat → Nat → Int) (w : World) (hE : listE n U ≠ 0) (h : Uses w a0 n U) :
    Calls Tryd.prog 13 #[.slice a0 n c] w (Ret (.tuple #[.string ⟨#[]⟩, .int .i64 (listE n U)]) w) := by
  have HL := Lib.hid (list_walk n c a0 U w h)
  generalize listE n U = E at *
  have e1 : (E != 0) = true := by simp [hE]
  clear hE h
  go_enter Tryd.func13, Tryd.ntmps13
  go_wp2_with (go_at_call 18; go_must (refine HL.out.mono ?_; rintro e w1 ⟨rfl, hF⟩; have HF1 := Lib.hid hF; clear hF))
  exact bodyPost_ret (v := .tuple #[.string ⟨#[]⟩, .int .i64 E]) (by simp [results, Tryd.results13, go_sem]) rfl ⟨rfl, HF1.out⟩
theorem rtext_walk (n c : Nat) (a0 : Option Addr) (U : Nat → Nat → Int) (w : World) (h : Uses w a0 n U) :
    Calls Tryd.prog 13 #[.slice a0 n c] w (Ret (textV n U) w) := by
  unfold textV
  by_cases hE : listE n U = 0
  · rw [if_pos hE]
    rw [hE]
    by_cases h0 : 0 < n
    · obtain ⟨b, o, rfl, hb, hc⟩ := h h0
      exact rtext_ok n c b o _ U w hE (Lib.hid h) (fun _ => rfl) (fun _ => hb) (Lib.hid hc)
    · exact rtext_ok n c 0 0 _ U w hE (Lib.hid h) (fun hn => absurd hn h0) (fun hn => absurd hn h0) (Lib.hid (fun i j hi => by omega))
  · rw [if_neg hE]
    exact rtext_bad n c a0 U w hE h
end Go.Proofs.YtogjfifpbplahaaDoor
