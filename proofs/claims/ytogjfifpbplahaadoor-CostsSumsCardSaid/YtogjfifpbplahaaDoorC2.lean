/- The reference's Check, walked. -/
import Derived.Test.YtogjfifpbplahaaDoorC1
import Derived.Deep.CutRange
namespace Go.Proofs.YtogjfifpbplahaaDoor
open Go.RowKit Go.Shelf
open CM
set_option linter.unusedVariables false

set_option maxRecDepth 100000 in
set_option maxHeartbeats 4000000 in
theorem rcheck_ok (n c b o : Nat) (a0 : Option Addr) (U : Nat → Nat → Int) (dd cc : Int) (w : World) (hE : listE n U = 0) (hU : Hid (Uses w a0 n U)) (ha : 0 < n → a0 = some ⟨b, o, none⟩) (hb : 0 < n → b < w.heap.size) (hc : Hid (∀ i j, i < n → j < 8 → w.cell? ⟨b, o + i * 8 + j, none⟩ = some (.int .i64 (U i j)))) :
    Calls Tryd.prog 7 #[.slice a0 n c, .int .i64 dd, .int .i64 cc] w (Ret (checkV n U dd cc) w) := by
  have HL := Lib.hid (fun (w0 : World) (hF : Fr (fun _ => False) w w0) => list_walk n c a0 U w0 (hU.out.fr hF (fun _ _ h => h)))
  rw [hE] at HL
  obtain ⟨hn, hok⟩ := listE_ok hE
  have HOK := Lib.hid hok
  have HA := Lib.hid ha
  have HB := Lib.hid hb
  have HV1 := Lib.hid (fun (h : chkB U dd cc n = true) => checkV_ok (d := dd) (c := cc) hE h)
  have HV0 := Lib.hid (fun (h : chkB U dd cc n = false) => checkV_no (d := dd) (c := cc) hE h)
  clear ha hb hE hok
  go_enter Tryd.func7, Tryd.ntmps7
  go_wp2_with (go_at_call 18; go_must (refine (HL.out _ (Fr.refl _ _)).mono ?_; rintro e w1 ⟨rfl, hF⟩; have HF1 := Lib.hid hF; clear hF))
  go_loopw [12, 10, 11] (fun i m v wr => ∃ k : Nat, k ≤ n ∧ i = .int .i64 k ∧ m = .int .i64 (chkI U dd cc k) ∧ v = .int .i64 (chkV U dd cc k) ∧ chkB U dd cc k = true ∧ Fr (fun _ => False) w wr) (fun i _ _ _ => n - (intOf i).toNat)
  case atStart => exact ⟨0, by omega, rfl, rfl, rfl, rfl, HF1.out⟩
  case round =>
    obtain ⟨k, hk, rfl, rfl, rfl, hB, hF⟩ := hrel
    by_cases hlt : k < n
    · have ha := HA.out (by omega)
      have hb := HB.out (by omega)
      subst ha
      have c0 : wr.cell? ⟨b, o + k * 8, none⟩ = some (.int .i64 (U k 0)) := hF.cell (w := w) (p := ⟨b, o + k * 8, none⟩) hb (fun h => h) (hc.out k 0 hlt (by omega))
      have c1 : wr.cell? ⟨b, o + k * 8 + 1, none⟩ = some (.int .i64 (U k 1)) := hF.cell (w := w) (p := ⟨b, o + k * 8 + 1, none⟩) hb (fun h => h) (hc.out k 1 hlt (by omega))
      have c2 : wr.cell? ⟨b, o + k * 8 + 2, none⟩ = some (.int .i64 (U k 2)) := hF.cell (w := w) (p := ⟨b, o + k * 8 + 2, none⟩) hb (fun h => h) (hc.out k 2 hlt (by omega))
      have c3 : wr.cell? ⟨b, o + k * 8 + 3, none⟩ = some (.int .i64 (U k 3)) := hF.cell (w := w) (p := ⟨b, o + k * 8 + 3, none⟩) hb (fun h => h) (hc.out k 3 hlt (by omega))
      have c4 : wr.cell? ⟨b, o + k * 8 + 4, none⟩ = some (.int .i64 (U k 4)) := hF.cell (w := w) (p := ⟨b, o + k * 8 + 4, none⟩) hb (fun h => h) (hc.out k 4 hlt (by omega))
      have c5 : wr.cell? ⟨b, o + k * 8 + 5, none⟩ = some (.int .i64 (U k 5)) := hF.cell (w := w) (p := ⟨b, o + k * 8 + 5, none⟩) hb (fun h => h) (hc.out k 5 hlt (by omega))
      have c6 : wr.cell? ⟨b, o + k * 8 + 6, none⟩ = some (.int .i64 (U k 6)) := hF.cell (w := w) (p := ⟨b, o + k * 8 + 6, none⟩) hb (fun h => h) (hc.out k 6 hlt (by omega))
      have c7 : wr.cell? ⟨b, o + k * 8 + 7, none⟩ = some (.int .i64 (U k 7)) := hF.cell (w := w) (p := ⟨b, o + k * 8 + 7, none⟩) hb (fun h => h) (hc.out k 7 hlt (by omega))
      have HF := Lib.hid hF
      have HBk := Lib.hid hB
      have hbr : b < wr.heap.size := Nat.lt_of_lt_of_le hb HF.out.size
      have hbne : ¬ wr.heap.size = b := by omega
      have hbne' : ¬ b = wr.heap.size := by omega
      clear hF hB
      have HP2 := Lib.hid (ok1_bd (okB_at HOK.out hlt) 2 (by omega) (by omega))
      have HP7 := Lib.hid (ok1_bd (okB_at HOK.out hlt) 7 (by omega) (by omega))
      have g1 : (0 : Int) ≤ (k : Int) := by omega
      have g2 : (k : Int) < (n : Int) := by omega
      have HBD := Lib.hid (fun (w0 : World) => rbound_walk (U k 0) (U k 1) dd cc w0)
      unfold bdV at HBD
      go_upto_region 8 with (fail)
      go_cut [13, 14] from 21 to 59 (fun x y wx => ∃ B, x = .pointer (some ⟨B, 0, none⟩) ∧ y = .int .i64 (bdE (U k 0) (U k 1) dd cc) ∧ RowB wx B 38 [.int .i64 (bdR (U k 0) (U k 1) dd cc), .int .i64 (bdT (U k 0) (U k 1) dd cc), .int .i64 (bdO (U k 0) (U k 1) dd cc)] ∧ wr.heap.size ≤ B ∧ Fr (fun _ => False) wr wx)
      case first =>
        go_region_held3 (fun w' => w'.cell? ⟨b, o + k * 8, none⟩ = some (.int .i64 (U k 0)) ∧ w'.cell? ⟨b, o + k * 8 + 1, none⟩ = some (.int .i64 (U k 1))) (go_keep) (first | (go_at_call 19; go_must (refine (HBD.out _).mono ?_; rintro e w2 ⟨rfl, hG⟩; have y0 : w2.cell? ⟨b, o + k * 8, none⟩ = some (.int .i64 (U k 0)) := hG.cell (by first | exact hbr | (simp; omega)) (fun h => h) (by first | assumption | (simp [*])); have y1 : w2.cell? ⟨b, o + k * 8 + 1, none⟩ = some (.int .i64 (U k 1)) := hG.cell (by first | exact hbr | (simp; omega)) (fun h => h) (by first | assumption | (simp [*])); (try (have hRz : RowB w2 wr.heap.size 38 [.int .i64 0, .int .i64 0, .int .i64 0] := (by refine RowB.fr ?_ hG (fun h => h); first | exact RowB.new wr.drew _ _ | exact RowB.new wr _ _); have z0 : w2.cell? ⟨wr.heap.size, 0, none⟩ = some (.int .i64 0) := hRz.cell 0; have z1 : w2.cell? ⟨wr.heap.size, 1, none⟩ = some (.int .i64 0) := hRz.cell 1; have z2 : w2.cell? ⟨wr.heap.size, 2, none⟩ = some (.int .i64 0) := hRz.cell 2; have f0 := hRz.frozen 0; have f1 := hRz.frozen 1; have f2 := hRz.frozen 2; have HRZ := Lib.hid hRz; clear hRz)); have HG := Lib.hid hG; clear hG)))
        all_goals go_wp2_with fail
        all_goals go_meet
        all_goals first
          | exact ⟨_, rfl, rfl, RowB.new w2 38 [.int .i64 (bdR (U k 0) (U k 1) dd cc), .int .i64 (bdT (U k 0) (U k 1) dd cc), .int .i64 (bdO (U k 0) (U k 1) dd cc)], HG.out.size, ((Fr.refl _ wr).drew.then HG.out).alloc _⟩
          | exact ⟨_, rfl, rfl, ((HRZ.out.set 0 (.int .i64 (bdR (U k 0) (U k 1) dd cc))).set 1 (.int .i64 (bdT (U k 0) (U k 1) dd cc))).set 2 (.int .i64 (bdO (U k 0) (U k 1) dd cc)), Nat.le_refl _, (Fr.setCell (S := fun x => x = wr.heap.size) (Fr.setCell (S := fun x => x = wr.heap.size) (Fr.setCell (S := fun x => x = wr.heap.size) (((Fr.refl _ wr).alloc _).drew.then HG.out).up (a := ⟨wr.heap.size, 0, none⟩) (fun _ => rfl) _) (a := ⟨wr.heap.size, 1, none⟩) (fun _ => rfl) _) (a := ⟨wr.heap.size, 2, none⟩) (fun _ => rfl) _).mono (S' := fun _ => False) (fun x hx h => by omega)⟩
      case rest =>
        obtain ⟨B, rfl, rfl, hR, hBw, hF⟩ := hcut
        have HR := Lib.hid hR
        have hBb : ¬ B = b := by omega
        have hbB : ¬ b = B := by omega
        have HF2 := Lib.hid (HF.out.then hF)
        have e0 : wc.cell? ⟨b, o + k * 8, none⟩ = some (.int .i64 (U k 0)) := HF2.out.cell (w := w) (p := ⟨b, o + k * 8, none⟩) hb (fun h => h) (hc.out k 0 hlt (by omega))
        have e1 : wc.cell? ⟨b, o + k * 8 + 1, none⟩ = some (.int .i64 (U k 1)) := HF2.out.cell (w := w) (p := ⟨b, o + k * 8 + 1, none⟩) hb (fun h => h) (hc.out k 1 hlt (by omega))
        have e2 : wc.cell? ⟨b, o + k * 8 + 2, none⟩ = some (.int .i64 (U k 2)) := HF2.out.cell (w := w) (p := ⟨b, o + k * 8 + 2, none⟩) hb (fun h => h) (hc.out k 2 hlt (by omega))
        have e3 : wc.cell? ⟨b, o + k * 8 + 3, none⟩ = some (.int .i64 (U k 3)) := HF2.out.cell (w := w) (p := ⟨b, o + k * 8 + 3, none⟩) hb (fun h => h) (hc.out k 3 hlt (by omega))
        have e4 : wc.cell? ⟨b, o + k * 8 + 4, none⟩ = some (.int .i64 (U k 4)) := HF2.out.cell (w := w) (p := ⟨b, o + k * 8 + 4, none⟩) hb (fun h => h) (hc.out k 4 hlt (by omega))
        have e5 : wc.cell? ⟨b, o + k * 8 + 5, none⟩ = some (.int .i64 (U k 5)) := HF2.out.cell (w := w) (p := ⟨b, o + k * 8 + 5, none⟩) hb (fun h => h) (hc.out k 5 hlt (by omega))
        have e6 : wc.cell? ⟨b, o + k * 8 + 6, none⟩ = some (.int .i64 (U k 6)) := HF2.out.cell (w := w) (p := ⟨b, o + k * 8 + 6, none⟩) hb (fun h => h) (hc.out k 6 hlt (by omega))
        have e7 : wc.cell? ⟨b, o + k * 8 + 7, none⟩ = some (.int .i64 (U k 7)) := HF2.out.cell (w := w) (p := ⟨b, o + k * 8 + 7, none⟩) hb (fun h => h) (hc.out k 7 hlt (by omega))
        have d0 : wc.cell? ⟨B, 0, none⟩ = some (.int .i64 (bdR (U k 0) (U k 1) dd cc)) := HR.out.cell 0
        have d1 : wc.cell? ⟨B, 1, none⟩ = some (.int .i64 (bdT (U k 0) (U k 1) dd cc)) := HR.out.cell 1
        have d2 : wc.cell? ⟨B, 2, none⟩ = some (.int .i64 (bdO (U k 0) (U k 1) dd cc)) := HR.out.cell 2
        have hBc : B < wc.heap.size := HR.out.lt
        have hbc : b < wc.heap.size := by omega
        clear hR hF c0 c1 c2 c3 c4 c5 c6 c7 hBw hbr hbne hbne' HBD
        by_cases hbd : bdE (U k 0) (U k 1) dd cc = 0
        · have HOV := Lib.hid (fun (w0 : World) => wrong_walk (U k) (bdR (U k 0) (U k 1) dd cc) (bdT (U k 0) (U k 1) dd cc) (bdO (U k 0) (U k 1) dd cc) w0 HP2.out HP7.out.1)
          change Hid (∀ w0 : World, Calls _ _ _ w0 (Ret (.int .i64 (chkW U dd cc k)) w0)) at HOV
          have HN := Lib.hid (show chkB U dd cc (k + 1) = true by simp only [chkB, Bool.and_eq_true, decide_eq_true_eq]; exact ⟨HBk.out, hbd⟩)
          have hwb : 0 ≤ chkW U dd cc k ∧ chkW U dd cc k ≤ 5 := overF_bd _ _ _ _
          have HIV := Lib.hid (chkIV U dd cc k)
          have HKE := Lib.hid (fun h => chk_keep (U := U) (d := dd) (c := cc) (k := k) h)
          have HNE := Lib.hid (fun h => chk_new (U := U) (d := dd) (c := cc) (k := k) h)
          rw [hbd]
          clear hbd
          generalize bdR (U k 0) (U k 1) dd cc = rr at *
          generalize bdT (U k 0) (U k 1) dd cc = tt at *
          generalize bdO (U k 0) (U k 1) dd cc = oo at *
          obtain ⟨y, hy⟩ : ∃ y, chkW U dd cc k = y := ⟨_, rfl⟩
          rw [hy] at HOV HKE HNE hwb
          have hwb1 := hwb.1
          have hwb2 := hwb.2
          clear hy hwb
          obtain ⟨p, hp⟩ : ∃ p, chkI U dd cc k = p := ⟨_, rfl⟩
          obtain ⟨q, hq⟩ : ∃ q, chkV U dd cc k = q := ⟨_, rfl⟩
          rw [hp, hq] at HIV
          rw [hp] at HKE HNE
          rw [hq] at HKE
          rw [hp, hq]
          clear hp hq
          go_upto_region 11 with (fail)
          go_region_held3 (fun w' => w'.cell? ⟨b, o + k * 8, none⟩ = some (.int .i64 (U k 0)) ∧ w'.cell? ⟨b, o + k * 8 + 1, none⟩ = some (.int .i64 (U k 1)) ∧ w'.cell? ⟨b, o + k * 8 + 2, none⟩ = some (.int .i64 (U k 2)) ∧ w'.cell? ⟨b, o + k * 8 + 3, none⟩ = some (.int .i64 (U k 3)) ∧ w'.cell? ⟨b, o + k * 8 + 4, none⟩ = some (.int .i64 (U k 4)) ∧ w'.cell? ⟨b, o + k * 8 + 5, none⟩ = some (.int .i64 (U k 5)) ∧ w'.cell? ⟨b, o + k * 8 + 6, none⟩ = some (.int .i64 (U k 6)) ∧ w'.cell? ⟨b, o + k * 8 + 7, none⟩ = some (.int .i64 (U k 7)) ∧ w'.cell? ⟨B, 0, none⟩ = some (.int .i64 rr) ∧ w'.cell? ⟨B, 1, none⟩ = some (.int .i64 tt) ∧ w'.cell? ⟨B, 2, none⟩ = some (.int .i64 oo)) (go_keep) (first | (go_at_call 20; go_must (refine (HOV.out _).mono ?_; rintro e w3 ⟨rfl, hG⟩; have y0 : w3.cell? ⟨b, o + k * 8, none⟩ = some (.int .i64 (U k 0)) := hG.cell (by first | exact hbc | (simp; omega)) (fun h => h) (by first | assumption | (simp [*])); have y1 : w3.cell? ⟨b, o + k * 8 + 1, none⟩ = some (.int .i64 (U k 1)) := hG.cell (by first | exact hbc | (simp; omega)) (fun h => h) (by first | assumption | (simp [*])); have y2 : w3.cell? ⟨b, o + k * 8 + 2, none⟩ = some (.int .i64 (U k 2)) := hG.cell (by first | exact hbc | (simp; omega)) (fun h => h) (by first | assumption | (simp [*])); have y3 : w3.cell? ⟨b, o + k * 8 + 3, none⟩ = some (.int .i64 (U k 3)) := hG.cell (by first | exact hbc | (simp; omega)) (fun h => h) (by first | assumption | (simp [*])); have y4 : w3.cell? ⟨b, o + k * 8 + 4, none⟩ = some (.int .i64 (U k 4)) := hG.cell (by first | exact hbc | (simp; omega)) (fun h => h) (by first | assumption | (simp [*])); have y5 : w3.cell? ⟨b, o + k * 8 + 5, none⟩ = some (.int .i64 (U k 5)) := hG.cell (by first | exact hbc | (simp; omega)) (fun h => h) (by first | assumption | (simp [*])); have y6 : w3.cell? ⟨b, o + k * 8 + 6, none⟩ = some (.int .i64 (U k 6)) := hG.cell (by first | exact hbc | (simp; omega)) (fun h => h) (by first | assumption | (simp [*])); have y7 : w3.cell? ⟨b, o + k * 8 + 7, none⟩ = some (.int .i64 (U k 7)) := hG.cell (by first | exact hbc | (simp; omega)) (fun h => h) (by first | assumption | (simp [*])); have y8 : w3.cell? ⟨B, 0, none⟩ = some (.int .i64 rr) := hG.cell (by first | exact hBc | (simp; omega)) (fun h => h) (by first | assumption | (simp [*])); have y9 : w3.cell? ⟨B, 1, none⟩ = some (.int .i64 tt) := hG.cell (by first | exact hBc | (simp; omega)) (fun h => h) (by first | assumption | (simp [*])); have y10 : w3.cell? ⟨B, 2, none⟩ = some (.int .i64 oo) := hG.cell (by first | exact hBc | (simp; omega)) (fun h => h) (by first | assumption | (simp [*])); have HG2 : Hid (Fr (fun _ => False) w w3) := Lib.hid (HF2.out.then (Fr.of_drewN (q := 1) hG)); clear hG)))
          by_cases hp : 0 ≤ p
          · go_wp2_with fail
            go_roundw
            case rel =>
              refine ⟨k + 1, by omega, by go_num, ?_, ?_, HN.out, HG2.out⟩
              · rw [(HKE.out (fun h => by omega)).1]
              · rw [(HKE.out (fun h => by omega)).2]
            case measure => simp [intOf]; omega
          · have hp1 : p = -1 := by have := HIV.out; omega
            subst hp1
            clear hp
            by_cases h0 : y = 0
            · subst h0
              go_wp2_with fail
              go_roundw
              case rel =>
                refine ⟨k + 1, by omega, by go_num, ?_, ?_, HN.out, HG2.out⟩
                · rw [(HKE.out (fun h => h.2 rfl)).1]
                · rw [(HKE.out (fun h => h.2 rfl)).2]
              case measure => simp [intOf]; omega
            · have hy1 : 0 < y := by omega
              go_wp2_with fail
              go_roundw
              case rel =>
                refine ⟨k + 1, by omega, by go_num, ?_, ?_, HN.out, HG2.out⟩
                · rw [(HNE.out ⟨by omega, by omega⟩).1]
                · rw [(HNE.out ⟨by omega, by omega⟩).2]
              case measure => simp [intOf]; omega
        · have h7 : bdE (U k 0) (U k 1) dd cc = 7 := by have := bdE_two (U k 0) (U k 1) dd cc; omega
          have HVV := Lib.hid (HV0.out (chkB_bad hlt hbd))
          rw [h7]
          clear hbd h7
          go_wp2_with fail
          exact bodyPost_ret (v := .tuple #[.int .i64 0, .int .i64 0, .int .i64 7]) (by simp [results, Tryd.results7, go_sem]) rfl ⟨by rw [HVV.out], HF2.out⟩
    · obtain rfl : k = n := by omega
      have HF := Lib.hid hF
      have HBk := Lib.hid hB
      clear hF hB
      go_wp2_with fail
      exact bodyPost_ret (v := .tuple #[.int .i64 (chkI U dd cc k), .int .i64 (chkV U dd cc k), .int .i64 0]) (by simp [results, Tryd.results7, go_sem]) rfl ⟨by rw [HV1.out HBk.out], HF.out⟩
set_option maxRecDepth 100000 in
set_option maxHeartbeats 1000000 in
theorem rcheck_bad (n c : Nat) (a0 : Option Addr) (U : Nat → Nat → Int) (dd cc : Int) (w : World) (hE : listE n U ≠ 0) (h : Uses w a0 n U) :
    Calls Tryd.prog 7 #[.slice a0 n c, .int .i64 dd, .int .i64 cc] w (Ret (.tuple #[.int .i64 0, .int .i64 0, .int .i64 (listE n U)]) w) := by
  have HL := Lib.hid (list_walk n c a0 U w h)
  generalize listE n U = E at *
  have e1 : (E != 0) = true := by simp [hE]
  clear hE h
  go_enter Tryd.func7, Tryd.ntmps7
  go_wp2_with (go_at_call 18; go_must (refine HL.out.mono ?_; rintro e w1 ⟨rfl, hF⟩; have HF1 := Lib.hid hF; clear hF))
  exact bodyPost_ret (v := .tuple #[.int .i64 0, .int .i64 0, .int .i64 E]) (by simp [results, Tryd.results7, go_sem]) rfl ⟨rfl, HF1.out⟩
theorem rcheck_walk (n c : Nat) (a0 : Option Addr) (U : Nat → Nat → Int) (dd cc : Int) (w : World) (h : Uses w a0 n U) :
    Calls Tryd.prog 7 #[.slice a0 n c, .int .i64 dd, .int .i64 cc] w (Ret (checkV n U dd cc) w) := by
  by_cases hE : listE n U = 0
  · by_cases h0 : 0 < n
    · obtain ⟨b, o, rfl, hb, hc⟩ := h h0
      exact rcheck_ok n c b o _ U dd cc w hE (Lib.hid h) (fun _ => rfl) (fun _ => hb) (Lib.hid hc)
    · exact rcheck_ok n c 0 0 _ U dd cc w hE (Lib.hid h) (fun hn => absurd hn h0) (fun hn => absurd hn h0) (Lib.hid (fun i j hi => by omega))
  · rw [checkV_bad hE]
    exact rcheck_bad n c a0 U dd cc w hE h
end Go.Proofs.YtogjfifpbplahaaDoor
