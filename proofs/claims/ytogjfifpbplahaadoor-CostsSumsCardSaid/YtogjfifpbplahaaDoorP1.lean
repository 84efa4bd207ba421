/- Total and Peak, walked. -/
import Derived.Test.YtogjfifpbplahaaDoorU2
namespace Go.Proofs.YtogjfifpbplahaaDoor
open Go.RowKit Go.Shelf
open CM
set_option linter.unusedVariables false

/-- what Peak returns -/
def peakV (n : Nat) (U : Nat → Nat → Int) : Value := .tuple #[.int .i64 (if listE n U = 0 then mostF U n else 0), .int .i64 (listE n U)]
theorem nowF_step (U : Nat → Nat → Int) (k : Nat) : nowF U (k + 1) = nowF U k + (U k 4 - U k 5) := by
  simp only [nowF, sumF]; omega

set_option maxRecDepth 100000 in
set_option maxHeartbeats 4000000 in
theorem peak_ok (n c b o : Nat) (a0 : Option Addr) (U : Nat → Nat → Int) (w : World) (hE : listE n U = 0) (hU : Hid (Uses w a0 n U)) (ha : 0 < n → a0 = some ⟨b, o, none⟩) (hb : 0 < n → b < w.heap.size) (hc : Hid (∀ i j, i < n → j < 8 → w.cell? ⟨b, o + i * 8 + j, none⟩ = some (.int .i64 (U i j)))) :
    Calls Tryd.prog 10 #[.slice a0 n c] w (Ret (.tuple #[.int .i64 (mostF U n), .int .i64 0]) w) := by
  have HL := Lib.hid (fun (w0 : World) (hF : Fr (fun _ => False) w w0) => check_walk n c a0 U w0 (hU.out.fr hF (fun _ _ h => h)))
  rw [hE] at HL
  obtain ⟨hn, hok⟩ := listE_ok hE
  have HOK := Lib.hid hok
  clear hE hok
  have HA := Lib.hid ha
  have HB := Lib.hid hb
  clear ha hb
  go_enter Tryd.func10, Tryd.ntmps10
  go_wp2_with (go_at_call 16; go_must (refine (HL.out _ (Fr.refl _ _)).mono ?_; rintro e w1 ⟨rfl, hF⟩; have HF1 := Lib.hid hF; clear hF))
  go_loopw [16, 5, 6] (fun i m q wr => ∃ k : Nat, k ≤ n ∧ i = .int .i64 k ∧ m = .int .i64 (mostF U k) ∧ q = .int .i64 (nowF U k) ∧ Fr (fun _ => False) w wr) (fun i _ _ _ => n - (intOf i).toNat)
  case atStart => exact ⟨0, by omega, rfl, rfl, rfl, HF1.out⟩
  case round =>
    obtain ⟨k, hk, rfl, rfl, rfl, hF⟩ := hrel
    by_cases hlt : k < n
    · have ha := HA.out (by omega)
      have hb := HB.out (by omega)
      subst ha
      have c0 : wr.cell? ⟨b, o + k * 8, none⟩ = some (.int .i64 (U k 0)) := hF.cell (w := w) (p := ⟨b, o + k * 8, none⟩) hb (fun h => h) (hc.out k 0 hlt (by omega))
      have c1 : wr.cell? ⟨b, o + k * 8 + 1, none⟩ = some (.int .i64 (U k 1)) := hF.cell (w := w) (p := ⟨b, o + k * 8 + 1, none⟩) hb (fun h => h) (hc.out k 1 hlt (by omega))
      have c2 : wr.cell? ⟨b, o + k * 8 + 2, none⟩ = some (.int .i64 (U k 2)) := hF.cell (w := w) (p := ⟨b, o + k * 8 + 2, none⟩) hb (fun h => h) (hc.out k 2 hlt (by omega))
      have c3 : wr.cell? ⟨b, o + k * 8 + 3, none⟩ = some (.int .i64 (U k 3)) := hF.cell (w := w) (p := ⟨b, o + k * 8 + 3, none⟩) hb (fun h => h) (hc.out k 3 hlt (by omega))
      have c4 : wr.cell? ⟨b, o + k * 8 + 4, none⟩ = some (.int .i64 (U k 4)) := hF.cell (w := w) (p := ⟨b, o + k * 8 + 4, none⟩) hb (fun h => h) (hc.out k 4 hlt (by omega))
      have c5 : wr.cell? ⟨b, o + k * 8 + 5, none⟩ = some (.int .i64 (U k 5)) := hF.cell (w := w) (p := ⟨b, o + k * 8 + 5, none⟩) hb (fun h => h) (hc.out k 5 hlt (by omega))
      have c6 : wr.cell? ⟨b, o + k * 8 + 6, none⟩ = some (.int .i64 (U k 6)) := hF.cell (w := w) (p := ⟨b, o + k * 8 + 6, none⟩) hb (fun h => h) (hc.out k 6 hlt (by omega))
      have c7 : wr.cell? ⟨b, o + k * 8 + 7, none⟩ = some (.int .i64 (U k 7)) := hF.cell (w := w) (p := ⟨b, o + k * 8 + 7, none⟩) hb (fun h => h) (hc.out k 7 hlt (by omega))
      have HF := Lib.hid hF
      clear hF
      obtain ⟨q1, q2⟩ := nowF_bd HOK.out hn k hk
      obtain ⟨q3, q4⟩ := nowF_bd HOK.out hn (k + 1) hlt
      have q5 := nowF_step U k
      rw [q5] at q3 q4
      obtain ⟨p1, p2⟩ := ok1_bd (okB_at HOK.out hlt) 4 (by omega) (by omega)
      obtain ⟨p3, p4⟩ := ok1_bd (okB_at HOK.out hlt) 5 (by omega) (by omega)
      have g1 : (0 : Int) ≤ (k : Int) := by omega
      have g2 : (k : Int) < (n : Int) := by omega
      go_wp2_with fail
      go_roundw
      case rel =>
        refine ⟨k + 1, by omega, by go_num, ?_, ?_, ?_⟩
        · rw [show mostF U (k + 1) = max (mostF U k) (nowF U (k + 1)) from rfl, q5]
          congr 1
          split <;> omega
        · rw [q5]
        · exact HF.out.alloc _
      case measure => simp [intOf]; omega
    · obtain rfl : k = n := by omega
      have HF := Lib.hid hF
      clear hF
      go_wp2_with fail
      exact bodyPost_ret (v := .tuple #[.int .i64 (mostF U k), .int .i64 0]) (by simp [results, Tryd.results10, go_sem]) rfl ⟨rfl, HF.out⟩
set_option maxRecDepth 100000 in
set_option maxHeartbeats 1000000 in
theorem peak_bad (n c : Nat) (a0 : Option Addr) (U : Nat → Nat → Int) (w : World) (hE : listE n U ≠ 0) (h : Uses w a0 n U) :
    Calls Tryd.prog 10 #[.slice a0 n c] w (Ret (.tuple #[.int .i64 0, .int .i64 (listE n U)]) w) := by
  have HL := Lib.hid (check_walk n c a0 U w h)
  generalize listE n U = E at *
  have e1 : (E != 0) = true := by simp [hE]
  clear hE h
  go_enter Tryd.func10, Tryd.ntmps10
  go_wp2_with (go_at_call 16; go_must (refine HL.out.mono ?_; rintro e w1 ⟨rfl, hF⟩; have HF1 := Lib.hid hF; clear hF))
  exact bodyPost_ret (v := .tuple #[.int .i64 0, .int .i64 E]) (by simp [results, Tryd.results10, go_sem]) rfl ⟨rfl, HF1.out⟩
theorem peak_walk (n c : Nat) (a0 : Option Addr) (U : Nat → Nat → Int) (w : World) (h : Uses w a0 n U) :
    Calls Tryd.prog 10 #[.slice a0 n c] w (Ret (peakV n U) w) := by
  unfold peakV
  by_cases hE : listE n U = 0
  · rw [if_pos hE]
    rw [hE]
    by_cases h0 : 0 < n
    · obtain ⟨b, o, rfl, hb, hc⟩ := h h0
      exact peak_ok n c b o _ U w hE (Lib.hid h) (fun _ => rfl) (fun _ => hb) (Lib.hid hc)
    · exact peak_ok n c 0 0 _ U w hE (Lib.hid h) (fun hn => absurd hn h0) (fun hn => absurd hn h0) (Lib.hid (fun i j hi => by omega))
  · rw [if_neg hE]
    exact peak_bad n c a0 U w hE h
end Go.Proofs.YtogjfifpbplahaaDoor
