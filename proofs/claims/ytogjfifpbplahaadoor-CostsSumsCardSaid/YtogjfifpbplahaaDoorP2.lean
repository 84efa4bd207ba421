/- The reference's Peak and both Totals, walked. -/
import Derived.Test.YtogjfifpbplahaaDoorP1
namespace Go.Proofs.YtogjfifpbplahaaDoor
open Go.RowKit Go.Shelf
open CM
set_option linter.unusedVariables false

theorem listE_le {n k : Nat} {U : Nat → Nat → Int} (h : listE n U = 0) (hk : k ≤ n) : listE k U = 0 := by
  obtain ⟨h1, h2⟩ := listE_ok h
  unfold listE
  rw [if_neg (by omega), if_pos (okB_le h2 hk)]
theorem Uses.le {w : World} {a0 : Option Addr} {n k : Nat} {U : Nat → Nat → Int} (h : Uses w a0 n U) (hk : k ≤ n) : Uses w a0 k U := fun h0 => by
  obtain ⟨b, o, e, hb, hc⟩ := h (by omega)
  exact ⟨b, o, e, hb, fun i j hi hj => hc i j (by omega) hj⟩
theorem mostF_now {U : Nat → Nat → Int} (n k : Nat) (hk : k ≤ n) : nowF U k ≤ mostF U n := by
  induction n with
  | zero => obtain rfl : k = 0 := by omega
            simp [nowF, sumF, mostF]
  | succ m ih =>
    simp only [mostF]
    by_cases e : k = m + 1
    · subst e; omega
    · have := ih (by omega); omega
/-- the most over the first k sums: of none, nothing -/
def bestF (U : Nat → Nat → Int) : Nat → Int
  | 0 => 0
  | k + 1 => max (bestF U k) (nowF U k)
theorem bestF_eq (U : Nat → Nat → Int) : ∀ n, bestF U (n + 1) = mostF U n
  | 0 => by simp [bestF, nowF, sumF, mostF]
  | n + 1 => by
    have := bestF_eq U n
    rw [show bestF U (n + 1 + 1) = max (bestF U (n + 1)) (nowF U (n + 1)) from rfl, this]
    rfl
theorem bestF_bd (U : Nat → Nat → Int) (n k : Nat) (hk : k ≤ n + 1) (h : ∀ k, k ≤ n → nowF U k ≤ 70000000) : 0 ≤ bestF U k ∧ bestF U k ≤ 70000000 := by
  cases k with
  | zero => simp [bestF]
  | succ j => rw [bestF_eq]; exact mostF_bd (fun i hi => h i (by omega))

set_option maxRecDepth 100000 in
set_option maxHeartbeats 4000000 in
theorem rpeak_ok (n c : Nat) (a0 : Option Addr) (U : Nat → Nat → Int) (w : World) (hnc : n ≤ c) (hE : listE n U = 0) (hU : Hid (Uses w a0 n U)) :
    Calls Tryd.prog 11 #[.slice a0 n c] w (Ret (.tuple #[.int .i64 (mostF U n), .int .i64 0]) w) := by
  have HL := Lib.hid (fun (w0 : World) (hF : Fr (fun _ => False) w w0) => list_walk n c a0 U w0 (hU.out.fr hF (fun _ _ h => h)))
  have HS := Lib.hid (fun (w0 : World) (hF : Fr (fun _ => False) w w0) (k : Nat) (hk : k ≤ n) => rsum_walk k c a0 U w0 ((hU.out.fr hF (fun _ _ h => h)).le hk))
  rw [hE] at HL
  obtain ⟨hn, hok⟩ := listE_ok hE
  have HE := Lib.hid hE
  have HOK := Lib.hid hok
  clear hE hok
  go_enter Tryd.func11, Tryd.ntmps11
  go_wp2_with (go_at_call 18; go_must (refine (HL.out _ (Fr.refl _ _)).mono ?_; rintro e w1 ⟨rfl, hF⟩; have HF1 := Lib.hid hF; clear hF))
  go_loopw [6, 5] (fun i m wr => ∃ k : Nat, k ≤ n + 1 ∧ i = .int .i64 k ∧ m = .int .i64 (bestF U k) ∧ Fr (fun _ => False) w wr) (fun i _ _ => n + 1 - (intOf i).toNat)
  case atStart => exact ⟨0, by omega, rfl, rfl, HF1.out⟩
  case round =>
    obtain ⟨k, hk, rfl, rfl, hF⟩ := hrel
    by_cases hlt : k ≤ n
    · have HF := Lib.hid hF
      clear hF
      obtain ⟨q1, q2⟩ := nowF_bd HOK.out hn k hlt
      obtain ⟨q3, q4⟩ := bestF_bd U n k hk (fun j hj => (nowF_bd HOK.out hn j hj).2)
      obtain ⟨p1, p2⟩ := sumF_le HOK.out hn hlt 4 (by omega) (by omega)
      obtain ⟨p3, p4⟩ := sumF_le HOK.out hn hlt 5 (by omega) (by omega)
      have g1 : (0 : Int) ≤ (k : Int) := by omega
      have g2 : (k : Int) ≤ (n : Int) := by omega
      have g3 : (k : Int) ≤ (c : Int) := by omega
      have g4 : (k : Int) < (n : Int) + 1 := by omega
      have hS := Lib.hid ((sumV_ok (listE_le HE.out hlt)))
      go_wp2_with (go_at_call 9; go_must (refine (HS.out _ HF.out k hlt).mono ?_; rw [hS.out]; rintro e w2 ⟨rfl, hG⟩; have HG := Lib.hid (HF.out.then hG); clear hG))
      go_roundw
      case rel =>
        refine ⟨k + 1, by omega, by go_num, ?_, ?_⟩
        · rw [show bestF U (k + 1) = max (bestF U k) (nowF U k) from rfl]
          unfold nowF
          congr 1
          split <;> omega
        · exact HG.out.alloc _
      case measure => simp [intOf]; omega
    · obtain rfl : k = n + 1 := by omega
      have HF := Lib.hid hF
      clear hF
      have g1 : ¬ ((n : Int) + 1 ≤ (n : Int)) := by omega
      go_wp2_with fail
      exact bodyPost_ret (v := .tuple #[.int .i64 (mostF U n), .int .i64 0]) (by simp [results, Tryd.results11, go_sem, bestF_eq]) rfl ⟨rfl, HF.out⟩
set_option maxRecDepth 100000 in
set_option maxHeartbeats 1000000 in
theorem rpeak_bad (n c : Nat) (a0 : Option Addr) (U : Nat → Nat → Int) (w : World) (hE : listE n U ≠ 0) (h : Uses w a0 n U) :
    Calls Tryd.prog 11 #[.slice a0 n c] w (Ret (.tuple #[.int .i64 0, .int .i64 (listE n U)]) w) := by
  have HL := Lib.hid (list_walk n c a0 U w h)
  generalize listE n U = E at *
  have e1 : (E != 0) = true := by simp [hE]
  clear hE h
  go_enter Tryd.func11, Tryd.ntmps11
  go_wp2_with (go_at_call 18; go_must (refine HL.out.mono ?_; rintro e w1 ⟨rfl, hF⟩; have HF1 := Lib.hid hF; clear hF))
  exact bodyPost_ret (v := .tuple #[.int .i64 0, .int .i64 E]) (by simp [results, Tryd.results11, go_sem]) rfl ⟨rfl, HF1.out⟩
theorem rpeak_walk (n c : Nat) (a0 : Option Addr) (U : Nat → Nat → Int) (w : World) (hnc : n ≤ c) (h : Uses w a0 n U) :
    Calls Tryd.prog 11 #[.slice a0 n c] w (Ret (peakV n U) w) := by
  unfold peakV
  by_cases hE : listE n U = 0
  · rw [if_pos hE]
    rw [hE]
    exact rpeak_ok n c a0 U w hnc hE (Lib.hid h)
  · rw [if_neg hE]
    exact rpeak_bad n c a0 U w hE h

/-- what Total returns at good sizes -/
theorem total_good (x y z u v : Int) (w : World) (h0 : 1 ≤ x ∧ x ≤ 120) (h1 : 1 ≤ y ∧ y ≤ x) (h2 : 0 ≤ v ∧ v ≤ x) : Calls Tryd.prog 15 #[.agg #[.int .i64 x, .int .i64 y, .int .i64 z, .int .i64 u, .int .i64 v]] w (Ret (.tuple #[.int .i64 (2 * (2 * y + x + v)), .int .i64 0]) w) := by
  obtain ⟨a1, a2⟩ := h0
  obtain ⟨b1, b2⟩ := h1
  obtain ⟨c1, c2⟩ := h2
  go_enter Tryd.func15, Tryd.ntmps15
  go_wp2
  exact bodyPost_ret (v := .tuple #[.int .i64 (2 * (2 * y + x + v)), .int .i64 0]) (by simp [results, Tryd.results15, go_sem]) rfl ⟨rfl, (Fr.refl _ w).alloc _⟩
end Go.Proofs.YtogjfifpbplahaaDoor
