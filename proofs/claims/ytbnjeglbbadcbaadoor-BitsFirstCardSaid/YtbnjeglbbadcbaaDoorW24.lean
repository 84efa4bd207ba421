/- The law BitsFirst, walked. -/
import Derived.Test.YtbnjeglbbadcbaaDoorW22
import Derived.Test.YtbnjeglbbadcbaaDoorW21
namespace Go.Proofs.YtbnjeglbbadcbaaDoor
open Go.RowKit
open BM
set_option linter.unusedVariables false

theorem cntR_full {l : List Bool} {fr n : Nat} : (∀ q, fr ≤ q → q < fr + n → bt l q = true) → cntR l fr n = n := by
  intro h
  exact cnt_all (fun j hj => h (fr + j) (by omega) (by omega))
theorem cntR_not {l : List Bool} {fr n : Nat} (h1 : fr + n ≤ l.length) (h : ¬ Good l true n fr) : cntR l fr n < n := by
  have h2 := cntR_le l fr n
  rcases Nat.lt_or_ge (cntR l fr n) n with h3 | h3
  · exact h3
  · exfalso
    apply h
    refine ⟨h1, fun q hq1 hq2 => ?_⟩
    have := cnt_eq_all (f := fun j => bt l (fr + j)) (k := n) (by have : cntR l fr n = n := by omega
                                                                  exact this) (q - fr) (by omega)
    rwa [show fr + (q - fr) = q by omega] at this

set_option maxRecDepth 100000 in
set_option maxHeartbeats 4000000 in
theorem first_found (n : Nat) (a0 : Option Addr) (bl bc r M N : Nat) (X : List Bool) (w : World) (HT : Hid (Tab w)) (hr : r < 256) (hM : M = 1 + r % 20) (hX : X.length = N) (hN6 : N ≤ 600) (p : Nat) (hp : IsRun X true M 0 p)
    (HMX : Hid (Calls Tryd.prog 11 #[.int .u16 n, .slice a0 bl bc] w (Got w X))) :
    Calls Tryd.prog 3 #[.int .u16 n, .slice a0 bl bc, .int .u8 r] w fun e w' => e = .returned (.bool true) ∧ Fr (fun _ => False) w w' := by
  have hpN : p + M ≤ N := by have := hp.good.1; omega
  have r1 : RunV X true 0 M p 0 := by
    unfold RunV
    rw [if_pos (by omega), if_neg (by omega)]
    exact Or.inl ⟨p, by rw [Int.toNat_natCast]; exact hp, rfl, rfl⟩
  have HC : Hid (∀ i, i ≤ p → cntR X i M ≤ M ∧ (i < p → cntR X i M < M) ∧ (i = p → cntR X i M = M)) := Lib.hid (fun i hi => ⟨cntR_le _ _ _, fun h => cntR_not (by omega) (hp.none i (Nat.zero_le _) h), fun h => by subst h; exact cntR_full hp.good.2⟩)
  have HR : Hid (∀ (w0 : World) (b : Nat), IsMap w0 b X → Tab w0 → Calls Tryd.prog 12 #[.pointer (some ⟨b, 0, none⟩), .int .i64 0, .int .i64 M, .bool true] w0 fun e w' => e = .returned (.tuple #[.int .i64 p, .int .i64 0]) ∧ ∃ q, w' = w0.drewN q) := Lib.hid (by
    intro w0 b hm hT
    refine (run_walk b X 0 M true w0 hm hT (by omega)).mono ?_
    rintro e w' ⟨a, c, rfl, hn, hq⟩
    obtain ⟨rfl, rfl⟩ := hn.uniq r1
    exact ⟨rfl, hq⟩)
  have LX := Lib.hid hX
  have hM1 : (1 : Int) ≤ (M : Int) := by omega
  have hM2 : (M : Int) ≤ 20 := by omega
  have hMr : (1 : Int) + (r : Int) % 20 = (M : Int) := by omega
  have hMr2 : (1 : Int) + (r : Int).tmod 20 = (M : Int) := by rw [Int.tmod_eq_emod_of_nonneg (by omega)]; omega
  have hrI : (r : Int) < 256 := by omega
  have HCN : Hid (∀ (i : Nat) (w0 : World) (b : Nat), i + M ≤ N → IsMap w0 b X → Calls Tryd.prog 14 #[.pointer (some ⟨b, 0, none⟩), .int .i64 i, .int .i64 M] w0 fun e w' => e = .returned (.tuple #[.int .i64 (cntR X i M : Nat), .int .i64 0]) ∧ ∃ q, w' = w0.drewN q) := Lib.hid (fun i w0 b hi hm => countN b i M X w0 hm (by omega))
  clear r1 hX hM hp
  go_enter Tryd.func3, Tryd.ntmps3
  go_wp2_with (first
    | (go_at_call 11; go_must (refine (HMX.out).mono ?_; rintro e w1 ⟨b, a, c, rfl, hM1, -, -, -, hF1⟩; have HM := Lib.hid hM1; have HF := Lib.hid hF1; have HT1 := Lib.hid (HT.out.fr hF1 (fun h => h)); clear hM1 hF1))
    | (go_at_call 12; go_must (refine (HR.out _ _ (by exact HM.out) (by exact HT1.out)).mono ?_; rintro e w' ⟨rfl, q, rfl⟩))
    | (go_at_call 13; go_must (refine (lenm _ N X _ (by exact HM.out) LX.out).mono ?_; rintro e w' ⟨rfl, rfl⟩)))
  clear HMX HR
  go_loopw [12] (fun i wr => ∃ k : Nat, k ≤ p + 1 ∧ i = .int .i64 k ∧ ∃ q, wr = w1.drewN q) (fun i _ => (p + 1 - intOf i).toNat)
  case atStart => exact ⟨0, by omega, rfl, _, rfl⟩
  case round =>
    obtain ⟨k, hk, rfl, q2, rfl⟩ := hrel
    have hk6 : (k : Int) ≤ 601 := by omega
    have hpM : (p : Int) + (M : Int) ≤ (N : Int) := by omega
    have hpM6 : (N : Int) ≤ 600 := by omega
    by_cases hlt : k ≤ p
    · have hcc := HC.out k hlt
      have g1 : (k : Int) ≤ (p : Int) := by omega
      have g2 : (k : Int) + (M : Int) ≤ (N : Int) := by omega
      have HC4 := Lib.hid (HCN.out k (w1.drewN q2) b (by omega) (by exact HM.out))
      generalize cntR X k M = c at *
      have g3 : (c : Int) ≤ (M : Int) := by omega
      by_cases hkp : k = p
      · have g4 : ((c : Int) == (M : Int)) = true := by have := hcc.2.2 hkp; simp; omega
        have g5 : ((k : Int) == (p : Int)) = true := by simp; omega
        clear hcc hkp hlt
        go_wp2_with (first
          | (go_at_call 13; go_must (refine (lenm _ N X _ (by exact HM.out) LX.out).mono ?_; rintro e w' ⟨rfl, rfl⟩))
          | (go_at_call 14; go_must (refine (HC4.out).mono ?_; rintro e w' ⟨rfl, q3, rfl⟩)))
        go_roundw
        case rel => exact ⟨k + 1, by omega, by go_num, _, rfl⟩
        case measure => simp [intOf]; omega
      · have g4 : ((c : Int) == (M : Int)) = false := by have := hcc.2.1 (by omega); simp; omega
        have g5 : ((k : Int) == (p : Int)) = false := by simp; omega
        clear hcc hkp hlt
        go_wp2_with (first
          | (go_at_call 13; go_must (refine (lenm _ N X _ (by exact HM.out) LX.out).mono ?_; rintro e w' ⟨rfl, rfl⟩))
          | (go_at_call 14; go_must (refine (HC4.out).mono ?_; rintro e w' ⟨rfl, q3, rfl⟩)))
        go_roundw
        case rel => exact ⟨k + 1, by omega, by go_num, _, rfl⟩
        case measure => simp [intOf]; omega
    · have g1 : (p : Int) < (k : Int) := by omega
      have g6 : (p : Int) ≤ 600 := by omega
      clear hlt
      go_wp2_with (first
        | (go_at_call 13; go_must (refine (lenm _ N X _ (by exact HM.out) LX.out).mono ?_; rintro e w' ⟨rfl, rfl⟩))
        | (go_at_call 15; go_must (refine (awake_walk _ (by exact HT1.out)).mono ?_; rintro e w2 ⟨rfl, hF2⟩; have HF2 := Lib.hid hF2.of_drewN; clear hF2)))
      go_ret
      exact ⟨rfl, HF.out.trans HF2.out (fun _ _ h => h)⟩

set_option maxRecDepth 100000 in
set_option maxHeartbeats 4000000 in
theorem first_none (n : Nat) (a0 : Option Addr) (bl bc r M N : Nat) (X : List Bool) (w : World) (HT : Hid (Tab w)) (hr : r < 256) (hM : M = 1 + r % 20) (hX : X.length = N) (hN6 : N ≤ 600) (hno : ∀ q, 0 ≤ q → ¬ Good X true M q)
    (HMX : Hid (Calls Tryd.prog 11 #[.int .u16 n, .slice a0 bl bc] w (Got w X))) :
    Calls Tryd.prog 3 #[.int .u16 n, .slice a0 bl bc, .int .u8 r] w fun e w' => e = .returned (.bool true) ∧ Fr (fun _ => False) w w' := by
  have r1 : RunV X true 0 M 0 4 := by
    unfold RunV
    rw [if_pos (by omega), if_neg (by omega)]
    exact Or.inr ⟨by rw [Int.toNat_natCast]; exact fun q _ => hno q (Nat.zero_le _), rfl, rfl⟩
  have HC : Hid (∀ i, i + M ≤ N → cntR X i M < M) := Lib.hid (fun i hi => cntR_not (by omega) (hno i (Nat.zero_le _)))
  have HR : Hid (∀ (w0 : World) (b : Nat), IsMap w0 b X → Tab w0 → Calls Tryd.prog 12 #[.pointer (some ⟨b, 0, none⟩), .int .i64 0, .int .i64 M, .bool true] w0 fun e w' => e = .returned (.tuple #[.int .i64 0, .int .i64 4]) ∧ ∃ q, w' = w0.drewN q) := Lib.hid (by
    intro w0 b hm hT
    refine (run_walk b X 0 M true w0 hm hT (by omega)).mono ?_
    rintro e w' ⟨a, c, rfl, hn, hq⟩
    obtain ⟨rfl, rfl⟩ := hn.uniq r1
    exact ⟨rfl, hq⟩)
  have LX := Lib.hid hX
  have hM1 : (1 : Int) ≤ (M : Int) := by omega
  have hM2 : (M : Int) ≤ 20 := by omega
  have hMr : (1 : Int) + (r : Int) % 20 = (M : Int) := by omega
  have hMr2 : (1 : Int) + (r : Int).tmod 20 = (M : Int) := by rw [Int.tmod_eq_emod_of_nonneg (by omega)]; omega
  have hrI : (r : Int) < 256 := by omega
  have HCN : Hid (∀ (i : Nat) (w0 : World) (b : Nat), i + M ≤ N → IsMap w0 b X → Calls Tryd.prog 14 #[.pointer (some ⟨b, 0, none⟩), .int .i64 i, .int .i64 M] w0 fun e w' => e = .returned (.tuple #[.int .i64 (cntR X i M : Nat), .int .i64 0]) ∧ ∃ q, w' = w0.drewN q) := Lib.hid (fun i w0 b hi hm => countN b i M X w0 hm (by omega))
  clear r1 hX hM hno
  go_enter Tryd.func3, Tryd.ntmps3
  go_wp2_with (first
    | (go_at_call 11; go_must (refine (HMX.out).mono ?_; rintro e w1 ⟨b, a, c, rfl, hM1, -, -, -, hF1⟩; have HM := Lib.hid hM1; have HF := Lib.hid hF1; have HT1 := Lib.hid (HT.out.fr hF1 (fun h => h)); clear hM1 hF1))
    | (go_at_call 12; go_must (refine (HR.out _ _ (by exact HM.out) (by exact HT1.out)).mono ?_; rintro e w' ⟨rfl, q, rfl⟩))
    | (go_at_call 13; go_must (refine (lenm _ N X _ (by exact HM.out) LX.out).mono ?_; rintro e w' ⟨rfl, rfl⟩)))
  clear HMX HR
  go_loopw [12] (fun i wr => ∃ k : Nat, k ≤ N ∧ i = .int .i64 k ∧ ∃ q, wr = w1.drewN q) (fun i _ => (N - intOf i).toNat)
  case atStart => exact ⟨0, by omega, rfl, _, rfl⟩
  case round =>
    obtain ⟨k, hk, rfl, q2, rfl⟩ := hrel
    have hk6 : (k : Int) ≤ 600 := by omega
    have hkN : (k : Int) ≤ (N : Int) := by omega
    have hpM6 : (N : Int) ≤ 600 := by omega
    by_cases hlt : k + M ≤ N
    · have hcc := HC.out k hlt
      have g2 : (k : Int) + (M : Int) ≤ (N : Int) := by omega
      have HC4 := Lib.hid (HCN.out k (w1.drewN q2) b (by omega) (by exact HM.out))
      generalize cntR X k M = c at *
      have g4 : ((c : Int) == (M : Int)) = false := by simp; omega
      have g5 : ((k : Int) == (N : Int)) = false := by simp; omega
      have hk1 : k + 1 ≤ N := by omega
      clear hcc hlt
      go_wp2_with (first
        | (go_at_call 13; go_must (refine (lenm _ N X _ (by exact HM.out) LX.out).mono ?_; rintro e w' ⟨rfl, rfl⟩))
        | (go_at_call 14; go_must (refine (HC4.out).mono ?_; rintro e w' ⟨rfl, q3, rfl⟩)))
      go_roundw
      case rel => exact ⟨k + 1, hk1, by go_num, _, rfl⟩
      case measure => simp [intOf]; omega
    · have g1 : (N : Int) < (k : Int) + (M : Int) := by omega
      clear hlt
      go_wp2_with (first
        | (go_at_call 13; go_must (refine (lenm _ N X _ (by exact HM.out) LX.out).mono ?_; rintro e w' ⟨rfl, rfl⟩))
        | (go_at_call 15; go_must (refine (awake_walk _ (by exact HT1.out)).mono ?_; rintro e w2 ⟨rfl, hF2⟩; have HF2 := Lib.hid hF2.of_drewN; clear hF2)))
      go_ret
      exact ⟨rfl, HF.out.trans HF2.out (fun _ _ h => h)⟩

theorem first_walk (n r : Nat) (a0 : Option Addr) (bs : List Nat) (bc : Nat) (w : World) (hT : Tab w) (hn : n < 65536) (hr : r < 256) (hA : ArgW w a0 bs) (h1 : bs.length ≤ 9223372036854775807) :
    Calls Tryd.prog 3 #[.int .u16 n, .slice a0 bs.length bc, .int .u8 r] w fun e w' => e = .returned (.bool true) ∧ Fr (fun _ => False) w w' := by
  have hl := madeL_length n bs
  by_cases h : ∃ p, IsRun (madeL n bs) true (1 + r % 20) 0 p
  · obtain ⟨p, hp⟩ := h
    exact first_found n a0 bs.length bc r _ (n % 601) (madeL n bs) w (Lib.hid hT) hr rfl hl (by omega) p hp (Lib.hid (madeW n bc a0 bs w hn hA h1))
  · refine first_none n a0 bs.length bc r _ (n % 601) (madeL n bs) w (Lib.hid hT) hr rfl hl (by omega) (fun q _ hq => ?_) (Lib.hid (madeW n bc a0 bs w hn hA h1))
    have key : ∀ q, Good (madeL n bs) true (1 + r % 20) q → False := by
      intro q
      induction q using Nat.strongRecOn with
      | ind q ih => exact fun hq => h ⟨q, Nat.zero_le _, hq, fun q' _ hq' hg => ih q' hq' hg⟩
    exact key q hq
end Go.Proofs.YtbnjeglbbadcbaaDoor
