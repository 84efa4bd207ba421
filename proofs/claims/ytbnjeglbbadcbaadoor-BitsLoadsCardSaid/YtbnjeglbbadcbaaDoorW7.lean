/- Walks over package bits: Run. -/
import Derived.Test.YtbnjeglbbadcbaaDoorW6
import Derived.WalkMore
namespace Go.Proofs.YtbnjeglbbadcbaaDoor
open Go.RowKit
open BM
set_option linter.unusedVariables false

/-- the range p, n is in the map, and all of its bits are v -/
def Good (l : List Bool) (v : Bool) (n p : Nat) : Prop := p + n ≤ l.length ∧ ∀ q, p ≤ q → q < p + n → bt l q = v
/-- the first place from fr on -/
structure IsRun (l : List Bool) (v : Bool) (n fr p : Nat) : Prop where
  ge : fr ≤ p
  good : Good l v n p
  none : ∀ q, fr ≤ q → q < p → ¬ Good l v n q
/-- what Run returns -/
def RunV (l : List Bool) (v : Bool) (fr n : Int) (a e : Int) : Prop :=
  if 0 ≤ fr ∧ fr ≤ l.length then
    if n < 1 then a = 0 ∧ e = 2 else (∃ p, IsRun l v n.toNat fr.toNat p ∧ a = p ∧ e = 0) ∨ ((∀ q, fr.toNat ≤ q → ¬ Good l v n.toNat q) ∧ a = 0 ∧ e = 4)
  else a = 0 ∧ e = 7

theorem run_skip {l : List Bool} {v : Bool} {n fr i k p : Nat} (hn : 1 ≤ n) (hk1 : i ≤ k) (hk2 : k < i + n) (hk3 : k < l.length) (hb : bt l k = !v) (hnx : IsNext l v k p) (h : ∀ q, fr ≤ q → q < i → ¬ Good l v n q) :
    k < p ∧ (∀ q, fr ≤ q → q < p → ¬ Good l v n q) := by
  have hkp : k < p := by
    rcases Nat.lt_or_ge k p with h1 | h1
    · exact h1
    · have e : p = k := Nat.le_antisymm h1 hnx.ge
      subst e
      rw [hnx.has hk3] at hb; cases v <;> cases hb
  refine ⟨hkp, ?_⟩
  intro q h1 h2 hg
  by_cases h3 : q < i
  · exact h q h1 h3 hg
  · by_cases h4 : q ≤ k
    · have := hg.2 k h4 (by omega)
      rw [hb] at this; cases v <;> cases this
    · have := hg.2 q (Nat.le_refl _) (by omega)
      rw [hnx.none q (by omega) h2] at this; cases v <;> cases this
set_option maxRecDepth 100000 in
set_option maxHeartbeats 1000000 in
theorem mrun_in (b : Nat) (l : List Bool) (fr n : Nat) (v : Bool) (w : World) (hm : IsMap w b l) (hT : Tab w) (hfr : fr ≤ l.length) (hn : 1 ≤ n) (hn2 : n ≤ 9223372036854775807) :
    Calls Tryd.prog 12 #[.pointer (some ⟨b, 0, none⟩), .int .i64 fr, .int .i64 n, .bool v] w fun e w' => ∃ a c : Int, e = .returned (.tuple #[.int .i64 a, .int .i64 c]) ∧ RunV l v fr n a c ∧ ∃ q, w' = w.drewN q := by
  have hl := hm.2
  have hI := in_walk b l.length fr 0 w hm.2 hm.1.made hm.1.len
  rw [show inE l.length fr 0 = 0 by unfold inE; rw [if_pos (by omega)]] at hI
  have HI := Lib.hid hI
  have HM := Lib.hid hm
  have HT := Lib.hid hT
  have cn := hm.1.len
  clear hI hm hT
  go_enter Tryd.func12, Tryd.ntmps12
  go_wp2_with fail
  go_step3
  go_wp2_with (go_at_call 39; refine (HI.out).mono ?_; rintro e w' ⟨rfl, rfl⟩)
  go_step3
  go_wp2_with fail
  refine (next0_walk b l fr v _ HM.out HT.out hfr).mono ?_
  rintro e w' ⟨p0, q0, rfl, hp0, rfl⟩
  have HP0 := Lib.hid hp0
  clear hp0
  go_wp2_with fail
  go_loopw [11] (fun i wr => ∃ p q : Nat, i = .int .i64 p ∧ fr ≤ p ∧ p ≤ l.length ∧ Hid (∀ q, fr ≤ q → q < p → ¬ Good l v n q) ∧ wr = w.drewN q) (fun i _ => (l.length - intOf i).toNat)
  case atStart => exact ⟨p0, q0, rfl, HP0.out.ge, HP0.out.le, Lib.hid (fun q h1 h2 hg => by have := hg.2 q (Nat.le_refl _) (by omega); rw [HP0.out.none q h1 h2] at this; cases v <;> cases this), rfl⟩
  case round =>
    obtain ⟨p, q, rfl, hp1, hp2, hN, rfl⟩ := hrel
    by_cases hlt : n ≤ l.length - p
    · have g0 : (n : Int) ≤ (l.length : Int) - (p : Int) := by omega
      go_wp2_with fail
      go_loopw [11, 12] (fun i i2 wr => ∃ k : Nat, i = .int .i64 p ∧ i2 = .int .i64 k ∧ p ≤ k ∧ k ≤ p + n ∧ Hid (∀ q, p ≤ q → q < k → bt l q = v) ∧ wr = w.drewN q) (fun _ i _ => (p + n - intOf i).toNat)
      case atStart => exact ⟨p, rfl, rfl, by omega, by omega, Lib.hid (fun q h1 h2 => by omega), rfl⟩
      case round =>
        obtain ⟨k, rfl, rfl, hk1, hk2, hK, rfl⟩ := hrel
        by_cases hlt2 : k < p + n
        · have g1 : (k : Int) < (p : Int) + (n : Int) := by omega
          have hA := at_walk b k _ (w.drewN q) (by omega) (word_lt l _) (HM.out.1.word (i := k / 64) (by omega))
          rw [word_bt] at hA
          have HA := Lib.hid hA
          clear hA
          by_cases hv : bt l k = v
          · have HV := Lib.hid hv
            clear hv
            go_wp2_with fail
            refine (HA.out).mono ?_
            rintro e w' ⟨rfl, rfl⟩
            rw [HV.out]
            cases v
            all_goals
              go_wp2_with fail
              go_roundw
              case rel => exact ⟨k + 1, rfl, by go_num, by omega, by omega, Lib.hid (fun q h1 h2 => by
                by_cases e : q < k
                · exact hK.out q h1 e
                · rw [show q = k by omega]; exact HV.out), by trivial⟩
              case measure => simp [intOf]; omega
          · have hv' : bt l k = !v := by revert hv; cases v <;> cases bt l k <;> simp
            have HV := Lib.hid hv'
            clear hv hv'
            go_wp2_with fail
            refine (HA.out).mono ?_
            rintro e w' ⟨rfl, rfl⟩
            rw [HV.out]
            cases v
            all_goals
              go_wp2_with fail
              refine (next0_walk b l k _ (w.drewN q) HM.out HT.out (by omega)).mono ?_
              rintro e w' ⟨p1, q1, rfl, hp1', rfl⟩
              obtain ⟨hs1, hs2⟩ := run_skip hn hk1 hlt2 (by omega) HV.out hp1' hN.out
              have hle := hp1'.le
              have HS2 := Lib.hid hs2
              clear hs2 hp1'
              go_wp2_with fail
              go_roundw
              case rel => exact ⟨p1, q + q1, rfl, by omega, hle, HS2, by simp [World.drewN]⟩
              case measure => simp [intOf]; omega
        · obtain rfl : k = p + n := by omega
          go_wp2_with fail
          rw [Exit.noGoto_ret]
          go_ret2
          refine ⟨_, _, rfl, ?_, _, rfl⟩
          unfold RunV
          rw [if_pos (by omega), if_neg (by omega)]
          exact .inl ⟨p, ⟨hp1, ⟨by simp only [Int.toNat_natCast]; omega, hK.out⟩, hN.out⟩, rfl, rfl⟩
    · have g0 : ¬ (n : Int) ≤ (l.length : Int) - (p : Int) := by omega
      go_wp2_with fail
      go_ret2
      refine ⟨_, _, rfl, ?_, _, rfl⟩
      unfold RunV
      rw [if_pos (by omega), if_neg (by omega)]
      refine .inr ⟨?_, rfl, rfl⟩
      intro q1 h1 hg
      by_cases h2 : q1 < p
      · exact hN.out q1 h1 h2 hg
      · have := hg.1
        simp only [Int.toNat_natCast] at this
        omega
set_option maxRecDepth 100000 in
theorem run_arg (b : Nat) (l : List Bool) (fr : Nat) (n : Int) (v : Bool) (w : World) (hm : IsMap w b l) (hfr : fr ≤ l.length) (hn : n < 1) :
    Calls Tryd.prog 12 #[.pointer (some ⟨b, 0, none⟩), .int .i64 fr, .int .i64 n, .bool v] w fun e w' => e = .returned (.tuple #[.int .i64 0, .int .i64 2]) ∧ w = w' := by
  have hI := in_walk b l.length fr 0 w hm.2 hm.1.made hm.1.len
  rw [show inE l.length fr 0 = 0 by unfold inE; rw [if_pos (by omega)]] at hI
  have HI := Lib.hid hI
  clear hI hm
  go_enter Tryd.func12, Tryd.ntmps12
  go_wp2_with fail
  go_step3
  go_wp2_with (go_at_call 39; refine (HI.out).mono ?_; rintro e w' ⟨rfl, rfl⟩)
  rw [Exit.noGoto_ret]
  go_ret2
  exact ⟨rfl, rfl⟩
set_option maxRecDepth 100000 in
theorem run_out (b m : Nat) (fr n : Int) (v : Bool) (w : World) (hm4 : m ≤ 4096) (h : ¬ (0 ≤ fr ∧ fr ≤ m)) (h65 : w.cell? ⟨b, 65, none⟩ = some (.bool true)) (h64 : w.cell? ⟨b, 64, none⟩ = some (.int .i64 m)) :
    Calls Tryd.prog 12 #[.pointer (some ⟨b, 0, none⟩), .int .i64 fr, .int .i64 n, .bool v] w fun e w' => e = .returned (.tuple #[.int .i64 0, .int .i64 7]) ∧ w = w' := by
  have hI := in_walk b m fr 0 w hm4 h65 h64
  rw [show inE m fr 0 = 7 by unfold inE; rw [if_neg (by omega)]] at hI
  have HI := Lib.hid hI
  clear hI h
  go_enter Tryd.func12, Tryd.ntmps12
  go_wp2_with fail
  go_step3
  go_wp2_with (go_at_call 39; refine (HI.out).mono ?_; rintro e w' ⟨rfl, rfl⟩)
  rw [Exit.noGoto_ret]
  go_ret2
  exact ⟨rfl, rfl⟩
/-- **Run** -/
theorem run_walk (b : Nat) (l : List Bool) (fr n : Int) (v : Bool) (w : World) (hm : IsMap w b l) (hT : Tab w) (hn2 : n ≤ 9223372036854775807) :
    Calls Tryd.prog 12 #[.pointer (some ⟨b, 0, none⟩), .int .i64 fr, .int .i64 n, .bool v] w fun e w' => ∃ a c : Int, e = .returned (.tuple #[.int .i64 a, .int .i64 c]) ∧ RunV l v fr n a c ∧ ∃ q, w' = w.drewN q := by
  by_cases h : 0 ≤ fr ∧ fr ≤ l.length
  · obtain ⟨F, rfl⟩ := Int.eq_ofNat_of_zero_le h.1
    by_cases h1 : n < 1
    · refine (run_arg b l F n v w hm (by omega) h1).mono ?_
      rintro e w' ⟨rfl, rfl⟩
      exact ⟨_, _, rfl, by unfold RunV; rw [if_pos h, if_pos h1]; exact ⟨rfl, rfl⟩, 0, rfl⟩
    · obtain ⟨N, rfl⟩ := Int.eq_ofNat_of_zero_le (a := n) (by omega)
      exact mrun_in b l F N v w hm hT (by omega) (by omega) (by omega)
  · refine (run_out b _ fr n v w hm.2 h hm.1.made hm.1.len).mono ?_
    rintro e w' ⟨rfl, rfl⟩
    exact ⟨_, _, rfl, by unfold RunV; rw [if_neg h]; exact ⟨rfl, rfl⟩, 0, rfl⟩
end Go.Proofs.YtbnjeglbbadcbaaDoor
