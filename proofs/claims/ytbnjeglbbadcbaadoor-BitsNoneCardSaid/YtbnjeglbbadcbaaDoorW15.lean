/- The reference of layer 2: counts and searches. -/
import Derived.Test.YtbnjeglbbadcbaaDoorW14
namespace Go.Proofs.YtbnjeglbbadcbaaDoor
open Go.RowKit
open BM
set_option linter.unusedVariables false

set_option maxRecDepth 100000 in
set_option maxHeartbeats 1000000 in
theorem rcount_in (b c fr n : Nat) (l : List Bool) (w : World) (hb : BoolS w b l) (hl : l.length ≤ 4096) (h : fr + n ≤ l.length) :
    Calls Tryd.prog 53 #[.slice (some ⟨b, 0, none⟩) l.length c, .int .i64 fr, .int .i64 n] w fun e w' => e = .returned (.tuple #[.int .i64 (cntR l fr n), .int .i64 0]) ∧ w = w' := by
  have HB := Lib.hid hb
  have hi := rin_walk (some ⟨b, 0, none⟩) l.length c fr n w hl
  rw [show inB l.length fr n = true from decide_eq_true (by omega)] at hi
  have HI := Lib.hid hi
  clear hb hi
  go_enter Tryd.func53, Tryd.ntmps53
  go_wp2_with (go_at_call 61; refine (HI.out).mono ?_; rintro e w' ⟨rfl, rfl⟩)
  go_loop [8, 9] (fun m i => ∃ k : Nat, k ≤ n ∧ i = .int .i64 ((fr + k : Nat) : Int) ∧ m = .int .i64 (cntR l fr k)) (fun _ i => (fr + n - intOf i).toNat)
  case atStart => exact ⟨0, by omega, rfl, rfl⟩
  case round =>
    obtain ⟨k, hk, rfl, rfl⟩ := hrel
    have hs : cntR l fr k ≤ k := cnt_le _ _
    by_cases hlt : k < n
    · have c1 := HB.out.cell (j := fr + k) (by omega)
      have HS : Hid (cntR l fr (k + 1) = cntR l fr k + if bt l (fr + k) then 1 else 0) := rfl
      cases hv : bt l (fr + k)
      all_goals
        rw [hv] at c1 HS
        clear hv
        go_wp2
        go_round
        case rel => exact ⟨k + 1, by omega, by go_num, by rw [HS.out]; simp⟩
        case measure => simp [intOf]; omega
    · obtain rfl : k = n := by omega
      go_wp2
      go_ret2
      exact ⟨rfl, rfl⟩
set_option maxRecDepth 100000 in
theorem rcount_out (a0 : Option Addr) (m c : Nat) (fr n : Int) (w : World) (hl : m ≤ 4096) (h : ¬ (0 ≤ fr ∧ 0 ≤ n ∧ fr ≤ m ∧ n ≤ m - fr)) :
    Calls Tryd.prog 53 #[.slice a0 m c, .int .i64 fr, .int .i64 n] w fun e w' => e = .returned (.tuple #[.int .i64 0, .int .i64 7]) ∧ w = w' := by
  have hi := rin_walk a0 m c fr n w hl
  rw [show inB m fr n = false from decide_eq_false h] at hi
  have HI := Lib.hid hi
  clear h hi
  go_enter Tryd.func53, Tryd.ntmps53
  go_wp2_with (go_at_call 61; refine (HI.out).mono ?_; rintro e w' ⟨rfl, rfl⟩)
  go_ret2
  exact ⟨rfl, rfl⟩
theorem rcount_walk (b c : Nat) (l : List Bool) (fr n : Int) (w : World) (hb : BoolS w b l) (hl : l.length ≤ 4096) :
    Calls Tryd.prog 53 #[.slice (some ⟨b, 0, none⟩) l.length c, .int .i64 fr, .int .i64 n] w fun e w' => e = .returned (.tuple #[.int .i64 (countV l fr n), .int .i64 (inE l.length fr n)]) ∧ w = w' := by
  by_cases h : 0 ≤ fr ∧ 0 ≤ n ∧ fr ≤ l.length ∧ n ≤ l.length - fr
  · rw [show countV l fr n = cntR l fr.toNat n.toNat by unfold countV; rw [if_pos h], show inE l.length fr n = 0 by unfold inE; rw [if_pos h]]
    obtain ⟨F, rfl⟩ := Int.eq_ofNat_of_zero_le h.1
    obtain ⟨N, rfl⟩ := Int.eq_ofNat_of_zero_le h.2.1
    exact rcount_in b c F N l w hb hl (by omega)
  · rw [show countV l fr n = 0 by unfold countV; rw [if_neg h], show inE l.length fr n = 7 by unfold inE; rw [if_neg h]]
    exact rcount_out _ _ c fr n w hl h

/-! ### Next -/
set_option maxRecDepth 100000 in
set_option maxHeartbeats 1000000 in
theorem rnext_in (b c fr : Nat) (l : List Bool) (v : Bool) (w : World) (hb : BoolS w b l) (hl : l.length ≤ 4096) (h : fr ≤ l.length) :
    Calls Tryd.prog 54 #[.slice (some ⟨b, 0, none⟩) l.length c, .int .i64 fr, .bool v] w fun e w' => (∃ a k : Int, e = .returned (.tuple #[.int .i64 a, .int .i64 k]) ∧ NextV l v fr a k) ∧ w = w' := by
  have HB := Lib.hid hb
  clear hb
  go_enter Tryd.func54, Tryd.ntmps54
  go_wp2
  go_loop [8] (fun i => ∃ k : Nat, fr ≤ k ∧ k ≤ l.length ∧ i = .int .i64 k ∧ Hid (∀ q, fr ≤ q → q < k → bt l q = !v)) (fun i => (l.length - intOf i).toNat)
  case atStart => exact ⟨fr, by omega, by omega, rfl, Lib.hid (fun q h1 h2 => by omega)⟩
  case round =>
    obtain ⟨k, hk1, hk2, rfl, hN⟩ := hrel
    by_cases hlt : k < l.length
    · have c1 := HB.out.cell hlt
      cases hv : bt l k
      all_goals
        rw [hv] at c1
        have HV := Lib.hid hv
        clear hv
        cases v
        all_goals
          go_wp2
          first
          | (go_ret2
             refine ⟨⟨_, _, rfl, ?_⟩, rfl⟩
             unfold NextV
             rw [if_pos (by omega)]
             exact ⟨k, ⟨hk1, hk2, hN.out, fun _ => HV.out⟩, by rw [if_pos hlt]; exact ⟨rfl, rfl⟩⟩)
          | (go_round
             case rel => exact ⟨k + 1, by omega, by omega, by go_num, Lib.hid (fun q h1 h2 => by
               by_cases e : q < k
               · exact hN.out q h1 e
               · rw [show q = k by omega]; exact HV.out)⟩
             case measure => simp [intOf]; omega)
    · obtain rfl : k = l.length := by omega
      go_wp2
      go_ret2
      refine ⟨⟨_, _, rfl, ?_⟩, rfl⟩
      unfold NextV
      rw [if_pos (by omega)]
      exact ⟨l.length, ⟨h, Nat.le_refl _, hN.out, fun h => absurd h (Nat.lt_irrefl _)⟩, by rw [if_neg (Nat.lt_irrefl _)]; exact ⟨rfl, rfl⟩⟩
set_option maxRecDepth 100000 in
theorem rnext_out (a0 : Option Addr) (m c : Nat) (fr : Int) (v : Bool) (w : World) (h : fr < 0 ∨ m < fr) :
    Calls Tryd.prog 54 #[.slice a0 m c, .int .i64 fr, .bool v] w fun e w' => e = .returned (.tuple #[.int .i64 0, .int .i64 7]) ∧ w = w' := by
  by_cases h1 : fr < 0
  · go_enter Tryd.func54, Tryd.ntmps54
    go_wp2
    go_ret2
    exact ⟨rfl, rfl⟩
  · have h2 : (m : Int) < fr := by omega
    clear h
    go_enter Tryd.func54, Tryd.ntmps54
    go_wp2
    go_ret2
    exact ⟨rfl, rfl⟩
theorem rnext_walk (b c : Nat) (l : List Bool) (fr : Int) (v : Bool) (w : World) (hb : BoolS w b l) (hl : l.length ≤ 4096) :
    Calls Tryd.prog 54 #[.slice (some ⟨b, 0, none⟩) l.length c, .int .i64 fr, .bool v] w fun e w' => (∃ a k : Int, e = .returned (.tuple #[.int .i64 a, .int .i64 k]) ∧ NextV l v fr a k) ∧ w = w' := by
  by_cases h : 0 ≤ fr ∧ fr ≤ l.length
  · obtain ⟨F, rfl⟩ := Int.eq_ofNat_of_zero_le h.1
    exact rnext_in b c F l v w hb hl (by omega)
  · refine (rnext_out _ _ c fr v w (by omega)).mono ?_
    rintro e w' ⟨rfl, rfl⟩
    exact ⟨⟨_, _, rfl, by unfold NextV; rw [if_neg h]; exact ⟨rfl, rfl⟩⟩, rfl⟩

/-! ### Last -/
set_option maxRecDepth 100000 in
set_option maxHeartbeats 1000000 in
theorem rlast_in (b c bf : Nat) (l : List Bool) (v : Bool) (w : World) (hb : BoolS w b l) (hl : l.length ≤ 4096) (h : bf ≤ l.length) :
    Calls Tryd.prog 55 #[.slice (some ⟨b, 0, none⟩) l.length c, .int .i64 bf, .bool v] w fun e w' => (∃ a k : Int, e = .returned (.tuple #[.int .i64 a, .int .i64 k]) ∧ LastV l v bf a k) ∧ w = w' := by
  have HB := Lib.hid hb
  clear hb
  go_enter Tryd.func55, Tryd.ntmps55
  go_wp2
  go_loop [8] (fun i => ∃ k : Nat, k ≤ bf ∧ i = .int .i64 ((k : Int) - 1) ∧ Hid (∀ q, k ≤ q → q < bf → bt l q = !v)) (fun i => (intOf i + 1).toNat)
  case atStart => exact ⟨bf, by omega, rfl, Lib.hid (fun q h1 h2 => by omega)⟩
  case round =>
    obtain ⟨k, hk1, rfl, hN⟩ := hrel
    by_cases hlt : 0 < k
    · obtain ⟨j, rfl⟩ : ∃ j, k = j + 1 := ⟨k - 1, by omega⟩
      have ej : ((j + 1 : Nat) : Int) - 1 = (j : Int) := by omega
      rw [ej]
      have c1 := HB.out.cell (j := j) (by omega)
      cases hv : bt l j
      all_goals
        rw [hv] at c1
        have HV := Lib.hid hv
        clear hv
        cases v
        all_goals
          go_wp2
          first
          | (go_ret2
             refine ⟨⟨_, _, rfl, ?_⟩, rfl⟩
             unfold LastV
             rw [if_pos (by omega)]
             exact .inl ⟨j, ⟨by simp only [Int.toNat_natCast]; omega, HV.out, fun q h1 h2 => hN.out q (by omega) h2⟩, rfl, rfl⟩)
          | (go_round
             case rel => exact ⟨j, by omega, rfl, Lib.hid (fun q h1 h2 => by
               by_cases e : j + 1 ≤ q
               · exact hN.out q e h2
               · rw [show q = j by omega]; exact HV.out)⟩
             case measure => simp [intOf])
    · obtain rfl : k = 0 := by omega
      go_wp2
      go_ret2
      refine ⟨⟨_, _, rfl, ?_⟩, rfl⟩
      unfold LastV
      rw [if_pos (by omega)]
      exact .inr ⟨fun q hq => hN.out q (by omega) hq, rfl, rfl⟩
set_option maxRecDepth 100000 in
theorem rlast_out (a0 : Option Addr) (m c : Nat) (fr : Int) (v : Bool) (w : World) (h : fr < 0 ∨ m < fr) :
    Calls Tryd.prog 55 #[.slice a0 m c, .int .i64 fr, .bool v] w fun e w' => e = .returned (.tuple #[.int .i64 0, .int .i64 7]) ∧ w = w' := by
  by_cases h1 : fr < 0
  · go_enter Tryd.func55, Tryd.ntmps55
    go_wp2
    go_ret2
    exact ⟨rfl, rfl⟩
  · have h2 : (m : Int) < fr := by omega
    clear h
    go_enter Tryd.func55, Tryd.ntmps55
    go_wp2
    go_ret2
    exact ⟨rfl, rfl⟩
theorem rlast_walk (b c : Nat) (l : List Bool) (fr : Int) (v : Bool) (w : World) (hb : BoolS w b l) (hl : l.length ≤ 4096) :
    Calls Tryd.prog 55 #[.slice (some ⟨b, 0, none⟩) l.length c, .int .i64 fr, .bool v] w fun e w' => (∃ a k : Int, e = .returned (.tuple #[.int .i64 a, .int .i64 k]) ∧ LastV l v fr a k) ∧ w = w' := by
  by_cases h : 0 ≤ fr ∧ fr ≤ l.length
  · obtain ⟨F, rfl⟩ := Int.eq_ofNat_of_zero_le h.1
    exact rlast_in b c F l v w hb hl (by omega)
  · refine (rlast_out _ _ c fr v w (by omega)).mono ?_
    rintro e w' ⟨rfl, rfl⟩
    exact ⟨⟨_, _, rfl, by unfold LastV; rw [if_neg h]; exact ⟨rfl, rfl⟩⟩, rfl⟩

/-! ### Run -/
set_option maxRecDepth 100000 in
set_option maxHeartbeats 2000000 in
theorem rrun_in (b c fr n : Nat) (l : List Bool) (v : Bool) (w : World) (hb : BoolS w b l) (hl : l.length ≤ 4096) (h : fr ≤ l.length) (hn : 1 ≤ n) (hn2 : n ≤ 9223372036854775807) :
    Calls Tryd.prog 56 #[.slice (some ⟨b, 0, none⟩) l.length c, .int .i64 fr, .int .i64 n, .bool v] w fun e w' => (∃ a k : Int, e = .returned (.tuple #[.int .i64 a, .int .i64 k]) ∧ RunV l v fr n a k) ∧ w = w' := by
  have HB := Lib.hid hb
  clear hb
  go_enter Tryd.func56, Tryd.ntmps56
  go_wp2
  go_loop [10] (fun i => ∃ p : Nat, fr ≤ p ∧ p ≤ l.length + 1 ∧ i = .int .i64 p ∧ Hid (∀ q, fr ≤ q → q < p → ¬ Good l v n q)) (fun i => (l.length + 1 - intOf i).toNat)
  case atStart => exact ⟨fr, by omega, by omega, rfl, Lib.hid (fun q h1 h2 => by omega)⟩
  case round =>
    obtain ⟨p, hp1, hp2, rfl, hN⟩ := hrel
    by_cases hlt : p + n ≤ l.length
    · have g0 : (p : Int) ≤ (l.length : Int) - (n : Int) := by omega
      go_wp2
      go_loop [11, 12] (fun g i => ∃ (k : Nat) (x : Bool), p ≤ k ∧ k ≤ p + n ∧ i = .int .i64 k ∧ g = .bool x ∧ Hid (if x then (∀ q, p ≤ q → q < k → bt l q = v) else (∃ q, p ≤ q ∧ q < k ∧ bt l q = !v))) (fun _ i => (p + n - intOf i).toNat)
      case atStart => exact ⟨p, true, by omega, by omega, rfl, rfl, Lib.hid (by rw [if_pos rfl]; intro q h1 h2; omega)⟩
      case round =>
        obtain ⟨k, x, hk1, hk2, rfl, rfl, hK⟩ := hrel
        by_cases hlt2 : k < p + n
        · have g1 : (k : Int) < (p : Int) + (n : Int) := by omega
          cases x
          · obtain ⟨q0, hq1, hq2, hq3⟩ := hK.out
            have HQ := Lib.hid hq3
            clear hq3
            go_wp2
            go_round
            case rel =>
              have hX : Hid (∀ q, fr ≤ q → q < p + 1 → ¬ Good l v n q) := Lib.hid (fun q h1 h2 hg => by
                by_cases e : q < p
                · exact hN.out q h1 e hg
                · have := hg.2 q0 (by omega) (by omega)
                  rw [HQ.out] at this; cases v <;> cases this)
              (repeat apply Exists.intro); exact ⟨⟨p + 1, by omega, by omega, rfl, hX⟩, rfl, rfl, by go_num⟩
            case measure => simp [intOf]; omega
          · have c1 := HB.out.cell (j := k) (by omega)
            have HK := Lib.hid (show ∀ q, p ≤ q → q < k → bt l q = v from hK.out)
            clear hK
            cases hv : bt l k
            all_goals
              rw [hv] at c1
              have HV := Lib.hid hv
              clear hv
              cases v
              all_goals
                go_wp2
                go_round
                case rel =>
                  first
                  | exact ⟨k + 1, true, by omega, by omega, by go_num, rfl, Lib.hid (by
                      rw [if_pos rfl]
                      intro q h1 h2
                      by_cases e : q < k
                      · exact HK.out q h1 e
                      · rw [show q = k by omega]; exact HV.out)⟩
                  | exact ⟨k + 1, false, by omega, by omega, by go_num, rfl, Lib.hid (by
                      rw [if_neg (by decide)]
                      exact ⟨k, hk1, by omega, HV.out⟩)⟩
                case measure => simp [intOf]; omega
        · obtain rfl : k = p + n := by omega
          cases x
          · obtain ⟨q0, hq1, hq2, hq3⟩ := hK.out
            have HQ := Lib.hid hq3
            clear hq3
            go_wp2
            go_round
            case rel =>
              have hX : Hid (∀ q, fr ≤ q → q < p + 1 → ¬ Good l v n q) := Lib.hid (fun q h1 h2 hg => by
                by_cases e : q < p
                · exact hN.out q h1 e hg
                · have := hg.2 q0 (by omega) (by omega)
                  rw [HQ.out] at this; cases v <;> cases this)
              (repeat apply Exists.intro); exact ⟨⟨p + 1, by omega, by omega, rfl, hX⟩, rfl, rfl, by go_num⟩
            case measure => simp [intOf]; omega
          · have HK := Lib.hid (show ∀ q, p ≤ q → q < p + n → bt l q = v from hK.out)
            clear hK
            go_wp2
            go_ret2
            refine ⟨⟨_, _, rfl, ?_⟩, rfl⟩
            unfold RunV
            rw [if_pos (by omega), if_neg (by omega)]
            exact .inl ⟨p, ⟨hp1, ⟨by simp only [Int.toNat_natCast]; omega, HK.out⟩, hN.out⟩, rfl, rfl⟩
    · have g0 : ¬ (p : Int) ≤ (l.length : Int) - (n : Int) := by omega
      go_wp2
      go_ret2
      refine ⟨⟨_, _, rfl, ?_⟩, rfl⟩
      unfold RunV
      rw [if_pos (by omega), if_neg (by omega)]
      refine .inr ⟨?_, rfl, rfl⟩
      intro q1 h1 hg
      by_cases h2 : q1 < p
      · exact hN.out q1 h1 h2 hg
      · have := hg.1
        simp only [Int.toNat_natCast] at this
        omega
set_option maxRecDepth 100000 in
theorem rrun_out (a0 : Option Addr) (m c : Nat) (fr n : Int) (v : Bool) (w : World) (h : fr < 0 ∨ m < fr) :
    Calls Tryd.prog 56 #[.slice a0 m c, .int .i64 fr, .int .i64 n, .bool v] w fun e w' => e = .returned (.tuple #[.int .i64 0, .int .i64 7]) ∧ w = w' := by
  by_cases h1 : fr < 0
  · go_enter Tryd.func56, Tryd.ntmps56
    go_wp2
    go_ret2
    exact ⟨rfl, rfl⟩
  · have h2 : (m : Int) < fr := by omega
    clear h
    go_enter Tryd.func56, Tryd.ntmps56
    go_wp2
    go_ret2
    exact ⟨rfl, rfl⟩
set_option maxRecDepth 100000 in
theorem rrun_arg (a0 : Option Addr) (m c : Nat) (fr n : Int) (v : Bool) (w : World) (h : 0 ≤ fr ∧ fr ≤ m) (hn : n < 1) :
    Calls Tryd.prog 56 #[.slice a0 m c, .int .i64 fr, .int .i64 n, .bool v] w fun e w' => e = .returned (.tuple #[.int .i64 0, .int .i64 2]) ∧ w = w' := by
  obtain ⟨h1, h2⟩ := h
  go_enter Tryd.func56, Tryd.ntmps56
  go_wp2
  go_ret2
  exact ⟨rfl, rfl⟩
theorem rrun_walk (b c : Nat) (l : List Bool) (fr n : Int) (v : Bool) (w : World) (hb : BoolS w b l) (hl : l.length ≤ 4096) (hn2 : n ≤ 9223372036854775807) :
    Calls Tryd.prog 56 #[.slice (some ⟨b, 0, none⟩) l.length c, .int .i64 fr, .int .i64 n, .bool v] w fun e w' => (∃ a k : Int, e = .returned (.tuple #[.int .i64 a, .int .i64 k]) ∧ RunV l v fr n a k) ∧ w = w' := by
  by_cases h : 0 ≤ fr ∧ fr ≤ l.length
  · by_cases h1 : n < 1
    · refine (rrun_arg _ _ c fr n v w h h1).mono ?_
      rintro e w' ⟨rfl, rfl⟩
      exact ⟨⟨_, _, rfl, by unfold RunV; rw [if_pos h, if_pos h1]; exact ⟨rfl, rfl⟩⟩, rfl⟩
    · obtain ⟨F, rfl⟩ := Int.eq_ofNat_of_zero_le h.1
      obtain ⟨N, rfl⟩ := Int.eq_ofNat_of_zero_le (a := n) (by omega)
      exact rrun_in b c F N l v w hb hl (by omega) (by omega) (by omega)
  · refine (rrun_out _ _ c fr n v w (by omega)).mono ?_
    rintro e w' ⟨rfl, rfl⟩
    exact ⟨⟨_, _, rfl, by unfold RunV; rw [if_neg h]; exact ⟨rfl, rfl⟩⟩, rfl⟩
end Go.Proofs.YtbnjeglbbadcbaaDoor
