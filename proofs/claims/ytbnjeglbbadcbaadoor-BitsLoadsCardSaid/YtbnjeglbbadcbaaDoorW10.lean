/- Walks over package bits: Same, Not, Bytes. -/
import Derived.Test.YtbnjeglbbadcbaaDoorW9
namespace Go.Proofs.YtbnjeglbbadcbaaDoor
open Go.RowKit
open BM
set_option linter.unusedVariables false

set_option maxRecDepth 100000 in
theorem same_ne (a b m n : Nat) (w : World) (hmn : m ≠ n) (a1 : w.cell? ⟨a, 65, none⟩ = some (.bool true)) (a2 : w.cell? ⟨a, 64, none⟩ = some (.int .i64 m)) (b1 : w.cell? ⟨b, 65, none⟩ = some (.bool true)) (b2 : w.cell? ⟨b, 64, none⟩ = some (.int .i64 n)) :
    Calls Tryd.prog 22 #[.pointer (some ⟨a, 0, none⟩), .pointer (some ⟨b, 0, none⟩)] w fun e w' => e = .returned (.bool false) ∧ ∃ q, w' = w.drewN q := by
  have t1 : ((m : Int) == (n : Int)) = false := by simp; omega
  clear hmn
  go_enter Tryd.func22, Tryd.ntmps22
  go_wp2
  go_quiet ((go_at_call 42; exact Calls.quiet_of_same (ok_any _ true _ (by first | exact a1 | exact b1))))
  go_wp2
  go_ret
  exact ⟨rfl, _, rfl⟩
/-- **Same** -/
theorem same_walk (a b : Nat) (l k : List Bool) (w : World) (ha : IsMap w a l) (hb : IsMap w b k) :
    Calls Tryd.prog 22 #[.pointer (some ⟨a, 0, none⟩), .pointer (some ⟨b, 0, none⟩)] w fun e w' => e = .returned (.bool (decide (l = k))) ∧ ∃ q, w' = w.drewN q := by
  by_cases h : l.length = k.length
  · have hb' := hb.1
    rw [← h] at hb'
    refine (same_eq a b l.length (word l) (word k) w ha.1 hb').mono ?_
    rintro e w' ⟨rfl, hq⟩
    refine ⟨ret_bool ?_, hq⟩
    rw [Bool.eq_iff_iff, eqW_iff, decide_eq_true_eq]
    constructor
    · intro h1
      exact word_inj h ha.2 (fun i hi => h1 i (by omega) (by omega))
    · rintro rfl j _ _; rfl
  · have : ¬ l = k := fun e => h (by rw [e])
    simp only [this, decide_false]
    exact same_ne a b _ _ w h ha.1.made ha.1.len hb.1.made hb.1.len

/-! ### Not -/
theorem ok_walk (b : Nat) (v : Bool) (w : World) (h : w.cell? ⟨b, 65, none⟩ = some (.bool v)) : Calls Tryd.prog 42 #[.pointer (some ⟨b, 0, none⟩)] w fun e w' => e = .returned (.bool v) ∧ w = w' :=
  (ok_any b v w h).mono fun _ _ h => ⟨h.1, h.2.symm⟩
def notW (ws : Nat → Nat) (j : Nat) : Nat := 18446744073709551615 - ws j
set_option maxRecDepth 100000 in
set_option maxHeartbeats 1000000 in
theorem not_in (a m : Nat) (x : Nat → Nat) (w : World) (ha : MapB w a x m true) (hm4 : m ≤ 4096) (hx : ∀ j, x j < 18446744073709551616) :
    Calls Tryd.prog 33 #[.pointer (some ⟨a, 0, none⟩)] w fun e w' => e = .returned (.tuple #[.pointer (some ⟨w.heap.size, 0, none⟩), .int .i64 0]) ∧ MapB w' w.heap.size (trimW (notW x) m) m true ∧ Fr (fun _ => False) w w' := by
  have a1 := ha.made
  have HA := Lib.hid ha
  have HX := Lib.hid hx
  clear ha hx
  go_enter Tryd.func33, Tryd.ntmps33
  go_wp2_with (first | (go_at_call 42; refine (ok_walk a true _ a1).mono ?_; rintro e w' ⟨rfl, rfl⟩) | (refine wpList_load_row rfl 68 _ rfl a rfl 68 (mcells x m true) (0, 0) _ HA.out Tryd.underlying68 rfl (info68 x m true) ?_) | (refine wpList_store_row rfl 68 _ _ rfl _ (mcells x m true) rfl rfl 68 Tryd.zeroCells68 (heap_alloc_last _ _) (info68 x m true) (zero68_size x m true) (mcells_one x m true) ?_; rw [World.setRow_alloc_new]))
  have hM0 : MapB (w.alloc (.cells (mcells x m true) 68)) w.heap.size x m true := MapB.new w x m true
  have hF0 : Fr (fun _ => False) w (w.alloc (.cells (mcells x m true) 68)) := (Fr.refl _ w).alloc _
  generalize w.alloc (.cells (mcells x m true) 68) = W0 at *
  have HM0 := Lib.hid hM0
  have HF0 := Lib.hid hF0
  clear hM0 hF0 a1
  go_loopw [12] (fun i wr => ∃ k : Nat, k ≤ 64 ∧ i = .int .i64 k ∧ MapB wr w.heap.size (fun j => if j < k then notW x j else x j) m true ∧ Fr (fun _ => False) w wr) (fun i _ => (64 - intOf i).toNat)
  case atStart => exact ⟨0, by omega, rfl, HM0.out.congr (fun j _ => by simp), HF0.out⟩
  case round =>
    obtain ⟨k, hk, rfl, hM, hF⟩ := hrel
    by_cases hlt : k < 64
    · have c1 := hM.word hlt
      simp only [Nat.lt_irrefl, if_false] at c1
      have f1 := hM.frozen k
      have g1 : (0 : Int) ≤ (k : Int) := by omega
      have g2 : (k : Int) < 64 := by omega
      have sg : IntKind.u64.signed = false := rfl
      have HT := Lib.hid (not_u64 (x k) (HX.out k))
      go_wp2
      rw [HT.out]
      go_roundw
      case rel => exact ⟨k + 1, by omega, by go_num, (hM.set hlt _).congr (fun j _ => step_upd _ _ _ _ rfl j), hF.setCell (a := ⟨w.heap.size, k, none⟩) (fun h => absurd h (Nat.lt_irrefl _)) _⟩
      case measure => simp [intOf]; omega
    · obtain rfl : k = 64 := by omega
      have hM2 : MapB wr w.heap.size (notW x) m true := hM.congr (fun j hj => by simp [hj])
      have HM2 := Lib.hid hM2
      clear hM hM2
      go_wp2_with (go_at_call 45; refine (trim_walk w.heap.size m (notW x) true _ HM2.out hm4 (fun j _ => by unfold notW; omega)).mono ?_; rintro e w' ⟨rfl, ht1, ht2⟩)
      go_ret2
      exact ⟨rfl, ht1, hF.trans ht2 (fun k h1 h2 => by omega)⟩
theorem word_not (l : List Bool) (hl : l.length ≤ 4096) (k : Nat) (hk : k < 64) : trimW (notW (word l)) l.length k = word (mkL l.length (fun p => !bt l p)) k := by
  have hw := word_lt l k
  have e : notW (word l) k = 2 ^ 64 - (word l k + 1) := by unfold notW; omega
  have hb : ∀ j, j < 64 → (notW (word l) k).testBit j = !bt l (64 * k + j) := by
    intro j hj
    rw [e, Nat.testBit_two_pow_sub_succ hw, word_testBit]
    simp [hj]
  apply eq_word
  · unfold trimW
    split
    · omega
    · split
      · exact Nat.lt_of_le_of_lt Nat.and_le_left (by unfold notW; omega)
      · unfold notW; omega
  · intro j hj
    rw [bt_mkL]
    unfold trimW
    split
    · have : ¬ 64 * k + j < l.length := by omega
      simp [this]
    · split
      · rw [Nat.testBit_and, Nat.testBit_two_pow_sub_one, hb j hj]
        by_cases a : 64 * k + j < l.length
        · have : j < l.length - 64 * k := by omega
          simp [a, this]
        · have : ¬ j < l.length - 64 * k := by omega
          simp [a, this]
      · rw [hb j hj]
        have : 64 * k + j < l.length := by omega
        simp [this]
/-- **Not** -/
theorem not_walk (a : Nat) (l : List Bool) (w : World) (ha : IsMap w a l) :
    Calls Tryd.prog 33 #[.pointer (some ⟨a, 0, none⟩)] w fun e w' => e = .returned (.tuple #[.pointer (some ⟨w.heap.size, 0, none⟩), .int .i64 0]) ∧ IsMap w' w.heap.size (mkL l.length (fun p => !bt l p)) ∧ Fr (fun _ => False) w w' := by
  refine (not_in a l.length (word l) w ha.1 ha.2 (fun j => word_lt l j)).mono ?_
  rintro e w' ⟨rfl, hM, hF⟩
  refine ⟨rfl, ⟨?_, by rw [mkL_length]; exact ha.2⟩, hF⟩
  rw [mkL_length]
  exact hM.congr (fun k hk => word_not l ha.2 k hk)
end Go.Proofs.YtbnjeglbbadcbaaDoor
