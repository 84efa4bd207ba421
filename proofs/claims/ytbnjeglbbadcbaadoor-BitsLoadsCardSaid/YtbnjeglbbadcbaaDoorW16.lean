/- The reference of layer 2: And, Or, Xor, Not, Load; package bits: And, Or, Xor said of lists. -/
import Derived.Test.YtbnjeglbbadcbaaDoorW15
namespace Go.Proofs.YtbnjeglbbadcbaaDoor
open Go.RowKit
open BM
set_option linter.unusedVariables false

def andL (l k : List Bool) : List Bool := mkL l.length (fun p => (bt l p && bt k p))
set_option maxRecDepth 100000 in
set_option maxHeartbeats 2000000 in
theorem both_and (a b c d : Nat) (l k : List Bool) (w : World) (ha : BoolS w a l) (hb : BoolS w b k) (hl : l.length ≤ 4096) (h : k.length = l.length) :
    Calls Tryd.prog 47 #[.slice (some ⟨a, 0, none⟩) l.length c, .slice (some ⟨b, 0, none⟩) l.length d, .int .i64 0] w fun e w' => e = .returned (.tuple #[.slice (some ⟨w.heap.size, 0, none⟩) l.length l.length, .int .i64 0]) ∧ BoolS w' w.heap.size (andL l k) ∧ Fr (fun _ => False) w w' := by
  have HA := Lib.hid ha
  have HB := Lib.hid hb
  have hla := ha.lt
  have hlb := hb.lt
  have HH := Lib.hid h
  clear ha hb h
  have hmk := make_bools l.length (by omega)
  rw [rep_mkL] at hmk
  go_enter Tryd.func47, Tryd.ntmps47
  go_wp2
  have hM0 : BoolS (w.alloc (.cells (lvs (mkL l.length (fun _ => false))).toArray 4)) w.heap.size (mkL l.length (fun _ => false)) := ⟨[], by rw [List.append_nil]; exact RowB.new w 4 _⟩
  have hF0 : Fr (fun _ => False) w (w.alloc (.cells (lvs (mkL l.length (fun _ => false))).toArray 4)) := (Fr.refl _ w).alloc _
  generalize w.alloc (.cells (lvs (mkL l.length (fun _ => false))).toArray 4) = W0 at *
  have HM0 := Lib.hid hM0
  have HF0 := Lib.hid hF0
  clear hM0 hF0 hmk
  go_loopw [9] (fun i wr => ∃ j : Nat, j ≤ l.length ∧ i = .int .i64 j ∧ BoolS wr w.heap.size (mkL l.length (fun p => if p < j then (bt l p && bt k p) else false)) ∧ Fr (fun _ => False) w wr) (fun i _ => (l.length - intOf i).toNat)
  case atStart => exact ⟨0, by omega, rfl, by simpa using HM0.out, HF0.out⟩
  case round =>
    obtain ⟨j, hj, rfl, hR, hF⟩ := hrel
    by_cases hlt : j < l.length
    · have c1 := (HA.out.fr hF (fun h => h)).cell hlt
      have c2 := (HB.out.fr hF (fun h => h)).cell (j := j) (by rw [HH.out]; exact hlt)
      have c3 := hR.cell (j := j) (by rw [mkL_length]; exact hlt)
      have f1 := hR.frozen j
      have HS := hR.set (j := j) (by rw [mkL_length]; exact hlt) (bt l j && bt k j)
      rw [mkL_set] at HS
      rw [mkL_congr (g := fun p => if p < j + 1 then (bt l p && bt k p) else false) (fun p hp => by
        by_cases e : p = j
        · subst e; simp
        · have : (p < j + 1) ↔ (p < j) := by omega
          simp [e, this])] at HS
      have HS := Lib.hid HS
      have HFs := Lib.hid (hF.setCell (a := ⟨w.heap.size, j, none⟩) (fun h => absurd h (Nat.lt_irrefl _)) (.bool (bt l j && bt k j)))
      have g1 : (j : Int) < (l.length : Int) := by omega
      clear hR hF
      cases hv : bt l j
      all_goals
        rw [hv] at c1 HS HFs
        cases hv2 : bt k j
        all_goals
          rw [hv2] at c2 HS HFs
          clear hv hv2
          go_wp2
          go_roundw
          case rel => exact ⟨j + 1, by omega, by go_num, HS.out, HFs.out⟩
          case measure => simp [intOf]; omega
    · obtain rfl : j = l.length := by omega
      go_wp2
      go_ret2
      refine ⟨rfl, ?_, hF⟩
      have : mkL l.length (fun p => if p < l.length then (bt l p && bt k p) else false) = andL l k := mkL_congr (fun p hp => by simp [hp])
      rw [← this]
      exact hR
def orL (l k : List Bool) : List Bool := mkL l.length (fun p => (bt l p || bt k p))
set_option maxRecDepth 100000 in
set_option maxHeartbeats 2000000 in
theorem both_or (a b c d : Nat) (l k : List Bool) (w : World) (ha : BoolS w a l) (hb : BoolS w b k) (hl : l.length ≤ 4096) (h : k.length = l.length) :
    Calls Tryd.prog 47 #[.slice (some ⟨a, 0, none⟩) l.length c, .slice (some ⟨b, 0, none⟩) l.length d, .int .i64 1] w fun e w' => e = .returned (.tuple #[.slice (some ⟨w.heap.size, 0, none⟩) l.length l.length, .int .i64 0]) ∧ BoolS w' w.heap.size (orL l k) ∧ Fr (fun _ => False) w w' := by
  have HA := Lib.hid ha
  have HB := Lib.hid hb
  have hla := ha.lt
  have hlb := hb.lt
  have HH := Lib.hid h
  clear ha hb h
  have hmk := make_bools l.length (by omega)
  rw [rep_mkL] at hmk
  go_enter Tryd.func47, Tryd.ntmps47
  go_wp2
  have hM0 : BoolS (w.alloc (.cells (lvs (mkL l.length (fun _ => false))).toArray 4)) w.heap.size (mkL l.length (fun _ => false)) := ⟨[], by rw [List.append_nil]; exact RowB.new w 4 _⟩
  have hF0 : Fr (fun _ => False) w (w.alloc (.cells (lvs (mkL l.length (fun _ => false))).toArray 4)) := (Fr.refl _ w).alloc _
  generalize w.alloc (.cells (lvs (mkL l.length (fun _ => false))).toArray 4) = W0 at *
  have HM0 := Lib.hid hM0
  have HF0 := Lib.hid hF0
  clear hM0 hF0 hmk
  go_loopw [9] (fun i wr => ∃ j : Nat, j ≤ l.length ∧ i = .int .i64 j ∧ BoolS wr w.heap.size (mkL l.length (fun p => if p < j then (bt l p || bt k p) else false)) ∧ Fr (fun _ => False) w wr) (fun i _ => (l.length - intOf i).toNat)
  case atStart => exact ⟨0, by omega, rfl, by simpa using HM0.out, HF0.out⟩
  case round =>
    obtain ⟨j, hj, rfl, hR, hF⟩ := hrel
    by_cases hlt : j < l.length
    · have c1 := (HA.out.fr hF (fun h => h)).cell hlt
      have c2 := (HB.out.fr hF (fun h => h)).cell (j := j) (by rw [HH.out]; exact hlt)
      have c3 := hR.cell (j := j) (by rw [mkL_length]; exact hlt)
      have f1 := hR.frozen j
      have HS := hR.set (j := j) (by rw [mkL_length]; exact hlt) (bt l j || bt k j)
      rw [mkL_set] at HS
      rw [mkL_congr (g := fun p => if p < j + 1 then (bt l p || bt k p) else false) (fun p hp => by
        by_cases e : p = j
        · subst e; simp
        · have : (p < j + 1) ↔ (p < j) := by omega
          simp [e, this])] at HS
      have HS := Lib.hid HS
      have HFs := Lib.hid (hF.setCell (a := ⟨w.heap.size, j, none⟩) (fun h => absurd h (Nat.lt_irrefl _)) (.bool (bt l j || bt k j)))
      have g1 : (j : Int) < (l.length : Int) := by omega
      clear hR hF
      cases hv : bt l j
      all_goals
        rw [hv] at c1 HS HFs
        cases hv2 : bt k j
        all_goals
          rw [hv2] at c2 HS HFs
          clear hv hv2
          go_wp2
          go_roundw
          case rel => exact ⟨j + 1, by omega, by go_num, HS.out, HFs.out⟩
          case measure => simp [intOf]; omega
    · obtain rfl : j = l.length := by omega
      go_wp2
      go_ret2
      refine ⟨rfl, ?_, hF⟩
      have : mkL l.length (fun p => if p < l.length then (bt l p || bt k p) else false) = orL l k := mkL_congr (fun p hp => by simp [hp])
      rw [← this]
      exact hR
def xorL (l k : List Bool) : List Bool := mkL l.length (fun p => (bt l p != bt k p))
set_option maxRecDepth 100000 in
set_option maxHeartbeats 2000000 in
theorem both_xor (a b c d : Nat) (l k : List Bool) (w : World) (ha : BoolS w a l) (hb : BoolS w b k) (hl : l.length ≤ 4096) (h : k.length = l.length) :
    Calls Tryd.prog 47 #[.slice (some ⟨a, 0, none⟩) l.length c, .slice (some ⟨b, 0, none⟩) l.length d, .int .i64 2] w fun e w' => e = .returned (.tuple #[.slice (some ⟨w.heap.size, 0, none⟩) l.length l.length, .int .i64 0]) ∧ BoolS w' w.heap.size (xorL l k) ∧ Fr (fun _ => False) w w' := by
  have HA := Lib.hid ha
  have HB := Lib.hid hb
  have hla := ha.lt
  have hlb := hb.lt
  have HH := Lib.hid h
  clear ha hb h
  have hmk := make_bools l.length (by omega)
  rw [rep_mkL] at hmk
  go_enter Tryd.func47, Tryd.ntmps47
  go_wp2
  have hM0 : BoolS (w.alloc (.cells (lvs (mkL l.length (fun _ => false))).toArray 4)) w.heap.size (mkL l.length (fun _ => false)) := ⟨[], by rw [List.append_nil]; exact RowB.new w 4 _⟩
  have hF0 : Fr (fun _ => False) w (w.alloc (.cells (lvs (mkL l.length (fun _ => false))).toArray 4)) := (Fr.refl _ w).alloc _
  generalize w.alloc (.cells (lvs (mkL l.length (fun _ => false))).toArray 4) = W0 at *
  have HM0 := Lib.hid hM0
  have HF0 := Lib.hid hF0
  clear hM0 hF0 hmk
  go_loopw [9] (fun i wr => ∃ j : Nat, j ≤ l.length ∧ i = .int .i64 j ∧ BoolS wr w.heap.size (mkL l.length (fun p => if p < j then (bt l p != bt k p) else false)) ∧ Fr (fun _ => False) w wr) (fun i _ => (l.length - intOf i).toNat)
  case atStart => exact ⟨0, by omega, rfl, by simpa using HM0.out, HF0.out⟩
  case round =>
    obtain ⟨j, hj, rfl, hR, hF⟩ := hrel
    by_cases hlt : j < l.length
    · have c1 := (HA.out.fr hF (fun h => h)).cell hlt
      have c2 := (HB.out.fr hF (fun h => h)).cell (j := j) (by rw [HH.out]; exact hlt)
      have c3 := hR.cell (j := j) (by rw [mkL_length]; exact hlt)
      have f1 := hR.frozen j
      have HS := hR.set (j := j) (by rw [mkL_length]; exact hlt) (bt l j != bt k j)
      rw [mkL_set] at HS
      rw [mkL_congr (g := fun p => if p < j + 1 then (bt l p != bt k p) else false) (fun p hp => by
        by_cases e : p = j
        · subst e; simp
        · have : (p < j + 1) ↔ (p < j) := by omega
          simp [e, this])] at HS
      have HS := Lib.hid HS
      have HFs := Lib.hid (hF.setCell (a := ⟨w.heap.size, j, none⟩) (fun h => absurd h (Nat.lt_irrefl _)) (.bool (bt l j != bt k j)))
      have g1 : (j : Int) < (l.length : Int) := by omega
      clear hR hF
      cases hv : bt l j
      all_goals
        rw [hv] at c1 HS HFs
        cases hv2 : bt k j
        all_goals
          rw [hv2] at c2 HS HFs
          clear hv hv2
          go_wp2
          go_region
          go_wp2
          go_roundw
          case rel => exact ⟨j + 1, by omega, by go_num, HS.out, HFs.out.drew⟩
          case measure => simp [intOf]; omega
    · obtain rfl : j = l.length := by omega
      go_wp2
      go_ret2
      refine ⟨rfl, ?_, hF⟩
      have : mkL l.length (fun p => if p < l.length then (bt l p != bt k p) else false) = xorL l k := mkL_congr (fun p hp => by simp [hp])
      rw [← this]
      exact hR

set_option maxRecDepth 100000 in
theorem both_ne (a0 b0 : Option Addr) (m n c d : Nat) (how : Int) (w : World) (h : m ≠ n) :
    Calls Tryd.prog 47 #[.slice a0 m c, .slice b0 n d, .int .i64 how] w fun e w' => e = .returned (.tuple #[.slice none 0 0, .int .i64 2]) ∧ w = w' := by
  have t1 : ((m : Int) != (n : Int)) = true := by simp; omega
  have t2 : ((m : Int) == (n : Int)) = false := by simp; omega
  clear h
  go_enter Tryd.func47, Tryd.ntmps47
  go_wp2
  go_ret2
  exact ⟨rfl, rfl⟩

/-- what is left behind the reference's call -/
theorem rand_in (a b c d : Nat) (l k : List Bool) (w : World) (ha : BoolS w a l) (hb : BoolS w b k) (hl : l.length ≤ 4096) (h : k.length = l.length) :
    Calls Tryd.prog 26 #[.slice (some ⟨a, 0, none⟩) l.length c, .slice (some ⟨b, 0, none⟩) k.length d] w fun e w' => e = .returned (.tuple #[.slice (some ⟨w.heap.size, 0, none⟩) l.length l.length, .int .i64 0]) ∧ BoolS w' w.heap.size (andL l k) ∧ Fr (fun _ => False) w w' := by
  have HC := Lib.hid (both_and a b c d l k w ha hb hl h)
  rw [h]
  clear ha hb hl h
  go_enter Tryd.func26, Tryd.ntmps26
  go_wp2_with (go_at_call 47; refine (HC.out).mono ?_; rintro e w' ⟨rfl, hq⟩)
  go_ret2
  exact ⟨rfl, hq⟩
theorem rand_ne (a0 b0 : Option Addr) (m n c d : Nat) (w : World) (h : m ≠ n) :
    Calls Tryd.prog 26 #[.slice a0 m c, .slice b0 n d] w fun e w' => e = .returned (.tuple #[.slice none 0 0, .int .i64 2]) ∧ w = w' := by
  have HC := Lib.hid (both_ne a0 b0 m n c d 0 w h)
  clear h
  go_enter Tryd.func26, Tryd.ntmps26
  go_wp2_with (go_at_call 47; refine (HC.out).mono ?_; rintro e w' ⟨rfl, rfl⟩)
  go_ret2
  exact ⟨rfl, rfl⟩
theorem and_ne (a b : Nat) (l k : List Bool) (w : World) (ha : IsMap w a l) (hb : IsMap w b k) (h : l.length ≠ k.length) :
    Calls Tryd.prog 23 #[.pointer (some ⟨a, 0, none⟩), .pointer (some ⟨b, 0, none⟩)] w fun e w' => e = .returned (.tuple #[.pointer none, .int .i64 2]) ∧ Fr (fun _ => False) w w' := by
  have hp := pair_walk a b l.length k.length w ha.1.made ha.1.len hb.1.made hb.1.len
  rw [if_neg h] at hp
  have HP := Lib.hid hp
  clear hp ha hb h
  go_enter Tryd.func23, Tryd.ntmps23
  go_wp2_with (go_at_call 46; refine (HP.out).mono ?_; rintro e w' ⟨rfl, q, rfl⟩)
  go_ret2
  exact ⟨rfl, (Fr.refl _ w).drewN q⟩
theorem word_and (l k : List Bool) (h : l.length = k.length) (i : Nat) : andW (word l) (word k) i = word (andL l k) i := by
  unfold andW
  apply eq_word
  · exact Nat.lt_of_le_of_lt Nat.and_le_left (word_lt l i)
  · intro j hj
    unfold andL
    rw [Nat.testBit_and, word_testBit, word_testBit, bt_mkL]
    by_cases hp : 64 * i + j < l.length
    · simp [hp, hj]
    · rw [bt_out (l := l) (by omega), bt_out (l := k) (by omega)]
      simp
theorem and_maps (a b : Nat) (l k : List Bool) (w : World) (ha : IsMap w a l) (hb : IsMap w b k) (h : l.length = k.length) :
    Calls Tryd.prog 23 #[.pointer (some ⟨a, 0, none⟩), .pointer (some ⟨b, 0, none⟩)] w fun e w' => e = .returned (.tuple #[.pointer (some ⟨w.heap.size, 0, none⟩), .int .i64 0]) ∧ IsMap w' w.heap.size (andL l k) ∧ Fr (fun _ => False) w w' := by
  have hb' := hb.1
  rw [← h] at hb'
  refine (and_in a b l.length (word l) (word k) w ha.1 hb' (fun j => word_lt l j) (fun j => word_lt k j)).mono ?_
  rintro e w' ⟨rfl, hM, hF⟩
  have e : (andL l k).length = l.length := mkL_length _ _
  refine ⟨rfl, ⟨?_, by rw [e]; exact ha.2⟩, hF⟩
  rw [e]
  exact hM.congr (fun i _ => word_and l k h i)

/-- what is left behind the reference's call -/
theorem ror_in (a b c d : Nat) (l k : List Bool) (w : World) (ha : BoolS w a l) (hb : BoolS w b k) (hl : l.length ≤ 4096) (h : k.length = l.length) :
    Calls Tryd.prog 27 #[.slice (some ⟨a, 0, none⟩) l.length c, .slice (some ⟨b, 0, none⟩) k.length d] w fun e w' => e = .returned (.tuple #[.slice (some ⟨w.heap.size, 0, none⟩) l.length l.length, .int .i64 0]) ∧ BoolS w' w.heap.size (orL l k) ∧ Fr (fun _ => False) w w' := by
  have HC := Lib.hid (both_or a b c d l k w ha hb hl h)
  rw [h]
  clear ha hb hl h
  go_enter Tryd.func27, Tryd.ntmps27
  go_wp2_with (go_at_call 47; refine (HC.out).mono ?_; rintro e w' ⟨rfl, hq⟩)
  go_ret2
  exact ⟨rfl, hq⟩
theorem ror_ne (a0 b0 : Option Addr) (m n c d : Nat) (w : World) (h : m ≠ n) :
    Calls Tryd.prog 27 #[.slice a0 m c, .slice b0 n d] w fun e w' => e = .returned (.tuple #[.slice none 0 0, .int .i64 2]) ∧ w = w' := by
  have HC := Lib.hid (both_ne a0 b0 m n c d 1 w h)
  clear h
  go_enter Tryd.func27, Tryd.ntmps27
  go_wp2_with (go_at_call 47; refine (HC.out).mono ?_; rintro e w' ⟨rfl, rfl⟩)
  go_ret2
  exact ⟨rfl, rfl⟩
theorem or_ne (a b : Nat) (l k : List Bool) (w : World) (ha : IsMap w a l) (hb : IsMap w b k) (h : l.length ≠ k.length) :
    Calls Tryd.prog 24 #[.pointer (some ⟨a, 0, none⟩), .pointer (some ⟨b, 0, none⟩)] w fun e w' => e = .returned (.tuple #[.pointer none, .int .i64 2]) ∧ Fr (fun _ => False) w w' := by
  have hp := pair_walk a b l.length k.length w ha.1.made ha.1.len hb.1.made hb.1.len
  rw [if_neg h] at hp
  have HP := Lib.hid hp
  clear hp ha hb h
  go_enter Tryd.func24, Tryd.ntmps24
  go_wp2_with (go_at_call 46; refine (HP.out).mono ?_; rintro e w' ⟨rfl, q, rfl⟩)
  go_ret2
  exact ⟨rfl, (Fr.refl _ w).drewN q⟩
theorem word_or (l k : List Bool) (h : l.length = k.length) (i : Nat) : orW (word l) (word k) i = word (orL l k) i := by
  unfold orW
  apply eq_word
  · exact Nat.or_lt_two_pow (n := 64) (word_lt l i) (word_lt k i)
  · intro j hj
    unfold orL
    rw [Nat.testBit_or, word_testBit, word_testBit, bt_mkL]
    by_cases hp : 64 * i + j < l.length
    · simp [hp, hj]
    · rw [bt_out (l := l) (by omega), bt_out (l := k) (by omega)]
      simp
theorem or_maps (a b : Nat) (l k : List Bool) (w : World) (ha : IsMap w a l) (hb : IsMap w b k) (h : l.length = k.length) :
    Calls Tryd.prog 24 #[.pointer (some ⟨a, 0, none⟩), .pointer (some ⟨b, 0, none⟩)] w fun e w' => e = .returned (.tuple #[.pointer (some ⟨w.heap.size, 0, none⟩), .int .i64 0]) ∧ IsMap w' w.heap.size (orL l k) ∧ Fr (fun _ => False) w w' := by
  have hb' := hb.1
  rw [← h] at hb'
  refine (or_in a b l.length (word l) (word k) w ha.1 hb' (fun j => word_lt l j) (fun j => word_lt k j)).mono ?_
  rintro e w' ⟨rfl, hM, hF⟩
  have e : (orL l k).length = l.length := mkL_length _ _
  refine ⟨rfl, ⟨?_, by rw [e]; exact ha.2⟩, hF⟩
  rw [e]
  exact hM.congr (fun i _ => word_or l k h i)

/-- what is left behind the reference's call -/
theorem rxor_in (a b c d : Nat) (l k : List Bool) (w : World) (ha : BoolS w a l) (hb : BoolS w b k) (hl : l.length ≤ 4096) (h : k.length = l.length) :
    Calls Tryd.prog 28 #[.slice (some ⟨a, 0, none⟩) l.length c, .slice (some ⟨b, 0, none⟩) k.length d] w fun e w' => e = .returned (.tuple #[.slice (some ⟨w.heap.size, 0, none⟩) l.length l.length, .int .i64 0]) ∧ BoolS w' w.heap.size (xorL l k) ∧ Fr (fun _ => False) w w' := by
  have HC := Lib.hid (both_xor a b c d l k w ha hb hl h)
  rw [h]
  clear ha hb hl h
  go_enter Tryd.func28, Tryd.ntmps28
  go_wp2_with (go_at_call 47; refine (HC.out).mono ?_; rintro e w' ⟨rfl, hq⟩)
  go_ret2
  exact ⟨rfl, hq⟩
theorem rxor_ne (a0 b0 : Option Addr) (m n c d : Nat) (w : World) (h : m ≠ n) :
    Calls Tryd.prog 28 #[.slice a0 m c, .slice b0 n d] w fun e w' => e = .returned (.tuple #[.slice none 0 0, .int .i64 2]) ∧ w = w' := by
  have HC := Lib.hid (both_ne a0 b0 m n c d 2 w h)
  clear h
  go_enter Tryd.func28, Tryd.ntmps28
  go_wp2_with (go_at_call 47; refine (HC.out).mono ?_; rintro e w' ⟨rfl, rfl⟩)
  go_ret2
  exact ⟨rfl, rfl⟩
theorem xor_ne (a b : Nat) (l k : List Bool) (w : World) (ha : IsMap w a l) (hb : IsMap w b k) (h : l.length ≠ k.length) :
    Calls Tryd.prog 25 #[.pointer (some ⟨a, 0, none⟩), .pointer (some ⟨b, 0, none⟩)] w fun e w' => e = .returned (.tuple #[.pointer none, .int .i64 2]) ∧ Fr (fun _ => False) w w' := by
  have hp := pair_walk a b l.length k.length w ha.1.made ha.1.len hb.1.made hb.1.len
  rw [if_neg h] at hp
  have HP := Lib.hid hp
  clear hp ha hb h
  go_enter Tryd.func25, Tryd.ntmps25
  go_wp2_with (go_at_call 46; refine (HP.out).mono ?_; rintro e w' ⟨rfl, q, rfl⟩)
  go_ret2
  exact ⟨rfl, (Fr.refl _ w).drewN q⟩
theorem word_xor (l k : List Bool) (h : l.length = k.length) (i : Nat) : xorW (word l) (word k) i = word (xorL l k) i := by
  unfold xorW
  apply eq_word
  · exact Nat.xor_lt_two_pow (n := 64) (word_lt l i) (word_lt k i)
  · intro j hj
    unfold xorL
    rw [Nat.testBit_xor, word_testBit, word_testBit, bt_mkL]
    by_cases hp : 64 * i + j < l.length
    · simp [hp, hj]
    · rw [bt_out (l := l) (by omega), bt_out (l := k) (by omega)]
      simp
theorem xor_maps (a b : Nat) (l k : List Bool) (w : World) (ha : IsMap w a l) (hb : IsMap w b k) (h : l.length = k.length) :
    Calls Tryd.prog 25 #[.pointer (some ⟨a, 0, none⟩), .pointer (some ⟨b, 0, none⟩)] w fun e w' => e = .returned (.tuple #[.pointer (some ⟨w.heap.size, 0, none⟩), .int .i64 0]) ∧ IsMap w' w.heap.size (xorL l k) ∧ Fr (fun _ => False) w w' := by
  have hb' := hb.1
  rw [← h] at hb'
  refine (xor_in a b l.length (word l) (word k) w ha.1 hb' (fun j => word_lt l j) (fun j => word_lt k j)).mono ?_
  rintro e w' ⟨rfl, hM, hF⟩
  have e : (xorL l k).length = l.length := mkL_length _ _
  refine ⟨rfl, ⟨?_, by rw [e]; exact ha.2⟩, hF⟩
  rw [e]
  exact hM.congr (fun i _ => word_xor l k h i)

/-! ### Not -/
set_option maxRecDepth 100000 in
set_option maxHeartbeats 2000000 in
theorem rnot_walk (a c : Nat) (l : List Bool) (w : World) (ha : BoolS w a l) (hl : l.length ≤ 4096) :
    Calls Tryd.prog 57 #[.slice (some ⟨a, 0, none⟩) l.length c] w fun e w' => e = .returned (.slice (some ⟨w.heap.size, 0, none⟩) l.length l.length) ∧ BoolS w' w.heap.size (mkL l.length (fun p => !bt l p)) ∧ Fr (fun _ => False) w w' := by
  have HA := Lib.hid ha
  have hla := ha.lt
  clear ha
  have hmk := make_bools l.length (by omega)
  rw [rep_mkL] at hmk
  go_enter Tryd.func57, Tryd.ntmps57
  go_wp2
  have hM0 : BoolS (w.alloc (.cells (lvs (mkL l.length (fun _ => false))).toArray 4)) w.heap.size (mkL l.length (fun _ => false)) := ⟨[], by rw [List.append_nil]; exact RowB.new w 4 _⟩
  have hF0 : Fr (fun _ => False) w (w.alloc (.cells (lvs (mkL l.length (fun _ => false))).toArray 4)) := (Fr.refl _ w).alloc _
  generalize w.alloc (.cells (lvs (mkL l.length (fun _ => false))).toArray 4) = W0 at *
  have HM0 := Lib.hid hM0
  have HF0 := Lib.hid hF0
  clear hM0 hF0 hmk
  go_loopw [4] (fun i wr => ∃ j : Nat, j ≤ l.length ∧ i = .int .i64 j ∧ BoolS wr w.heap.size (mkL l.length (fun p => if p < j then !bt l p else false)) ∧ Fr (fun _ => False) w wr) (fun i _ => (l.length - intOf i).toNat)
  case atStart => exact ⟨0, by omega, rfl, by simpa using HM0.out, HF0.out⟩
  case round =>
    obtain ⟨j, hj, rfl, hR, hF⟩ := hrel
    by_cases hlt : j < l.length
    · have c1 := (HA.out.fr hF (fun h => h)).cell hlt
      have c3 := hR.cell (j := j) (by rw [mkL_length]; exact hlt)
      have f1 := hR.frozen j
      have HS := hR.set (j := j) (by rw [mkL_length]; exact hlt) (!bt l j)
      rw [mkL_set] at HS
      rw [mkL_congr (g := fun p => if p < j + 1 then !bt l p else false) (fun p hp => by
        by_cases e : p = j
        · subst e; simp
        · have : (p < j + 1) ↔ (p < j) := by omega
          simp [e, this])] at HS
      have HS := Lib.hid HS
      have HFs := Lib.hid (hF.setCell (a := ⟨w.heap.size, j, none⟩) (fun h => absurd h (Nat.lt_irrefl _)) (.bool (!bt l j)))
      have g1 : (j : Int) < (l.length : Int) := by omega
      clear hR hF
      cases hv : bt l j
      all_goals
        rw [hv] at c1 HS HFs
        clear hv
        go_wp2
        go_roundw
        case rel => exact ⟨j + 1, by omega, by go_num, HS.out, HFs.out⟩
        case measure => simp [intOf]; omega
    · obtain rfl : j = l.length := by omega
      go_wp2
      go_ret
      refine ⟨rfl, ?_, hF⟩
      have : mkL l.length (fun p => if p < l.length then !bt l p else false) = mkL l.length (fun p => !bt l p) := mkL_congr (fun p hp => by simp [hp])
      rw [← this]
      exact hR
end Go.Proofs.YtbnjeglbbadcbaaDoor
