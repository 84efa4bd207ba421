/- Walks over package bits: masks, single bits, counts. -/
import Derived.Test.YtbnjeglbbadcbaaDoorW1
import Derived.Test.YtbnjeglbbadcbaaDoorShelf
import Derived.Lib.TrailingZeros
import Derived.Shelf.Spec.TrailingZeros
namespace Go.Proofs.YtbnjeglbbadcbaaDoor
open Go.RowKit
open BM
set_option linter.unusedVariables false

theorem at_eq (x k : Nat) (hx : x < 18446744073709551616) : (bits BinOp.and IntKind.u64 ((x : Int) / 2 ^ k) 1 == 1) = x.testBit k := by
  have h1 : x / 2 ^ k < 18446744073709551616 := Nat.lt_of_le_of_lt (Nat.div_le_self _ _) hx
  have h2 := u64_and_nat (x / 2 ^ k) 1 h1 (by omega)
  have e : ((x / 2 ^ k : Nat) : Int) = (x : Int) / 2 ^ k := by rw [Int.natCast_ediv, Int.natCast_pow]; rfl
  rw [e] at h2
  have e1 : ((1 : Nat) : Int) = 1 := rfl
  rw [e1] at h2
  rw [h2, Nat.and_one_is_mod, Nat.testBit_eq_decide_div_mod_eq, Bool.eq_iff_iff]
  simp only [beq_iff_eq, decide_eq_true_eq]
  omega

set_option maxHeartbeats 400000 in
theorem at_walk (b i x : Nat) (w : World) (hi : i < 4096) (hx : x < 18446744073709551616) (h : w.cell? ⟨b, i / 64, none⟩ = some (.int .u64 x)) :
    Calls Tryd.prog 41 #[.pointer (some ⟨b, 0, none⟩), .int .i64 i] w fun e w' => e = .returned (.bool (x.testBit (i % 64))) ∧ w = w' := by
  go_enter Tryd.func41, Tryd.ntmps41
  go_wp2
  go_ret
  exact ⟨ret_bool (at_eq x (i % 64) hx), rfl⟩

set_option maxHeartbeats 400000 in
theorem mask_zero (i fr n : Int) (w : World) (h1 : 0 ≤ i) (h2 : i < 64) (h3 : 0 ≤ fr) (h4 : fr ≤ 4096) (h5 : 0 ≤ n) (h6 : n ≤ 4096)
    (h : ∀ j : Int, 0 ≤ j → j < 64 → ¬ (fr ≤ 64 * i + j ∧ 64 * i + j < fr + n)) :
    Calls Tryd.prog 44 #[.int .i64 i, .int .i64 fr, .int .i64 n] w fun e w' => e = .returned (.int .u64 0) ∧ ∃ k, w' = w.drewN k := by
  have c1 : n = 0 ∨ fr + n - 64 * i ≤ 0 ∨ 64 ≤ fr - 64 * i := by
    have a := h (fr - 64 * i)
    have b := h 0 (by omega) (by omega)
    omega
  clear h
  by_cases hA : fr - 64 * i < 0 <;> by_cases hB : 64 < fr + n - 64 * i <;> rcases c1 with c | c | c
  all_goals first
    | (exfalso; omega)
    | (try subst c
       go_enter Tryd.func44, Tryd.ntmps44
       go_wp2
       go_ret
       exact ⟨rfl, 0, rfl⟩)

theorem mask_arith (i fr n : Int) (h1 : 0 ≤ i) (h3 : 0 ≤ fr) (h5 : 0 < n) (lo hi : Int) (hlo : lo = max (fr - 64 * i) 0) (hhi : hi = min (fr + n - 64 * i) 64) (hlt : lo < hi) :
    bits BinOp.andNot IntKind.u64 (18446744073709551615 / 2 ^ (64 - hi).toNat) (IntKind.u64.wrap (IntKind.u64.wrap (2 ^ lo.toNat) - 1)) = ((maskN i.toNat fr.toNat n.toNat : Nat) : Int) := by
  obtain ⟨I, rfl⟩ := Int.eq_ofNat_of_zero_le h1
  obtain ⟨F, rfl⟩ := Int.eq_ofNat_of_zero_le h3
  obtain ⟨N, rfl⟩ := Int.eq_ofNat_of_zero_le (Int.le_of_lt h5)
  obtain ⟨L, rfl⟩ := Int.eq_ofNat_of_zero_le (a := lo) (by omega)
  obtain ⟨H, rfl⟩ := Int.eq_ofNat_of_zero_le (a := hi) (by omega)
  have hL : L < 64 := by omega
  have hp : 2 ^ L < 2 ^ 64 := Nat.pow_lt_pow_right (by omega) hL
  have hp0 : 0 < 2 ^ L := Nat.two_pow_pos L
  have e0 : (2 : Int) ^ ((L : Int).toNat) = ((2 ^ L : Nat) : Int) := by rw [Int.toNat_natCast, Int.natCast_pow]; rfl
  have e1 : IntKind.u64.wrap ((2 : Int) ^ ((L : Int).toNat)) = ((2 ^ L : Nat) : Int) := by rw [e0, IntKind.wrap_u64]; omega
  have e2 : IntKind.u64.wrap (((2 ^ L : Nat) : Int) - 1) = ((2 ^ L - 1 : Nat) : Int) := by rw [IntKind.wrap_u64]; omega
  have e3 : (64 - (H : Int)).toNat = 64 - H := by omega
  have e4 : (18446744073709551615 : Int) / 2 ^ (64 - H) = ((18446744073709551615 / 2 ^ (64 - H) : Nat) : Int) := by
    rw [Int.natCast_ediv, Int.natCast_pow]; rfl
  rw [e1, e2, e3, e4]
  rw [u64_andNot_nat _ _ (Nat.lt_of_le_of_lt (Nat.div_le_self _ _) (by omega)) (by omega)]
  simp only [Int.toNat_natCast]
  rw [maskN_eq I F N L H (by omega) (by omega) (fun j hj => by omega)]

set_option maxHeartbeats 400000 in
theorem mask_pos (i fr n : Int) (w : World) (h1 : 0 ≤ i) (h2 : i < 64) (h3 : 0 ≤ fr) (h4 : fr ≤ 4096) (h5 : 0 < n) (h6 : n ≤ 4096) (h7 : 0 < fr + n - 64 * i) (h8 : fr - 64 * i < 64) :
    Calls Tryd.prog 44 #[.int .i64 i, .int .i64 fr, .int .i64 n] w fun e w' => e = .returned (.int .u64 (maskN i.toNat fr.toNat n.toNat)) ∧ ∃ k, w' = w.drewN k := by
  go_enter Tryd.func44, Tryd.ntmps44
  go_wp2
  go_quiet (fail)
  go_wp2
  go_ret
  exact ⟨ret_int (mask_arith i fr n h1 h3 h5 _ _ rfl rfl (by omega)), _, rfl⟩

/-- **mask**: the bits of the word i that the range has. -/
theorem mask_walk (i fr n : Int) (w : World) (h1 : 0 ≤ i) (h2 : i < 64) (h3 : 0 ≤ fr) (h4 : fr ≤ 4096) (h5 : 0 ≤ n) (h6 : n ≤ 4096) :
    Calls Tryd.prog 44 #[.int .i64 i, .int .i64 fr, .int .i64 n] w fun e w' => e = .returned (.int .u64 (maskN i.toNat fr.toNat n.toNat)) ∧ ∃ k, w' = w.drewN k := by
  by_cases h : 0 < n ∧ 0 < fr + n - 64 * i ∧ fr - 64 * i < 64
  · exact mask_pos i fr n w h1 h2 h3 h4 h.1 h6 h.2.1 h.2.2
  · have := mask_zero i fr n w h1 h2 h3 h4 h5 h6 (fun j j0 j1 => by omega)
    rw [maskN_none _ _ _ (fun j hj => by omega)]
    exact this

/-! ### Len, Get, in -/
set_option maxHeartbeats 400000 in
theorem len_walk (b n : Nat) (w : World) (h65 : w.cell? ⟨b, 65, none⟩ = some (.bool true)) (h64 : w.cell? ⟨b, 64, none⟩ = some (.int .i64 n)) :
    Calls Tryd.prog 13 #[.pointer (some ⟨b, 0, none⟩)] w fun e w' => e = .returned (.int .i64 n) ∧ w = w' := by
  go_enter Tryd.func13, Tryd.ntmps13
  go_wp2
  go_ret
  exact ⟨rfl, rfl⟩

/-- the error of a range -/
def inE (n fr k : Int) : Int := if 0 ≤ fr ∧ 0 ≤ k ∧ fr ≤ n ∧ k ≤ n - fr then 0 else 7
set_option maxHeartbeats 400000 in
theorem in_walk (b n : Nat) (fr k : Int) (w : World) (hn : n ≤ 4096) (h65 : w.cell? ⟨b, 65, none⟩ = some (.bool true)) (h64 : w.cell? ⟨b, 64, none⟩ = some (.int .i64 n)) :
    Calls Tryd.prog 39 #[.pointer (some ⟨b, 0, none⟩), .int .i64 fr, .int .i64 k] w fun e w' => e = .returned (.int .i64 (inE n fr k)) ∧ w = w' := by
  go_enter Tryd.func39, Tryd.ntmps39
  go_wp2
  all_goals
    go_ret
    refine ⟨ret_int ?_, rfl⟩
    unfold inE
    first | rw [if_pos (by omega)] | rw [if_neg (by omega)]

def bitE (n i : Int) : Int := if 0 ≤ i ∧ i < n then 0 else 7
set_option maxHeartbeats 400000 in
theorem bit_walk (b n : Nat) (i : Int) (w : World) (hn : n ≤ 4096) (h65 : w.cell? ⟨b, 65, none⟩ = some (.bool true)) (h64 : w.cell? ⟨b, 64, none⟩ = some (.int .i64 n)) :
    Calls Tryd.prog 48 #[.pointer (some ⟨b, 0, none⟩), .int .i64 i] w fun e w' => e = .returned (.int .i64 (bitE n i)) ∧ w = w' := by
  go_enter Tryd.func48, Tryd.ntmps48
  go_wp2
  all_goals
    go_ret
    refine ⟨ret_int ?_, rfl⟩
    unfold bitE
    first | rw [if_pos (by omega)] | rw [if_neg (by omega)]


set_option maxHeartbeats 400000 in
theorem get_in (b n i : Nat) (x : Nat) (w : World) (hn : n ≤ 4096) (hi : i < n) (hx : x < 18446744073709551616) (h65 : w.cell? ⟨b, 65, none⟩ = some (.bool true)) (h64 : w.cell? ⟨b, 64, none⟩ = some (.int .i64 n))
    (h : w.cell? ⟨b, i / 64, none⟩ = some (.int .u64 x)) :
    Calls Tryd.prog 31 #[.pointer (some ⟨b, 0, none⟩), .int .i64 i] w fun e w' => e = .returned (.tuple #[.bool (x.testBit (i % 64)), .int .i64 0]) ∧ w = w' := by
  have hb : bitE n i = 0 := by unfold bitE; rw [if_pos (by omega)]
  have hB := bit_walk b n i w hn h65 h64
  rw [hb] at hB
  clear hb
  have HB := Lib.hid hB
  clear hB
  go_enter Tryd.func31, Tryd.ntmps31
  go_wp2_with (first | (go_at_call 48; refine (HB.out).mono ?_; rintro e w' ⟨rfl, rfl⟩) | (go_at_call 41; refine (at_walk b i x _ (by omega) hx h).mono ?_; rintro e w' ⟨rfl, rfl⟩))
  go_ret2
  exact ⟨rfl, rfl⟩
set_option maxHeartbeats 400000 in
theorem get_out (b n : Nat) (i : Int) (w : World) (hn : n ≤ 4096) (hi : ¬ (0 ≤ i ∧ i < n)) (h65 : w.cell? ⟨b, 65, none⟩ = some (.bool true)) (h64 : w.cell? ⟨b, 64, none⟩ = some (.int .i64 n)) :
    Calls Tryd.prog 31 #[.pointer (some ⟨b, 0, none⟩), .int .i64 i] w fun e w' => e = .returned (.tuple #[.bool false, .int .i64 7]) ∧ w = w' := by
  have hB := bit_walk b n i w hn h65 h64
  rw [show bitE n i = 7 by unfold bitE; rw [if_neg hi]] at hB
  have HB := Lib.hid hB
  clear hB hi
  go_enter Tryd.func31, Tryd.ntmps31
  go_wp2_with (first | (go_at_call 48; refine (HB.out).mono ?_; rintro e w' ⟨rfl, rfl⟩))
  go_ret2
  exact ⟨rfl, rfl⟩
end Go.Proofs.YtbnjeglbbadcbaaDoor
