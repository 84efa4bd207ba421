/- Walks over package bits: Last. -/
import Derived.Test.YtbnjeglbbadcbaaDoorW5
import Derived.Lib.ItoaNum
namespace Go.Proofs.YtbnjeglbbadcbaaDoor
open Go.RowKit
open BM
set_option linter.unusedVariables false

structure IsLast (l : List Bool) (v : Bool) (bf p : Nat) : Prop where
  lt : p < bf
  has : bt l p = v
  none : ∀ q, p < q → q < bf → bt l q = !v
theorem IsLast.uniq {l : List Bool} {v : Bool} {bf p q : Nat} (h : IsLast l v bf p) (k : IsLast l v bf q) : p = q := by
  rcases Nat.lt_trichotomy p q with h1 | h1 | h1
  · have a := h.none q h1 k.lt
    rw [k.has] at a
    cases v <;> cases a
  · exact h1
  · have a := k.none p h1 h.lt
    rw [h.has] at a
    cases v <;> cases a

theorem bitLen_spec (x : Nat) (h0 : x ≠ 0) (h : x < 18446744073709551616) : ∃ c, Lib.bitLen x = c + 1 ∧ c < 64 ∧ x.testBit c = true ∧ ∀ j, c < j → x.testBit j = false := by
  obtain ⟨h1, h2, h3⟩ := Lib.bitLenAux_bounds 64 x h h0
  have hle := Lib.bitLen_le x 64 (Nat.le_refl _) h
  unfold Lib.bitLen at *
  obtain ⟨c, hc⟩ : ∃ c, Lib.bitLenAux 64 x = c + 1 := ⟨Lib.bitLenAux 64 x - 1, by omega⟩
  rw [hc] at h2 h3 hle ⊢
  simp only [Nat.add_sub_cancel] at h2
  refine ⟨c, rfl, by omega, ?_, ?_⟩
  · rw [Nat.testBit_eq_decide_div_mod_eq]
    have : x / 2 ^ c = 1 := by
      apply Nat.le_antisymm
      · have : x / 2 ^ c < 2 := by rw [Nat.div_lt_iff_lt_mul (Nat.two_pow_pos c)]; rw [Nat.pow_succ] at h3; omega
        omega
      · rw [Nat.le_div_iff_mul_le (Nat.two_pow_pos c)]; omega
    rw [this]; rfl
  · intro j hj
    exact Nat.testBit_lt_two_pow (Nat.lt_of_lt_of_le h3 (Nat.pow_le_pow_right (by omega) (by omega)))

theorem last_found {l : List Bool} {v : Bool} {bf k x c : Nat} (hx : look l v k 0 bf = x) (h1 : x.testBit c = true) (h2 : ∀ j, c < j → x.testBit j = false) (hN : ∀ p, 64 * (k + 1) ≤ p → p < bf → bt l p = !v) :
    IsLast l v bf (64 * k + c) := by
  have hb := look_testBit l v k 0 bf
  rw [hx] at hb
  have hc := hb c
  rw [h1] at hc
  have hc' := hc.symm
  simp only [Bool.and_eq_true, decide_eq_true_eq, beq_iff_eq] at hc'
  refine ⟨by omega, hc'.1.2, ?_⟩
  intro q hq1 hq2
  by_cases h : 64 * (k + 1) ≤ q
  · exact hN q h hq2
  · have := hb (q - 64 * k)
    rw [h2 _ (by omega), show 64 * k + (q - 64 * k) = q by omega] at this
    have e1 : q - 64 * k < 64 := by omega
    simp [e1, hq2] at this
    clear hb hc hc' h1 h2 hx hN
    revert this
    cases v <;> cases bt l q <;> simp
theorem last_more {l : List Bool} {v : Bool} {bf k : Nat} (hx : look l v k 0 bf = 0) (hN : ∀ p, 64 * (k + 1) ≤ p → p < bf → bt l p = !v) :
    ∀ p, 64 * k ≤ p → p < bf → bt l p = !v := by
  intro p h1 h2
  by_cases h : 64 * (k + 1) ≤ p
  · exact hN p h h2
  · have := look_zero hx (p - 64 * k) (by omega) (by omega) (by omega)
    rwa [show 64 * k + (p - 64 * k) = p by omega] at this

/-- what Last returns -/
def LastV (l : List Bool) (v : Bool) (bf : Int) (a e : Int) : Prop :=
  if 0 ≤ bf ∧ bf ≤ l.length then (∃ p, IsLast l v bf.toNat p ∧ a = p ∧ e = 0) ∨ ((∀ p, p < bf.toNat → bt l p = !v) ∧ a = 0 ∧ e = 4) else a = 0 ∧ e = 7

set_option maxRecDepth 100000 in
theorem last_out (b m : Nat) (fr : Int) (v : Bool) (w : World) (hm4 : m ≤ 4096) (h : ¬ (0 ≤ fr ∧ fr ≤ m)) (h65 : w.cell? ⟨b, 65, none⟩ = some (.bool true)) (h64 : w.cell? ⟨b, 64, none⟩ = some (.int .i64 m)) :
    Calls Tryd.prog 32 #[.pointer (some ⟨b, 0, none⟩), .int .i64 fr, .bool v] w fun e w' => e = .returned (.tuple #[.int .i64 0, .int .i64 7]) ∧ w = w' := by
  have hI := in_walk b m fr 0 w hm4 h65 h64
  rw [show inE m fr 0 = 7 by unfold inE; rw [if_neg (by omega)]] at hI
  have HI := Lib.hid hI
  clear hI h
  go_enter Tryd.func32, Tryd.ntmps32
  go_wp2_with (go_at_call 39; refine (HI.out).mono ?_; rintro e w' ⟨rfl, rfl⟩)
  go_ret2
  exact ⟨rfl, rfl⟩
set_option maxRecDepth 100000 in
set_option maxHeartbeats 1000000 in
theorem last_true (b : Nat) (l : List Bool) (bf : Nat) (w : World) (hm : IsMap w b l) (hfr : bf ≤ l.length) :
    Calls Tryd.prog 32 #[.pointer (some ⟨b, 0, none⟩), .int .i64 bf, .bool true] w fun e w' => ∃ a c : Int, e = .returned (.tuple #[.int .i64 a, .int .i64 c]) ∧ LastV l true bf a c ∧ ∃ q, w' = w.drewN q := by
  obtain ⟨hb, hl⟩ := hm
  have hI := in_walk b l.length bf 0 w hl hb.made hb.len
  rw [show inE l.length bf 0 = 0 by unfold inE; rw [if_pos (by omega)]] at hI
  have HI := Lib.hid hI
  have HB := Lib.hid hb
  clear hI hb
  go_enter Tryd.func32, Tryd.ntmps32
  go_wp2_with (go_at_call 39; refine (HI.out).mono ?_; rintro e w' ⟨rfl, rfl⟩)
  go_loopw [9] (fun i wr => ∃ k q : Nat, k ≤ 64 ∧ i = .int .i64 k ∧ Hid (∀ p, 64 * k ≤ p → p < bf → bt l p = !true) ∧ wr = w.drewN q) (fun i _ => (intOf i).toNat)
  case atStart => exact ⟨(bf + 63) / 64, 0, by omega, by go_num, Lib.hid (fun p h1 h2 => by omega), rfl⟩
  case round =>
    obtain ⟨k, q, hk, rfl, hN, rfl⟩ := hrel
    by_cases hlt : 0 < k
    · obtain ⟨j, rfl⟩ : ∃ j, k = j + 1 := ⟨k - 1, by omega⟩
      have c1 := HB.out.word (i := j) (by omega)
      have g1 : (0 : Int) ≤ (j : Int) := by omega
      have g2 : (j : Int) < 64 := by omega
      have ej : ((j + 1 : Nat) : Int) - 1 = (j : Int) := by omega
      have HA : bits BinOp.and IntKind.u64 ((word l j : Nat) : Int) ((maskN j 0 bf : Nat) : Int) = ((look l true j 0 bf : Nat) : Int) := u64_and_nat (word l j) _ (word_lt l j) (maskN_lt _ _ _)
      have hxl := look_lt l true j 0 bf
      obtain ⟨x, hx⟩ : ∃ x, look l true j 0 bf = x := ⟨_, rfl⟩
      rw [hx] at HA hxl
      have HX := Lib.hid hx
      clear hx
      by_cases hx0 : x = 0
      · have HX0 := Lib.hid hx0
        have t1 : ((x : Int) != 0) = false := by simp [hx0]
        have t2 : ((x : Int) == 0) = true := by simp [hx0]
        clear hx0
        go_wp2_with fail
        refine (mask_walk (j : Int) 0 bf _ (by omega) (by omega) (by omega) (by omega) (by omega) (by omega)).mono ?_
        rintro e w' ⟨rfl, q', rfl⟩
        simp only [Int.toNat_natCast, Int.toNat_zero]
        go_wp2_with fail
        go_roundw
        case rel => exact ⟨j, q + q', by omega, rfl, Lib.hid (last_more (by rw [HX.out, HX0.out]) hN.out), by simp [World.drewN]⟩
        case measure => simp [intOf]
      · have HX0 := Lib.hid hx0
        have t1 : ((x : Int) != 0) = true := by simp; omega
        have t2 : ((x : Int) == 0) = false := by simp; omega
        clear hx0
        obtain ⟨c, hc1, hc2, hc3, hc4⟩ := bitLen_spec x HX0.out hxl
        have hF := last_found HX.out hc3 hc4 hN.out
        go_wp2_with fail
        refine (mask_walk (j : Int) 0 bf _ (by omega) (by omega) (by omega) (by omega) (by omega) (by omega)).mono ?_
        rintro e w' ⟨rfl, q', rfl⟩
        simp only [Int.toNat_natCast, Int.toNat_zero]
        have HC1 := Lib.hid hc1
        clear hc1
        go_wp2_with fail
        refine (Tryd.bits_LeadingZeros64 (x : Int) _ (by omega) (by omega)).mono ?_
        rintro e w' ⟨rfl, rfl⟩
        rw [Int.toNat_natCast, HC1.out]
        go_wp2_with fail
        go_ret2
        refine ⟨_, _, rfl, ?_, _, rfl⟩
        unfold LastV
        rw [if_pos (by omega)]
        exact .inl ⟨64 * j + c, hF, by omega, rfl⟩
    · obtain rfl : k = 0 := by omega
      go_wp2_with fail
      go_ret2
      refine ⟨_, _, rfl, ?_, _, rfl⟩
      unfold LastV
      rw [if_pos (by omega)]
      exact .inr ⟨fun p hp => hN.out p (by omega) hp, rfl, rfl⟩
set_option maxRecDepth 100000 in
set_option maxHeartbeats 1000000 in
theorem last_false (b : Nat) (l : List Bool) (bf : Nat) (w : World) (hm : IsMap w b l) (hfr : bf ≤ l.length) :
    Calls Tryd.prog 32 #[.pointer (some ⟨b, 0, none⟩), .int .i64 bf, .bool false] w fun e w' => ∃ a c : Int, e = .returned (.tuple #[.int .i64 a, .int .i64 c]) ∧ LastV l false bf a c ∧ ∃ q, w' = w.drewN q := by
  obtain ⟨hb, hl⟩ := hm
  have hI := in_walk b l.length bf 0 w hl hb.made hb.len
  rw [show inE l.length bf 0 = 0 by unfold inE; rw [if_pos (by omega)]] at hI
  have HI := Lib.hid hI
  have HB := Lib.hid hb
  clear hI hb
  go_enter Tryd.func32, Tryd.ntmps32
  go_wp2_with (go_at_call 39; refine (HI.out).mono ?_; rintro e w' ⟨rfl, rfl⟩)
  go_loopw [9] (fun i wr => ∃ k q : Nat, k ≤ 64 ∧ i = .int .i64 k ∧ Hid (∀ p, 64 * k ≤ p → p < bf → bt l p = !false) ∧ wr = w.drewN q) (fun i _ => (intOf i).toNat)
  case atStart => exact ⟨(bf + 63) / 64, 0, by omega, by go_num, Lib.hid (fun p h1 h2 => by omega), rfl⟩
  case round =>
    obtain ⟨k, q, hk, rfl, hN, rfl⟩ := hrel
    by_cases hlt : 0 < k
    · obtain ⟨j, rfl⟩ : ∃ j, k = j + 1 := ⟨k - 1, by omega⟩
      have c1 := HB.out.word (i := j) (by omega)
      have g1 : (0 : Int) ≤ (j : Int) := by omega
      have g2 : (j : Int) < 64 := by omega
      have ej : ((j + 1 : Nat) : Int) - 1 = (j : Int) := by omega
      have HA : bits BinOp.and IntKind.u64 (bits BinOp.xor IntKind.u64 IntKind.u64.max ((word l j : Nat) : Int)) ((maskN j 0 bf : Nat) : Int) = ((look l false j 0 bf : Nat) : Int) := by rw [not_u64 _ (word_lt l j)]; exact u64_and_nat (18446744073709551615 - word l j) _ (by omega) (maskN_lt j 0 bf)
      have hxl := look_lt l false j 0 bf
      obtain ⟨x, hx⟩ : ∃ x, look l false j 0 bf = x := ⟨_, rfl⟩
      rw [hx] at HA hxl
      have HX := Lib.hid hx
      clear hx
      by_cases hx0 : x = 0
      · have HX0 := Lib.hid hx0
        have t1 : ((x : Int) != 0) = false := by simp [hx0]
        have t2 : ((x : Int) == 0) = true := by simp [hx0]
        clear hx0
        go_wp2_with fail
        refine (mask_walk (j : Int) 0 bf _ (by omega) (by omega) (by omega) (by omega) (by omega) (by omega)).mono ?_
        rintro e w' ⟨rfl, q', rfl⟩
        simp only [Int.toNat_natCast, Int.toNat_zero]
        go_wp2_with fail
        go_roundw
        case rel => exact ⟨j, q + q', by omega, rfl, Lib.hid (last_more (by rw [HX.out, HX0.out]) hN.out), by simp [World.drewN]⟩
        case measure => simp [intOf]
      · have HX0 := Lib.hid hx0
        have t1 : ((x : Int) != 0) = true := by simp; omega
        have t2 : ((x : Int) == 0) = false := by simp; omega
        clear hx0
        obtain ⟨c, hc1, hc2, hc3, hc4⟩ := bitLen_spec x HX0.out hxl
        have hF := last_found HX.out hc3 hc4 hN.out
        go_wp2_with fail
        refine (mask_walk (j : Int) 0 bf _ (by omega) (by omega) (by omega) (by omega) (by omega) (by omega)).mono ?_
        rintro e w' ⟨rfl, q', rfl⟩
        simp only [Int.toNat_natCast, Int.toNat_zero]
        have HC1 := Lib.hid hc1
        clear hc1
        go_wp2_with fail
        refine (Tryd.bits_LeadingZeros64 (x : Int) _ (by omega) (by omega)).mono ?_
        rintro e w' ⟨rfl, rfl⟩
        rw [Int.toNat_natCast, HC1.out]
        go_wp2_with fail
        go_ret2
        refine ⟨_, _, rfl, ?_, _, rfl⟩
        unfold LastV
        rw [if_pos (by omega)]
        exact .inl ⟨64 * j + c, hF, by omega, rfl⟩
    · obtain rfl : k = 0 := by omega
      go_wp2_with fail
      go_ret2
      refine ⟨_, _, rfl, ?_, _, rfl⟩
      unfold LastV
      rw [if_pos (by omega)]
      exact .inr ⟨fun p hp => hN.out p (by omega) hp, rfl, rfl⟩
/-- **Last** -/
theorem last_walk (b : Nat) (l : List Bool) (bf : Int) (v : Bool) (w : World) (hm : IsMap w b l) :
    Calls Tryd.prog 32 #[.pointer (some ⟨b, 0, none⟩), .int .i64 bf, .bool v] w fun e w' => ∃ a c : Int, e = .returned (.tuple #[.int .i64 a, .int .i64 c]) ∧ LastV l v bf a c ∧ ∃ q, w' = w.drewN q := by
  by_cases h : 0 ≤ bf ∧ bf ≤ l.length
  · obtain ⟨F, rfl⟩ := Int.eq_ofNat_of_zero_le h.1
    cases v
    · exact last_false b l F w hm (by omega)
    · exact last_true b l F w hm (by omega)
  · refine (last_out b _ bf v w hm.2 h hm.1.made hm.1.len).mono ?_
    rintro e w' ⟨rfl, rfl⟩
    exact ⟨_, _, rfl, by unfold LastV; rw [if_neg h]; exact ⟨rfl, rfl⟩, 0, rfl⟩
end Go.Proofs.YtbnjeglbbadcbaaDoor
