/- Walks over package bits: Next, Last, Run. -/
import Derived.Test.YtbnjeglbbadcbaaDoorW4
namespace Go.Proofs.YtbnjeglbbadcbaaDoor
open Go.RowKit
open BM
set_option linter.unusedVariables false

/-- The table of math/bits lies in its variable. -/
def Tab (w : World) : Prop := TabAt 0 Lib.deBruijn64tab w
theorem Tab.drewN {w : World} (h : Tab w) (k : Nat) : Tab (w.drewN k) := h

set_option maxHeartbeats 1000000 in
theorem tz_core (x k idx : Nat) (w : World) (hx0 : ((x : Int) == 0) = false)
    (key : IntKind.u64.wrap (bits BinOp.and IntKind.u64 (x : Int) (IntKind.u64.wrap (-(x : Int))) * 285870213051353865) / 288230376151711744 = (idx : Int))
    (hi : idx < 64) (hk : k < 64) (hcell : w.cell? ⟨0, idx, none⟩ = some (.int .u8 k)) :
    Calls Tryd.prog 58 #[.int .u64 x] w fun e w' => e = .returned (.int .i64 k) ∧ w = w' := by
  go_enter Tryd.func58, Tryd.ntmps58
  go_wp2_with (simp only [key])
  go_ret
  exact ⟨rfl, rfl⟩
theorem tz_walk (x : Nat) (w : World) (hx : x < 18446744073709551616) (hx0 : x ≠ 0) (hT : Tab w) :
    Calls Tryd.prog 58 #[.int .u64 x] w fun e w' => e = .returned (.int .i64 (Lib.ctz 64 x)) ∧ w = w' := by
  obtain ⟨hlow, hk⟩ := Lib.lowest_bit 64 x hx0 hx
  obtain ⟨hi, htab⟩ := Lib.deBruijn64_at _ hk
  have hcell := hT _ hi
  rw [htab] at hcell
  exact tz_core x _ _ w (by simp; omega) (tz64_key x _ hx hx0 hlow) hi hk hcell

theorem not_u64 (x : Nat) (hx : x < 18446744073709551616) : bits BinOp.xor IntKind.u64 IntKind.u64.max (x : Int) = ((18446744073709551615 - x : Nat) : Int) := by
  have e : IntKind.u64.max = ((18446744073709551615 : Nat) : Int) := by decide
  rw [e, u64_xor_nat _ _ (by omega) hx]
  congr 1
  apply Nat.eq_of_testBit_eq
  intro j
  have e1 : (18446744073709551615 : Nat) = 2 ^ 64 - 1 := by decide
  have e2 : 18446744073709551615 - x = 2 ^ 64 - (x + 1) := by omega
  rw [e2, Nat.testBit_two_pow_sub_succ hx, Nat.testBit_xor, e1, Nat.testBit_two_pow_sub_one]
  by_cases hj : j < 64
  · simp [hj]
  · have : x.testBit j = false := Nat.testBit_lt_two_pow (Nat.lt_of_lt_of_le hx (show 2 ^ 64 ≤ 2 ^ j from Nat.pow_le_pow_right (by omega) (by omega)))
    simp [hj, this]
theorem next_found {l : List Bool} {v : Bool} {fr k x : Nat} (hx : look l v k fr (l.length - fr) = x) (hx0 : x ≠ 0) (hfr : fr ≤ l.length) (hN : ∀ p, fr ≤ p → p < 64 * k → p < l.length → bt l p = !v) :
    IsNext l v fr (64 * k + Lib.ctz 64 x) := by
  have hlt := look_lt l v k fr (l.length - fr)
  have hb := look_testBit l v k fr (l.length - fr)
  rw [hx] at hlt hb
  obtain ⟨h1, h2, h3⟩ := ctz_spec x hx0 hlt
  have hc := hb (Lib.ctz 64 x)
  rw [h1] at hc
  have hc' := hc.symm
  simp only [Bool.and_eq_true, decide_eq_true_eq, beq_iff_eq] at hc'
  refine ⟨by omega, by omega, ?_, fun _ => hc'.1.2⟩
  intro q hq1 hq2
  by_cases h : q < 64 * k
  · exact hN q hq1 h (by omega)
  · have := hb (q - 64 * k)
    rw [h2 _ (by omega), show 64 * k + (q - 64 * k) = q by omega] at this
    have e1 : q - 64 * k < 64 := by omega
    have e2 : q < fr + (l.length - fr) := by omega
    simp [e1, hq1, e2] at this
    clear hb hc hc' h1 h2 h3 hlt hx hN
    revert this
    cases v <;> cases bt l q <;> simp
theorem next_more {l : List Bool} {v : Bool} {fr k : Nat} (hx : look l v k fr (l.length - fr) = 0) (hfr : fr ≤ l.length) (hN : ∀ p, fr ≤ p → p < 64 * k → p < l.length → bt l p = !v) :
    ∀ p, fr ≤ p → p < 64 * (k + 1) → p < l.length → bt l p = !v := by
  intro p h1 h2 h3
  by_cases h : p < 64 * k
  · exact hN p h1 h h3
  · have := look_zero hx (p - 64 * k) (by omega) (by omega) (by omega)
    rwa [show 64 * k + (p - 64 * k) = p by omega] at this

set_option maxRecDepth 100000 in
set_option maxHeartbeats 1000000 in
theorem next_true (b : Nat) (l : List Bool) (fr : Nat) (w : World) (hm : IsMap w b l) (hT : Tab w) (hfr : fr ≤ l.length) :
    Calls Tryd.prog 40 #[.pointer (some ⟨b, 0, none⟩), .int .i64 fr, .bool true] w fun e w' => ∃ p q : Nat, e = .returned (.int .i64 p) ∧ IsNext l true fr p ∧ w' = w.drewN q := by
  obtain ⟨hb, hl⟩ := hm
  have HT := Lib.hid hT
  have HB := Lib.hid hb
  have cn := hb.len
  clear hT hb
  go_enter Tryd.func40, Tryd.ntmps40
  go_wp2
  go_loopw [7] (fun i wr => ∃ k q : Nat, k ≤ 64 ∧ fr / 64 ≤ k ∧ i = .int .i64 k ∧ Hid (∀ p, fr ≤ p → p < 64 * k → p < l.length → bt l p = !true) ∧ wr = w.drewN q) (fun i _ => (64 - intOf i).toNat)
  case atStart => exact ⟨fr / 64, 0, by omega, by omega, rfl, Lib.hid (fun p h1 h2 h3 => by omega), rfl⟩
  case round =>
    obtain ⟨k, q, hk, hk2, rfl, hN, rfl⟩ := hrel
    by_cases hlt : 64 * k < l.length
    · have c1 := HB.out.word (i := k) (by omega)
      have g1 : (0 : Int) ≤ (k : Int) := by omega
      have g2 : (k : Int) < 64 := by omega
      have HA : bits BinOp.and IntKind.u64 ((word l k : Nat) : Int) ((maskN k fr (l.length - fr) : Nat) : Int) = ((look l true k fr (l.length - fr) : Nat) : Int) := u64_and_nat (word l k) _ (word_lt l k) (maskN_lt _ _ _)
      have hxl := look_lt l true k fr (l.length - fr)
      obtain ⟨x, hx⟩ : ∃ x, look l true k fr (l.length - fr) = x := ⟨_, rfl⟩
      rw [hx] at HA hxl
      have HX := Lib.hid hx
      clear hx
      by_cases hx0 : x = 0
      · have HX0 := Lib.hid hx0
        have t1 : ((x : Int) != 0) = false := by simp [hx0]
        have t2 : ((x : Int) == 0) = true := by simp [hx0]
        clear hx0
        go_wp2_with fail
        refine (mask_walk (k : Int) fr _ _ (by omega) (by omega) (by omega) (by omega) (by omega) (by omega)).mono ?_
        rintro e w' ⟨rfl, q', rfl⟩
        rw [show ((l.length : Int) - (fr : Int)).toNat = l.length - fr by omega]
        simp only [Int.toNat_natCast]
        go_wp2_with fail
        go_roundw
        case rel => exact ⟨k + 1, q + q', by omega, by omega, by go_num, Lib.hid (next_more (by rw [HX.out, HX0.out]) hfr hN.out), by simp [World.drewN]⟩
        case measure => simp [intOf]; omega
      · have HX0 := Lib.hid hx0
        have t1 : ((x : Int) != 0) = true := by simp; omega
        have t2 : ((x : Int) == 0) = false := by simp; omega
        clear hx0
        have hF := next_found HX.out HX0.out hfr hN.out
        have hc64 := (ctz_spec x HX0.out hxl).2.2
        go_wp2_with fail
        refine (mask_walk (k : Int) fr _ _ (by omega) (by omega) (by omega) (by omega) (by omega) (by omega)).mono ?_
        rintro e w' ⟨rfl, q', rfl⟩
        rw [show ((l.length : Int) - (fr : Int)).toNat = l.length - fr by omega]
        simp only [Int.toNat_natCast]
        go_wp2_with fail
        refine (tz_walk x _ hxl HX0.out (HT.out.drewN _)).mono ?_
        rintro e w' ⟨rfl, rfl⟩
        go_wp2_with fail
        go_ret
        exact ⟨64 * k + Lib.ctz 64 x, q + q', ret_int (by go_num), hF, by simp [World.drewN]⟩
    · go_wp2_with fail
      go_ret
      exact ⟨l.length, q, rfl, ⟨hfr, Nat.le_refl _, fun p h1 h2 => hN.out p h1 (by omega) h2, fun h => absurd h (Nat.lt_irrefl _)⟩, rfl⟩
set_option maxRecDepth 100000 in
set_option maxHeartbeats 1000000 in
theorem next_false (b : Nat) (l : List Bool) (fr : Nat) (w : World) (hm : IsMap w b l) (hT : Tab w) (hfr : fr ≤ l.length) :
    Calls Tryd.prog 40 #[.pointer (some ⟨b, 0, none⟩), .int .i64 fr, .bool false] w fun e w' => ∃ p q : Nat, e = .returned (.int .i64 p) ∧ IsNext l false fr p ∧ w' = w.drewN q := by
  obtain ⟨hb, hl⟩ := hm
  have HT := Lib.hid hT
  have HB := Lib.hid hb
  have cn := hb.len
  clear hT hb
  go_enter Tryd.func40, Tryd.ntmps40
  go_wp2
  go_loopw [7] (fun i wr => ∃ k q : Nat, k ≤ 64 ∧ fr / 64 ≤ k ∧ i = .int .i64 k ∧ Hid (∀ p, fr ≤ p → p < 64 * k → p < l.length → bt l p = !false) ∧ wr = w.drewN q) (fun i _ => (64 - intOf i).toNat)
  case atStart => exact ⟨fr / 64, 0, by omega, by omega, rfl, Lib.hid (fun p h1 h2 h3 => by omega), rfl⟩
  case round =>
    obtain ⟨k, q, hk, hk2, rfl, hN, rfl⟩ := hrel
    by_cases hlt : 64 * k < l.length
    · have c1 := HB.out.word (i := k) (by omega)
      have g1 : (0 : Int) ≤ (k : Int) := by omega
      have g2 : (k : Int) < 64 := by omega
      have HA : bits BinOp.and IntKind.u64 (bits BinOp.xor IntKind.u64 IntKind.u64.max ((word l k : Nat) : Int)) ((maskN k fr (l.length - fr) : Nat) : Int) = ((look l false k fr (l.length - fr) : Nat) : Int) := by rw [not_u64 _ (word_lt l k)]; exact u64_and_nat (18446744073709551615 - word l k) _ (by omega) (maskN_lt k fr (l.length - fr))
      have hxl := look_lt l false k fr (l.length - fr)
      obtain ⟨x, hx⟩ : ∃ x, look l false k fr (l.length - fr) = x := ⟨_, rfl⟩
      rw [hx] at HA hxl
      have HX := Lib.hid hx
      clear hx
      by_cases hx0 : x = 0
      · have HX0 := Lib.hid hx0
        have t1 : ((x : Int) != 0) = false := by simp [hx0]
        have t2 : ((x : Int) == 0) = true := by simp [hx0]
        clear hx0
        go_wp2_with fail
        refine (mask_walk (k : Int) fr _ _ (by omega) (by omega) (by omega) (by omega) (by omega) (by omega)).mono ?_
        rintro e w' ⟨rfl, q', rfl⟩
        rw [show ((l.length : Int) - (fr : Int)).toNat = l.length - fr by omega]
        simp only [Int.toNat_natCast]
        go_wp2_with fail
        go_roundw
        case rel => exact ⟨k + 1, q + q', by omega, by omega, by go_num, Lib.hid (next_more (by rw [HX.out, HX0.out]) hfr hN.out), by simp [World.drewN]⟩
        case measure => simp [intOf]; omega
      · have HX0 := Lib.hid hx0
        have t1 : ((x : Int) != 0) = true := by simp; omega
        have t2 : ((x : Int) == 0) = false := by simp; omega
        clear hx0
        have hF := next_found HX.out HX0.out hfr hN.out
        have hc64 := (ctz_spec x HX0.out hxl).2.2
        go_wp2_with fail
        refine (mask_walk (k : Int) fr _ _ (by omega) (by omega) (by omega) (by omega) (by omega) (by omega)).mono ?_
        rintro e w' ⟨rfl, q', rfl⟩
        rw [show ((l.length : Int) - (fr : Int)).toNat = l.length - fr by omega]
        simp only [Int.toNat_natCast]
        go_wp2_with fail
        refine (tz_walk x _ hxl HX0.out (HT.out.drewN _)).mono ?_
        rintro e w' ⟨rfl, rfl⟩
        go_wp2_with fail
        go_ret
        exact ⟨64 * k + Lib.ctz 64 x, q + q', ret_int (by go_num), hF, by simp [World.drewN]⟩
    · go_wp2_with fail
      go_ret
      exact ⟨l.length, q, rfl, ⟨hfr, Nat.le_refl _, fun p h1 h2 => hN.out p h1 (by omega) h2, fun h => absurd h (Nat.lt_irrefl _)⟩, rfl⟩
theorem next0_walk (b : Nat) (l : List Bool) (fr : Nat) (v : Bool) (w : World) (hm : IsMap w b l) (hT : Tab w) (hfr : fr ≤ l.length) :
    Calls Tryd.prog 40 #[.pointer (some ⟨b, 0, none⟩), .int .i64 fr, .bool v] w fun e w' => ∃ p q : Nat, e = .returned (.int .i64 p) ∧ IsNext l v fr p ∧ w' = w.drewN q := by
  cases v
  · exact next_false b l fr w hm hT hfr
  · exact next_true b l fr w hm hT hfr

/-! ### Next -/
/-- what Next and Last return: the place (0 with an error) and the error -/
def NextV (l : List Bool) (v : Bool) (fr : Int) (a e : Int) : Prop :=
  if 0 ≤ fr ∧ fr ≤ l.length then ∃ p, IsNext l v fr.toNat p ∧ (if p < l.length then a = p ∧ e = 0 else a = 0 ∧ e = 4) else a = 0 ∧ e = 7

set_option maxRecDepth 100000 in
theorem next_out (b m : Nat) (fr : Int) (v : Bool) (w : World) (hm4 : m ≤ 4096) (h : ¬ (0 ≤ fr ∧ fr ≤ m)) (h65 : w.cell? ⟨b, 65, none⟩ = some (.bool true)) (h64 : w.cell? ⟨b, 64, none⟩ = some (.int .i64 m)) :
    Calls Tryd.prog 30 #[.pointer (some ⟨b, 0, none⟩), .int .i64 fr, .bool v] w fun e w' => e = .returned (.tuple #[.int .i64 0, .int .i64 7]) ∧ w = w' := by
  have hI := in_walk b m fr 0 w hm4 h65 h64
  rw [show inE m fr 0 = 7 by unfold inE; rw [if_neg (by omega)]] at hI
  have HI := Lib.hid hI
  clear hI h
  go_enter Tryd.func30, Tryd.ntmps30
  go_wp2_with (go_at_call 39; refine (HI.out).mono ?_; rintro e w' ⟨rfl, rfl⟩)
  go_ret2
  exact ⟨rfl, rfl⟩
set_option maxRecDepth 100000 in
theorem next_in (b : Nat) (l : List Bool) (fr : Nat) (v : Bool) (w : World) (hm : IsMap w b l) (hT : Tab w) (hfr : fr ≤ l.length) :
    Calls Tryd.prog 30 #[.pointer (some ⟨b, 0, none⟩), .int .i64 fr, .bool v] w fun e w' => ∃ a c : Int, e = .returned (.tuple #[.int .i64 a, .int .i64 c]) ∧ NextV l v fr a c ∧ ∃ q, w' = w.drewN q := by
  have hl := hm.2
  have hI := in_walk b l.length fr 0 w hm.2 hm.1.made hm.1.len
  rw [show inE l.length fr 0 = 0 by unfold inE; rw [if_pos (by omega)]] at hI
  have HI := Lib.hid hI
  have HM := Lib.hid hm
  have HT := Lib.hid hT
  have cn := hm.1.len
  clear hI hm hT
  go_enter Tryd.func30, Tryd.ntmps30
  go_wp2_with (go_at_call 39; refine (HI.out).mono ?_; rintro e w' ⟨rfl, rfl⟩)
  refine (next0_walk b l fr v _ HM.out HT.out hfr).mono ?_
  rintro e w' ⟨p, q, rfl, hp, rfl⟩
  have HP := Lib.hid hp
  clear hp
  go_wp2
  all_goals go_ret2
  · exact ⟨_, _, rfl, by unfold NextV; rw [if_pos (by omega)]; exact ⟨p, HP.out, by rw [if_pos (by omega)]; exact ⟨rfl, rfl⟩⟩, q, rfl⟩
  · exact ⟨_, _, rfl, by unfold NextV; rw [if_pos (by omega)]; exact ⟨p, HP.out, by rw [if_neg (by omega)]; exact ⟨rfl, rfl⟩⟩, q, rfl⟩
/-- **Next** -/
theorem next_walk (b : Nat) (l : List Bool) (fr : Int) (v : Bool) (w : World) (hm : IsMap w b l) (hT : Tab w) :
    Calls Tryd.prog 30 #[.pointer (some ⟨b, 0, none⟩), .int .i64 fr, .bool v] w fun e w' => ∃ a c : Int, e = .returned (.tuple #[.int .i64 a, .int .i64 c]) ∧ NextV l v fr a c ∧ ∃ q, w' = w.drewN q := by
  by_cases h : 0 ≤ fr ∧ fr ≤ l.length
  · obtain ⟨F, rfl⟩ := Int.eq_ofNat_of_zero_le h.1
    exact next_in b l F v w hm hT (by omega)
  · refine (next_out b _ fr v w hm.2 h hm.1.made hm.1.len).mono ?_
    rintro e w' ⟨rfl, rfl⟩
    exact ⟨_, _, rfl, by unfold NextV; rw [if_neg h]; exact ⟨rfl, rfl⟩, 0, rfl⟩
end Go.Proofs.YtbnjeglbbadcbaaDoor
