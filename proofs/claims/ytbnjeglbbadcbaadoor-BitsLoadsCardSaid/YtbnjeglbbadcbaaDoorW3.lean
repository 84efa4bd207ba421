/- Walks over package bits: what writes into a map. -/
import Derived.Test.YtbnjeglbbadcbaaDoorW2
import Derived.LoopTactic
import Derived.StillTailTactics
namespace Go.Proofs.YtbnjeglbbadcbaaDoor
open Go.RowKit
open BM
set_option linter.unusedVariables false

set_option maxHeartbeats 400000 in
theorem xor_eq (x k : Nat) (hx : x < 18446744073709551616) (hk : k < 64) : bits BinOp.xor IntKind.u64 (x : Int) (IntKind.u64.wrap (2 ^ k)) = ((x ^^^ 2 ^ k : Nat) : Int) := by
  have hp : 2 ^ k < 2 ^ 64 := Nat.pow_lt_pow_right (by omega) hk
  have e0 : (2 : Int) ^ k = ((2 ^ k : Nat) : Int) := by rw [Int.natCast_pow]; rfl
  rw [e0, wrap_u64_nat rfl hp]
  exact u64_xor_nat x (2 ^ k) hx (by omega)

set_option maxRecDepth 100000 in
theorem set_flip (b n i : Nat) (x : Nat) (v : Bool) (w : World) (hn : n ≤ 4096) (hi : i < n) (hx : x < 18446744073709551616) (h65 : w.cell? ⟨b, 65, none⟩ = some (.bool true)) (h64 : w.cell? ⟨b, 64, none⟩ = some (.int .i64 n))
    (h : w.cell? ⟨b, i / 64, none⟩ = some (.int .u64 x)) (hf : w.frozen? ⟨b, i / 64, none⟩ = false) (hv : x.testBit (i % 64) = !v) :
    Calls Tryd.prog 38 #[.pointer (some ⟨b, 0, none⟩), .int .i64 i, .bool v] w fun e w' => e = .returned (.int .i64 0) ∧ w' = (w.setCell ⟨b, i / 64, none⟩ (.int .u64 ((x ^^^ 2 ^ (i % 64) : Nat) : Int))).drew := by
  have hB := bit_walk b n i w hn h65 h64
  rw [show bitE n i = 0 by unfold bitE; rw [if_pos (by omega)]] at hB
  have HB := Lib.hid hB
  clear hB
  have hX := Lib.hid (xor_eq x (i % 64) hx (by omega))
  have hi0 : (0 : Int) ≤ (i : Int) := by omega
  have hi1 : (i : Int) < 4096 := by omega
  cases v
  all_goals
    go_enter Tryd.func38, Tryd.ntmps38
    go_wp2_with (first | (go_at_call 48; refine (HB.out).mono ?_; rintro e w' ⟨rfl, rfl⟩) | (go_at_call 41; refine (at_walk b i x _ (by omega) hx h).mono ?_; rintro e w' ⟨rfl, rfl⟩))
    go_region
    go_wp2
    go_ret
    rw [hX.out]
    exact ⟨rfl, rfl⟩

set_option maxRecDepth 100000 in
theorem set_same (b n i : Nat) (x : Nat) (v : Bool) (w : World) (hn : n ≤ 4096) (hi : i < n) (hx : x < 18446744073709551616) (h65 : w.cell? ⟨b, 65, none⟩ = some (.bool true)) (h64 : w.cell? ⟨b, 64, none⟩ = some (.int .i64 n))
    (h : w.cell? ⟨b, i / 64, none⟩ = some (.int .u64 x)) (hv : x.testBit (i % 64) = v) :
    Calls Tryd.prog 38 #[.pointer (some ⟨b, 0, none⟩), .int .i64 i, .bool v] w fun e w' => e = .returned (.int .i64 0) ∧ w = w' := by
  have hB := bit_walk b n i w hn h65 h64
  rw [show bitE n i = 0 by unfold bitE; rw [if_pos (by omega)]] at hB
  have HB := Lib.hid hB
  clear hB
  have hi0 : (0 : Int) ≤ (i : Int) := by omega
  have hi1 : (i : Int) < 4096 := by omega
  cases v
  all_goals
    go_enter Tryd.func38, Tryd.ntmps38
    go_wp2_with (first | (go_at_call 48; refine (HB.out).mono ?_; rintro e w' ⟨rfl, rfl⟩) | (go_at_call 41; refine (at_walk b i x _ (by omega) hx h).mono ?_; rintro e w' ⟨rfl, rfl⟩))
    go_ret
    exact ⟨rfl, rfl⟩
set_option maxRecDepth 100000 in
theorem set_out (b n : Nat) (i : Int) (v : Bool) (w : World) (hn : n ≤ 4096) (hi : ¬ (0 ≤ i ∧ i < n)) (h65 : w.cell? ⟨b, 65, none⟩ = some (.bool true)) (h64 : w.cell? ⟨b, 64, none⟩ = some (.int .i64 n)) :
    Calls Tryd.prog 38 #[.pointer (some ⟨b, 0, none⟩), .int .i64 i, .bool v] w fun e w' => e = .returned (.int .i64 7) ∧ w = w' := by
  have hB := bit_walk b n i w hn h65 h64
  rw [show bitE n i = 7 by unfold bitE; rw [if_neg hi]] at hB
  have HB := Lib.hid hB
  clear hB hi
  go_enter Tryd.func38, Tryd.ntmps38
  go_wp2_with (first | (go_at_call 48; refine (HB.out).mono ?_; rintro e w' ⟨rfl, rfl⟩))
  go_ret
  exact ⟨rfl, rfl⟩

/-- Block b is the map of the list. -/
def IsMap (w : World) (b : Nat) (l : List Bool) : Prop := MapB w b (word l) l.length true ∧ l.length ≤ 4096

theorem word_set (l : List Bool) (i : Nat) (v : Bool) (hi : i < l.length) (h : (word l (i / 64)).testBit (i % 64) = !v) (k : Nat) :
    upd (word l) (i / 64) (word l (i / 64) ^^^ 2 ^ (i % 64)) k = word (l.set i v) k := by
  have hlt : i % 64 < 64 := by omega
  have hbt : ∀ p, bt (l.set i v) p = if p = i then v else bt l p := by
    intro p
    unfold bt
    simp only [List.getD_eq_getElem?_getD, List.getElem?_set]
    by_cases e : i = p
    · subst e; simp [hi]
    · have e' : ¬ p = i := fun x => e x.symm
      simp [e, e']
  have hl : bt l i = !v := by
    rw [word_testBit] at h
    rw [show 64 * (i / 64) + i % 64 = i by omega] at h
    simpa [hlt] using h
  unfold upd
  by_cases hk : k = i / 64
  · rw [if_pos hk]
    apply eq_word
    · exact Nat.xor_lt_two_pow (word_lt _ _) (Nat.pow_lt_pow_right (by omega) hlt)
    · intro j hj
      rw [Nat.testBit_xor, Nat.testBit_two_pow, word_testBit, hbt]
      by_cases e : i % 64 = j
      · subst e
        have : 64 * k + i % 64 = i := by omega
        rw [← hk, this, if_pos rfl, hl]
        simp [hlt]
      · have : ¬ 64 * k + j = i := by omega
        rw [if_neg this, ← hk]
        simp [hj, e]
  · rw [if_neg hk]
    apply eq_word (word_lt _ _)
    intro j hj
    rw [word_testBit, hbt, if_neg (by omega)]
    simp [hj]
theorem set_id (l : List Bool) (i : Nat) (v : Bool) (hi : i < l.length) (h : (word l (i / 64)).testBit (i % 64) = v) : l.set i v = l := by
  apply List.ext_getElem (by simp)
  intro p h1 h2
  rw [List.getElem_set]
  split
  · rename_i e
    subst e
    rw [word_testBit, show 64 * (i / 64) + i % 64 = i by omega, bt_in h2] at h
    have : i % 64 < 64 := by omega
    simp [this] at h
    exact h.symm
  · rfl

/-- what Set makes of a list -/
def setL (l : List Bool) (i : Int) (v : Bool) : List Bool := if 0 ≤ i ∧ i < l.length then l.set i.toNat v else l
theorem setL_length (l : List Bool) (i : Int) (v : Bool) : (setL l i v).length = l.length := by unfold setL; split <;> simp

/-- **Set** -/
theorem set_walk (b : Nat) (l : List Bool) (i : Int) (v : Bool) (w : World) (hm : IsMap w b l) :
    Calls Tryd.prog 38 #[.pointer (some ⟨b, 0, none⟩), .int .i64 i, .bool v] w fun e w' => e = .returned (.int .i64 (bitE l.length i)) ∧ IsMap w' b (setL l i v) ∧ Fr (fun k => k = b) w w' := by
  obtain ⟨hb, hl⟩ := hm
  by_cases hi : 0 ≤ i ∧ i < l.length
  · obtain ⟨i, rfl⟩ := Int.eq_ofNat_of_zero_le hi.1
    have hi' : i < l.length := by omega
    have e : bitE l.length (i : Int) = 0 := by unfold bitE; rw [if_pos hi]
    have e2 : setL l i v = l.set i v := by unfold setL; rw [if_pos hi]; rfl
    rw [e, e2]
    by_cases hv : (word l (i / 64)).testBit (i % 64) = v
    · refine (set_same b _ i _ v w hl hi' (word_lt l _) hb.made hb.len (hb.word (by omega)) hv).mono ?_
      rintro e w' ⟨rfl, rfl⟩
      rw [set_id l i v hi' hv]
      exact ⟨rfl, ⟨hb, hl⟩, Fr.refl _ _⟩
    · have hv' : (word l (i / 64)).testBit (i % 64) = !v := by revert hv; cases v <;> simp
      refine (set_flip b _ i _ v w hl hi' (word_lt l _) hb.made hb.len (hb.word (by omega)) (hb.frozen _) hv').mono ?_
      rintro e w' ⟨rfl, rfl⟩
      refine ⟨rfl, ⟨?_, by simpa using hl⟩, ((Fr.refl (fun k => k = b) w).setCell (fun _ => rfl) _).drew⟩
      have := (hb.set (i := i / 64) (by omega) (word l (i / 64) ^^^ 2 ^ (i % 64))).congr (fun k _ => word_set l i v hi' hv' k)
      rw [List.length_set]
      exact this
  · have e : bitE l.length i = 7 := by unfold bitE; rw [if_neg hi]
    have e2 : setL l i v = l := by unfold setL; rw [if_neg hi]
    rw [e, e2]
    refine (set_out b _ i v w hl hi hb.made hb.len).mono ?_
    rintro e w' ⟨rfl, rfl⟩
    exact ⟨rfl, ⟨hb, hl⟩, Fr.refl _ _⟩

/-- what Turn makes of a list -/
def turnL (l : List Bool) (i : Int) : List Bool := setL l i (!bt l i.toNat)

theorem word_bt (l : List Bool) (i : Nat) : (word l (i / 64)).testBit (i % 64) = bt l i := by
  rw [word_testBit, show 64 * (i / 64) + i % 64 = i by omega]
  have : i % 64 < 64 := by omega
  simp [this]

set_option maxRecDepth 100000 in
theorem turn_in (b i : Nat) (l : List Bool) (w : World) (hm : IsMap w b l) (hi : i < l.length) :
    Calls Tryd.prog 35 #[.pointer (some ⟨b, 0, none⟩), .int .i64 i] w fun e w' => e = .returned (.int .i64 0) ∧ IsMap w' b (setL l i (!bt l i)) ∧ Fr (fun k => k = b) w w' := by
  have hB := bit_walk b l.length i w hm.2 hm.1.made hm.1.len
  have hS := set_walk b l i (!bt l i) w hm
  rw [show bitE l.length i = 0 by unfold bitE; rw [if_pos (by omega)]] at hB hS
  have HB := Lib.hid hB
  have HS := Lib.hid hS
  have hA := at_walk b i _ w (by have := hm.2; omega) (word_lt l _) (hm.1.word (i := i / 64) (by have := hm.2; omega))
  rw [word_bt] at hA
  have HA := Lib.hid hA
  clear hB hS hA
  clear hm
  generalize bt l i = v at *
  go_enter Tryd.func35, Tryd.ntmps35
  go_wp2_with (first | (go_at_call 48; refine (HB.out).mono ?_; rintro e w' ⟨rfl, rfl⟩) | (go_at_call 41; refine (HA.out).mono ?_; rintro e w' ⟨rfl, rfl⟩) | (go_at_call 38; refine (HS.out).mono ?_; rintro e w' ⟨rfl, hq⟩))
  go_ret
  exact ⟨rfl, hq⟩
set_option maxRecDepth 100000 in
theorem turn_out (b n : Nat) (i : Int) (w : World) (hn : n ≤ 4096) (hi : ¬ (0 ≤ i ∧ i < n)) (h65 : w.cell? ⟨b, 65, none⟩ = some (.bool true)) (h64 : w.cell? ⟨b, 64, none⟩ = some (.int .i64 n)) :
    Calls Tryd.prog 35 #[.pointer (some ⟨b, 0, none⟩), .int .i64 i] w fun e w' => e = .returned (.int .i64 7) ∧ w = w' := by
  have hB := bit_walk b n i w hn h65 h64
  rw [show bitE n i = 7 by unfold bitE; rw [if_neg hi]] at hB
  have HB := Lib.hid hB
  clear hB hi
  go_enter Tryd.func35, Tryd.ntmps35
  go_wp2_with (first | (go_at_call 48; refine (HB.out).mono ?_; rintro e w' ⟨rfl, rfl⟩))
  go_ret
  exact ⟨rfl, rfl⟩
/-- **Turn** -/
theorem turn_walk (b : Nat) (l : List Bool) (i : Int) (w : World) (hm : IsMap w b l) :
    Calls Tryd.prog 35 #[.pointer (some ⟨b, 0, none⟩), .int .i64 i] w fun e w' => e = .returned (.int .i64 (bitE l.length i)) ∧ IsMap w' b (turnL l i) ∧ Fr (fun k => k = b) w w' := by
  by_cases hi : 0 ≤ i ∧ i < l.length
  · obtain ⟨i, rfl⟩ := Int.eq_ofNat_of_zero_le hi.1
    have e : bitE l.length (i : Int) = 0 := by unfold bitE; rw [if_pos hi]
    rw [e]
    exact turn_in b i l w hm (by omega)
  · have e : bitE l.length i = 7 := by unfold bitE; rw [if_neg hi]
    have e2 : turnL l i = l := by unfold turnL setL; rw [if_neg hi]
    rw [e, e2]
    refine (turn_out b _ i w hm.2 hi hm.1.made hm.1.len).mono ?_
    rintro e w' ⟨rfl, rfl⟩
    exact ⟨rfl, hm, Fr.refl _ _⟩

/-! ### trim -/
/-- the words without what is behind the end -/
def trimW (ws : Nat → Nat) (n : Nat) (j : Nat) : Nat := if n ≤ 64 * j then 0 else if n - 64 * j < 64 then ws j &&& (2 ^ (n - 64 * j) - 1) else ws j

theorem step_upd (F ws : Nat → Nat) (k x : Nat) (hx : x = F k) (j : Nat) : upd (fun j => if j < k then F j else ws j) k x j = if j < k + 1 then F j else ws j := by
  unfold upd
  by_cases e : j = k
  · subst e; simp [hx]
  · have : (j < k + 1) ↔ (j < k) := by omega
    simp [e, this]
theorem step_none (F ws : Nat → Nat) (k : Nat) (hx : ws k = F k) (j : Nat) : (if j < k then F j else ws j) = if j < k + 1 then F j else ws j := by
  by_cases e : j = k
  · subst e; simp [hx]
  · have : (j < k + 1) ↔ (j < k) := by omega
    simp [this]
theorem trim_arith (x d : Nat) (hx : x < 18446744073709551616) (hd : d < 64) : bits BinOp.and IntKind.u64 (x : Int) (IntKind.u64.wrap (IntKind.u64.wrap (2 ^ d) - 1)) = ((x &&& (2 ^ d - 1) : Nat) : Int) := by
  have hp : 2 ^ d < 2 ^ 64 := Nat.pow_lt_pow_right (by omega) hd
  have h0 : 0 < 2 ^ d := Nat.two_pow_pos d
  have e0 : (2 : Int) ^ d = ((2 ^ d : Nat) : Int) := by rw [Int.natCast_pow]; rfl
  rw [e0, wrap_u64_nat rfl hp]
  rw [wrap_u64_nat (m := 2 ^ d - 1) (by omega) (by omega)]
  exact u64_and_nat _ _ hx (by omega)

set_option maxRecDepth 100000 in
set_option maxHeartbeats 1000000 in
theorem trim_walk (b n : Nat) (ws : Nat → Nat) (md : Bool) (w : World) (hm : MapB w b ws n md) (hn : n ≤ 4096) (hw : ∀ j, j < 64 → ws j < 18446744073709551616) :
    Calls Tryd.prog 45 #[.pointer (some ⟨b, 0, none⟩)] w fun e w' => e = .returned (.tuple #[]) ∧ MapB w' b (trimW ws n) n md ∧ Fr (fun k => k = b) w w' := by
  go_enter Tryd.func45, Tryd.ntmps45
  go_wp2
  go_loopw [4] (fun i wr => ∃ k : Nat, k ≤ 64 ∧ i = .int .i64 k ∧ MapB wr b (fun j => if j < k then trimW ws n j else ws j) n md ∧ Fr (fun k => k = b) w wr) (fun i _ => (64 - intOf i).toNat)
  case atStart => exact ⟨0, by omega, rfl, hm.congr (fun j _ => by simp), Fr.refl _ _⟩
  case round =>
    obtain ⟨k, hk, rfl, hM, hF⟩ := hrel
    by_cases hlt : k < 64
    · have c1 := hM.word hlt
      simp only [Nat.lt_irrefl, if_false] at c1
      have c2 := hM.len
      have f1 := hM.frozen k
      have hx := hw k hlt
      have g1 : (0 : Int) ≤ (k : Int) := by omega
      have g2 : (k : Int) < 64 := by omega
      clear hw hm
      by_cases h1 : n ≤ 64 * k
      · go_wp2
        go_roundw
        case rel => exact ⟨k + 1, by omega, by go_num, (hM.set hlt 0).congr (fun j _ => step_upd _ _ _ _ (by unfold trimW; rw [if_pos h1]) j), hF.setCell (fun _ => rfl) _⟩
        case measure => simp [intOf]; omega
      · by_cases h2 : n - 64 * k < 64
        · have hT := Lib.hid (trim_arith (ws k) (n - 64 * k) hx h2)
          go_wp2
          go_region
          go_wp2
          rw [hT.out]
          go_roundw
          case rel => exact ⟨k + 1, by omega, by go_num, ((hM.set hlt _).congr (fun j _ => step_upd _ _ _ _ (by unfold trimW; rw [if_neg h1, if_pos h2]) j)), (hF.setCell (fun _ => rfl) _).drew⟩
          case measure => simp [intOf]; omega
        · go_wp2
          go_roundw
          case rel => exact ⟨k + 1, by omega, by go_num, hM.congr (fun j _ => step_none _ _ _ (by unfold trimW; rw [if_neg h1, if_neg h2]) j), hF⟩
          case measure => simp [intOf]; omega
    · obtain rfl : k = 64 := by omega
      clear hw hm
      go_wp2
      go_end0
      exact ⟨rfl, hM.congr (fun j hj => by simp [hj]), hF⟩

/-! ### Fill -/
def fillW (ws : Nat → Nat) (fr n : Nat) (v : Bool) (j : Nat) : Nat := if v then ws j ||| maskN j fr n else ws j &&& (18446744073709551615 - maskN j fr n)

set_option maxRecDepth 100000 in
set_option maxHeartbeats 1000000 in
theorem fill_true (b m fr n : Nat) (ws : Nat → Nat) (w : World) (hm : MapB w b ws m true) (hm4 : m ≤ 4096) (h1 : fr ≤ m) (h2 : n ≤ m - fr) (hw : ∀ j, j < 64 → ws j < 18446744073709551616) :
    Calls Tryd.prog 36 #[.pointer (some ⟨b, 0, none⟩), .int .i64 fr, .int .i64 n, .bool true] w fun e w' => e = .returned (.int .i64 0) ∧ MapB w' b (fillW ws fr n true) m true ∧ Fr (fun k => k = b) w w' := by
  have hI := in_walk b m fr n w hm4 hm.made hm.len
  rw [show inE m fr n = 0 by unfold inE; rw [if_pos (by omega)]] at hI
  have HI := Lib.hid hI
  clear hI
  go_enter Tryd.func36, Tryd.ntmps36
  go_wp2_with (go_at_call 39; refine (HI.out).mono ?_; rintro e w' ⟨rfl, rfl⟩)
  go_loopw [18] (fun i wr => ∃ k : Nat, k ≤ 64 ∧ i = .int .i64 k ∧ MapB wr b (fun j => if j < k then fillW ws fr n true j else ws j) m true ∧ Fr (fun k => k = b) w wr) (fun i _ => (64 - intOf i).toNat)
  case atStart => exact ⟨0, by omega, rfl, hm.congr (fun j _ => by simp), Fr.refl _ _⟩
  case round =>
    obtain ⟨k, hk, rfl, hM, hF⟩ := hrel
    by_cases hlt : k < 64
    · have c1 := hM.word hlt
      simp only [Nat.lt_irrefl, if_false] at c1
      have f1 := hM.frozen k
      have hx := hw k hlt
      have g1 : (0 : Int) ≤ (k : Int) := by omega
      have g2 : (k : Int) < 64 := by omega
      have HT := Lib.hid (u64_or_nat (ws k) (maskN k fr n) hx (maskN_lt _ _ _))
      clear hw hm
      go_wp2
      go_region_with (go_at_call 44; refine (mask_walk (k : Int) fr n _ (by omega) (by omega) (by omega) (by omega) (by omega) (by omega)).mono ?_; rintro e w' ⟨rfl, q, rfl⟩)
      all_goals go_wp2
      all_goals
        rw [HT.out]
        go_roundw
        case rel => exact ⟨k + 1, by omega, by go_num, ((hM.set hlt _).congr (fun j _ => step_upd _ _ _ _ (by simp [fillW]) j)), (hF.drewN _).setCell (fun _ => rfl) _⟩
        case measure => simp [intOf]; omega
    · obtain rfl : k = 64 := by omega
      clear hw hm
      go_wp2
      go_ret
      exact ⟨rfl, hM.congr (fun j hj => by simp [hj]), hF⟩
set_option maxRecDepth 100000 in
set_option maxHeartbeats 1000000 in
theorem fill_false (b m fr n : Nat) (ws : Nat → Nat) (w : World) (hm : MapB w b ws m true) (hm4 : m ≤ 4096) (h1 : fr ≤ m) (h2 : n ≤ m - fr) (hw : ∀ j, j < 64 → ws j < 18446744073709551616) :
    Calls Tryd.prog 36 #[.pointer (some ⟨b, 0, none⟩), .int .i64 fr, .int .i64 n, .bool false] w fun e w' => e = .returned (.int .i64 0) ∧ MapB w' b (fillW ws fr n false) m true ∧ Fr (fun k => k = b) w w' := by
  have hI := in_walk b m fr n w hm4 hm.made hm.len
  rw [show inE m fr n = 0 by unfold inE; rw [if_pos (by omega)]] at hI
  have HI := Lib.hid hI
  clear hI
  go_enter Tryd.func36, Tryd.ntmps36
  go_wp2_with (go_at_call 39; refine (HI.out).mono ?_; rintro e w' ⟨rfl, rfl⟩)
  go_loopw [18] (fun i wr => ∃ k : Nat, k ≤ 64 ∧ i = .int .i64 k ∧ MapB wr b (fun j => if j < k then fillW ws fr n false j else ws j) m true ∧ Fr (fun k => k = b) w wr) (fun i _ => (64 - intOf i).toNat)
  case atStart => exact ⟨0, by omega, rfl, hm.congr (fun j _ => by simp), Fr.refl _ _⟩
  case round =>
    obtain ⟨k, hk, rfl, hM, hF⟩ := hrel
    by_cases hlt : k < 64
    · have c1 := hM.word hlt
      simp only [Nat.lt_irrefl, if_false] at c1
      have f1 := hM.frozen k
      have hx := hw k hlt
      have g1 : (0 : Int) ≤ (k : Int) := by omega
      have g2 : (k : Int) < 64 := by omega
      have HT := Lib.hid (u64_andNot_nat (ws k) (maskN k fr n) hx (maskN_lt _ _ _))
      clear hw hm
      go_wp2
      go_region_with (go_at_call 44; refine (mask_walk (k : Int) fr n _ (by omega) (by omega) (by omega) (by omega) (by omega) (by omega)).mono ?_; rintro e w' ⟨rfl, q, rfl⟩)
      all_goals go_wp2
      all_goals
        rw [HT.out]
        go_roundw
        case rel => exact ⟨k + 1, by omega, by go_num, ((hM.set hlt _).congr (fun j _ => step_upd _ _ _ _ (by simp [fillW]) j)), (hF.drewN _).setCell (fun _ => rfl) _⟩
        case measure => simp [intOf]; omega
    · obtain rfl : k = 64 := by omega
      clear hw hm
      go_wp2
      go_ret
      exact ⟨rfl, hM.congr (fun j hj => by simp [hj]), hF⟩
end Go.Proofs.YtbnjeglbbadcbaaDoor
