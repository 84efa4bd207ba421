/- Walks over package bits: what counts and searches. -/
import Derived.Test.YtbnjeglbbadcbaaDoorW3
import Derived.Deep.MidRow
namespace Go.Proofs.YtbnjeglbbadcbaaDoor
open Go.RowKit
open BM
set_option linter.unusedVariables false

/-- the list of a function -/
def mkL (n : Nat) (f : Nat → Bool) : List Bool := (List.range n).map f
theorem mkL_length (n : Nat) (f : Nat → Bool) : (mkL n f).length = n := by simp [mkL]
theorem bt_mkL (n : Nat) (f : Nat → Bool) (p : Nat) : bt (mkL n f) p = (decide (p < n) && f p) := by
  unfold bt mkL
  by_cases h : p < n
  · simp [List.getD_eq_getElem?_getD, h]
  · simp [List.getD_eq_getElem?_getD, h]
theorem mkL_bt (l : List Bool) : mkL l.length (bt l) = l := ext_bt (mkL_length _ _) (fun p hp => by rw [mkL_length] at hp; rw [bt_mkL]; simp [hp])
theorem mkL_congr {n : Nat} {f g : Nat → Bool} (h : ∀ p, p < n → f p = g p) : mkL n f = mkL n g := by
  unfold mkL
  apply List.map_congr_left
  intro p hp
  exact h p (by simpa using hp)
theorem bt_lt {l : List Bool} {p : Nat} (h : bt l p = true) : p < l.length := by
  rcases Nat.lt_or_ge p l.length with h' | h'
  · exact h'
  · rw [bt_out h'] at h; cases h

/-- what Fill makes of a list -/
def fillL (l : List Bool) (fr n : Int) (v : Bool) : List Bool := if 0 ≤ fr ∧ 0 ≤ n ∧ fr ≤ l.length ∧ n ≤ l.length - fr then mkL l.length (fun p => if fr ≤ p ∧ p < fr + n then v else bt l p) else l
theorem fillL_length (l : List Bool) (fr n : Int) (v : Bool) : (fillL l fr n v).length = l.length := by unfold fillL; split; exact mkL_length _ _; rfl

theorem word_fill (l : List Bool) (fr n : Nat) (v : Bool) (h : fr + n ≤ l.length) (k : Nat) : fillW (word l) fr n v k = word (mkL l.length (fun p => if (fr : Int) ≤ p ∧ (p : Int) < fr + n then v else bt l p)) k := by
  unfold fillW
  have hm := maskN_lt k fr n
  have hw := word_lt l k
  cases v
  · simp only [Bool.false_eq_true, if_false]
    apply eq_word (Nat.lt_of_le_of_lt Nat.and_le_left hw)
    intro j hj
    have e : 18446744073709551615 - maskN k fr n = 2 ^ 64 - (maskN k fr n + 1) := by omega
    rw [Nat.testBit_and, e, Nat.testBit_two_pow_sub_succ hm, word_testBit, maskN_testBit, bt_mkL]
    by_cases a : fr ≤ 64 * k + j <;> by_cases b : 64 * k + j < fr + n
    · have a' : (fr : Int) ≤ ((64 * k + j : Nat) : Int) ∧ ((64 * k + j : Nat) : Int) < fr + n := by omega
      rw [if_pos a']; simp [a, b, hj]
    · have a' : ¬ ((fr : Int) ≤ ((64 * k + j : Nat) : Int) ∧ ((64 * k + j : Nat) : Int) < fr + n) := by omega
      rw [if_neg a']; simp [a, b, hj]; intro h; exact bt_lt h
    · have a' : ¬ ((fr : Int) ≤ ((64 * k + j : Nat) : Int) ∧ ((64 * k + j : Nat) : Int) < fr + n) := by omega
      rw [if_neg a']; simp [a, b, hj]; intro h; exact bt_lt h
    · have a' : ¬ ((fr : Int) ≤ ((64 * k + j : Nat) : Int) ∧ ((64 * k + j : Nat) : Int) < fr + n) := by omega
      rw [if_neg a']; simp [a, b, hj]; intro h; exact bt_lt h
  · simp only [if_true]
    apply eq_word (Nat.or_lt_two_pow (n := 64) hw hm)
    intro j hj
    rw [Nat.testBit_or, word_testBit, maskN_testBit, bt_mkL]
    by_cases a : fr ≤ 64 * k + j <;> by_cases b : 64 * k + j < fr + n
    · have a' : (fr : Int) ≤ ((64 * k + j : Nat) : Int) ∧ ((64 * k + j : Nat) : Int) < fr + n := by omega
      rw [if_pos a']; simp [a, b, hj]; omega
    · have a' : ¬ ((fr : Int) ≤ ((64 * k + j : Nat) : Int) ∧ ((64 * k + j : Nat) : Int) < fr + n) := by omega
      rw [if_neg a']; simp [a, b, hj]; intro h; exact bt_lt h
    · have a' : ¬ ((fr : Int) ≤ ((64 * k + j : Nat) : Int) ∧ ((64 * k + j : Nat) : Int) < fr + n) := by omega
      rw [if_neg a']; simp [a, b, hj]; intro h; exact bt_lt h
    · have a' : ¬ ((fr : Int) ≤ ((64 * k + j : Nat) : Int) ∧ ((64 * k + j : Nat) : Int) < fr + n) := by omega
      rw [if_neg a']; simp [a, b, hj]; intro h; exact bt_lt h

set_option maxRecDepth 100000 in
theorem fill_out (b m : Nat) (fr n : Int) (v : Bool) (w : World) (hm4 : m ≤ 4096) (h : ¬ (0 ≤ fr ∧ 0 ≤ n ∧ fr ≤ m ∧ n ≤ m - fr)) (h65 : w.cell? ⟨b, 65, none⟩ = some (.bool true)) (h64 : w.cell? ⟨b, 64, none⟩ = some (.int .i64 m)) :
    Calls Tryd.prog 36 #[.pointer (some ⟨b, 0, none⟩), .int .i64 fr, .int .i64 n, .bool v] w fun e w' => e = .returned (.int .i64 7) ∧ w = w' := by
  have hI := in_walk b m fr n w hm4 h65 h64
  rw [show inE m fr n = 7 by unfold inE; rw [if_neg h]] at hI
  have HI := Lib.hid hI
  clear hI h
  go_enter Tryd.func36, Tryd.ntmps36
  go_wp2_with (go_at_call 39; refine (HI.out).mono ?_; rintro e w' ⟨rfl, rfl⟩)
  go_ret
  exact ⟨rfl, rfl⟩

/-- **Fill** -/
theorem fill_walk (b : Nat) (l : List Bool) (fr n : Int) (v : Bool) (w : World) (hm : IsMap w b l) :
    Calls Tryd.prog 36 #[.pointer (some ⟨b, 0, none⟩), .int .i64 fr, .int .i64 n, .bool v] w fun e w' => e = .returned (.int .i64 (inE l.length fr n)) ∧ IsMap w' b (fillL l fr n v) ∧ Fr (fun k => k = b) w w' := by
  obtain ⟨hb, hl⟩ := hm
  by_cases h : 0 ≤ fr ∧ 0 ≤ n ∧ fr ≤ l.length ∧ n ≤ l.length - fr
  · have e : inE l.length fr n = 0 := by unfold inE; rw [if_pos h]
    have e2 : fillL l fr n v = mkL l.length (fun p => if fr ≤ p ∧ p < fr + n then v else bt l p) := by unfold fillL; rw [if_pos h]
    rw [e, e2]
    obtain ⟨F, rfl⟩ := Int.eq_ofNat_of_zero_le h.1
    obtain ⟨N, rfl⟩ := Int.eq_ofNat_of_zero_le h.2.1
    have key : Calls Tryd.prog 36 #[.pointer (some ⟨b, 0, none⟩), .int .i64 (F : Int), .int .i64 (N : Int), .bool v] w fun e w' => e = .returned (.int .i64 0) ∧ MapB w' b (fillW (word l) F N v) l.length true ∧ Fr (fun k => k = b) w w' := by
      cases v
      · exact fill_false b _ F N _ w hb hl (by omega) (by omega) (fun j _ => word_lt l j)
      · exact fill_true b _ F N _ w hb hl (by omega) (by omega) (fun j _ => word_lt l j)
    refine key.mono ?_
    rintro e w' ⟨rfl, hM, hF⟩
    refine ⟨rfl, ⟨?_, by rw [mkL_length]; exact hl⟩, hF⟩
    rw [mkL_length]
    exact hM.congr (fun k _ => word_fill l F N v (by omega) k)
  · have e : inE l.length fr n = 7 := by unfold inE; rw [if_neg h]
    have e2 : fillL l fr n v = l := by unfold fillL; rw [if_neg h]
    rw [e, e2]
    refine (fill_out b _ fr n v w hl h hb.made hb.len).mono ?_
    rintro e w' ⟨rfl, rfl⟩
    exact ⟨rfl, ⟨hb, hl⟩, Fr.refl _ _⟩

/-! ### the words as one value -/
def wlist (ws : Nat → Nat) : List Value := (List.range 64).map (fun i => Value.int .u64 (ws i))
theorem wlist_length (ws : Nat → Nat) : (wlist ws).length = 64 := by simp [wlist]
theorem wlist_get (ws : Nat → Nat) (i : Nat) (h : i < 64) : (wlist ws)[i]? = some (.int .u64 (ws i)) := by simp [wlist, h]
theorem MapB.range {w : World} {b n : Nat} {ws : Nat → Nat} {md : Bool} (h : MapB w b ws n md) : w.rangeAt b 0 (wlist ws) := by
  intro j v hv
  have hj : j < 64 := by
    have := (List.getElem?_eq_some_iff.1 hv).1
    rwa [wlist_length] at this
  rw [wlist_get ws j hj] at hv
  rw [Nat.zero_add, h.word hj, ← hv]
theorem info66 : (Tryd.prog.info? 66).map (·.size) = some 64 := by kernel_rfl
theorem index_word (ws : Nat → Nat) (k : Nat) (hk : k < 64) (w : World) : (Instr.index 66 (.agg (wlist ws).toArray) (.int .i64 (k : Int))).run Tryd.prog w = .ok (.int .u64 (ws k)) w := by
  have hu := Tryd.underlying66
  have h1 : (0 : Int) ≤ (k : Int) ∧ (k : Int) < ((64 : Nat) : Int) := by omega
  have hs := Tryd.sizeOf65
  have ha := Tryd.isAgg65
  have hg : (wlist ws)[k]? = some (.int .u64 (ws k)) := wlist_get ws k hk
  have hk2 : ¬ 64 ≤ k := by omega
  simp [Instr.index, run_underlying hu, asIntOf, part, hs, ha, go_sem, hg, hk]

/-! ### Count -/
def sumP (g : Nat → Nat) : Nat → Nat
  | 0 => 0
  | k + 1 => sumP g k + g k
theorem pop_le (x : Nat) : pop x ≤ 64 := cnt_le _ _
theorem sumP_le (g : Nat → Nat) (k : Nat) (h : ∀ j, g j ≤ 64) : sumP g k ≤ 64 * k := by
  induction k with
  | zero => simp [sumP]
  | succ k ih => have := h k; simp only [sumP]; omega
theorem sumP_cnt (G : Nat → Bool) (k : Nat) : sumP (fun i => cnt (fun j => G (64 * i + j)) 64) k = cnt G (64 * k) := by
  induction k with
  | zero => rfl
  | succ k ih => rw [sumP, ih, Nat.mul_succ, cnt_add]

/-- how many of a range are true -/
def cntR (l : List Bool) (fr n : Nat) : Nat := cnt (fun j => bt l (fr + j)) n
def cntW (l : List Bool) (fr n : Nat) (j : Nat) : Nat := pop (word l j &&& maskN j fr n)
theorem cntW_le (l : List Bool) (fr n : Nat) (j : Nat) : cntW l fr n j ≤ 64 := pop_le _
theorem cntW_sum (l : List Bool) (fr n : Nat) (h : fr + n ≤ 4096) : sumP (cntW l fr n) 64 = cntR l fr n := by
  have e : cntW l fr n = fun i => cnt (fun j => (fun p => bt l p && (decide (fr ≤ p) && decide (p < fr + n))) (64 * i + j)) 64 := by
    funext i
    unfold cntW pop
    apply cnt_congr
    intro j hj
    rw [Nat.testBit_and, word_testBit, maskN_testBit]
    simp [hj]
  rw [e, sumP_cnt (fun p => bt l p && (decide (fr ≤ p) && decide (p < fr + n)))]
  obtain ⟨r, hr⟩ : ∃ r, 64 * 64 = fr + n + r := ⟨4096 - (fr + n), by omega⟩
  rw [hr, cnt_add, cnt_add]
  have z1 : cnt (fun p => bt l p && (decide (fr ≤ p) && decide (p < fr + n))) fr = 0 := cnt_none (fun j hj => by
    have : ¬ fr ≤ j := by omega
    simp [this])
  have z2 : cnt (fun j => bt l (fr + n + j) && (decide (fr ≤ fr + n + j) && decide (fr + n + j < fr + n))) r = 0 := cnt_none (fun j hj => by
    have : ¬ fr + n + j < fr + n := by omega
    simp [this])
  rw [z1, z2]
  unfold cntR
  rw [Nat.zero_add, Nat.add_zero]
  apply cnt_congr
  intro j hj
  have h1 : fr ≤ fr + j := by omega
  have h2 : fr + j < fr + n := by omega
  simp [h1, hj]

set_option maxRecDepth 100000 in
set_option maxHeartbeats 1000000 in
theorem count_in (b : Nat) (l : List Bool) (fr n : Nat) (w : World) (hm : IsMap w b l) (h : fr + n ≤ l.length) :
    Calls Tryd.prog 14 #[.pointer (some ⟨b, 0, none⟩), .int .i64 fr, .int .i64 n] w fun e w' => e = .returned (.tuple #[.int .i64 (sumP (cntW l fr n) 64), .int .i64 0]) ∧ ∃ q, w' = w.drewN q := by
  obtain ⟨hb, hl⟩ := hm
  have hI := in_walk b l.length fr n w hl hb.made hb.len
  rw [show inE l.length fr n = 0 by unfold inE; rw [if_pos (by omega)]] at hI
  have HI := Lib.hid hI
  clear hI
  have hr := hb.range
  have hiw := fun k (hk : k < 64) w => index_word (word l) k hk w
  have hwl : ∀ j, word l j < 18446744073709551616 := fun j => word_lt l j
  generalize hcs : wlist (word l) = cs at *
  have hlen : cs.length = 64 := by rw [← hcs]; exact wlist_length _
  have hi66 : (Tryd.prog.info? 66).map (·.size) = some cs.length := by rw [hlen]; exact info66
  have Hlen := Lib.hid hlen
  have Hcs := Lib.hid hcs
  have Hi66 := Lib.hid hi66
  have Hr := Lib.hid hr
  have Hiw := Lib.hid hiw
  have Hwl := Lib.hid hwl
  clear hlen hcs hi66 hr hb hiw hwl
  have h1 : fr + n ≤ 4096 := by omega
  clear h hl
  go_enter Tryd.func14, Tryd.ntmps14
  go_wp2_with (first | (go_at_call 39; refine (HI.out).mono ?_; rintro e w' ⟨rfl, rfl⟩) | (refine wpList_load_mid rfl 66 _ rfl b 0 rfl cs _ Hr.out Tryd.underlying66 rfl Hi66.out ?_))
  go_loopw [9, 23] (fun c i wr => ∃ k q : Nat, k ≤ 64 ∧ i = .int .i64 k ∧ c = .int .i64 (sumP (cntW l fr n) k) ∧ wr = w.drewN q) (fun _ i _ => (64 - intOf i).toNat)
  case atStart => exact ⟨0, 0, by omega, rfl, rfl, rfl⟩
  case round =>
    obtain ⟨k, q, hk, rfl, rfl, rfl⟩ := hrel
    by_cases hlt : k < 64
    · have hs := sumP_le (cntW l fr n) k (cntW_le l fr n)
      have hx := Hwl.out k
      have hix := fun w => Hiw.out k hlt w
      have HA := Lib.hid (u64_and_nat (word l k) (maskN k fr n) hx (maskN_lt _ _ _))
      have hp : pop (word l k &&& maskN k fr n) ≤ 64 := pop_le _
      have HS : Hid (sumP (cntW l fr n) (k + 1) = sumP (cntW l fr n) k + pop (word l k &&& maskN k fr n)) := rfl
      have hxm : word l k &&& maskN k fr n < 18446744073709551616 := Nat.lt_of_le_of_lt Nat.and_le_left hx
      go_wp2_with fail
      refine (mask_walk (k : Int) fr n _ (by omega) (by omega) (by omega) (by omega) (by omega) (by omega)).mono ?_
      rintro e w' ⟨rfl, q', rfl⟩
      simp only [Int.toNat_natCast]
      go_wp2_with fail
      rw [HA.out]
      refine (ones_walk _ _ hxm).mono ?_
      rintro e w' ⟨rfl, rfl⟩
      go_wp2_with fail
      go_roundw
      case rel => exact ⟨k + 1, q + q', by omega, by go_num, by rw [HS.out]; go_num, by simp [World.drewN]⟩
      case measure => simp [intOf]; omega
    · obtain rfl : k = 64 := by omega
      go_wp2
      go_ret2
      exact ⟨rfl, _, rfl⟩

set_option maxRecDepth 100000 in
theorem count_out (b m : Nat) (fr n : Int) (w : World) (hm4 : m ≤ 4096) (h : ¬ (0 ≤ fr ∧ 0 ≤ n ∧ fr ≤ m ∧ n ≤ m - fr)) (h65 : w.cell? ⟨b, 65, none⟩ = some (.bool true)) (h64 : w.cell? ⟨b, 64, none⟩ = some (.int .i64 m)) :
    Calls Tryd.prog 14 #[.pointer (some ⟨b, 0, none⟩), .int .i64 fr, .int .i64 n] w fun e w' => e = .returned (.tuple #[.int .i64 0, .int .i64 7]) ∧ w = w' := by
  have hI := in_walk b m fr n w hm4 h65 h64
  rw [show inE m fr n = 7 by unfold inE; rw [if_neg h]] at hI
  have HI := Lib.hid hI
  clear hI h
  go_enter Tryd.func14, Tryd.ntmps14
  go_wp2_with (go_at_call 39; refine (HI.out).mono ?_; rintro e w' ⟨rfl, rfl⟩)
  go_ret2
  exact ⟨rfl, rfl⟩

/-- what Count returns: the number and the error -/
def countV (l : List Bool) (fr n : Int) : Int := if 0 ≤ fr ∧ 0 ≤ n ∧ fr ≤ l.length ∧ n ≤ l.length - fr then cntR l fr.toNat n.toNat else 0

/-- **Count** -/
theorem count_walk (b : Nat) (l : List Bool) (fr n : Int) (w : World) (hm : IsMap w b l) :
    Calls Tryd.prog 14 #[.pointer (some ⟨b, 0, none⟩), .int .i64 fr, .int .i64 n] w fun e w' => e = .returned (.tuple #[.int .i64 (countV l fr n), .int .i64 (inE l.length fr n)]) ∧ ∃ q, w' = w.drewN q := by
  by_cases h : 0 ≤ fr ∧ 0 ≤ n ∧ fr ≤ l.length ∧ n ≤ l.length - fr
  · have e : inE l.length fr n = 0 := by unfold inE; rw [if_pos h]
    have e2 : countV l fr n = cntR l fr.toNat n.toNat := by unfold countV; rw [if_pos h]
    rw [e, e2]
    have hl := hm.2
    obtain ⟨F, rfl⟩ := Int.eq_ofNat_of_zero_le h.1
    obtain ⟨N, rfl⟩ := Int.eq_ofNat_of_zero_le h.2.1
    have hs := cntW_sum l F N (by omega)
    refine (count_in b l F N w hm (by omega)).mono ?_
    rintro e w' ⟨rfl, hq⟩
    rw [hs]
    exact ⟨rfl, hq⟩
  · have e : inE l.length fr n = 7 := by unfold inE; rw [if_neg h]
    have e2 : countV l fr n = 0 := by unfold countV; rw [if_neg h]
    rw [e, e2]
    refine (count_out b _ fr n w hm.2 h hm.1.made hm.1.len).mono ?_
    rintro e w' ⟨rfl, rfl⟩
    exact ⟨rfl, 0, rfl⟩

/-! ### next -/
/-- p is the least place from fr on whose bit is v; the length, if there is none -/
structure IsNext (l : List Bool) (v : Bool) (fr p : Nat) : Prop where
  ge : fr ≤ p
  le : p ≤ l.length
  none : ∀ q, fr ≤ q → q < p → bt l q = !v
  has : p < l.length → bt l p = v
theorem IsNext.uniq {l : List Bool} {v : Bool} {fr p q : Nat} (h : IsNext l v fr p) (k : IsNext l v fr q) : p = q := by
  rcases Nat.lt_trichotomy p q with h1 | h1 | h1
  · have a := k.none p h.ge h1
    rw [h.has (Nat.lt_of_lt_of_le h1 k.le)] at a
    cases v <;> cases a
  · exact h1
  · have a := h.none q k.ge h1
    rw [k.has (Nat.lt_of_lt_of_le h1 h.le)] at a
    cases v <;> cases a

/-- the word in which next looks -/
def look (l : List Bool) (v : Bool) (i fr n : Nat) : Nat := (if v then word l i else 18446744073709551615 - word l i) &&& maskN i fr n
theorem look_lt (l : List Bool) (v : Bool) (i fr n : Nat) : look l v i fr n < 18446744073709551616 := Nat.lt_of_le_of_lt Nat.and_le_right (maskN_lt _ _ _)
theorem look_testBit (l : List Bool) (v : Bool) (i fr n j : Nat) : (look l v i fr n).testBit j = (decide (j < 64) && (bt l (64 * i + j) == v) && (decide (fr ≤ 64 * i + j) && decide (64 * i + j < fr + n))) := by
  unfold look
  rw [Nat.testBit_and, maskN_testBit]
  cases v
  · have e : 18446744073709551615 - word l i = 2 ^ 64 - (word l i + 1) := by have := word_lt l i; omega
    simp only [Bool.false_eq_true, if_false]
    rw [e, Nat.testBit_two_pow_sub_succ (word_lt l i), word_testBit]
    by_cases hj : j < 64 <;> simp [hj]
  · simp only [if_true]
    rw [word_testBit]
    by_cases hj : j < 64 <;> simp [hj]
theorem look_zero {l : List Bool} {v : Bool} {i fr n : Nat} (h : look l v i fr n = 0) (j : Nat) (hj : j < 64) (h1 : fr ≤ 64 * i + j) (h2 : 64 * i + j < fr + n) : bt l (64 * i + j) = !v := by
  have := look_testBit l v i fr n j
  rw [h, Nat.zero_testBit] at this
  simp [hj, h1, h2] at this
  cases v <;> cases hb : bt l (64 * i + j) <;> simp_all
theorem ctz_spec (x : Nat) (h0 : x ≠ 0) (h : x < 18446744073709551616) : x.testBit (Lib.ctz 64 x) = true ∧ (∀ j, j < Lib.ctz 64 x → x.testBit j = false) ∧ Lib.ctz 64 x < 64 := by
  obtain ⟨m, hm, hk⟩ := Lib.ctzFrom_spec 64 x (by omega) h
  have e : Lib.ctz 64 x = Lib.ctzFrom 64 x := by simp [Lib.ctz, h0]
  rw [e]
  generalize Lib.ctzFrom 64 x = c at *
  subst hm
  refine ⟨?_, ?_, hk⟩
  · rw [Nat.mul_comm, Nat.testBit_mul_two_pow]; simp
  · intro j hj
    rw [Nat.mul_comm, Nat.testBit_mul_two_pow]
    have : ¬ c ≤ j := by omega
    simp [this]
end Go.Proofs.YtbnjeglbbadcbaaDoor
