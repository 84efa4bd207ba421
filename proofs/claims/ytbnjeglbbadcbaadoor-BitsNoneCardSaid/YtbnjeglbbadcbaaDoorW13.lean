/- Load of package bits: what it says. -/
import Derived.Test.YtbnjeglbbadcbaaDoorW12
namespace Go.Proofs.YtbnjeglbbadcbaaDoor
open Go.RowKit
open BM
set_option linter.unusedVariables false

theorem wP_trim (bs : List Nat) (n m : Nat) (hm : m = (n + 7) / 8) (hn : n ≤ 4096) (k : Nat) : trimW (wP bs m) n k = word (mkL n (bb bs)) k := by
  have hw := wP_lt bs m k
  apply eq_word
  · unfold trimW
    split
    · omega
    · split
      · exact Nat.lt_of_le_of_lt Nat.and_le_left hw
      · exact hw
  · intro j hj
    rw [bt_mkL]
    unfold trimW
    split
    · have : ¬ 64 * k + j < n := by omega
      simp [this]
    · split
      · rw [Nat.testBit_and, Nat.testBit_two_pow_sub_one, wP_testBit]
        by_cases a : 64 * k + j < n
        · have h1 : j < n - 64 * k := by omega
          have h2 : 64 * k + j < 8 * m := by omega
          simp [a, h1, h2, hj]
        · have : ¬ j < n - 64 * k := by omega
          simp [a, this]
      · rw [wP_testBit]
        have h1 : 64 * k + j < n := by omega
        have h2 : 64 * k + j < 8 * m := by omega
        simp [h1, h2, hj]
theorem bytes_bb {n : Nat} {bs : List Nat} (h : bytesN (mkL n (bb bs)) = bs) (hl : bs.length = (n + 7) / 8) (p : Nat) (h1 : n ≤ p) (h2 : p < 8 * bs.length) : bb bs p = false := by
  have e : bb bs p = bb (bytesN (mkL n (bb bs))) p := by rw [h]
  rw [e]
  have hlt : p / 8 < (bytesN (mkL n (bb bs))).length := by rw [h]; omega
  show ((bytesN (mkL n (bb bs))).getD (p / 8) 0).testBit (p % 8) = false
  rw [List.getD_eq_getElem?_getD, List.getElem?_eq_getElem hlt]
  simp only [bytesN, List.getElem_map, List.getElem_range, Option.getD_some]
  rw [byteN_testBit, bt_mkL]
  have : ¬ 8 * (p / 8) + p % 8 < n := by omega
  simp [this]
theorem load_iff (bs : List Nat) (n : Nat) (hn : n ≤ 4096) (hl : bs.length = (n + 7) / 8) (hb : ∀ x ∈ bs, x < 256) :
    eqW (trimW (wP bs bs.length) n) (wP bs bs.length) 0 64 = true ↔ bytesN (mkL n (bb bs)) = bs := by
  rw [eqW_iff]
  constructor
  · intro h
    apply List.ext_getElem (by rw [bytesN_length, mkL_length, hl])
    intro i h1 h2
    simp only [bytesN, List.getElem_map, List.getElem_range]
    apply Nat.eq_of_testBit_eq
    intro j
    rw [byteN_testBit, bt_mkL]
    by_cases hj : j < 8
    · have e1 : (8 * i + j) / 8 = i := by omega
      have e2 : (8 * i + j) % 8 = j := by omega
      have eb : bb bs (8 * i + j) = bs[i].testBit j := by
        unfold bb
        rw [e1, e2, List.getD_eq_getElem?_getD, List.getElem?_eq_getElem h2]; rfl
      by_cases hp : 8 * i + j < n
      · simp [hj, hp, eb]
      · have h3 := congrArg (fun x => x.testBit ((8 * i + j) % 64)) (h ((8 * i + j) / 64) (by omega) (by omega))
        simp only [wP_trim bs n _ hl hn, word_testBit, wP_testBit, bt_mkL] at h3
        rw [show 64 * ((8 * i + j) / 64) + (8 * i + j) % 64 = 8 * i + j by omega] at h3
        have a1 : (8 * i + j) % 64 < 64 := by omega
        have a2 : 8 * i + j < 8 * bs.length := by omega
        simp [a1, a2, hp] at h3
        rw [eb] at h3
        rw [h3]; simp [hp]
    · have : bs[i].testBit j = false := Nat.testBit_lt_two_pow (Nat.lt_of_lt_of_le (hb _ (List.getElem_mem h2)) (show 2 ^ 8 ≤ 2 ^ j from Nat.pow_le_pow_right (by omega) (by omega)))
      simp [hj, this]
  · intro h k _ hk
    rw [wP_trim bs n _ hl hn]
    symm
    apply eq_word (wP_lt _ _ _)
    intro j hj
    rw [wP_testBit, bt_mkL]
    by_cases hp : 64 * k + j < n
    · have : 64 * k + j < 8 * bs.length := by omega
      simp [hp, this, hj]
    · by_cases hq : 64 * k + j < 8 * bs.length
      · rw [bytes_bb h hl _ (by omega) hq]; simp
      · simp [hp, hq]

/-- the error of Load -/
def loadE (n : Int) (bs : List Nat) : Int := if 0 ≤ n ∧ n ≤ 4096 then (if bytesN (mkL n.toNat (bb bs)) = bs then 0 else 6) else 7

set_option maxRecDepth 100000 in
set_option maxHeartbeats 1000000 in
theorem load_range (n : Int) (a0 : Option Addr) (m c : Nat) (w : World) (hn : n < 0 ∨ 4096 < n) :
    Calls Tryd.prog 19 #[.int .i64 n, .slice a0 m c] w fun e w' => e = .returned (.tuple #[.pointer none, .int .i64 7]) ∧ w = w' := by
  have HN := Lib.hid (new_out n w hn)
  clear hn
  go_enter Tryd.func19, Tryd.ntmps19
  go_wp2_with (first | (go_at_call 16; refine (HN.out).mono ?_; rintro e w' ⟨rfl, rfl⟩))
  go_ret2
  exact ⟨rfl, rfl⟩
set_option maxRecDepth 100000 in
set_option maxHeartbeats 1000000 in
theorem load_len (n : Nat) (a0 : Option Addr) (m c : Nat) (w : World) (hn : n ≤ 4096) (hm : m ≠ (n + 7) / 8) :
    Calls Tryd.prog 19 #[.int .i64 n, .slice a0 m c] w fun e w' => e = .returned (.tuple #[.pointer none, .int .i64 6]) ∧ Fr (fun _ => False) w w' := by
  have HN := Lib.hid (new_in n w hn)
  have t1 : ((m : Int) != ((n : Int) + 7) / 8) = true := by simp; omega
  have t2 : ((m : Int) == ((n : Int) + 7) / 8) = false := by simp; omega
  clear hm
  go_enter Tryd.func19, Tryd.ntmps19
  go_wp2_with (first | (go_at_call 16; refine (HN.out).mono ?_; rintro e w' ⟨rfl, rfl⟩))
  go_ret2
  exact ⟨rfl, (Fr.refl _ w).alloc _⟩

/-- what is left behind a call that makes a map, or refuses it -/
def Made (w : World) (err : Int) (b : Nat) (l : List Bool) (e : Ending) (w' : World) : Prop :=
  Fr (fun _ => False) w w' ∧ (if err = 0 then e = .returned (.tuple #[.pointer (some ⟨b, 0, none⟩), .int .i64 0]) ∧ IsMap w' b l else e = .returned (.tuple #[.pointer none, .int .i64 err]))

/-- **Load** -/
theorem load_walk (n : Int) (a0 : Option Addr) (bs : List Nat) (c : Nat) (w : World) (hA : Arg w a0 bs) (hb : ∀ x ∈ bs, x < 256) (hcap : a0 = none → c = 0) :
    Calls Tryd.prog 19 #[.int .i64 n, .slice a0 bs.length c] w (Made w (loadE n bs) w.heap.size (mkL n.toNat (bb bs))) := by
  by_cases hn : 0 ≤ n ∧ n ≤ 4096
  · obtain ⟨N, rfl⟩ := Int.eq_ofNat_of_zero_le hn.1
    have e1 : loadE (N : Int) bs = if bytesN (mkL N (bb bs)) = bs then 0 else 6 := by unfold loadE; rw [if_pos hn]; rfl
    rw [e1, Int.toNat_natCast]
    have hN : N ≤ 4096 := by omega
    by_cases hl : bs.length = (N + 7) / 8
    · have key : Calls Tryd.prog 19 #[.int .i64 N, .slice a0 bs.length c] w (LoadP w (eqW (trimW (wP bs bs.length) N) (wP bs bs.length) 0 64) w.heap.size N (trimW (wP bs bs.length) N)) := by
        rcases hA with ⟨rfl, rfl⟩ | ⟨b, o, rfl, h2, h3⟩
        · rw [hcap rfl]
          exact load_none N w hN (by simpa using hl)
        · exact load_some N bs.length b o c bs w hN hl h2 hb h3
      refine key.mono ?_
      rintro e w' ⟨h1, h2⟩
      refine ⟨h1, ?_⟩
      by_cases hx : bytesN (mkL N (bb bs)) = bs
      · rw [if_pos ((load_iff bs N hN hl hb).2 hx)] at h2
        rw [if_pos hx, if_pos rfl]
        refine ⟨h2.1, ?_, by rw [mkL_length]; exact hN⟩
        rw [mkL_length]
        exact h2.2.congr (fun k _ => wP_trim bs N _ hl hN k)
      · have : ¬ eqW (trimW (wP bs bs.length) N) (wP bs bs.length) 0 64 = true := fun h => hx ((load_iff bs N hN hl hb).1 h)
        rw [if_neg this] at h2
        rw [if_neg hx, if_neg (by decide)]
        exact h2
    · have hx : ¬ bytesN (mkL N (bb bs)) = bs := fun h => hl (by rw [← h, bytesN_length, mkL_length])
      rw [if_neg hx]
      refine (load_len N a0 bs.length c w hN hl).mono ?_
      rintro e w' ⟨rfl, h⟩
      exact ⟨h, by rw [if_neg (by decide)]⟩
  · have e1 : loadE n bs = 7 := by unfold loadE; rw [if_neg hn]
    rw [e1]
    refine (load_range n a0 bs.length c w (by omega)).mono ?_
    rintro e w' ⟨rfl, rfl⟩
    exact ⟨Fr.refl _ _, by rw [if_neg (by decide)]⟩
end Go.Proofs.YtbnjeglbbadcbaaDoor
