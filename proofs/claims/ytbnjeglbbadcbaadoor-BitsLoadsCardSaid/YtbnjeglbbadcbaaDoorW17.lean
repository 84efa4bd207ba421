/- The reference of layer 2: Load. -/
import Derived.Test.YtbnjeglbbadcbaaDoorW16
namespace Go.Proofs.YtbnjeglbbadcbaaDoor
open Go.RowKit
open BM
set_option linter.unusedVariables false

theorem bytes_iff {n : Nat} {bs : List Nat} (hl : bs.length = (n + 7) / 8) (hb : ∀ x ∈ bs, x < 256) : bytesN (mkL n (bb bs)) = bs ↔ ∀ p, n ≤ p → p < 8 * bs.length → bb bs p = false := by
  constructor
  · intro h p h1 h2; exact bytes_bb h hl p h1 h2
  · intro h
    apply List.ext_getElem (by rw [bytesN_length, mkL_length, hl])
    intro i h1 h2
    simp only [bytesN, List.getElem_map, List.getElem_range]
    apply Nat.eq_of_testBit_eq
    intro j
    rw [byteN_testBit, bt_mkL]
    by_cases hj : j < 8
    · have e1 : (8 * i + j) / 8 = i := by omega
      have e2 : (8 * i + j) % 8 = j := by omega
      have eb : bb bs (8 * i + j) = bs[i].testBit j := by
        unfold bb
        rw [e1, e2, List.getD_eq_getElem?_getD, List.getElem?_eq_getElem h2]; rfl
      by_cases hp : 8 * i + j < n
      · simp [hj, hp, eb]
      · rw [← eb, h (8 * i + j) (by omega) (by omega)]; simp [hp]
    · have : bs[i].testBit j = false := Nat.testBit_lt_two_pow (Nat.lt_of_lt_of_le (hb _ (List.getElem_mem h2)) (show 2 ^ 8 ≤ 2 ^ j from Nat.pow_le_pow_right (by omega) (by omega)))
      simp [hj, this]

theorem bit_of (x k : Nat) : (((x : Int) / 2 ^ k).tmod 2 == 1) = x.testBit k := by
  have e : (x : Int) / 2 ^ k = ((x / 2 ^ k : Nat) : Int) := by rw [Int.natCast_ediv, Int.natCast_pow]; rfl
  rw [e, Int.tmod_eq_emod_of_nonneg (Int.natCast_nonneg _), Nat.testBit_eq_decide_div_mod_eq, Bool.eq_iff_iff]
  simp only [beq_iff_eq, decide_eq_true_eq]
  omega

/-- what is left behind the reference's Load -/
def RMade (w : World) (err : Int) (n : Nat) (l : List Bool) (e : Ending) (w' : World) : Prop :=
  Fr (fun _ => False) w w' ∧ (if err = 0 then e = .returned (.tuple #[.slice (some ⟨w.heap.size, 0, none⟩) n n, .int .i64 0]) ∧ BoolS w' w.heap.size l else e = .returned (.tuple #[.slice none 0 0, .int .i64 err]))

set_option maxRecDepth 100000 in
set_option maxHeartbeats 2000000 in
theorem rload_some (n m : Nat) (b o c : Nat) (bs : List Nat) (w : World) (hn : n ≤ 4096) (hl : m = (n + 7) / 8) (hbl : bs.length = m) (hlt0 : b < w.heap.size) (hb : ∀ x ∈ bs, x < 256)
    (hc : ∀ j, j < m → w.cell? ⟨b, o + j, none⟩ = some (.int .u8 ((bs.getD j 0 : Nat) : Int))) :
    Calls Tryd.prog 20 #[.int .i64 n, .slice (some ⟨b, o, none⟩) m c] w (RMade w (if bytesN (mkL n (bb bs)) = bs then 0 else 6) n (mkL n (bb bs))) := by
  have hiff := bytes_iff (n := n) (bs := bs) (by omega) hb
  rw [hbl] at hiff
  have HIF := Lib.hid hiff
  have HN := Lib.hid (rnew_in n w hn)
  have HC := Lib.hid hc
  have HL := Lib.hid hl
  have t1 : ((m : Int) != ((n : Int) + 7) / 8) = false := by simp; omega
  have t2 : ((m : Int) == ((n : Int) + 7) / 8) = true := by simp; omega
  have hm4 : m ≤ 512 := by omega
  have hm8 : n ≤ 8 * m := by omega
  clear hc hl hb hiff hbl
  obtain ⟨err, herr⟩ : ∃ err : Int, (if bytesN (mkL n (bb bs)) = bs then 0 else 6) = err := ⟨_, rfl⟩
  rw [herr]
  have HE := Lib.hid herr
  clear herr
  go_enter Tryd.func20, Tryd.ntmps20
  go_wp2_with (first | (go_at_call 17; refine (HN.out).mono ?_; rintro e w' ⟨rfl, rfl⟩))
  have hM0 : BoolS (w.alloc (.cells (lvs (List.replicate n false)).toArray 4)) w.heap.size (mkL n (fun _ => false)) := ⟨[], by rw [List.append_nil, ← rep_mkL]; exact RowB.new w 4 _⟩
  have hF0 : Fr (fun _ => False) w (w.alloc (.cells (lvs (List.replicate n false)).toArray 4)) := (Fr.refl _ w).alloc _
  generalize w.alloc (.cells (lvs (List.replicate n false)).toArray 4) = W0 at *
  have HM0 := Lib.hid hM0
  have HF0 := Lib.hid hF0
  clear hM0 hF0 t1 t2
  go_loopw [8] (fun i wr => ∃ k : Nat, k ≤ 8 * m ∧ i = .int .i64 k ∧ BoolS wr w.heap.size (mkL n (fun p => if p < k then bb bs p else false)) ∧ Fr (fun _ => False) w wr ∧ Hid (∀ p, n ≤ p → p < k → bb bs p = false)) (fun i _ => (8 * m - intOf i).toNat)
  case atStart => exact ⟨0, by omega, rfl, by simpa using HM0.out, HF0.out, Lib.hid (fun p h1 h2 => by omega)⟩
  case round =>
    obtain ⟨k, hk, rfl, hR, hF, hZ⟩ := hrel
    by_cases hlt : k < 8 * m
    · have c1 : wr.cell? ⟨b, o + k / 8, none⟩ = some (.int .u8 ((bs.getD (k / 8) 0 : Nat) : Int)) := by
        rw [← HC.out (k / 8) (by omega)]; exact World.cell?_of_block (hF.block b hlt0 (fun h => h))
      have hbit := bit_of (bs.getD (k / 8) 0) (k % 8)
      have hbb : bb bs k = (bs.getD (k / 8) 0).testBit (k % 8) := rfl
      rw [← hbb] at hbit
      clear hbb
      have g1 : (0 : Int) ≤ (k : Int) := by omega
      have g2 : (k : Int) < 8 * (m : Int) := by omega
      have g3 : (m : Int) ≤ 512 := by omega
      have g5 : (k : Int) / 8 < (m : Int) := by omega
      generalize bs.getD (k / 8) 0 = y at *
      by_cases hkn : k < n
      · have c3 := hR.cell (j := k) (by rw [mkL_length]; exact hkn)
        have f1 := hR.frozen k
        have HS := hR.set (j := k) (by rw [mkL_length]; exact hkn) (bb bs k)
        rw [mkL_set] at HS
        rw [mkL_congr (g := fun p => if p < k + 1 then bb bs p else false) (fun p hp => by
          by_cases e : p = k
          · subst e; simp
          · have : (p < k + 1) ↔ (p < k) := by omega
            simp [e, this])] at HS
        have HS := Lib.hid HS
        have HFs := Lib.hid (hF.setCell (a := ⟨w.heap.size, k, none⟩) (fun h => absurd h (Nat.lt_irrefl _)) (.bool (bb bs k)))
        clear hR hF
        generalize bb bs k = x at *
        go_wp2
        go_roundw
        case rel => exact ⟨k + 1, by omega, by go_num, HS.out, HFs.out, Lib.hid (fun p h1 h2 => hZ.out p h1 (by omega))⟩
        case measure => simp [intOf]; omega
      · have HR2 : BoolS wr w.heap.size (mkL n (fun p => if p < k + 1 then bb bs p else false)) := by
          rw [mkL_congr (g := fun p => if p < k then bb bs p else false) (fun p hp => by rw [if_pos (by omega), if_pos (by omega)])]
          exact hR
        have HR2 := Lib.hid HR2
        have HF2 := Lib.hid hF
        clear hR hF
        cases hv : bb bs k
        · rw [hv] at hbit
          have HV := Lib.hid hv
          clear hv
          go_wp2
          go_roundw
          case rel => exact ⟨k + 1, by omega, by go_num, HR2.out, HF2.out, Lib.hid (fun p h1 h2 => by
            by_cases e : p < k
            · exact hZ.out p h1 e
            · rw [show p = k by omega]; exact HV.out)⟩
          case measure => simp [intOf]; omega
        · rw [hv] at hbit
          have HV := Lib.hid hv
          clear hv
          go_wp2
          go_ret2
          refine ⟨HF2.out, ?_⟩
          have hne : ¬ bytesN (mkL n (bb bs)) = bs := fun h => by have := (HIF.out.1 h) k (by omega) hlt; rw [HV.out] at this; cases this
          have he : err = 6 := by rw [← HE.out, if_neg hne]
          rw [he, if_neg (by decide)]
          rfl
    · obtain rfl : k = 8 * m := by omega
      have HR2 := Lib.hid hR
      have HF2 := Lib.hid hF
      clear hR hF
      go_wp2
      go_ret2
      refine ⟨HF2.out, ?_⟩
      have he : err = 0 := by rw [← HE.out, if_pos (HIF.out.2 (fun p h1 h2 => hZ.out p h1 h2))]
      rw [he, if_pos rfl]
      refine ⟨rfl, ?_⟩
      rw [mkL_congr (g := fun p => if p < 8 * m then bb bs p else false) (fun p hp => by rw [if_pos (by omega)])]
      exact HR2.out

set_option maxRecDepth 100000 in
set_option maxHeartbeats 2000000 in
theorem rload_none (w : World) :
    Calls Tryd.prog 20 #[.int .i64 0, .slice none 0 0] w (RMade w 0 0 []) := by
  have HN := Lib.hid (rnew_in 0 w (by omega))
  go_enter Tryd.func20, Tryd.ntmps20
  go_wp2_with (first | (go_at_call 17; refine (HN.out).mono ?_; rintro e w' ⟨rfl, rfl⟩))
  refine wp_loop_once ?_
  go_wp2
  go_ret2
  refine ⟨(Fr.refl _ w).alloc _, ?_⟩
  rw [if_pos rfl]
  exact ⟨rfl, [], RowB.new w 4 _⟩

set_option maxRecDepth 100000 in
theorem rload_range (n : Int) (a0 : Option Addr) (m c : Nat) (w : World) (hn : n < 0 ∨ 4096 < n) :
    Calls Tryd.prog 20 #[.int .i64 n, .slice a0 m c] w fun e w' => e = .returned (.tuple #[.slice none 0 0, .int .i64 7]) ∧ w = w' := by
  have HN := Lib.hid (rnew_out n w hn)
  clear hn
  go_enter Tryd.func20, Tryd.ntmps20
  go_wp2_with (first | (go_at_call 17; refine (HN.out).mono ?_; rintro e w' ⟨rfl, rfl⟩))
  go_ret2
  exact ⟨rfl, rfl⟩
set_option maxRecDepth 100000 in
theorem rload_len (n : Nat) (a0 : Option Addr) (m c : Nat) (w : World) (hn : n ≤ 4096) (hm : m ≠ (n + 7) / 8) :
    Calls Tryd.prog 20 #[.int .i64 n, .slice a0 m c] w fun e w' => e = .returned (.tuple #[.slice none 0 0, .int .i64 6]) ∧ Fr (fun _ => False) w w' := by
  have HN := Lib.hid (rnew_in n w hn)
  have t1 : ((m : Int) != ((n : Int) + 7) / 8) = true := by simp; omega
  have t2 : ((m : Int) == ((n : Int) + 7) / 8) = false := by simp; omega
  clear hm
  go_enter Tryd.func20, Tryd.ntmps20
  go_wp2_with (first | (go_at_call 17; refine (HN.out).mono ?_; rintro e w' ⟨rfl, rfl⟩))
  go_ret2
  exact ⟨rfl, (Fr.refl _ w).alloc _⟩

/-- **the reference's Load** -/
theorem rload_walk (n : Int) (a0 : Option Addr) (bs : List Nat) (c : Nat) (w : World) (hA : Arg w a0 bs) (hb : ∀ x ∈ bs, x < 256) (hcap : a0 = none → c = 0) :
    Calls Tryd.prog 20 #[.int .i64 n, .slice a0 bs.length c] w (RMade w (loadE n bs) n.toNat (mkL n.toNat (bb bs))) := by
  by_cases hn : 0 ≤ n ∧ n ≤ 4096
  · obtain ⟨N, rfl⟩ := Int.eq_ofNat_of_zero_le hn.1
    have e1 : loadE (N : Int) bs = if bytesN (mkL N (bb bs)) = bs then 0 else 6 := by unfold loadE; rw [if_pos hn]; rfl
    rw [e1, Int.toNat_natCast]
    have hN : N ≤ 4096 := by omega
    by_cases hl : bs.length = (N + 7) / 8
    · rcases hA with ⟨rfl, rfl⟩ | ⟨b, o, rfl, h2, h3⟩
      · rw [hcap rfl]
        obtain rfl : N = 0 := by simp at hl; omega
        have : bytesN (mkL 0 (bb [])) = [] := rfl
        rw [if_pos this]
        exact rload_none w
      · exact rload_some N bs.length b o c bs w hN hl rfl h2 hb h3
    · have hx : ¬ bytesN (mkL N (bb bs)) = bs := fun h => hl (by rw [← h, bytesN_length, mkL_length])
      rw [if_neg hx]
      refine (rload_len N a0 bs.length c w hN hl).mono ?_
      rintro e w' ⟨rfl, h⟩
      exact ⟨h, by rw [if_neg (by decide)]⟩
  · have e1 : loadE n bs = 7 := by unfold loadE; rw [if_neg hn]
    rw [e1]
    refine (rload_range n a0 bs.length c w (by omega)).mono ?_
    rintro e w' ⟨rfl, rfl⟩
    exact ⟨Fr.refl _ _, by rw [if_neg (by decide)]⟩
end Go.Proofs.YtbnjeglbbadcbaaDoor
