/- Walks over package bits: what makes maps. -/
import Derived.Test.YtbnjeglbbadcbaaDoorW7
import Derived.Deep.WholeRow
namespace Go.Proofs.YtbnjeglbbadcbaaDoor
open Go.RowKit
open BM
set_option linter.unusedVariables false

theorem zero68 (n : Nat) (v : Bool) : ((Tryd.zeroCells68.setIfInBounds 64 (Value.int IntKind.i64 (n : Int))).setIfInBounds 65 (Value.bool v)) = mcells (fun _ => 0) n v := by kernel_rfl
set_option maxRecDepth 100000 in
theorem new_in (n : Nat) (w : World) (hn : n ≤ 4096) :
    Calls Tryd.prog 16 #[.int .i64 n] w fun e w' => e = .returned (.tuple #[.pointer (some ⟨w.heap.size, 0, none⟩), .int .i64 0]) ∧ w' = w.alloc (.cells (mcells (fun _ => 0) n true) 68) := by
  go_enter Tryd.func16, Tryd.ntmps16
  go_wp2
  go_ret2
  exact ⟨rfl, by rw [zero68]⟩
set_option maxRecDepth 100000 in
theorem new_out (n : Int) (w : World) (hn : n < 0 ∨ 4096 < n) :
    Calls Tryd.prog 16 #[.int .i64 n] w fun e w' => e = .returned (.tuple #[.pointer none, .int .i64 7]) ∧ w = w' := by
  rcases hn with h | h
  all_goals
    go_enter Tryd.func16, Tryd.ntmps16
    go_wp2
    go_ret2
    exact ⟨rfl, rfl⟩
theorem MapB.new (w : World) (ws : Nat → Nat) (n : Nat) (md : Bool) : MapB (w.alloc (.cells (mcells ws n md) 68)) w.heap.size ws n md := by
  unfold MapB
  show (w.heap.push _)[w.heap.size]? = _
  rw [Array.getElem?_push_size]

theorem info68 (ws : Nat → Nat) (n : Nat) (md : Bool) : (Tryd.prog.info? 68).map (·.size) = some (mcells ws n md).size := by
  rw [mcells_size]; kernel_rfl
theorem zero68_size (ws : Nat → Nat) (n : Nat) (md : Bool) : Tryd.zeroCells68.size = (mcells ws n md).size := by
  rw [mcells_size]; kernel_rfl
theorem mcells_one (ws : Nat → Nat) (n : Nat) (md : Bool) : (mcells ws n md).all (·.oneCell') = true := by
  unfold mcells
  apply all_oneCell_toArray
  intro v hv
  simp only [List.mem_append, List.mem_map, List.mem_cons, List.not_mem_nil, or_false] at hv
  rcases hv with ⟨i, _, rfl⟩ | rfl | rfl <;> rfl

/-! ### And, Or, Xor -/
set_option maxRecDepth 100000 in
theorem pair_walk (a b m n : Nat) (w : World) (ha65 : w.cell? ⟨a, 65, none⟩ = some (.bool true)) (ha64 : w.cell? ⟨a, 64, none⟩ = some (.int .i64 m)) (hb65 : w.cell? ⟨b, 65, none⟩ = some (.bool true)) (hb64 : w.cell? ⟨b, 64, none⟩ = some (.int .i64 n)) :
    Calls Tryd.prog 46 #[.pointer (some ⟨a, 0, none⟩), .pointer (some ⟨b, 0, none⟩)] w fun e w' => e = .returned (.int .i64 (if m = n then 0 else 2)) ∧ ∃ q, w' = w.drewN q := by
  by_cases h : m = n
  · subst h
    go_enter Tryd.func46, Tryd.ntmps46
    go_wp2
    go_quiet (fail)
    go_wp2
    go_ret
    exact ⟨ret_int (by simp), _, rfl⟩
  · have h1 : ((m : Int) != (n : Int)) = true := by simp; omega
    have h2 : ((m : Int) == (n : Int)) = false := by simp; omega
    have H := Lib.hid h
    clear h
    go_enter Tryd.func46, Tryd.ntmps46
    go_wp2
    go_quiet (fail)
    go_wp2
    go_ret
    exact ⟨rfl, _, rfl⟩

def andW (a b : Nat → Nat) (j : Nat) : Nat := a j &&& b j
set_option maxRecDepth 100000 in
set_option maxHeartbeats 1000000 in
theorem and_in (a b m : Nat) (x y : Nat → Nat) (w : World) (ha : MapB w a x m true) (hb : MapB w b y m true) (hx : ∀ j, x j < 18446744073709551616) (hy : ∀ j, y j < 18446744073709551616) :
    Calls Tryd.prog 23 #[.pointer (some ⟨a, 0, none⟩), .pointer (some ⟨b, 0, none⟩)] w fun e w' => e = .returned (.tuple #[.pointer (some ⟨w.heap.size, 0, none⟩), .int .i64 0]) ∧ MapB w' w.heap.size (andW x y) m true ∧ Fr (fun _ => False) w w' := by
  have hp := pair_walk a b m m w ha.made ha.len hb.made hb.len
  rw [if_pos rfl] at hp
  have HP := Lib.hid hp
  clear hp
  have HA := Lib.hid ha
  have HB := Lib.hid hb
  have HX := Lib.hid hx
  have HY := Lib.hid hy
  clear ha hb hx hy
  go_enter Tryd.func23, Tryd.ntmps23
  go_wp2_with (first | (go_at_call 46; refine (HP.out).mono ?_; rintro e w' ⟨rfl, q, rfl⟩) | (refine wpList_load_row rfl 68 _ rfl a rfl 68 (mcells x m true) (0, 0) _ HA.out Tryd.underlying68 rfl (info68 x m true) ?_) | (refine wpList_store_row rfl 68 _ _ rfl w.heap.size (mcells x m true) rfl rfl 68 Tryd.zeroCells68 (heap_alloc_last (w.drewN q) _) (info68 x m true) (zero68_size x m true) (mcells_one x m true) ?_; rw [show ((w.drewN q).alloc (.cells Tryd.zeroCells68 68)).setRow w.heap.size (mcells x m true) = (w.drewN q).alloc (.cells (mcells x m true) 68) from World.setRow_alloc_new (w.drewN q) _ _ _]))
  have hM0 : MapB ((w.drewN q).alloc (.cells (mcells x m true) 68)) w.heap.size x m true := MapB.new (w.drewN q) x m true
  have hF0 : Fr (fun _ => False) w ((w.drewN q).alloc (.cells (mcells x m true) 68)) := ((Fr.refl _ w).drewN q).alloc _
  generalize (w.drewN q).alloc (.cells (mcells x m true) 68) = W0 at *
  have HM0 := Lib.hid hM0
  have HF0 := Lib.hid hF0
  clear hM0 hF0
  have hbne := HB.out.lt
  go_loopw [18] (fun i wr => ∃ k : Nat, k ≤ 64 ∧ i = .int .i64 k ∧ MapB wr w.heap.size (fun j => if j < k then andW x y j else x j) m true ∧ Fr (fun _ => False) w wr) (fun i _ => (64 - intOf i).toNat)
  case atStart => exact ⟨0, by omega, rfl, HM0.out.congr (fun j _ => by simp), HF0.out⟩
  case round =>
    obtain ⟨k, hk, rfl, hM, hF⟩ := hrel
    by_cases hlt : k < 64
    · have c1 := hM.word hlt
      simp only [Nat.lt_irrefl, if_false] at c1
      have c2 := (HB.out.fr hF (fun h => h)).word hlt
      have f1 := hM.frozen k
      have g1 : (0 : Int) ≤ (k : Int) := by omega
      have g2 : (k : Int) < 64 := by omega
      have HT := Lib.hid (u64_and_nat (x k) (y k) (HX.out k) (HY.out k))
      go_wp2
      go_region
      all_goals
        go_wp2
        rw [HT.out]
        go_roundw
        case rel => exact ⟨k + 1, by omega, by go_num, (hM.set hlt _).congr (fun j _ => step_upd _ _ _ _ rfl j), (hF.setCell (a := ⟨w.heap.size, k, none⟩) (fun h => absurd h (Nat.lt_irrefl _)) _).drew⟩
        case measure => simp [intOf]; omega
    · obtain rfl : k = 64 := by omega
      go_wp2
      go_ret2
      exact ⟨rfl, hM.congr (fun j hj => by simp [hj]), hF⟩
def orW (a b : Nat → Nat) (j : Nat) : Nat := a j ||| b j
set_option maxRecDepth 100000 in
set_option maxHeartbeats 1000000 in
theorem or_in (a b m : Nat) (x y : Nat → Nat) (w : World) (ha : MapB w a x m true) (hb : MapB w b y m true) (hx : ∀ j, x j < 18446744073709551616) (hy : ∀ j, y j < 18446744073709551616) :
    Calls Tryd.prog 24 #[.pointer (some ⟨a, 0, none⟩), .pointer (some ⟨b, 0, none⟩)] w fun e w' => e = .returned (.tuple #[.pointer (some ⟨w.heap.size, 0, none⟩), .int .i64 0]) ∧ MapB w' w.heap.size (orW x y) m true ∧ Fr (fun _ => False) w w' := by
  have hp := pair_walk a b m m w ha.made ha.len hb.made hb.len
  rw [if_pos rfl] at hp
  have HP := Lib.hid hp
  clear hp
  have HA := Lib.hid ha
  have HB := Lib.hid hb
  have HX := Lib.hid hx
  have HY := Lib.hid hy
  clear ha hb hx hy
  go_enter Tryd.func24, Tryd.ntmps24
  go_wp2_with (first | (go_at_call 46; refine (HP.out).mono ?_; rintro e w' ⟨rfl, q, rfl⟩) | (refine wpList_load_row rfl 68 _ rfl a rfl 68 (mcells x m true) (0, 0) _ HA.out Tryd.underlying68 rfl (info68 x m true) ?_) | (refine wpList_store_row rfl 68 _ _ rfl w.heap.size (mcells x m true) rfl rfl 68 Tryd.zeroCells68 (heap_alloc_last (w.drewN q) _) (info68 x m true) (zero68_size x m true) (mcells_one x m true) ?_; rw [show ((w.drewN q).alloc (.cells Tryd.zeroCells68 68)).setRow w.heap.size (mcells x m true) = (w.drewN q).alloc (.cells (mcells x m true) 68) from World.setRow_alloc_new (w.drewN q) _ _ _]))
  have hM0 : MapB ((w.drewN q).alloc (.cells (mcells x m true) 68)) w.heap.size x m true := MapB.new (w.drewN q) x m true
  have hF0 : Fr (fun _ => False) w ((w.drewN q).alloc (.cells (mcells x m true) 68)) := ((Fr.refl _ w).drewN q).alloc _
  generalize (w.drewN q).alloc (.cells (mcells x m true) 68) = W0 at *
  have HM0 := Lib.hid hM0
  have HF0 := Lib.hid hF0
  clear hM0 hF0
  have hbne := HB.out.lt
  go_loopw [18] (fun i wr => ∃ k : Nat, k ≤ 64 ∧ i = .int .i64 k ∧ MapB wr w.heap.size (fun j => if j < k then orW x y j else x j) m true ∧ Fr (fun _ => False) w wr) (fun i _ => (64 - intOf i).toNat)
  case atStart => exact ⟨0, by omega, rfl, HM0.out.congr (fun j _ => by simp), HF0.out⟩
  case round =>
    obtain ⟨k, hk, rfl, hM, hF⟩ := hrel
    by_cases hlt : k < 64
    · have c1 := hM.word hlt
      simp only [Nat.lt_irrefl, if_false] at c1
      have c2 := (HB.out.fr hF (fun h => h)).word hlt
      have f1 := hM.frozen k
      have g1 : (0 : Int) ≤ (k : Int) := by omega
      have g2 : (k : Int) < 64 := by omega
      have HT := Lib.hid (u64_or_nat (x k) (y k) (HX.out k) (HY.out k))
      go_wp2
      go_region
      all_goals
        go_wp2
        rw [HT.out]
        go_roundw
        case rel => exact ⟨k + 1, by omega, by go_num, (hM.set hlt _).congr (fun j _ => step_upd _ _ _ _ rfl j), (hF.setCell (a := ⟨w.heap.size, k, none⟩) (fun h => absurd h (Nat.lt_irrefl _)) _).drew⟩
        case measure => simp [intOf]; omega
    · obtain rfl : k = 64 := by omega
      go_wp2
      go_ret2
      exact ⟨rfl, hM.congr (fun j hj => by simp [hj]), hF⟩
def xorW (a b : Nat → Nat) (j : Nat) : Nat := a j ^^^ b j
set_option maxRecDepth 100000 in
set_option maxHeartbeats 1000000 in
theorem xor_in (a b m : Nat) (x y : Nat → Nat) (w : World) (ha : MapB w a x m true) (hb : MapB w b y m true) (hx : ∀ j, x j < 18446744073709551616) (hy : ∀ j, y j < 18446744073709551616) :
    Calls Tryd.prog 25 #[.pointer (some ⟨a, 0, none⟩), .pointer (some ⟨b, 0, none⟩)] w fun e w' => e = .returned (.tuple #[.pointer (some ⟨w.heap.size, 0, none⟩), .int .i64 0]) ∧ MapB w' w.heap.size (xorW x y) m true ∧ Fr (fun _ => False) w w' := by
  have hp := pair_walk a b m m w ha.made ha.len hb.made hb.len
  rw [if_pos rfl] at hp
  have HP := Lib.hid hp
  clear hp
  have HA := Lib.hid ha
  have HB := Lib.hid hb
  have HX := Lib.hid hx
  have HY := Lib.hid hy
  clear ha hb hx hy
  go_enter Tryd.func25, Tryd.ntmps25
  go_wp2_with (first | (go_at_call 46; refine (HP.out).mono ?_; rintro e w' ⟨rfl, q, rfl⟩) | (refine wpList_load_row rfl 68 _ rfl a rfl 68 (mcells x m true) (0, 0) _ HA.out Tryd.underlying68 rfl (info68 x m true) ?_) | (refine wpList_store_row rfl 68 _ _ rfl w.heap.size (mcells x m true) rfl rfl 68 Tryd.zeroCells68 (heap_alloc_last (w.drewN q) _) (info68 x m true) (zero68_size x m true) (mcells_one x m true) ?_; rw [show ((w.drewN q).alloc (.cells Tryd.zeroCells68 68)).setRow w.heap.size (mcells x m true) = (w.drewN q).alloc (.cells (mcells x m true) 68) from World.setRow_alloc_new (w.drewN q) _ _ _]))
  have hM0 : MapB ((w.drewN q).alloc (.cells (mcells x m true) 68)) w.heap.size x m true := MapB.new (w.drewN q) x m true
  have hF0 : Fr (fun _ => False) w ((w.drewN q).alloc (.cells (mcells x m true) 68)) := ((Fr.refl _ w).drewN q).alloc _
  generalize (w.drewN q).alloc (.cells (mcells x m true) 68) = W0 at *
  have HM0 := Lib.hid hM0
  have HF0 := Lib.hid hF0
  clear hM0 hF0
  have hbne := HB.out.lt
  go_loopw [18] (fun i wr => ∃ k : Nat, k ≤ 64 ∧ i = .int .i64 k ∧ MapB wr w.heap.size (fun j => if j < k then xorW x y j else x j) m true ∧ Fr (fun _ => False) w wr) (fun i _ => (64 - intOf i).toNat)
  case atStart => exact ⟨0, by omega, rfl, HM0.out.congr (fun j _ => by simp), HF0.out⟩
  case round =>
    obtain ⟨k, hk, rfl, hM, hF⟩ := hrel
    by_cases hlt : k < 64
    · have c1 := hM.word hlt
      simp only [Nat.lt_irrefl, if_false] at c1
      have c2 := (HB.out.fr hF (fun h => h)).word hlt
      have f1 := hM.frozen k
      have g1 : (0 : Int) ≤ (k : Int) := by omega
      have g2 : (k : Int) < 64 := by omega
      have HT := Lib.hid (u64_xor_nat (x k) (y k) (HX.out k) (HY.out k))
      go_wp2
      go_region
      all_goals
        go_wp2
        rw [HT.out]
        go_roundw
        case rel => exact ⟨k + 1, by omega, by go_num, (hM.set hlt _).congr (fun j _ => step_upd _ _ _ _ rfl j), (hF.setCell (a := ⟨w.heap.size, k, none⟩) (fun h => absurd h (Nat.lt_irrefl _)) _).drew⟩
        case measure => simp [intOf]; omega
    · obtain rfl : k = 64 := by omega
      go_wp2
      go_ret2
      exact ⟨rfl, hM.congr (fun j hj => by simp [hj]), hF⟩
end Go.Proofs.YtbnjeglbbadcbaaDoor
