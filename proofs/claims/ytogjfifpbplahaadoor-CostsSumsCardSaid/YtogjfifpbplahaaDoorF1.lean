/- costs.fields: the iterator over the eight numbers of a batch, for every loop body that keeps rows of pointers. -/
import Derived.Test.YtogjfifpbplahaaDoorB0
import Derived.RangeFuncNested
import Derived.RangeFuncBound
import Derived.RangeFuncCalls
import Derived.RangeFuncLeaves
import Derived.RangeFuncWrites
import Derived.Shelf.Abstract
import Derived.Shelf.RegionOpen
import Derived.OwnWalkIn
import Derived.TacticsInMore
import Derived.LoopNIn
import Derived.LoopIn
import Derived.BigRegionIn
import Derived.Deep.RegionHeld3
namespace Go.Proofs.YtogjfifpbplahaaDoor
open Go.RowKit Go.Shelf
set_option linter.unusedVariables false
attribute [local go_sem] Oper.semAt_some

/-- rows of pointers to int stand as they stood -/
def K56 (W W' : World) : Prop := W.heap.size ≤ W'.heap.size ∧ ∀ (k : Nat) (c : Array Value) (f : Nat × Nat), W.heap[k]? = some (Obj.cells c 56 f) → W'.heap[k]? = some (Obj.cells c 56 f)
theorem K56.refl (W : World) : K56 W W := ⟨Nat.le_refl _, fun _ _ _ h => h⟩
theorem K56.t {A B C : World} (h : K56 A B) (k : K56 B C) : K56 A C := ⟨Nat.le_trans h.1 k.1, fun i c f e => k.2 i c f (h.2 i c f e)⟩
def enc8 (B : Nat) (i : Fin 8) : Array Value := #[.int .i64 (i.val : Int), .pointer (some ⟨B, i.val, none⟩)]
def all8 : List (Fin 8) := [0, 1, 2, 3, 4, 5, 6, 7]
def ptrs (B : Nat) : List Value := [.pointer (some ⟨B, 0, none⟩), .pointer (some ⟨B, 1, none⟩), .pointer (some ⟨B, 2, none⟩), .pointer (some ⟨B, 3, none⟩), .pointer (some ⟨B, 4, none⟩), .pointer (some ⟨B, 5, none⟩), .pointer (some ⟨B, 6, none⟩), .pointer (some ⟨B, 7, none⟩)]

theorem all8_take (k : Nat) (hk : k < 8) : all8.take k ++ [⟨k, hk⟩] = all8.take (k + 1) := by
  obtain rfl | rfl | rfl | rfl | rfl | rfl | rfl | rfl : k = 0 ∨ k = 1 ∨ k = 2 ∨ k = 3 ∨ k = 4 ∨ k = 5 ∨ k = 6 ∨ k = 7 := by omega
  all_goals rfl
theorem all8_take_len (k : Nat) (hk : k ≤ 8) : (all8.take k).length = k := by simp [all8]; omega
theorem ptrs_at (B k : Nat) (hk : k < 8) : (ptrs B)[k]? = some (Value.pointer (some ⟨B, k, none⟩)) := by
  obtain rfl | rfl | rfl | rfl | rfl | rfl | rfl | rfl : k = 0 ∨ k = 1 ∨ k = 2 ∨ k = 3 ∨ k = 4 ∨ k = 5 ∨ k = 6 ∨ k = 7 := by omega
  all_goals rfl
set_option maxRecDepth 100000 in
set_option maxHeartbeats 2000000 in
theorem fields_in (l Bx B : Nat) (J Jx : List (Fin 8) → World → Prop) (W : World) (hJ : AbidesFrom W.heap.size J)
    (hY : ∀ pre x W1, J pre W1 → pre.length < 8 → YieldAt Fence.wide (3 - 1) Tryd.prog l (enc8 B x) W1 fun e W' =>
      (e = .returned (.bool true) ∧ J (pre ++ [x]) W' ∧ K56 W1 W') ∨ (e = .returned (.bool false) ∧ Jx (pre ++ [x]) W'))
    (hB : W.cell? ⟨Bx, 0, none⟩ = some (.pointer (some ⟨B, 0, none⟩))) (h0 : J [] W) :
    CallsIn Fence.wide 3 Tryd.prog 32 #[.func (.yield l) #[] #[], .pointer (some ⟨Bx, 0, none⟩)] W fun e W' => (∃ v, e = .returned v) ∧
      ((∃ ys, ys = all8 ∧ J ys W') ∨ (∃ pre, True ∧ Jx pre W')) := by
  have HJ := Lib.hid hJ
  have HY := Lib.hid hY
  have H0 := Lib.hid h0
  clear hJ hY h0
  refine callsIn_of_wp Tryd.func32 rfl trivial ?_ rfl
  simp only [Tryd.ntmps32, List.size_toArray, List.length_cons, List.length_nil, Nat.reduceAdd, Nat.reduceSub, Array.replicate_succ, Array.replicate_zero, List.push_toArray, List.append_toArray, List.nil_append, List.cons_append]
  gi_wp2
  refine wpIn_wide.2 ?_
  go_region_held3 (fun w' => w'.cell? ⟨Bx, 0, none⟩ = some (Value.pointer (some ⟨B, 0, none⟩))) (go_keep) (fail)
  have hR0 : RowB ((W.alloc (Obj.cells (ptrs B).toArray 56)).drew) W.heap.size 56 (ptrs B) := RowB.new W 56 (ptrs B)
  have hJ1 : J [] (W.alloc (Obj.cells (ptrs B).toArray 56)).drew := HJ.out [] W _ none H0.out (by have h := World.grownBy_alloc W (Obj.cells (ptrs B).toArray 56) none; exact ⟨h.1, h.2, h.3, h.4, h.5⟩) (fun r e => by cases e)
  change Exit.then _ _ _ _ (W.alloc (Obj.cells (ptrs B).toArray 56)).drew
  generalize (W.alloc (Obj.cells (ptrs B).toArray 56)).drew = W1 at *
  generalize W.heap.size = z at *
  have HR0 := Lib.hid hR0
  have HJ1 := Lib.hid hJ1
  clear hR0 hJ1
  gi_wp2
  gi_loopw [31] (fun i wr => ∃ k : Nat, k ≤ 8 ∧ i = .int .i64 k ∧ J (all8.take k) wr ∧ RowB wr z 56 (ptrs B)) (fun i _ => 8 - (intOf i).toNat)
  case atStart => exact ⟨0, by omega, rfl, HJ1.out, HR0.out⟩
  case round =>
    obtain ⟨k, hk, rfl, hJs, hR⟩ := hrel
    by_cases hlt : k < 8
    · obtain ⟨fn, tmps, assign, body, hy, hRd⟩ := HY.out _ ⟨k, hlt⟩ wr hJs (by rw [all8_take_len k hk]; exact hlt)
      have hc : wr.cell? ⟨z, k, none⟩ = some (.pointer (some ⟨B, k, none⟩)) := by rw [hR.cell k]; exact ptrs_at B k hlt
      have HR := Lib.hid hR
      have g1 : (0 : Int) ≤ (k : Int) := by omega
      have g2 : (k : Int) < 8 := by omega
      unfold enc8 at hy
      dsimp only at hy
      clear hR hJs
      gi_wp2
      refine hRd.mono ?_
      rintro e W3 (⟨rfl, hJ3, hk3⟩ | ⟨rfl, hJx3⟩)
      · rw [all8_take k hlt] at hJ3
        have HJ3 := Lib.hid hJ3
        have HR3 := Lib.hid (show RowB W3 z 56 (ptrs B) from hk3.2 z _ _ HR.out)
        clear hJ3 hk3
        gi_wp2
        go_roundw
        case rel => exact ⟨k + 1, by omega, by go_num, HJ3.out, HR3.out⟩
        case measure => simp [intOf]; omega
      · have HJx3 := Lib.hid hJx3
        clear hJx3
        gi_wp2
        refine bodyPost_ret (results_none rfl _ _ _) rfl ?_
        exact ⟨⟨_, rfl⟩, .inr ⟨_, trivial, HJx3.out⟩⟩
    · obtain rfl : k = 8 := by omega
      have HJs := Lib.hid hJs
      clear hJs hR
      gi_wp2
      go_end0
      exact ⟨⟨_, rfl⟩, .inl ⟨_, rfl, HJs.out⟩⟩
end Go.Proofs.YtogjfifpbplahaaDoor
