/- This text proves contracts of the iterator over the numbers of a batch, and costs.check; no condition beyond those that each statement names. -/
import Derived.Test.YtogjfifpbplahaaGreatDoorProg
import Derived.WalkKit
import Derived.WalkSpells
import Derived.WalkLawsBesides
import Derived.Lib.Hide
import Derived.Deep.QuietTactic
import Derived.BigQuiet
import Derived.Below
import Derived.Outline
import Derived.ChangeShapes
import Derived.RangeFuncNested
import Derived.RangeFuncBound
import Derived.RangeFuncCalls
import Derived.RangeFuncLeaves
import Derived.RangeFuncWrites
import Derived.Shelf.Abstract
import Derived.Shelf.RegionOpen
import Derived.OwnWalkIn
import Derived.TacticsInMore
import Derived.LoopNIn
import Derived.LoopIn
import Derived.BigRegionIn
import Derived.Deep.RegionHeld3
namespace CM
/-- a batch may stand -/
def ok1 (u : Nat → Int) : Bool := ((u 0 == -3) || (u 0 == -1) || (decide (0 ≤ u 0) && decide (u 0 ≤ 60))) && (List.range 7).all (fun k => decide (0 ≤ u (k + 1)) && decide (u (k + 1) ≤ 1000000))
/-- the first n batches may stand -/
def okB (U : Nat → Nat → Int) : Nat → Bool
  | 0 => true
  | n + 1 => okB U n && ok1 (U n)
def listE (n : Nat) (U : Nat → Nat → Int) : Int := if 70 < n then 3 else if okB U n = true then 0 else 7
def sumF (U : Nat → Nat → Int) (j : Nat) : Nat → Int
  | 0 => 0
  | n + 1 => sumF U j n + U n j
def nowF (U : Nat → Nat → Int) (n : Nat) : Int := sumF U 4 n - sumF U 5 n
def mostF (U : Nat → Nat → Int) : Nat → Int
  | 0 => 0
  | n + 1 => max (mostF U n) (nowF U (n + 1))
theorem okB_le {U : Nat → Nat → Int} {n m : Nat} (h : okB U n = true) (hm : m ≤ n) : okB U m = true := by
  induction n with
  | zero => obtain rfl : m = 0 := by omega
            exact h
  | succ k ih =>
    simp only [okB, Bool.and_eq_true] at h
    by_cases e : m = k + 1
    · subst e; simp [okB, h.1, h.2]
    · exact ih h.1 (by omega)
theorem okB_at {U : Nat → Nat → Int} {n i : Nat} (h : okB U n = true) (hi : i < n) : ok1 (U i) = true := by
  have := okB_le h (show i + 1 ≤ n by omega)
  simp only [okB, Bool.and_eq_true] at this
  exact this.2
theorem ok1_bd {u : Nat → Int} (h : ok1 u = true) (j : Nat) (h0 : 1 ≤ j) (h8 : j < 8) : 0 ≤ u j ∧ u j ≤ 1000000 := by
  simp only [ok1, Bool.and_eq_true, List.all_eq_true, List.mem_range, decide_eq_true_eq] at h
  have := h.2 (j - 1) (by omega)
  rw [show j - 1 + 1 = j by omega] at this
  exact this
theorem sumF_bd {U : Nat → Nat → Int} {j : Nat} : ∀ {n : Nat}, (∀ i, i < n → 0 ≤ U i j ∧ U i j ≤ 1000000) → 0 ≤ sumF U j n ∧ sumF U j n ≤ 1000000 * n
  | 0, _ => by simp [sumF]
  | n + 1, h => by
    have h1 := sumF_bd (n := n) (fun i hi => h i (by omega))
    have h2 := h n (by omega)
    simp only [sumF]
    omega
theorem mostF_bd {U : Nat → Nat → Int} : ∀ {n : Nat}, (∀ k, k ≤ n → nowF U k ≤ 70000000) → 0 ≤ mostF U n ∧ mostF U n ≤ 70000000
  | 0, _ => by simp [mostF]
  | n + 1, h => by
    have h1 := mostF_bd (n := n) (fun k hk => h k (by omega))
    have h2 := h (n + 1) (Nat.le_refl _)
    simp only [mostF]
    omega
theorem nowF_bd {U : Nat → Nat → Int} {n : Nat} (h : okB U n = true) (hn : n ≤ 70) (k : Nat) (hk : k ≤ n) : -70000000 ≤ nowF U k ∧ nowF U k ≤ 70000000 := by
  have h1 := sumF_bd (U := U) (j := 4) (n := k) (fun i hi => ok1_bd (okB_at h (by omega)) 4 (by omega) (by omega))
  have h2 := sumF_bd (U := U) (j := 5) (n := k) (fun i hi => ok1_bd (okB_at h (by omega)) 5 (by omega) (by omega))
  unfold nowF
  omega
/-! the bound of a batch -/
def bdE (dir en dirs cl : Int) : Int := if ¬ (1 ≤ dirs ∧ dirs ≤ 60) ∨ ¬ (0 ≤ en ∧ en ≤ 120) ∨ ¬ (0 ≤ cl ∧ cl ≤ 120) then 7 else if dir = -3 ∨ dir = -1 ∨ (0 ≤ dir ∧ dir ≤ dirs) then 0 else 7
def bdR (dir en dirs cl : Int) : Int := if bdE dir en dirs cl ≠ 0 then 0 else if dir = -3 then 1 else if dir = -1 ∨ dir = dirs then 36 + cl else 23 + 4 * en
def bdT (dir en dirs cl : Int) : Int := if bdE dir en dirs cl ≠ 0 then 0 else if dir = -3 then 0 else if dir = -1 ∨ dir = dirs then 16 else 19 + 3 * en
def bdO (dir en dirs cl : Int) : Int := if bdE dir en dirs cl ≠ 0 then 0 else if dir = -3 then 0 else if dir = -1 ∨ dir = dirs then 1 + cl else 2 + 2 * en
/-- what a batch has used too much of -/
def overF (u : Nat → Int) (r t o : Int) : Int := if r < u 2 then 1 else if u 3 ≠ 2 + 2 * u 2 then 2 else if t < u 4 then 3 else if o < u 6 then 4 else if 0 < u 7 then 5 else 0
/-- the error of Check's bounds, of the first n batches -/
def chkB (U : Nat → Nat → Int) (dirs cl : Int) : Nat → Bool
  | 0 => true
  | n + 1 => chkB U dirs cl n && decide (bdE (U n 0) (U n 1) dirs cl = 0)
def chkW (U : Nat → Nat → Int) (dirs cl : Int) (i : Nat) : Int := overF (U i) (bdR (U i 0) (U i 1) dirs cl) (bdT (U i 0) (U i 1) dirs cl) (bdO (U i 0) (U i 1) dirs cl)
/-- the first batch that is not within its bounds: its number; -1: none -/
def chkI (U : Nat → Nat → Int) (dirs cl : Int) : Nat → Int
  | 0 => -1
  | n + 1 => if chkI U dirs cl n < 0 ∧ chkW U dirs cl n ≠ 0 then n else chkI U dirs cl n
def chkV (U : Nat → Nat → Int) (dirs cl : Int) : Nat → Int
  | 0 => 0
  | n + 1 => if chkI U dirs cl n < 0 ∧ chkW U dirs cl n ≠ 0 then chkW U dirs cl n else chkV U dirs cl n
end CM

namespace Go.Proofs.YtogjfifpbplahaaGreatDoor
open Go.RowKit
set_option linter.unusedVariables false

/-- All that was there stands, but for the blocks of S; the streams stand. -/
structure Fr (S : Nat → Prop) (w w' : World) : Prop where
  os : w'.os = w.os
  tape : w'.tape = w.tape
  output : w'.output = w.output
  size : w.heap.size ≤ w'.heap.size
  block : ∀ k, k < w.heap.size → ¬ S k → w'.heap[k]? = w.heap[k]?
theorem Fr.refl (S : Nat → Prop) (w : World) : Fr S w w := ⟨rfl, rfl, rfl, Nat.le_refl _, fun _ _ _ => rfl⟩
theorem Fr.drewN {S : Nat → Prop} {w w' : World} (h : Fr S w w') (k : Nat) : Fr S w (w'.drewN k) := ⟨h.os, h.tape, h.output, h.size, h.block⟩
theorem Fr.drew {S : Nat → Prop} {w w' : World} (h : Fr S w w') : Fr S w w'.drew := ⟨h.os, h.tape, h.output, h.size, h.block⟩
theorem Fr.trans {S S' : Nat → Prop} {a b c : World} (h : Fr S a b) (h' : Fr S' b c) (hs : ∀ k, k < a.heap.size → S' k → S k) : Fr S a c :=
  ⟨h'.os.trans h.os, h'.tape.trans h.tape, h'.output.trans h.output, Nat.le_trans h.size h'.size, fun k hk hn =>
    (h'.block k (Nat.lt_of_lt_of_le hk h.size) (fun e => hn (hs k hk e))).trans (h.block k hk hn)⟩
theorem Fr.mono {S S' : Nat → Prop} {w w' : World} (h : Fr S w w') (hs : ∀ k, k < w.heap.size → S k → S' k) : Fr S' w w' :=
  ⟨h.os, h.tape, h.output, h.size, fun k hk hn => h.block k hk (fun e => hn (hs k hk e))⟩
theorem Fr.setCell {S : Nat → Prop} {w w' : World} (h : Fr S w w') {a : Addr} (ha : a.block < w.heap.size → S a.block) (v : Value) : Fr S w (w'.setCell a v) :=
  ⟨h.os, h.tape, h.output, by simpa [World.setCell] using h.size, fun k hk hn => by
    rw [Below.heap_setCell _ _ _ _ (fun e => hn (by subst e; exact ha hk))]; exact h.block k hk hn⟩
theorem Fr.alloc {S : Nat → Prop} {w w' : World} (h : Fr S w w') (o : Obj) : Fr S w (w'.alloc o) :=
  ⟨h.os, h.tape, h.output, by have := h.size; simp; omega, fun k hk hn => by
    rw [Below.heap_alloc _ _ _ (Nat.lt_of_lt_of_le hk h.size)]; exact h.block k hk hn⟩
theorem Fr.below {S : Nat → Prop} {w w' : World} (h : Fr S w w') (hS : ∀ k, k < w.heap.size → ¬ S k) : Below w.heap.size w w' :=
  ⟨h.os, h.tape, h.output, h.size, fun k hk => h.block k hk (hS k hk)⟩
theorem Fr.of_below {w w' : World} (h : Below w.heap.size w w') : Fr (fun _ => False) w w' :=
  ⟨h.os, h.tape, h.output, h.size, fun k hk _ => h.block k hk⟩
theorem Fr.of_drewN {S : Nat → Prop} {w w' : World} {q : Nat} (h : Fr S (w.drewN q) w') : Fr S w w' := ⟨h.os, h.tape, h.output, h.size, h.block⟩
theorem Fr.bel {w w' : World} (h : Fr (fun _ => False) w w') : Below w.heap.size w w' := h.below (fun _ _ h => h)
theorem Fr.up {S : Nat → Prop} {w w' : World} (h : Fr (fun _ => False) w w') : Fr S w w' := h.mono (fun _ _ h => h.elim)
theorem Fr.then {a b c : World} (h : Fr (fun _ => False) a b) (k : Fr (fun _ => False) b c) : Fr (fun _ => False) a c := h.trans k (fun _ _ h => h)
theorem Fr.cell {S : Nat → Prop} {w w' : World} (f : Fr S w w') {p : Addr} {v : Value} (hb : p.block < w.heap.size) (hS : ¬ S p.block) (h : w.cell? p = some v) : w'.cell? p = some v :=
  (World.cell?_of_block (f.block p.block hb hS)).trans h
theorem alloc_size (w : World) (o : Obj) : (w.alloc o).heap.size = w.heap.size + 1 := Array.size_push _
/-- Block b is a row of cells. -/
def RowB (w : World) (b : Nat) (T : TypeId) (vs : List Value) : Prop := w.heap[b]? = some (.cells vs.toArray T (0, 0))
section
variable {w : World} {b T : Nat} {vs : List Value}
theorem RowB.lt (h : RowB w b T vs) : b < w.heap.size := by
  unfold RowB at h
  exact (Array.getElem?_eq_some_iff.1 h).1
theorem RowB.cell (h : RowB w b T vs) (i : Nat) : w.cell? ⟨b, i, none⟩ = vs[i]? := by
  unfold RowB at h; simp [World.cell?, h]
theorem RowB.frozen (h : RowB w b T vs) (i : Nat) : w.frozen? ⟨b, i, none⟩ = false := by
  unfold RowB at h; simp [World.frozen?, h]
theorem RowB.of_block {w' : World} (h : RowB w b T vs) (e : w'.heap[b]? = w.heap[b]?) : RowB w' b T vs := by
  unfold RowB at *; rw [e]; exact h
theorem RowB.fr {S : Nat → Prop} {w' : World} (h : RowB w b T vs) (f : Fr S w w') (hb : ¬ S b) : RowB w' b T vs := h.of_block (f.block b h.lt hb)
theorem RowB.set (h : RowB w b T vs) (i : Nat) (v : Value) : RowB (w.setCell ⟨b, i, none⟩ v) b T (vs.set i v) := by
  unfold RowB at *
  show (w.heap.modify b _)[b]? = _
  rw [Array.getElem?_modify, if_pos rfl, h]
  simp
theorem RowB.new (w : World) (T : TypeId) (vs : List Value) : RowB (w.alloc (.cells vs.toArray T)) w.heap.size T vs := by
  unfold RowB
  show (w.heap.push _)[w.heap.size]? = _
  rw [Array.getElem?_push_size]
end

theorem ret_int {k : IntKind} {a b : Int} (h : a = b) : Ending.returned (.int k a) = .returned (.int k b) := by rw [h]
theorem ret_bool {a b : Bool} (h : a = b) : Ending.returned (.bool a) = .returned (.bool b) := by rw [h]
theorem nat_of_wf {k : IntKind} {z : Int} {m : Nat} (h1 : k.min = 0) (h2 : k.max = m) (h : (Lit.int k z).wf = true) : ∃ n : Nat, z = n ∧ n ≤ m := by
  simp only [Lit.wf, Bool.and_eq_true, decide_eq_true_eq] at h
  rw [h1, h2] at h
  exact ⟨z.toNat, by omega, by omega⟩
theorem int_of_wf {z : Int} (h : (Lit.int .i64 z).wf = true) : -9223372036854775808 ≤ z ∧ z ≤ 9223372036854775807 := by
  have e1 : IntKind.i64.min = -9223372036854775808 := rfl
  have e2 : IntKind.i64.max = 9223372036854775807 := rfl
  simp only [Lit.wf, Bool.and_eq_true, decide_eq_true_eq] at h
  omega
/-- The world is left but for new blocks. -/
def Ret (v : Value) (w : World) (e : Ending) (w' : World) : Prop := e = .returned v ∧ Fr (fun _ => False) w w'
theorem addr_add (b off j : Nat) : (⟨b, off, none⟩ : Addr).add j = ⟨b, off + j, none⟩ := by
  by_cases h : j = 0
  · subst h; simp [Addr.add]
  · simp [Addr.add, h]
end Go.Proofs.YtogjfifpbplahaaGreatDoor

namespace Go.Proofs.YtogjfifpbplahaaGreatDoor
open Go.RowKit Go.Shelf
set_option linter.unusedVariables false
attribute [local go_sem] Oper.semAt_some

/-- rows of pointers to int stand as they stood -/
def K56 (W W' : World) : Prop := W.heap.size ≤ W'.heap.size ∧ ∀ (k : Nat) (c : Array Value) (f : Nat × Nat), W.heap[k]? = some (Obj.cells c 69 f) → W'.heap[k]? = some (Obj.cells c 69 f)
theorem K56.refl (W : World) : K56 W W := ⟨Nat.le_refl _, fun _ _ _ h => h⟩
theorem K56.t {A B C : World} (h : K56 A B) (k : K56 B C) : K56 A C := ⟨Nat.le_trans h.1 k.1, fun i c f e => k.2 i c f (h.2 i c f e)⟩
def enc8 (B : Nat) (i : Fin 8) : Array Value := #[.int .i64 (i.val : Int), .pointer (some ⟨B, i.val, none⟩)]
def all8 : List (Fin 8) := [0, 1, 2, 3, 4, 5, 6, 7]
def ptrs (B : Nat) : List Value := [.pointer (some ⟨B, 0, none⟩), .pointer (some ⟨B, 1, none⟩), .pointer (some ⟨B, 2, none⟩), .pointer (some ⟨B, 3, none⟩), .pointer (some ⟨B, 4, none⟩), .pointer (some ⟨B, 5, none⟩), .pointer (some ⟨B, 6, none⟩), .pointer (some ⟨B, 7, none⟩)]

theorem all8_take (k : Nat) (hk : k < 8) : all8.take k ++ [⟨k, hk⟩] = all8.take (k + 1) := by
  obtain rfl | rfl | rfl | rfl | rfl | rfl | rfl | rfl : k = 0 ∨ k = 1 ∨ k = 2 ∨ k = 3 ∨ k = 4 ∨ k = 5 ∨ k = 6 ∨ k = 7 := by omega
  all_goals rfl
theorem all8_take_len (k : Nat) (hk : k ≤ 8) : (all8.take k).length = k := by simp [all8]; omega
theorem ptrs_at (B k : Nat) (hk : k < 8) : (ptrs B)[k]? = some (Value.pointer (some ⟨B, k, none⟩)) := by
  obtain rfl | rfl | rfl | rfl | rfl | rfl | rfl | rfl : k = 0 ∨ k = 1 ∨ k = 2 ∨ k = 3 ∨ k = 4 ∨ k = 5 ∨ k = 6 ∨ k = 7 := by omega
  all_goals rfl
set_option maxRecDepth 100000 in
set_option maxHeartbeats 2000000 in
theorem fields_in (l Bx B : Nat) (J Jx : List (Fin 8) → World → Prop) (W : World) (hJ : AbidesFrom W.heap.size J)
    (hY : ∀ pre x W1, J pre W1 → pre.length < 8 → YieldAt Fence.wide (3 - 1) Tryz.prog l (enc8 B x) W1 fun e W' =>
      (e = .returned (.bool true) ∧ J (pre ++ [x]) W' ∧ K56 W1 W') ∨ (e = .returned (.bool false) ∧ Jx (pre ++ [x]) W'))
    (hB : W.cell? ⟨Bx, 0, none⟩ = some (.pointer (some ⟨B, 0, none⟩))) (h0 : J [] W) :
    CallsIn Fence.wide 3 Tryz.prog 35 #[.func (.yield l) #[] #[], .pointer (some ⟨Bx, 0, none⟩)] W fun e W' => (∃ v, e = .returned v) ∧
      ((∃ ys, ys = all8 ∧ J ys W') ∨ (∃ pre, True ∧ Jx pre W')) := by
  have HJ := Lib.hid hJ
  have HY := Lib.hid hY
  have H0 := Lib.hid h0
  clear hJ hY h0
  refine callsIn_of_wp Tryz.func35 rfl trivial ?_ rfl
  simp only [Tryz.ntmps35, List.size_toArray, List.length_cons, List.length_nil, Nat.reduceAdd, Nat.reduceSub, Array.replicate_succ, Array.replicate_zero, List.push_toArray, List.append_toArray, List.nil_append, List.cons_append]
  gi_wp2
  refine wpIn_wide.2 ?_
  go_region_held3 (fun w' => w'.cell? ⟨Bx, 0, none⟩ = some (Value.pointer (some ⟨B, 0, none⟩))) (go_keep) (fail)
  have hR0 : RowB ((W.alloc (Obj.cells (ptrs B).toArray 69)).drew) W.heap.size 69 (ptrs B) := RowB.new W 69 (ptrs B)
  have hJ1 : J [] (W.alloc (Obj.cells (ptrs B).toArray 69)).drew := HJ.out [] W _ none H0.out (by have h := World.grownBy_alloc W (Obj.cells (ptrs B).toArray 69) none; exact ⟨h.1, h.2, h.3, h.4, h.5⟩) (fun r e => by cases e)
  change Exit.then _ _ _ _ (W.alloc (Obj.cells (ptrs B).toArray 69)).drew
  generalize (W.alloc (Obj.cells (ptrs B).toArray 69)).drew = W1 at *
  generalize W.heap.size = z at *
  have HR0 := Lib.hid hR0
  have HJ1 := Lib.hid hJ1
  clear hR0 hJ1
  gi_wp2
  gi_loopw [31] (fun i wr => ∃ k : Nat, k ≤ 8 ∧ i = .int .i64 k ∧ J (all8.take k) wr ∧ RowB wr z 69 (ptrs B)) (fun i _ => 8 - (intOf i).toNat)
  case atStart => exact ⟨0, by omega, rfl, HJ1.out, HR0.out⟩
  case round =>
    obtain ⟨k, hk, rfl, hJs, hR⟩ := hrel
    by_cases hlt : k < 8
    · obtain ⟨fn, tmps, assign, body, hy, hRd⟩ := HY.out _ ⟨k, hlt⟩ wr hJs (by rw [all8_take_len k hk]; exact hlt)
      have hc : wr.cell? ⟨z, k, none⟩ = some (.pointer (some ⟨B, k, none⟩)) := by rw [hR.cell k]; exact ptrs_at B k hlt
      have HR := Lib.hid hR
      have g1 : (0 : Int) ≤ (k : Int) := by omega
      have g2 : (k : Int) < 8 := by omega
      unfold enc8 at hy
      dsimp only at hy
      clear hR hJs
      gi_wp2
      refine hRd.mono ?_
      rintro e W3 (⟨rfl, hJ3, hk3⟩ | ⟨rfl, hJx3⟩)
      · rw [all8_take k hlt] at hJ3
        have HJ3 := Lib.hid hJ3
        have HR3 := Lib.hid (show RowB W3 z 69 (ptrs B) from hk3.2 z _ _ HR.out)
        clear hJ3 hk3
        gi_wp2
        go_roundw
        case rel => exact ⟨k + 1, by omega, by go_num, HJ3.out, HR3.out⟩
        case measure => simp [intOf]; omega
      · have HJx3 := Lib.hid hJx3
        clear hJx3
        gi_wp2
        refine bodyPost_ret (results_none rfl _ _ _) rfl ?_
        exact ⟨⟨_, rfl⟩, .inr ⟨_, trivial, HJx3.out⟩⟩
    · obtain rfl : k = 8 := by omega
      have HJs := Lib.hid hJs
      clear hJs hR
      gi_wp2
      go_end0
      exact ⟨⟨_, rfl⟩, .inl ⟨_, rfl, HJs.out⟩⟩
end Go.Proofs.YtogjfifpbplahaaGreatDoor

namespace Go.Proofs.YtogjfifpbplahaaGreatDoor
open Go.RowKit Go.Shelf
set_option linter.unusedVariables false

theorem fields_make (p : Option Addr) (w : World) : Calls Tryz.prog 24 #[.pointer p] w fun e w' => e = .returned (.func (.func 35) #[] #[.pointer (some ⟨w.heap.size, 0, none⟩)]) ∧ w' = w.alloc (.cells #[.pointer p] 68) := by
  have hmf : ∀ (fn : Fn) (first cap : Array Value) (w : World), (Instr.makeFunc fn first cap).run Tryz.prog w = .ok (.func fn first cap) w := fun _ _ _ _ => rfl
  go_enter Tryz.func24, Tryz.ntmps24
  go_wp2
  go_ret
  exact ⟨rfl, rfl⟩
theorem fields_stops (Bx B : Nat) (w : World) (hBx : Bx < w.heap.size) (hc : w.cell? ⟨Bx, 0, none⟩ = some (.pointer (some ⟨B, 0, none⟩))) :
    SeqStopsK Fence.wide 3 Tryz.prog 35 #[.pointer (some ⟨Bx, 0, none⟩)] (enc8 B) K56 (fun xs => xs = all8) (fun _ => True) 8 w :=
  fun l J Jx W hW hJ _ hY h0 => fields_in l Bx B J Jx W hJ hY ((hW.cell (p := ⟨Bx, 0, none⟩) hBx).trans hc) h0
theorem k56_b {w : World} (W : World) (l : Nat) (o o' : Obj) (hl : w.heap.size ≤ l) (h : W.heap[l]? = some o) (hc : o.isCells = false) (_ : o.isWalk = false) : K56 W (W.putObj l o') := by
  have hlt : l < W.heap.size := (Array.getElem?_eq_some_iff.1 h).1
  refine ⟨by simp [World.putObj], fun k c f hk => ?_⟩
  by_cases e : k = l
  · subst e
    rw [h] at hk
    cases hk
    simp [Obj.isCells] at hc
  · rw [World.putObj_heap_other (fun h => e h)]; exact hk

/-- the law of 'for i, n := range fields(&x)' -/
theorem range_fields {Q : Exit → Act → World → Prop} {a : Act} {w : World} {ps : Array Tmp} {g : Operand} {assign body : Code} (Bx B : Nat)
    (hg : a.eval g = .func (.func 35) #[] #[.pointer (some ⟨Bx, 0, none⟩)]) (hps : ps.size = 2) (hBx : Bx < w.heap.size) (hc : w.cell? ⟨Bx, 0, none⟩ = some (.pointer (some ⟨B, 0, none⟩)))
    (I : List (Fin 8) → World → Prop) (Ix : Code → List (Fin 8) → World → Prop) (hI : OwnFrom w.heap.size I) (hIx : ∀ c, OwnFrom w.heap.size (Ix c)) (h0 : I [] w) (a₁ : Fin 8 → Act)
    (hassign : ∀ (l : Nat) (x : Fin 8) (W : World) (K : Act → World → Prop), K (a₁ x) W →
      assign.wpIn (Fence.wide.inRound l) 2 Tryz.prog (Exit.then K (fun _ _ _ => False)) { tmps := (ps.zip (enc8 B x)).foldl (fun t (p, v) => t.setIfInBounds p v) a.tmps, defers := [] } W)
    (hbody : ∀ (l : Nat) (pre : List (Fin 8)) (x : Fin 8) (W : World), I pre W → pre.length < 8 → body.wpIn (Fence.wide.inRound l) 2 Tryz.prog (ownPostG w.heap.size K56 I Ix (pre ++ [x]) W) (a₁ x) W)
    (hdone : ∀ (D : Nat) (W : World), w.heap.size ≤ D → I all8 W → W.heap[D]? = some (.deferred (some [])) → Q .normal { a with defers := { target := .collected D, args := #[] } :: a.defers } W)
    (hstop : ∀ (D : Nat) (c : Code) (pre : List (Fin 8)) (W : World), w.heap.size ≤ D → Ix c pre W → W.heap[D]? = some (.deferred (some [])) → c.wp Tryz.prog Q { a with defers := { target := .collected D, args := #[] } :: a.defers } W) :
    (Code.rangeFunc g ps assign body).wp Tryz.prog Q a w := by
  refine (wpIn_wide (n := 4)).1 ?_
  exact wpIn_rangeFunc_ownG (F := Fence.wide) (n := 4) rfl (by omega) (gf := 35) (lb := #[.pointer (some ⟨Bx, 0, none⟩)]) hg trivial (enters_of Tryz.func35 (by kernel_rfl) rfl)
    (fields_stops Bx B w hBx hc) (fun h k => h.t k) (fun W l o o' hl h hc hw => k56_b (w := w) W l o o' hl h hc hw) (Below.refl _ _) (fun x => hps.symm) I Ix hI hIx h0 a₁ hassign hbody
    (fun D xs W hD hS hI hK => by subst hS; exact hdone D W hD hI hK) (fun D c pre W hD _ hI hK => wpIn_wide.2 (hstop D c pre W hD hI hK))

theorem ownFrom_fr {β : Type} {S : Nat → Prop} {B : Nat} {w₀ : World} (hB : w₀.heap.size ≤ B) : OwnFrom B (fun (_ : β) W => Fr S w₀ W) :=
  fun _ W W' row hs hg hr => ⟨hg.os.trans hs.os, hg.tape.trans hs.tape, hg.output.trans hs.output, Nat.le_trans hs.size hg.size, fun k hk hn =>
    (hg.block k (Nat.lt_of_lt_of_le hk hs.size) (fun e => by have := (hr k e.symm).1; omega)).trans (hs.block k hk hn)⟩

/-- the frame's deferred calls are marks of ranges that are over: different blocks from z on -/
def Marks (z : Nat) (w : World) : List Deferred → Prop
  | [] => True
  | d :: ds => ∃ D, d = { target := .collected D, args := #[] } ∧ z ≤ D ∧ w.heap[D]? = some (.deferred (some [])) ∧ (∀ d' ∈ ds, d' ≠ { target := .collected D, args := #[] }) ∧ Marks z w ds
theorem Marks.kept {z : Nat} {w w' : World} : ∀ {ds : List Deferred}, Marks z w ds → (∀ D, z ≤ D → w.heap[D]? = some (.deferred (some [])) → { target := .collected D, args := #[] } ∈ ds → w'.heap[D]? = some (.deferred (some []))) → Marks z w' ds
  | [], _, _ => trivial
  | _ :: ds, ⟨D, h1, h2, h3, h4, h5⟩, hk => ⟨D, h1, h2, hk D h2 h3 (by rw [h1]; exact List.mem_cons_self), h4, h5.kept (fun D' a b c => hk D' a b (List.mem_cons_of_mem _ c))⟩
theorem Marks.fr {z : Nat} {S : Nat → Prop} {w w' : World} {ds : List Deferred} (h : Marks z w ds) (f : Fr S w w') (hC : ∀ D, z ≤ D → S D → w.heap[D]? = some (.deferred (some [])) → False) : Marks z w' ds :=
  h.kept (fun D h1 h2 _ => (f.block D (Array.getElem?_eq_some_iff.1 h2).1 (fun hs => hC D h1 hs h2)).trans h2)
theorem Marks.lt {z : Nat} {w : World} : ∀ {ds : List Deferred}, Marks z w ds → ∀ D, { target := .collected D, args := #[] } ∈ ds → D < w.heap.size
  | _ :: ds, ⟨D, h1, h2, h3, h4, h5⟩, D', hm => by
    rcases List.mem_cons.1 hm with e | e
    · rw [h1] at e
      injection e with e _
      injection e with e
      subst e
      exact (Array.getElem?_eq_some_iff.1 h3).1
    · exact h5.lt D' e
/-- a function's end with such marks -/
theorem leaves_marks {z : Nat} {n : Nat} {P : Program} {fn : Func} {tmps : Array Value} {R : Ending → World → Prop} : ∀ (ds : List Deferred) (w : World), Marks z w ds →
    (∀ w', Fr (fun k => z ≤ k ∧ w.heap[k]? = some (.deferred (some []))) w w' → LeavesInM Fence.wide n P fn tmps R [] .returning w') → LeavesInM Fence.wide n P fn tmps R ds .returning w
  | [], w, _, h => h w (Fr.refl _ _)
  | d :: ds, w, ⟨D, h1, h2, h3, h4, h5⟩, h => by
    subst h1
    refine ⟨by simp, .inl ⟨D, _, rfl, run_takeDeferred h3, ?_⟩⟩
    refine leaves_marks ds _ (h5.kept (fun D' a b c => ?_)) (fun w' f => h w' ?_)
    · rw [World.putObj_heap_other (fun e => h4 _ c (by rw [e]))]; exact b
    · refine Fr.trans (b := w.putObj D (.deferred none)) (S' := fun k => z ≤ k ∧ (w.putObj D (.deferred none)).heap[k]? = some (.deferred (some []))) ⟨rfl, rfl, rfl, by simp [World.putObj], fun k hk hn => ?_⟩ f (fun k hk hk2 => ?_)
      · by_cases e : k = D
        · subst e; exact absurd ⟨h2, h3⟩ hn
        · exact World.putObj_heap_other (fun h => e h)
      · by_cases e : k = D
        · subst e; exact ⟨h2, h3⟩
        · rw [World.putObj_heap_other (fun h => e h)] at hk2; exact hk2
end Go.Proofs.YtogjfifpbplahaaGreatDoor

namespace Go.Proofs.YtogjfifpbplahaaGreatDoor
open Go.RowKit Go.Shelf
open CM
set_option linter.unusedVariables false
attribute [local go_sem] Oper.semAt_some

/-- the slice holds n batches -/
def Uses (w : World) (a0 : Option Addr) (n : Nat) (U : Nat → Nat → Int) : Prop :=
  0 < n → ∃ b o, a0 = some ⟨b, o, none⟩ ∧ b < w.heap.size ∧ ∀ i j, i < n → j < 8 → w.cell? ⟨b, o + i * 8 + j, none⟩ = some (.int .i64 (U i j))
theorem Uses.fr {S : Nat → Prop} {w w' : World} {a0 : Option Addr} {n : Nat} {U : Nat → Nat → Int} (h : Uses w a0 n U) (f : Fr S w w') (hS : ∀ k, k < w.heap.size → ¬ S k) : Uses w' a0 n U := fun hn => by
  obtain ⟨b, o, h1, h2, h3⟩ := h hn
  exact ⟨b, o, h1, Nat.lt_of_lt_of_le h2 f.size, fun i j hi hj => f.cell h2 (hS b h2) (h3 i j hi hj)⟩
def useV (u : Nat → Int) : List Value := [.int .i64 (u 0), .int .i64 (u 1), .int .i64 (u 2), .int .i64 (u 3), .int .i64 (u 4), .int .i64 (u 5), .int .i64 (u 6), .int .i64 (u 7)]
theorem useV_at (u : Nat → Int) (k : Nat) (hk : k < 8) : (useV u)[k]? = some (Value.int .i64 (u k)) := by
  obtain rfl | rfl | rfl | rfl | rfl | rfl | rfl | rfl : k = 0 ∨ k = 1 ∨ k = 2 ∨ k = 3 ∨ k = 4 ∨ k = 5 ∨ k = 6 ∨ k = 7 := by omega
  all_goals rfl
theorem ownFrom_row {β : Type} {B b : Nat} {T : TypeId} {vs : List Value} (hb : b < B) : OwnFrom B (fun (_ : β) W => RowB W b T vs) :=
  fun _ W W' row hs hg hr => hs.of_block (hg.block b hs.lt (fun e => by have := (hr b e.symm).1; omega))
theorem ownFrom_pure {β : Type} {B : Nat} {p : β → Prop} : OwnFrom B (fun (x : β) (_ : World) => p x) := fun _ _ _ _ hs _ _ => hs

/-- field x of a batch may stand -/
def okAt (u : Nat → Int) (x : Nat) : Bool := if x = 0 then ((u 0 == -3) || (u 0 == -1) || (decide (0 ≤ u 0) && decide (u 0 ≤ 60))) else decide (0 ≤ u x) && decide (u x ≤ 1000000)
theorem ok1_all (u : Nat → Int) (h : ∀ x : Fin 8, okAt u x.val = true) : ok1 u = true := by
  simp only [ok1, Bool.and_eq_true, List.all_eq_true, List.mem_range]
  refine ⟨?_, fun k hk => ?_⟩
  · have := h ⟨0, by omega⟩
    simpa [okAt] using this
  · have := h ⟨k + 1, by omega⟩
    simpa [okAt] using this
theorem ok1_none (u : Nat → Int) (x : Nat) (hx : x < 8) (h : okAt u x = false) : ok1 u = false := by
  cases hb : ok1 u with
  | false => rfl
  | true =>
    exfalso
    simp only [ok1, Bool.and_eq_true, List.all_eq_true, List.mem_range] at hb
    unfold okAt at h
    by_cases e : x = 0
    · rw [if_pos e, hb.1] at h; cases h
    · have := hb.2 (x - 1) (by omega)
      rw [show x - 1 + 1 = x by omega] at this
      rw [if_neg e, this.1, this.2] at h
      cases h
theorem okB_false {U : Nat → Nat → Int} {n k : Nat} (hk : k < n) (h : ok1 (U k) = false) : okB U n = false := by
  cases hb : okB U n with
  | false => rfl
  | true => rw [okB_at hb hk] at h; cases h

theorem outside_any (a l h : Int) (w : World) : Calls Tryz.prog 16 #[.int .i64 a, .int .i64 l, .int .i64 h] w fun e w' => e = .returned (.bool (decide (a < l) || decide (h < a))) ∧ w = w' := by
  go_enter Tryz.func16, Tryz.ntmps16
  go_wp2
  all_goals go_ret
  all_goals first | exact ⟨rfl, rfl⟩ | exact ⟨ret_bool (by simp; omega), rfl⟩
theorem outside_in (a l h : Int) (w : World) (h0 : l ≤ a ∧ a ≤ h) : Calls Tryz.prog 16 #[.int .i64 a, .int .i64 l, .int .i64 h] w fun e w' => e = .returned (.bool false) ∧ w = w' := by
  have := outside_any a l h w
  rw [show (decide (a < l) || decide (h < a)) = false by simp; omega] at this
  exact this
theorem outside_out (a l h : Int) (w : World) (h0 : ¬ (l ≤ a ∧ a ≤ h)) : Calls Tryz.prog 16 #[.int .i64 a, .int .i64 l, .int .i64 h] w fun e w' => e = .returned (.bool true) ∧ w = w' := by
  have := outside_any a l h w
  rw [show (decide (a < l) || decide (h < a)) = true by simp; omega] at this
  exact this
/-- the frame at the head of check's loop -/
def CkI (b o n c : Nat) (U : Nat → Nat → Int) (w W0 : World) (a : Act) (wr : World) : Prop :=
  ∃ (k : Nat) (ds : List Deferred) (u4 u13 u14 u15 u16 u48 : Value), k ≤ n ∧ Marks (w.heap.size + 1) wr ds ∧ okB U k = true ∧ Fr (fun _ => False) W0 wr ∧
    a = { tmps := #[.slice (some ⟨b, o, none⟩) n c, undef, .pointer (some ⟨w.heap.size, 0, none⟩), undef, u4, undef, undef, .slice (some ⟨b, o, none⟩) n c, .int .i64 (n : Int), .bool false, .slice (some ⟨b, o, none⟩) n c, .int .i64 (n : Int), .int .i64 (k : Int), u13, u14, u15, u16, undef, undef, undef, undef, undef, undef, undef, undef, undef, undef, undef, undef, undef, undef, undef, undef, undef, undef, undef, undef, undef, undef, undef, undef, undef, undef, undef, undef, undef, undef, undef, u48], defers := ds }
def CkM (n : Nat) (a : Act) (_ : World) : Nat := n - (intOf (a.tmps.getD 12 undef)).toNat

set_option maxRecDepth 100000 in
set_option maxHeartbeats 2000000 in
theorem check_some (n c b o : Nat) (U : Nat → Nat → Int) (w : World) (hn : n ≤ 70) (hb : b < w.heap.size) (hc : Hid (∀ i j, i < n → j < 8 → w.cell? ⟨b, o + i * 8 + j, none⟩ = some (.int .i64 (U i j)))) :
    Calls Tryz.prog 22 #[.slice (some ⟨b, o, none⟩) n c] w (Ret (.int .i64 (listE n U)) w) := by
  have t0 : decide ((70 : Int) < (n : Int)) = false := by simp; omega
  refine (callsIn_wide (n := 4)).1 ?_
  refine callsIn_of_wp_marks Tryz.func22 rfl trivial ?_ rfl
  simp only [Tryz.ntmps22, List.size_toArray, List.length_cons, List.length_nil, Nat.reduceAdd, Nat.reduceSub, Array.replicate_succ, Array.replicate_zero, List.push_toArray, List.append_toArray, List.nil_append, List.cons_append]
  refine wpIn_wide.2 ?_
  go_wp2_with fail
  clear t0
  have hF0 : Fr (fun _ => False) w (w.alloc (Obj.cells #[Value.int .i64 0] 31)) := (Fr.refl _ w).alloc _
  have hR0 : RowB (w.alloc (Obj.cells #[Value.int .i64 0] 31)) w.heap.size 31 [Value.int .i64 0] := RowB.new w 31 [Value.int .i64 0]
  generalize w.alloc (Obj.cells #[Value.int .i64 0] 31) = W0 at *
  have HF0 := Lib.hid hF0
  have HR0 := Lib.hid hR0
  have hz : w.heap.size < W0.heap.size := hR0.lt
  clear hF0 hR0
  refine wp_loop (CkI b o n c U w W0) (CkM n) ?_ ?_
  · exact ⟨0, [], _, _, _, _, _, _, by omega, trivial, rfl, Fr.refl _ _, rfl⟩
  · rintro a wr ⟨k, ds, u4, u13, u14, u15, u16, u48, hk, hM, hok, hF, rfl⟩
    have HM := Lib.hid hM
    have HOK := Lib.hid hok
    have HF := Lib.hid hF
    clear hM hok
    by_cases hlt : k < n
    · have c0 : wr.cell? ⟨b, o + k * 8, none⟩ = some (.int .i64 (U k 0)) := (HF0.out.then HF.out).cell hb (fun h => h) (hc.out k 0 hlt (by omega))
      have c1 : wr.cell? ⟨b, o + k * 8 + 1, none⟩ = some (.int .i64 (U k 1)) := (HF0.out.then HF.out).cell hb (fun h => h) (hc.out k 1 hlt (by omega))
      have c2 : wr.cell? ⟨b, o + k * 8 + 2, none⟩ = some (.int .i64 (U k 2)) := (HF0.out.then HF.out).cell hb (fun h => h) (hc.out k 2 hlt (by omega))
      have c3 : wr.cell? ⟨b, o + k * 8 + 3, none⟩ = some (.int .i64 (U k 3)) := (HF0.out.then HF.out).cell hb (fun h => h) (hc.out k 3 hlt (by omega))
      have c4 : wr.cell? ⟨b, o + k * 8 + 4, none⟩ = some (.int .i64 (U k 4)) := (HF0.out.then HF.out).cell hb (fun h => h) (hc.out k 4 hlt (by omega))
      have c5 : wr.cell? ⟨b, o + k * 8 + 5, none⟩ = some (.int .i64 (U k 5)) := (HF0.out.then HF.out).cell hb (fun h => h) (hc.out k 5 hlt (by omega))
      have c6 : wr.cell? ⟨b, o + k * 8 + 6, none⟩ = some (.int .i64 (U k 6)) := (HF0.out.then HF.out).cell hb (fun h => h) (hc.out k 6 hlt (by omega))
      have c7 : wr.cell? ⟨b, o + k * 8 + 7, none⟩ = some (.int .i64 (U k 7)) := (HF0.out.then HF.out).cell hb (fun h => h) (hc.out k 7 hlt (by omega))
      have hz2 : W0.heap.size ≤ wr.heap.size := hF.size
      clear hF
      go_wp2_with (go_at_call 24; go_must (refine (fields_make _ _).mono ?_; rintro e w' ⟨rfl, rfl⟩))
      have hF1 : Fr (fun _ => False) wr ((wr.alloc (Obj.cells #[Value.int .i64 (U k 0), Value.int .i64 (U k 1), Value.int .i64 (U k 2), Value.int .i64 (U k 3), Value.int .i64 (U k 4), Value.int .i64 (U k 5), Value.int .i64 (U k 6), Value.int .i64 (U k 7)] 45)).alloc (Obj.cells #[Value.pointer (some ⟨wr.heap.size, 0, none⟩)] 68)) := ((Fr.refl _ wr).alloc _).alloc _
      have hX1 : RowB ((wr.alloc (Obj.cells #[Value.int .i64 (U k 0), Value.int .i64 (U k 1), Value.int .i64 (U k 2), Value.int .i64 (U k 3), Value.int .i64 (U k 4), Value.int .i64 (U k 5), Value.int .i64 (U k 6), Value.int .i64 (U k 7)] 45)).alloc (Obj.cells #[Value.pointer (some ⟨wr.heap.size, 0, none⟩)] 68)) wr.heap.size 45 (useV (U k)) := (RowB.new wr 45 (useV (U k))).fr ((Fr.refl (fun _ => False) _).alloc _) (fun h => h)
      have hP1 : RowB ((wr.alloc (Obj.cells #[Value.int .i64 (U k 0), Value.int .i64 (U k 1), Value.int .i64 (U k 2), Value.int .i64 (U k 3), Value.int .i64 (U k 4), Value.int .i64 (U k 5), Value.int .i64 (U k 6), Value.int .i64 (U k 7)] 45)).alloc (Obj.cells #[Value.pointer (some ⟨wr.heap.size, 0, none⟩)] 68)) (wr.heap.size + 1) 68 [Value.pointer (some ⟨wr.heap.size, 0, none⟩)] := by
        have := RowB.new (wr.alloc (Obj.cells #[Value.int .i64 (U k 0), Value.int .i64 (U k 1), Value.int .i64 (U k 2), Value.int .i64 (U k 3), Value.int .i64 (U k 4), Value.int .i64 (U k 5), Value.int .i64 (U k 6), Value.int .i64 (U k 7)] 45)) 68 [Value.pointer (some ⟨wr.heap.size, 0, none⟩)]
        rw [alloc_size] at this
        exact this
      generalize (wr.alloc (Obj.cells #[Value.int .i64 (U k 0), Value.int .i64 (U k 1), Value.int .i64 (U k 2), Value.int .i64 (U k 3), Value.int .i64 (U k 4), Value.int .i64 (U k 5), Value.int .i64 (U k 6), Value.int .i64 (U k 7)] 45)).alloc (Obj.cells #[Value.pointer (some ⟨wr.heap.size, 0, none⟩)] 68) = W2 at *
      clear c0 c1 c2 c3 c4 c5 c6 c7
      have hR2 : RowB W2 w.heap.size 31 [Value.int .i64 0] := (HR0.out.fr HF.out (fun h => h)).fr hF1 (fun h => h)
      have hM2 := HM.out.fr hF1 (fun _ _ h _ => h)
      have hF2 := HF.out.then hF1
      have hBz : w.heap.size < wr.heap.size := by omega
      generalize wr.heap.size = B at *
      have HX1 := Lib.hid hX1
      have HR2 := Lib.hid hR2
      have HM2 := Lib.hid hM2
      have HF2 := Lib.hid hF2
      have hsz : W0.heap.size ≤ W2.heap.size := hF2.size
      have hlt1 := hP1.lt
      refine range_fields (B + 1) B rfl rfl hP1.lt (hP1.cell 0) (fun pre W => Fr (fun _ => False) W2 W ∧ ∀ y ∈ pre, okAt (U k) y.val = true)
        (fun c pre W => c = .ret ∧ Fr (fun b => b = w.heap.size) W2 W ∧ RowB W w.heap.size 31 [Value.int .i64 7] ∧ ok1 (U k) = false)
        (OwnFrom.and (ownFrom_fr (Nat.le_refl _)) ownFrom_pure) (fun c => OwnFrom.and ownFrom_pure (OwnFrom.and (ownFrom_fr (Nat.le_refl _)) (OwnFrom.and (ownFrom_row (by omega)) ownFrom_pure)))
        ⟨Fr.refl _ _, fun _ h => by cases h⟩ (fun x => { tmps := #[.slice (some ⟨b, o, none⟩) n c, undef, .pointer (some ⟨w.heap.size, 0, none⟩), undef, .pointer (some ⟨B, 0, none⟩), .int .i64 (x.val : Int), .pointer (some ⟨B, x.val, none⟩), .slice (some ⟨b, o, none⟩) n c, .int .i64 (n : Int), .bool false, .slice (some ⟨b, o, none⟩) n c, .int .i64 (n : Int), .int .i64 (k : Int), .bool true, .pointer (some ⟨b, o + k * 8, none⟩), .agg #[.int .i64 (U k 0), .int .i64 (U k 1), .int .i64 (U k 2), .int .i64 (U k 3), .int .i64 (U k 4), .int .i64 (U k 5), .int .i64 (U k 6), .int .i64 (U k 7)], .func (.func 35) #[] #[.pointer (some ⟨B + 1, 0, none⟩)], .int .i64 (x.val : Int), .pointer (some ⟨B, x.val, none⟩), undef, undef, undef, undef, undef, undef, undef, undef, undef, undef, undef, undef, undef, undef, undef, undef, undef, undef, undef, undef, undef, undef, undef, undef, undef, undef, undef, undef, undef, u48], defers := [] }) ?assign ?body ?done ?stop
      case assign =>
        intro l x W K hK
        unfold enc8
        gi_wp2
        exact hK
      case body =>
        rintro l pre ⟨x, hxlt⟩ W ⟨hF3, hpre⟩ hlen
        have hcx : W.cell? ⟨B, x, none⟩ = some (.int .i64 (U k x)) := by rw [(HX1.out.fr hF3 (fun h => h)).cell x]; exact useV_at (U k) x hxlt
        have HR3 := Lib.hid (HR2.out.fr hF3 (fun h => h))
        have hfz := (HR2.out.fr hF3 (fun h => h)).frozen 0
        have hfc := (HR2.out.fr hF3 (fun h => h)).cell 0
        have HF3 := Lib.hid hF3
        have HP := Lib.hid hpre
        clear hF3 hpre hX1 hR2 hM2 hF2 hP1 hF1
        by_cases hx0 : x = 0
        · subst hx0
          have z0 : (((0 : Nat) : Int)) = 0 := rfl
          dsimp only
          rw [z0]
          obtain ⟨v, hv⟩ : ∃ v, U k 0 = v := ⟨_, rfl⟩
          have HV := Lib.hid hv
          rw [hv] at hcx
          rw [hv]
          clear hv z0
          by_cases h3 : v = -3
          · have HX := Lib.hid (show okAt (U k) 0 = true by unfold okAt; rw [if_pos rfl, HV.out, h3]; decide)
            have e1 : (v != -3) = false := by simp [h3]
            have e2 : (v == -3) = true := by simp [h3]
            clear h3
            gi_wp2_with (first | (gi_at_call 16; (refine (CallsIn.inRound l (callsIn_wide.2 (outside_in _ 0 60 _ (by omega)))).mono ?_; rintro e w' ⟨rfl, rfl⟩)) | ((with_reducible refine @And.intro (Fence.wide.fn 16) _ ?_ ?_); exact trivial))
            exact ⟨KeepsFrom.refl _ _, K56.refl _, HF3.out, fun y hy => by
                rcases List.mem_append.1 hy with h | h
                · exact HP.out y h
                · rw [List.mem_singleton.1 h]; exact HX.out⟩
          · have e1 : (v != -3) = true := by simp [h3]
            have e2 : (v == -3) = false := by simp [h3]
            by_cases h1 : v = -1
            · have HX := Lib.hid (show okAt (U k) 0 = true by unfold okAt; rw [if_pos rfl, HV.out, h1]; decide)
              have e3 : (v != -1) = false := by simp [h1]
              have e4 : (v == -1) = true := by simp [h1]
              clear h3 h1
              gi_wp2_with (first | (gi_at_call 16; (refine (CallsIn.inRound l (callsIn_wide.2 (outside_in _ 0 60 _ (by omega)))).mono ?_; rintro e w' ⟨rfl, rfl⟩)) | ((with_reducible refine @And.intro (Fence.wide.fn 16) _ ?_ ?_); exact trivial))
              exact ⟨KeepsFrom.refl _ _, K56.refl _, HF3.out, fun y hy => by
                rcases List.mem_append.1 hy with h | h
                · exact HP.out y h
                · rw [List.mem_singleton.1 h]; exact HX.out⟩
            · have e3 : (v != -1) = true := by simp [h1]
              have e4 : (v == -1) = false := by simp [h1]
              by_cases hr : 0 ≤ v ∧ v ≤ 60
              · have HX := Lib.hid (show okAt (U k) 0 = true by unfold okAt; rw [if_pos rfl, HV.out]; simp; omega)
                have HG := Lib.hid hr
                clear h3 h1 hr
                gi_wp2_with (first | (gi_at_call 16; go_must (refine (CallsIn.inRound l (callsIn_wide.2 (outside_in _ 0 60 _ HG.out))).mono ?_; rintro e w' ⟨rfl, rfl⟩)) | ((with_reducible refine @And.intro (Fence.wide.fn 16) _ ?_ ?_); exact trivial))
                exact ⟨KeepsFrom.refl _ _, K56.refl _, HF3.out, fun y hy => by
                rcases List.mem_append.1 hy with h | h
                · exact HP.out y h
                · rw [List.mem_singleton.1 h]; exact HX.out⟩
              · have HX := Lib.hid (show okAt (U k) 0 = false by unfold okAt; rw [if_pos rfl, HV.out, e2, e4]; simp; omega)
                have HG := Lib.hid hr
                clear h3 h1 hr
                gi_wp2_with (first | (gi_at_call 16; go_must (refine (CallsIn.inRound l (callsIn_wide.2 (outside_out _ 0 60 _ HG.out))).mono ?_; rintro e w' ⟨rfl, rfl⟩)) | ((with_reducible refine @And.intro (Fence.wide.fn 16) _ ?_ ?_); exact trivial))
                exact ⟨(KeepsOthers.setCell _ _ _).from _, rfl, Fr.setCell (S := fun b => b = w.heap.size) HF3.out.up (a := ⟨w.heap.size, 0, none⟩) (fun _ => rfl) _, HR3.out.set 0 _, ok1_none _ _ hxlt HX.out⟩
        · have hxp : (0 : Int) < (x : Int) := by omega
          have hxe : ((x : Int) == 0) = false := by simp; omega
          cases hv : okAt (U k) x
          · have HX := Lib.hid hv
            have hrange : ¬ (0 ≤ U k x ∧ U k x ≤ 1000000) := by
              simp only [okAt, hx0, if_false, Bool.and_eq_false_iff, decide_eq_false_iff_not] at hv
              omega
            have HG := Lib.hid hrange
            clear hv hx0 hrange
            gi_wp2_with (first | (gi_at_call 16; go_must (refine (CallsIn.inRound l (callsIn_wide.2 (outside_out _ 0 1000000 _ HG.out))).mono ?_; rintro e w' ⟨rfl, rfl⟩)) | ((with_reducible refine @And.intro (Fence.wide.fn 16) _ ?_ ?_); exact trivial))
            exact ⟨(KeepsOthers.setCell _ _ _).from _, rfl, Fr.setCell (S := fun b => b = w.heap.size) HF3.out.up (a := ⟨w.heap.size, 0, none⟩) (fun _ => rfl) _, HR3.out.set 0 _, ok1_none _ _ hxlt HX.out⟩
          · have HX := Lib.hid hv
            have hrange : 0 ≤ U k x ∧ U k x ≤ 1000000 := by
              simp only [okAt, hx0, if_false, Bool.and_eq_true, decide_eq_true_eq] at hv
              exact hv
            have HG := Lib.hid hrange
            clear hv hx0 hrange
            gi_wp2_with (first | (gi_at_call 16; go_must (refine (CallsIn.inRound l (callsIn_wide.2 (outside_in _ 0 1000000 _ HG.out))).mono ?_; rintro e w' ⟨rfl, rfl⟩)) | ((with_reducible refine @And.intro (Fence.wide.fn 16) _ ?_ ?_); exact trivial))
            exact ⟨KeepsFrom.refl _ _, K56.refl _, HF3.out, fun y hy => by
              rcases List.mem_append.1 hy with h | h
              · exact HP.out y h
              · rw [List.mem_singleton.1 h]; exact HX.out⟩
      case done =>
        rintro D W hD ⟨hF3, hall⟩ hK
        have HOK2 := Lib.hid (show okB U (k + 1) = true by
          simp only [okB, Bool.and_eq_true]
          exact ⟨HOK.out, ok1_all _ (fun x => hall x (by revert x; decide))⟩)
        have HF4 := Lib.hid (HF2.out.then hF3)
        have hM4 := HM2.out.fr hF3 (fun _ _ h _ => h)
        have HM4 := Lib.hid (show Marks (w.heap.size + 1) W ({ target := .collected D, args := #[] } :: ds) from ⟨D, rfl, by omega, hK, fun d hd e => by
          subst e
          have := HM2.out.lt D hd
          omega, hM4⟩)
        clear hall hF3 hM4 hK
        go_wp2_with fail
        exact ⟨⟨k + 1, _, _, _, _, _, _, _, by omega, HM4.out, HOK2.out, HF4.out, by rw [show ((k : Int) + 1) = ((k + 1 : Nat) : Int) by omega]⟩, by simp [CkM, intOf]; omega⟩
      case stop =>
        rintro D c pre W hD ⟨rfl, hF3, hR3, hbad⟩ hK
        have hM4 : Marks (w.heap.size + 1) W ds := HM2.out.fr hF3 (fun D h1 h2 _ => by omega)
        have HM4 := Lib.hid (show Marks (w.heap.size + 1) W ({ target := .collected D, args := #[] } :: ds) from ⟨D, rfl, by omega, hK, fun d hd e => by
          subst e
          have := HM2.out.lt D hd
          omega, hM4⟩)
        have hc7 := hR3.cell 0
        have HL := Lib.hid (show listE n U = 7 by unfold listE; rw [if_neg (by omega), if_neg (by rw [okB_false hlt hbad]; decide)])
        have HF4 := Lib.hid (show Fr (fun b => b = w.heap.size) w W from ((HF0.out.then HF2.out).up).trans hF3 (fun _ _ h => h))
        have HR4 := Lib.hid hR3
        clear hF3 hM4 hK hbad hR3
        go_wp2_with fail
        refine leaves_marks _ _ HM4.out (fun w' f => ?_)
        have hr7 := (HR4.out.fr f (fun h => by have := HR4.out; unfold RowB at this; rw [this] at h; cases h.2)).cell 0
        refine ⟨.int .i64 7, by simp [results, Tryz.results22, go_sem, hr7], by rw [HL.out], ?_⟩
        exact (HF4.out.mono (S' := fun k => w.heap.size ≤ k) (fun k _ h => by rw [h]; exact Nat.le_refl _) |>.trans f (fun k hk h => by have := h.1; omega)).mono (fun k hk h => by omega)
    · obtain rfl : k = n := by omega
      have hF3 := HF0.out.then HF.out
      have hRr := HR0.out.fr HF.out (fun h => h)
      have HRr := Lib.hid hRr
      have HF3 := Lib.hid hF3
      have hcr := hRr.cell 0
      have hfr := hRr.frozen 0
      have HL := Lib.hid (show listE k U = 0 by unfold listE; rw [if_neg (by omega), if_pos HOK.out])
      clear hF3 hRr hF
      go_wp2_with fail
      have HR5 := Lib.hid (HRr.out.set 0 (Value.int .i64 0))
      have HF5 := Lib.hid ((Fr.setCell (S := fun b => b = w.heap.size) HF3.out.up (a := ⟨w.heap.size, 0, none⟩) (fun _ => rfl) (Value.int .i64 0)))
      have HM5 := Lib.hid (show Marks (w.heap.size + 1) (wr.setCell ⟨w.heap.size, 0, none⟩ (Value.int .i64 0)) ds from HM.out.fr (S := fun b => b = w.heap.size) (Fr.setCell (S := fun b => b = w.heap.size) (Fr.refl _ wr) (a := ⟨w.heap.size, 0, none⟩) (fun _ => rfl) (Value.int .i64 0)) (fun D h1 h2 _ => by omega))
      generalize wr.setCell ⟨w.heap.size, 0, none⟩ (Value.int .i64 0) = W5 at *
      refine leaves_marks _ _ HM5.out (fun w' f => ?_)
      have hr7 := (HR5.out.fr f (fun h => by have := HR5.out; unfold RowB at this; rw [this] at h; cases h.2)).cell 0
      refine ⟨.int .i64 0, by simp [results, Tryz.results22, go_sem, hr7], by rw [HL.out], ?_⟩
      exact (HF5.out.mono (S' := fun k => w.heap.size ≤ k) (fun k _ h => by rw [h]; exact Nat.le_refl _) |>.trans f (fun k hk h => by have := h.1; omega)).mono (fun k hk h => by omega)
set_option maxRecDepth 100000 in
set_option maxHeartbeats 1000000 in
theorem check_many (n c : Nat) (a0 : Option Addr) (w : World) (hn : 70 < n) :
    Calls Tryz.prog 22 #[.slice a0 n c] w (Ret (.int .i64 3) w) := by
  have h1 : (70 : Int) < (n : Int) := by omega
  go_enter Tryz.func22, Tryz.ntmps22
  go_wp2_with fail
  refine bodyPost_ret (v := .int .i64 3) (by simp [results, Tryz.results22, go_sem]) rfl ⟨rfl, ?_⟩
  exact (Fr.refl _ w).alloc _
set_option maxRecDepth 100000 in
set_option maxHeartbeats 1000000 in
theorem check_zero (c : Nat) (a0 : Option Addr) (w : World) :
    Calls Tryz.prog 22 #[.slice a0 0 c] w (Ret (.int .i64 0) w) := by
  go_enter Tryz.func22, Tryz.ntmps22
  go_wp2_with fail
  refine wp_loop_once ?_
  go_wp2_with fail
  refine bodyPost_ret (v := .int .i64 0) (by simp [results, Tryz.results22, go_sem]) rfl ⟨rfl, ?_⟩
  exact (Fr.refl _ w).alloc _
/-- **check** -/
theorem check_walk (n c : Nat) (a0 : Option Addr) (U : Nat → Nat → Int) (w : World) (h : Uses w a0 n U) :
    Calls Tryz.prog 22 #[.slice a0 n c] w (Ret (.int .i64 (listE n U)) w) := by
  by_cases h1 : 70 < n
  · rw [show listE n U = 3 by unfold listE; rw [if_pos h1]]
    exact check_many n c a0 w h1
  · by_cases h0 : n = 0
    · subst h0
      exact check_zero c a0 w
    · obtain ⟨b, o, rfl, hb, hc⟩ := h (by omega)
      exact check_some n c b o U w (by omega) hb (Lib.hid hc)
end Go.Proofs.YtogjfifpbplahaaGreatDoor
