/- Words that all walks of package costs share: what a call leaves as it was, a block that is known whole, arguments opened. -/
import Derived.Test.YtfdhdhmeahdpbaaGreatDoorProg
import Derived.WalkKit
import Derived.WalkSpells
import Derived.WalkLawsBesides
import Derived.Lib.Hide
import Derived.Deep.QuietTactic
import Derived.BigQuiet
import Derived.Below
import Derived.Outline
import Derived.ChangeShapes
namespace Go.Proofs.YtfdhdhmeahdpbaaGreatDoor
open Go.RowKit
set_option linter.unusedVariables false

/-- All that was there stands, but for the blocks of S; the streams stand. -/
structure Fr (S : Nat → Prop) (w w' : World) : Prop where
  os : w'.os = w.os
  tape : w'.tape = w.tape
  output : w'.output = w.output
  size : w.heap.size ≤ w'.heap.size
  block : ∀ k, k < w.heap.size → ¬ S k → w'.heap[k]? = w.heap[k]?
theorem Fr.refl (S : Nat → Prop) (w : World) : Fr S w w := ⟨rfl, rfl, rfl, Nat.le_refl _, fun _ _ _ => rfl⟩
theorem Fr.drewN {S : Nat → Prop} {w w' : World} (h : Fr S w w') (k : Nat) : Fr S w (w'.drewN k) := ⟨h.os, h.tape, h.output, h.size, h.block⟩
theorem Fr.drew {S : Nat → Prop} {w w' : World} (h : Fr S w w') : Fr S w w'.drew := ⟨h.os, h.tape, h.output, h.size, h.block⟩
theorem Fr.trans {S S' : Nat → Prop} {a b c : World} (h : Fr S a b) (h' : Fr S' b c) (hs : ∀ k, k < a.heap.size → S' k → S k) : Fr S a c :=
  ⟨h'.os.trans h.os, h'.tape.trans h.tape, h'.output.trans h.output, Nat.le_trans h.size h'.size, fun k hk hn =>
    (h'.block k (Nat.lt_of_lt_of_le hk h.size) (fun e => hn (hs k hk e))).trans (h.block k hk hn)⟩
theorem Fr.mono {S S' : Nat → Prop} {w w' : World} (h : Fr S w w') (hs : ∀ k, k < w.heap.size → S k → S' k) : Fr S' w w' :=
  ⟨h.os, h.tape, h.output, h.size, fun k hk hn => h.block k hk (fun e => hn (hs k hk e))⟩
theorem Fr.setCell {S : Nat → Prop} {w w' : World} (h : Fr S w w') {a : Addr} (ha : a.block < w.heap.size → S a.block) (v : Value) : Fr S w (w'.setCell a v) :=
  ⟨h.os, h.tape, h.output, by simpa [World.setCell] using h.size, fun k hk hn => by
    rw [Below.heap_setCell _ _ _ _ (fun e => hn (by subst e; exact ha hk))]; exact h.block k hk hn⟩
theorem Fr.alloc {S : Nat → Prop} {w w' : World} (h : Fr S w w') (o : Obj) : Fr S w (w'.alloc o) :=
  ⟨h.os, h.tape, h.output, by have := h.size; simp; omega, fun k hk hn => by
    rw [Below.heap_alloc _ _ _ (Nat.lt_of_lt_of_le hk h.size)]; exact h.block k hk hn⟩
theorem Fr.below {S : Nat → Prop} {w w' : World} (h : Fr S w w') (hS : ∀ k, k < w.heap.size → ¬ S k) : Below w.heap.size w w' :=
  ⟨h.os, h.tape, h.output, h.size, fun k hk => h.block k hk (hS k hk)⟩
theorem Fr.of_below {w w' : World} (h : Below w.heap.size w w') : Fr (fun _ => False) w w' :=
  ⟨h.os, h.tape, h.output, h.size, fun k hk _ => h.block k hk⟩
theorem Fr.of_drewN {S : Nat → Prop} {w w' : World} {q : Nat} (h : Fr S (w.drewN q) w') : Fr S w w' := ⟨h.os, h.tape, h.output, h.size, h.block⟩
theorem Fr.bel {w w' : World} (h : Fr (fun _ => False) w w') : Below w.heap.size w w' := h.below (fun _ _ h => h)
theorem Fr.up {S : Nat → Prop} {w w' : World} (h : Fr (fun _ => False) w w') : Fr S w w' := h.mono (fun _ _ h => h.elim)
theorem Fr.then {a b c : World} (h : Fr (fun _ => False) a b) (k : Fr (fun _ => False) b c) : Fr (fun _ => False) a c := h.trans k (fun _ _ h => h)
theorem Fr.cell {S : Nat → Prop} {w w' : World} (f : Fr S w w') {p : Addr} {v : Value} (hb : p.block < w.heap.size) (hS : ¬ S p.block) (h : w.cell? p = some v) : w'.cell? p = some v :=
  (World.cell?_of_block (f.block p.block hb hS)).trans h
theorem alloc_size (w : World) (o : Obj) : (w.alloc o).heap.size = w.heap.size + 1 := Array.size_push _
/-- Block b is a row of cells. -/
def RowB (w : World) (b : Nat) (T : TypeId) (vs : List Value) : Prop := w.heap[b]? = some (.cells vs.toArray T (0, 0))
section
variable {w : World} {b T : Nat} {vs : List Value}
theorem RowB.lt (h : RowB w b T vs) : b < w.heap.size := by
  unfold RowB at h
  exact (Array.getElem?_eq_some_iff.1 h).1
theorem RowB.cell (h : RowB w b T vs) (i : Nat) : w.cell? ⟨b, i, none⟩ = vs[i]? := by
  unfold RowB at h; simp [World.cell?, h]
theorem RowB.frozen (h : RowB w b T vs) (i : Nat) : w.frozen? ⟨b, i, none⟩ = false := by
  unfold RowB at h; simp [World.frozen?, h]
theorem RowB.of_block {w' : World} (h : RowB w b T vs) (e : w'.heap[b]? = w.heap[b]?) : RowB w' b T vs := by
  unfold RowB at *; rw [e]; exact h
theorem RowB.fr {S : Nat → Prop} {w' : World} (h : RowB w b T vs) (f : Fr S w w') (hb : ¬ S b) : RowB w' b T vs := h.of_block (f.block b h.lt hb)
theorem RowB.set (h : RowB w b T vs) (i : Nat) (v : Value) : RowB (w.setCell ⟨b, i, none⟩ v) b T (vs.set i v) := by
  unfold RowB at *
  show (w.heap.modify b _)[b]? = _
  rw [Array.getElem?_modify, if_pos rfl, h]
  simp
theorem RowB.new (w : World) (T : TypeId) (vs : List Value) : RowB (w.alloc (.cells vs.toArray T)) w.heap.size T vs := by
  unfold RowB
  show (w.heap.push _)[w.heap.size]? = _
  rw [Array.getElem?_push_size]
end

theorem ret_int {k : IntKind} {a b : Int} (h : a = b) : Ending.returned (.int k a) = .returned (.int k b) := by rw [h]
theorem ret_bool {a b : Bool} (h : a = b) : Ending.returned (.bool a) = .returned (.bool b) := by rw [h]
theorem nat_of_wf {k : IntKind} {z : Int} {m : Nat} (h1 : k.min = 0) (h2 : k.max = m) (h : (Lit.int k z).wf = true) : ∃ n : Nat, z = n ∧ n ≤ m := by
  simp only [Lit.wf, Bool.and_eq_true, decide_eq_true_eq] at h
  rw [h1, h2] at h
  exact ⟨z.toNat, by omega, by omega⟩
theorem int_of_wf {z : Int} (h : (Lit.int .i64 z).wf = true) : -9223372036854775808 ≤ z ∧ z ≤ 9223372036854775807 := by
  have e1 : IntKind.i64.min = -9223372036854775808 := rfl
  have e2 : IntKind.i64.max = 9223372036854775807 := rfl
  simp only [Lit.wf, Bool.and_eq_true, decide_eq_true_eq] at h
  omega
/-- The world is left but for new blocks. -/
def Ret (v : Value) (w : World) (e : Ending) (w' : World) : Prop := e = .returned v ∧ Fr (fun _ => False) w w'
theorem addr_add (b off j : Nat) : (⟨b, off, none⟩ : Addr).add j = ⟨b, off + j, none⟩ := by
  by_cases h : j = 0
  · subst h; simp [Addr.add]
  · simp [Addr.add, h]
end Go.Proofs.YtfdhdhmeahdpbaaGreatDoor
