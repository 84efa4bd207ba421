/- Walks over the small functions of package bits. -/
import Derived.Test.YtbnjeglbbadcbaaDoorProg
import Derived.Test.YtbnjeglbbadcbaaDoorMath
import Derived.WalkKit
import Derived.WalkSpells
import Derived.WalkLawsBesides
import Derived.Lib.Hide
import Derived.Deep.QuietTactic
import Derived.BigQuiet
import Derived.Deep.RegionHeld3
import Derived.Outline
import Derived.Laws.Bits128
namespace Go.Proofs.YtbnjeglbbadcbaaDoor
open Go.RowKit
open BM
set_option linter.unusedVariables false

/-- The cells of a map: its words, its number of bits, and that it was made. -/
def mcells (ws : Nat → Nat) (n : Nat) (md : Bool) : Array Value := ((List.range 64).map (fun i => Value.int .u64 (ws i)) ++ [Value.int .i64 n, Value.bool md]).toArray
/-- Block b is a map. -/
def MapB (w : World) (b : Nat) (ws : Nat → Nat) (n : Nat) (md : Bool) : Prop := w.heap[b]? = some (.cells (mcells ws n md) 68 (0, 0))

theorem mcells_size (ws : Nat → Nat) (n : Nat) (md : Bool) : (mcells ws n md).size = 66 := by simp [mcells]
theorem mcells_word (ws : Nat → Nat) (n : Nat) (md : Bool) (i : Nat) (h : i < 64) : (mcells ws n md)[i]? = some (.int .u64 (ws i)) := by
  simp [mcells, List.getElem?_append, h]
theorem mcells_n (ws : Nat → Nat) (n : Nat) (md : Bool) : (mcells ws n md)[64]? = some (.int .i64 n) := by simp [mcells]
theorem mcells_made (ws : Nat → Nat) (n : Nat) (md : Bool) : (mcells ws n md)[65]? = some (.bool md) := by simp [mcells]

section
variable {w : World} {b : Nat} {ws : Nat → Nat} {n : Nat} {md : Bool}
theorem MapB.lt (h : MapB w b ws n md) : b < w.heap.size := by
  unfold MapB at h
  exact (Array.getElem?_eq_some_iff.1 h).1
theorem MapB.word (h : MapB w b ws n md) {i : Nat} (hi : i < 64) : w.cell? ⟨b, i, none⟩ = some (.int .u64 (ws i)) := by
  unfold MapB at h; simp [World.cell?, h, mcells_word ws n md i hi]
theorem MapB.len (h : MapB w b ws n md) : w.cell? ⟨b, 64, none⟩ = some (.int .i64 n) := by
  unfold MapB at h; simp [World.cell?, h, mcells_n]
theorem MapB.made (h : MapB w b ws n md) : w.cell? ⟨b, 65, none⟩ = some (.bool md) := by
  unfold MapB at h; simp [World.cell?, h, mcells_made]
theorem MapB.frozen (h : MapB w b ws n md) (i : Nat) : w.frozen? ⟨b, i, none⟩ = false := by
  unfold MapB at h; simp [World.frozen?, h]
theorem MapB.of_block {w' : World} (h : MapB w b ws n md) (e : w'.heap[b]? = w.heap[b]?) : MapB w' b ws n md := by
  unfold MapB at *; rw [e]; exact h
theorem MapB.drewN (h : MapB w b ws n md) (k : Nat) : MapB (w.drewN k) b ws n md := h
theorem MapB.congr {ws' : Nat → Nat} (h : MapB w b ws n md) (e : ∀ i, i < 64 → ws i = ws' i) : MapB w b ws' n md := by
  have : mcells ws n md = mcells ws' n md := by
    unfold mcells
    congr 2
    apply List.map_congr_left
    intro i hi
    rw [e i (by simpa using hi)]
  unfold MapB at *; rw [← this]; exact h
/-- a word is written -/
def upd (ws : Nat → Nat) (i x : Nat) : Nat → Nat := fun k => if k = i then x else ws k
theorem MapB.set (h : MapB w b ws n md) {i : Nat} (hi : i < 64) (x : Nat) : MapB (w.setCell ⟨b, i, none⟩ (.int .u64 x)) b (upd ws i x) n md := by
  have hl := h.lt
  unfold MapB at *
  have hv : (w.heap.modify b fun | .cells c elem frozen => .cells (c.setIfInBounds i (.int .u64 x)) elem frozen | o => o)[b]? = some (.cells (mcells (upd ws i x) n md) 68 (0, 0)) := by
    rw [Array.getElem?_modify, if_pos rfl, h]
    simp only [Option.map_some, Option.some.injEq, Obj.cells.injEq, and_self, and_true]
    apply Array.ext (by simp [mcells_size])
    intro k h1 h2
    have hk : k < 66 := by simpa [mcells_size] using h2
    rw [Array.getElem_setIfInBounds (by simpa [mcells_size] using hk)]
    apply Option.some.inj
    rw [← Array.getElem?_eq_getElem h2]
    by_cases hk64 : k < 64
    · rw [mcells_word _ _ _ _ hk64]
      by_cases e : i = k
      · subst e; simp [upd]
      · have : ¬ k = i := fun e' => e e'.symm
        rw [if_neg e, ← Array.getElem?_eq_getElem, mcells_word _ _ _ _ hk64]
        simp [upd, this]
    · have e : ¬ i = k := by omega
      rw [if_neg e, ← Array.getElem?_eq_getElem]
      have : k = 64 ∨ k = 65 := by omega
      rcases this with rfl | rfl
      · rw [mcells_n, mcells_n]
      · rw [mcells_made, mcells_made]
  exact hv
end

/-- All that was there stands, but for the blocks of S; the streams stand. -/
structure Fr (S : Nat → Prop) (w w' : World) : Prop where
  os : w'.os = w.os
  tape : w'.tape = w.tape
  output : w'.output = w.output
  size : w.heap.size ≤ w'.heap.size
  block : ∀ k, k < w.heap.size → ¬ S k → w'.heap[k]? = w.heap[k]?
theorem Fr.refl (S : Nat → Prop) (w : World) : Fr S w w := ⟨rfl, rfl, rfl, Nat.le_refl _, fun _ _ _ => rfl⟩
theorem Fr.drewN {S : Nat → Prop} {w w' : World} (h : Fr S w w') (k : Nat) : Fr S w (w'.drewN k) := ⟨h.os, h.tape, h.output, h.size, h.block⟩
theorem Fr.drew {S : Nat → Prop} {w w' : World} (h : Fr S w w') : Fr S w w'.drew := ⟨h.os, h.tape, h.output, h.size, h.block⟩
theorem Fr.trans {S S' : Nat → Prop} {a b c : World} (h : Fr S a b) (h' : Fr S' b c) (hs : ∀ k, k < a.heap.size → S' k → S k) : Fr S a c :=
  ⟨h'.os.trans h.os, h'.tape.trans h.tape, h'.output.trans h.output, Nat.le_trans h.size h'.size, fun k hk hn =>
    (h'.block k (Nat.lt_of_lt_of_le hk h.size) (fun e => hn (hs k hk e))).trans (h.block k hk hn)⟩
theorem Fr.mono {S S' : Nat → Prop} {w w' : World} (h : Fr S w w') (hs : ∀ k, k < w.heap.size → S k → S' k) : Fr S' w w' :=
  ⟨h.os, h.tape, h.output, h.size, fun k hk hn => h.block k hk (fun e => hn (hs k hk e))⟩
theorem Fr.setCell {S : Nat → Prop} {w w' : World} (h : Fr S w w') {a : Addr} (ha : a.block < w.heap.size → S a.block) (v : Value) : Fr S w (w'.setCell a v) :=
  ⟨h.os, h.tape, h.output, by simpa [World.setCell] using h.size, fun k hk hn => by
    rw [Below.heap_setCell _ _ _ _ (fun e => hn (by subst e; exact ha hk))]; exact h.block k hk hn⟩
theorem Fr.alloc {S : Nat → Prop} {w w' : World} (h : Fr S w w') (o : Obj) : Fr S w (w'.alloc o) :=
  ⟨h.os, h.tape, h.output, by have := h.size; simp; omega, fun k hk hn => by
    rw [Below.heap_alloc _ _ _ (Nat.lt_of_lt_of_le hk h.size)]; exact h.block k hk hn⟩
theorem Fr.below {S : Nat → Prop} {w w' : World} (h : Fr S w w') (hS : ∀ k, k < w.heap.size → ¬ S k) : Below w.heap.size w w' :=
  ⟨h.os, h.tape, h.output, h.size, fun k hk => h.block k hk (hS k hk)⟩
theorem Fr.of_below {w w' : World} (h : Below w.heap.size w w') : Fr (fun _ => False) w w' :=
  ⟨h.os, h.tape, h.output, h.size, fun k hk _ => h.block k hk⟩
theorem MapB.fr {S : Nat → Prop} {w w' : World} {b n : Nat} {ws : Nat → Nat} {md : Bool} (h : MapB w b ws n md) (f : Fr S w w') (hb : ¬ S b) : MapB w' b ws n md :=
  h.of_block (f.block b h.lt hb)

theorem ret_int {k : IntKind} {a b : Int} (h : a = b) : Ending.returned (.int k a) = .returned (.int k b) := by rw [h]
theorem ret_bool {a b : Bool} (h : a = b) : Ending.returned (.bool a) = .returned (.bool b) := by rw [h]

/-! ### ok -/
set_option maxHeartbeats 400000 in
theorem ok_nil (w : World) : Calls Tryd.prog 42 #[.pointer none] w fun e w' => e = .returned (.bool false) ∧ w' = w := by
  go_enter Tryd.func42, Tryd.ntmps42
  go_wp2
  go_ret
  exact ⟨rfl, rfl⟩
set_option maxHeartbeats 400000 in
theorem ok_any (b : Nat) (v : Bool) (w : World) (h : w.cell? ⟨b, 65, none⟩ = some (.bool v)) : Calls Tryd.prog 42 #[.pointer (some ⟨b, 0, none⟩)] w fun e w' => e = .returned (.bool v) ∧ w' = w := by
  go_enter Tryd.func42, Tryd.ntmps42
  go_wp2
  go_ret
  exact ⟨rfl, rfl⟩

/-! ### OnesCount64 -/
theorem wrap_u64_nat {n : Int} {m : Nat} (e : n = (m : Int)) (h : m < 18446744073709551616) : IntKind.u64.wrap n = ((m : Nat) : Int) := by
  rw [e, IntKind.wrap_u64]; omega
theorem one1 (x : Nat) (hx : x < 18446744073709551616) (h : st1 x < 18446744073709551616) : IntKind.u64.wrap (bits BinOp.and IntKind.u64 ((x : Int) / 2) 6148914691236517205 + bits BinOp.and IntKind.u64 (x : Int) 6148914691236517205) = ((st1 x : Nat) : Int) := by
  refine wrap_u64_nat ?_ h
  have h1 := u64_and_nat (x / 2) 6148914691236517205 (by omega) (by omega)
  have h2 := u64_and_nat x 6148914691236517205 hx (by omega)
  rw [Int.natCast_ediv] at h1
  unfold st1 m0
  rw [Int.natCast_add, ← h1, ← h2]
  rfl
theorem one2 (x : Nat) (hx : x < 18446744073709551616) (h : st2 x < 18446744073709551616) : IntKind.u64.wrap (bits BinOp.and IntKind.u64 ((x : Int) / 4) 3689348814741910323 + bits BinOp.and IntKind.u64 (x : Int) 3689348814741910323) = ((st2 x : Nat) : Int) := by
  refine wrap_u64_nat ?_ h
  have h1 := u64_and_nat (x / 4) 3689348814741910323 (by omega) (by omega)
  have h2 := u64_and_nat x 3689348814741910323 hx (by omega)
  rw [Int.natCast_ediv] at h1
  unfold st2 m1
  rw [Int.natCast_add, ← h1, ← h2]
  rfl
theorem one3 (x : Nat) (h : x / 16 + x < 18446744073709551616) : bits BinOp.and IntKind.u64 ((x : Int) / 16 + (x : Int)) 1085102592571150095 = ((st3 x : Nat) : Int) := by
  have h1 := u64_and_nat (x / 16 + x) 1085102592571150095 h (by omega)
  unfold st3 m2
  rw [← h1, Int.natCast_add, Int.natCast_ediv]
  rfl
theorem one4 (x : Nat) (h : st4 x < 18446744073709551616) : IntKind.u64.wrap ((x : Int) + (x : Int) / 256) = ((st4 x : Nat) : Int) := wrap_u64_nat (by unfold st4; omega) h
theorem one5 (x : Nat) (h : st5 x < 18446744073709551616) : IntKind.u64.wrap ((x : Int) + (x : Int) / 65536) = ((st5 x : Nat) : Int) := wrap_u64_nat (by unfold st5; omega) h
theorem one6 (x : Nat) (h : st6 x < 18446744073709551616) : IntKind.u64.wrap ((x : Int) + (x : Int) / 4294967296) = ((st6 x : Nat) : Int) := wrap_u64_nat (by unfold st6; omega) h
theorem one7 (y p : Nat) (h : y % 128 = p) : bits BinOp.and IntKind.i64 (wrap64 (y : Int)) 127 = (p : Int) := by
  rw [i64_and127, ← h]
  unfold wrap64
  omega
set_option maxHeartbeats 400000 in
theorem ones_core (x y1 y2 y3 y4 y5 y6 p : Nat) (w : World) (hx : x < 18446744073709551616) (s1 : y1 < 18446744073709551616) (s2 : y2 < 18446744073709551616) (s3p : y2 / 16 + y2 < 18446744073709551616)
    (s3 : y3 < 18446744073709551616) (s4 : y4 < 18446744073709551616) (s5 : y5 < 18446744073709551616) (s6 : y6 < 18446744073709551616)
    (a1 : IntKind.u64.wrap (bits BinOp.and IntKind.u64 ((x : Int) / 2) 6148914691236517205 + bits BinOp.and IntKind.u64 (x : Int) 6148914691236517205) = (y1 : Int))
    (a2 : IntKind.u64.wrap (bits BinOp.and IntKind.u64 ((y1 : Int) / 4) 3689348814741910323 + bits BinOp.and IntKind.u64 (y1 : Int) 3689348814741910323) = (y2 : Int))
    (a3 : bits BinOp.and IntKind.u64 ((y2 : Int) / 16 + (y2 : Int)) 1085102592571150095 = (y3 : Int))
    (a4 : IntKind.u64.wrap ((y3 : Int) + (y3 : Int) / 256) = (y4 : Int))
    (a5 : IntKind.u64.wrap ((y4 : Int) + (y4 : Int) / 65536) = (y5 : Int))
    (a6 : IntKind.u64.wrap ((y5 : Int) + (y5 : Int) / 4294967296) = (y6 : Int))
    (a7 : bits BinOp.and IntKind.i64 (wrap64 (y6 : Int)) 127 = (p : Int)) : Calls Tryd.prog 43 #[.int .u64 x] w fun e w' => e = .returned (.int .i64 p) ∧ w = w' := by
  go_enter Tryd.func43, Tryd.ntmps43
  go_wp2
  go_ret
  exact ⟨rfl, rfl⟩
theorem ones_walk (x : Nat) (w : World) (hx : x < 18446744073709551616) : Calls Tryd.prog 43 #[.int .u64 x] w fun e w' => e = .returned (.int .i64 (pop x)) ∧ w = w' :=
  ones_core x _ _ _ _ _ _ _ w hx (st1_lt hx) (st2_lt hx) (st3_pre hx) (st3_lt hx) (st4_lt hx) (st5_lt hx) (st6_lt hx) (one1 x hx (st1_lt hx)) (one2 _ (st1_lt hx) (st2_lt hx)) (one3 _ (st3_pre hx)) (one4 _ (st4_lt hx)) (one5 _ (st5_lt hx)) (one6 _ (st6_lt hx)) (one7 _ _ (ones_eq hx))
end Go.Proofs.YtbnjeglbbadcbaaDoor
