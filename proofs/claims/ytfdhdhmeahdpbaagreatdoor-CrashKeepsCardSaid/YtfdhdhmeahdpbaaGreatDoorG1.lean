/- No goroutine is started. -/
import Derived.Test.YtfdhdhmeahdpbaaGreatDoorP0
import Derived.SevenTiedAt
namespace Go.Proofs.YtfdhdhmeahdpbaaGreatDoor
open Go
set_option maxRecDepth 1000000
theorem goes_none {P : Program} {s : Nat} (hs : P.funcs.size = s) (h : ∀ i, i < s → (P.funcs[i]?).any Func.goes = false) (f : FuncId) : P.goes f = false := by
  have h : ∀ i, (P.funcs[i]?).any Func.goes = false := fun i => by
    by_cases hi : i < s
    · exact h i hi
    · rw [Array.getElem?_eq_none (by omega)]; rfl
  unfold Program.goes
  have h1 : ((P.closure f).any fun g => (P.funcs[g]?).any Func.goes) = false := by
    rw [List.any_eq_false]
    intro g _ hg
    rw [h g] at hg; cases hg
  have h2 : P.funcs.any Func.goes = false := by
    rw [Array.any_eq_false]
    intro i hi hg
    have := h i
    rw [Array.getElem?_eq_getElem hi, Option.any_some] at this
    rw [this] at hg; cases hg
  rw [h1, h2, Bool.and_false]; rfl
theorem lt_part {p : Nat → Bool} {a n i : Nat} (h : (List.range' a n).all p = true) (h1 : a ≤ i) (h2 : i < a + n) : p i = true := by
  refine List.all_eq_true.1 h i (List.mem_range'_1.2 ⟨h1, h2⟩)
theorem goes_0 : ((List.range' 0 100).all fun i => !((Tryz.prog.funcs[i]?).any Func.goes)) = true := by kernel_rfl
theorem goes_100 : ((List.range' 100 100).all fun i => !((Tryz.prog.funcs[i]?).any Func.goes)) = true := by kernel_rfl
theorem goes_200 : ((List.range' 200 100).all fun i => !((Tryz.prog.funcs[i]?).any Func.goes)) = true := by kernel_rfl
theorem goes_300 : ((List.range' 300 100).all fun i => !((Tryz.prog.funcs[i]?).any Func.goes)) = true := by kernel_rfl
theorem goes_400 : ((List.range' 400 100).all fun i => !((Tryz.prog.funcs[i]?).any Func.goes)) = true := by kernel_rfl
theorem goes_500 : ((List.range' 500 100).all fun i => !((Tryz.prog.funcs[i]?).any Func.goes)) = true := by kernel_rfl
theorem goes_600 : ((List.range' 600 100).all fun i => !((Tryz.prog.funcs[i]?).any Func.goes)) = true := by kernel_rfl
theorem goes_700 : ((List.range' 700 100).all fun i => !((Tryz.prog.funcs[i]?).any Func.goes)) = true := by kernel_rfl
theorem goes_all (i : Nat) (hi : i < 781) : (Tryz.prog.funcs[i]?).any Func.goes = false := by
  have h : (!((Tryz.prog.funcs[i]?).any Func.goes)) = true := by
    by_cases h0 : i < 100
    · exact lt_part (p := fun i => !((Tryz.prog.funcs[i]?).any Func.goes)) goes_0 (by omega) (by omega)
    by_cases h100 : i < 200
    · exact lt_part (p := fun i => !((Tryz.prog.funcs[i]?).any Func.goes)) goes_100 (by omega) (by omega)
    by_cases h200 : i < 300
    · exact lt_part (p := fun i => !((Tryz.prog.funcs[i]?).any Func.goes)) goes_200 (by omega) (by omega)
    by_cases h300 : i < 400
    · exact lt_part (p := fun i => !((Tryz.prog.funcs[i]?).any Func.goes)) goes_300 (by omega) (by omega)
    by_cases h400 : i < 500
    · exact lt_part (p := fun i => !((Tryz.prog.funcs[i]?).any Func.goes)) goes_400 (by omega) (by omega)
    by_cases h500 : i < 600
    · exact lt_part (p := fun i => !((Tryz.prog.funcs[i]?).any Func.goes)) goes_500 (by omega) (by omega)
    by_cases h600 : i < 700
    · exact lt_part (p := fun i => !((Tryz.prog.funcs[i]?).any Func.goes)) goes_600 (by omega) (by omega)
    exact lt_part (p := fun i => !((Tryz.prog.funcs[i]?).any Func.goes)) goes_700 (by omega) (by omega)
  cases hb : (Tryz.prog.funcs[i]?).any Func.goes with
  | false => rfl
  | true => rw [hb] at h; cases h
theorem looks_all : Tryz.prog.looks [] = true := by kernel_rfl
end Go.Proofs.YtfdhdhmeahdpbaaGreatDoor
