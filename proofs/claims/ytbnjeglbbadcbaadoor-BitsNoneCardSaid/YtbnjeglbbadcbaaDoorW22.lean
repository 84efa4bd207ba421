/- What the rows of package bits share: the table off the row's condition, an argument of bytes opened, one start that fits. -/
import Derived.Test.YtbnjeglbbadcbaaDoorTie
import Derived.Test.YtbnjeglbbadcbaaDoorW20
import Derived.ProofKit
import Derived.Lib.LaidTab
import Derived.LaidLaws
import Derived.SevenTiedAt
import Derived.ChangeSame
import Derived.ChangeVars
import Derived.JoinedOf
namespace Go.Proofs.YtbnjeglbbadcbaaDoor
open Go.ChangeShapes Go.WideShapes Go.ChangeAt Go.RowKit
open BM
set_option linter.unusedVariables false

theorem Tryd.own : ownKnob Tryd.prog.godebug = none := by kernel_rfl
theorem Tryd.laidOut : laidOutB Tryd.prog = true := by kernel_rfl
theorem Tryd.gT : Tryd.prog.globalNamed "math/bits.deBruijn64tab" = some 0 := by kernel_rfl
theorem Tryd.gTType : (Tryd.prog.globals[0]?).map (·.type) = some 88 := by kernel_rfl
theorem Tryd.cells5 : Tryd.prog.cellsOf 5 = 1 := by kernel_rfl
theorem Tryd.cells88 : Tryd.prog.cellsOf 88 = 64 := by kernel_rfl
/-- the condition's list -/
abbrev laidL : List (String × DataW Unit) := [("math/bits.deBruijn64tab", Rows.laid_math_bits_deBruijn64tab)]
def tabZ : List Int := Lib.deBruijn64tab.map fun n : Nat => (n : Int)
theorem tab_of_laid {W : World} (h : laidMet Tryd.prog laidL W) : Tab W := by
  have hT : Lib.TabIs Tryd.prog W "math/bits.deBruijn64tab" .u8 tabZ := Lib.tabIs_of_head Tryd.gT Tryd.gTType Tryd.underlying88 Tryd.underlying5 Tryd.cells5 Tryd.cells88 h
  intro j hj
  have := hT.cell Tryd.gT j (by unfold tabZ; rw [List.length_map]; exact hj)
  rw [this]
  have e : tabZ.getD j 0 = ((Lib.deBruijn64tab.getD j 0 : Nat) : Int) := by
    unfold tabZ
    rw [List.getD_eq_getElem?_getD, List.getD_eq_getElem?_getD, List.getElem?_map, List.getElem?_eq_getElem hj]
    rfl
  rw [e]
/-- The settled world, the table holding what its initialiser lays: the witness. -/
noncomputable def laidWorld (os : Os) : World :=
  { World.holding Tryd.prog os ⟨#[], #[], []⟩ with heap := (World.holding Tryd.prog os ⟨#[], #[], []⟩).heap.modify 0 fun
      | .cells _ t frozen => .cells (tabZ.map fun z => Value.int .u8 z).toArray t frozen
      | o => o }
theorem laid_met (os : Os) (args : Array Value) : laidMet Tryd.prog laidL ((laidWorld os).forCall (fun _ _ => 0) ⟨#[], args, []⟩).memory :=
  laidMet_of_run' 8 (by kernel_rfl) (by kernel_rfl)

/-- An argument of bytes, as a walk wants it. -/
def ArgW (w : World) (a0 : Option Addr) (bs : List Nat) : Prop :=
  bs = [] ∨ ∃ b o, a0 = some ⟨b, o, none⟩ ∧ b < w.heap.size ∧ ∀ j, j < bs.length → w.cell? ⟨b, o + j, none⟩ = some (.int .u8 ((bs.getD j 0 : Nat) : Int))
theorem ArgW.fr {S : Nat → Prop} {w w' : World} {a0 : Option Addr} {bs : List Nat} (h : ArgW w a0 bs) (f : Fr S w w') (hS : ∀ k, k < w.heap.size → ¬ S k) : ArgW w' a0 bs := by
  rcases h with h | ⟨b, o, h1, h2, h3⟩
  · exact Or.inl h
  · refine Or.inr ⟨b, o, h1, Nat.lt_of_lt_of_le h2 f.size, fun j hj => ?_⟩
    rw [← h3 j hj]
    exact World.cell?_of_block (f.block b h2 (hS b h2))
theorem madeW (n c : Nat) (a0 : Option Addr) (bs : List Nat) (w : World) (hn : n < 65536) (hA : ArgW w a0 bs) (hlen : bs.length ≤ 9223372036854775807) :
    Calls Tryd.prog 11 #[.int .u16 n, .slice a0 bs.length c] w (Got w (madeL n bs)) := by
  rcases hA with h | ⟨b, o, rfl, h2, h3⟩
  · subst h
    exact made_none n (n % 601) c a0 w hn rfl _ (mkL_congr (fun p _ => by simp [drawn]))
  · by_cases h : bs = []
    · subst h
      exact made_none n (n % 601) c _ w hn rfl _ (mkL_congr (fun p _ => by simp [drawn]))
    · exact made_some n (n % 601) bs.length b o c bs w hn rfl rfl (List.length_pos_iff.2 h) hlen h2 h3 _ rfl
theorem addr_add (b off j : Nat) : (⟨b, off, none⟩ : Addr).add j = ⟨b, off + j, none⟩ := by
  by_cases h : j = 0
  · subst h; simp [Addr.add]
  · simp [Addr.add, h]
/-- An argument of type []byte, opened. -/
theorem open_bytes {H : Type} {enc : TypeId × Value → H} {W : World} {a0 : Option Addr} {len cap : Nat} {d : DataW H} {p : List MemPlace}
    (h : DataW.Trod enc Tryd.prog W 0 (fun _ => true) true 23 (.slice a0 len cap) d p) :
    ∃ bs : List Nat, bs.length = len ∧ ArgW W a0 bs ∧ (∀ x ∈ bs, x < 256) ∧ len ≤ 9223372036854775807 ∧ (a0 = none → cap = 0) := by
  obtain ⟨fuel, hf⟩ := h
  rcases open_ints Tryd.underlying23 Tryd.underlying5 Tryd.cells5 hf with ⟨hcs, hx⟩ | ⟨a, len', cap', zs, hcs, _, hl, hm, hz, hx, hcell, hwz⟩
  · simp [Value.cells] at hcs
    obtain ⟨rfl, rfl, rfl⟩ := hcs
    exact ⟨[], rfl, Or.inl rfl, (fun _ h => by cases h), by omega, fun _ => rfl⟩
  · simp [Value.cells] at hcs
    obtain ⟨rfl, rfl, rfl⟩ := hcs
    simp only [if_true] at hz
    have hw : ∀ x ∈ zs, 0 ≤ x ∧ x < 256 := by
      intro x hx
      have h := hwz x hx
      have h1 : IntKind.u8.min = 0 := rfl
      have h2 : IntKind.u8.max = 255 := rfl
      simp only [Lit.wf, Bool.and_eq_true, decide_eq_true_eq] at h
      omega
    unfold maxLen at hm
    refine ⟨(zs.take len).map Int.toNat, by simp; omega, ?_, ?_, by omega, fun h => by cases h⟩
    · rcases Nat.eq_zero_or_pos len with h0 | h0
      · subst h0; exact Or.inl rfl
      · obtain ⟨b, off, spot⟩ := a
        have c0 := hcell 0 (by omega)
        have hspot : spot = none := by simpa [Addr.add] using World.cell?_spot c0
        subst hspot
        refine Or.inr ⟨b, off, rfl, by simpa [Addr.add] using World.block_lt_of_cell? _ _ c0, fun j hj => ?_⟩
        simp only [List.length_map, List.length_take] at hj
        have hjz : j < zs.length := by omega
        have := hcell j hjz
        have e : ((((zs.take len).map Int.toNat).getD j 0 : Nat) : Int) = zs.getD j 0 := by
          rw [List.getD_eq_getElem?_getD, List.getD_eq_getElem?_getD, List.getElem?_map, List.getElem?_take_of_lt (by omega), List.getElem?_eq_getElem hjz]
          have := hw _ (List.getElem_mem hjz)
          simp only [Option.map_some, Option.getD_some]
          omega
        rw [e, ← addr_add b off j]
        exact this
    · intro x hx
      obtain ⟨y, hy, rfl⟩ := List.mem_map.1 hx
      have := hw y (List.mem_of_mem_take hy)
      omega

open Go.Proofs in
/-- **what a walk's frame pays of a row: the results, the arguments as they were** -/
theorem Fr.bel {w w' : World} (h : Fr (fun _ => False) w w') : Below w.heap.size w w' := h.below (fun _ _ h => h)
end Go.Proofs.YtbnjeglbbadcbaaDoor
