/- What the rows of package costs share: the table of powers off the row's condition, an argument of batches opened, one start that fits. -/
import Derived.Test.YtogjfifpbplahaaDoorTie
import Derived.Test.YtogjfifpbplahaaDoorB0
import Derived.Test.YtogjfifpbplahaaDoorK1
import Derived.Test.YtogjfifpbplahaaDoorT2
import Derived.ProofKit
import Derived.Lib.LaidTab
import Derived.Lib.TrailingZeros
import Derived.LaidLaws
import Derived.SevenTiedAt
import Derived.ChangeSame
import Derived.ChangeVars
import Derived.JoinedOf
import Derived.OpenShut
import Derived.Deep.Slices
import Derived.Deep.Fields
namespace Go.Proofs.YtogjfifpbplahaaDoor
open Go.ChangeShapes Go.WideShapes Go.ChangeAt Go.RowKit Go.Deep
open CM
set_option linter.unusedVariables false

theorem Tryd.own : ownKnob Tryd.prog.godebug = none := by kernel_rfl
theorem Tryd.laidOut : laidOutB Tryd.prog = true := by kernel_rfl
theorem Tryd.gPType : (Tryd.prog.globals[0]?).map (·.type) = some 92 := by kernel_rfl
theorem Tryd.cU64 : Tryd.prog.cellsOf 85 = 1 := by kernel_rfl
theorem Tryd.cPow : Tryd.prog.cellsOf 92 = 20 := by kernel_rfl
theorem Tryd.cUse : Tryd.prog.cellsOf 28 = 8 := by kernel_rfl
/-- the condition's list -/
abbrev laidL : List (String × DataW Unit) := [("math/bits.deBruijn32tab", Rows.laid_math_bits_deBruijn32tab), ("math/bits.deBruijn64tab", Rows.laid_math_bits_deBruijn64tab), ("internal/strconv.uint64pow10", Rows.laid_internal_strconv_uint64pow10)]
theorem tab_of_laid {W : World} (h : laidMet Tryd.prog laidL W) : PTab W := by
  obtain ⟨ps, ⟨_, _, _, _, _, _, _, _, _, _, hr, _⟩, _⟩ := h
  obtain ⟨_, _, _, _, _, _, _, _, _, _, hr2, _⟩ := hr
  obtain ⟨g', t', cs, fuel, p, q3, hg', ht', hvar, hd, _, _⟩ := hr2
  obtain rfl := Option.some.inj (pow_named.symm.trans hg')
  obtain rfl := Option.some.inj (Tryd.gPType.symm.trans ht')
  unfold PTab Lib.TabIs
  rw [hvar, ← Lib.cells_of_tab (k := .u64) (zs := Lib.pow10Tab) Tryd.underlying92 Tryd.underlying85 Tryd.cU64 Tryd.cPow hd]
def tab32 : List Int := Lib.deBruijn32tab.map fun n : Nat => (n : Int)
def tab64 : List Int := Lib.deBruijn64tab.map fun n : Nat => (n : Int)
def putTab (k : IntKind) (zs : List Int) : Obj → Obj
  | .cells _ t frozen => .cells (zs.map fun z => Value.int k z).toArray t frozen
  | o => o
/-- The settled world, the tables holding what their initialisers lay: the witness. -/
noncomputable def laidWorld (os : Os) : World :=
  { World.holding Tryd.prog os ⟨#[], #[], []⟩ with heap := (((World.holding Tryd.prog os ⟨#[], #[], []⟩).heap.modify 0 (putTab .u64 Lib.pow10Tab)).modify 1 (putTab .u8 tab32)).modify 2 (putTab .u8 tab64) }
theorem laid_met (os : Os) (args : Array Value) : laidMet Tryd.prog laidL ((laidWorld os).forCall (fun _ _ => 0) ⟨#[], args, []⟩).memory :=
  laidMet_of_run' 8 (by kernel_rfl) (by kernel_rfl)

section
variable {H : Type} {enc : TypeId × Value → H} {P : Program} {w : World} {base : Nat} {spare : Nat → Bool} {held : Bool}
theorem open_slice_fields {t e : TypeId} {fs : Array Field} {fuel : Nat} {cs : List Value} {x : DataW H × List MemPlace} (ht : P.underlying t = some (.slice e)) (he : P.underlying e = some (.struct fs))
    (hone : oneCellFields P fs = true) (hC : P.cellsOf e = fs.size) (h : DataW.trod enc P w base spare held fuel t cs = some x) :
    (cs = [.slice none 0 0] ∧ x = (.nil, [])) ∨
    ∃ (a : Addr) (len cap m : Nat) (D : Nat → DataW H) (Pl : Nat → List MemPlace), cs = [.slice (some a) len cap] ∧ base ≤ a.block ∧ len ≤ cap ∧ cap ≤ maxLen ∧ m = (if spare a.block then cap else len) ∧
      x = (.slice ((List.range len).map D) ((List.range (m - len)).map fun j => D (len + j)), MemPlace.row a (m * fs.size) ++ (List.range m).flatMap Pl) ∧
      ∀ i, i < m → ∃ (ys : List (DataW H × List MemPlace)) (n : Nat), D i = .agg (ys.map (·.1)) ∧ Pl i = ys.flatMap (·.2) ∧ ys.length = fs.size ∧
        ∀ (j : Nat) (f : Field), fs[j]? = some f → ∃ (v : Value) (y : DataW H × List MemPlace), w.cell? (a.add (i * fs.size + j)) = some v ∧ ys[j]? = some y ∧ DataW.trod enc P w base spare held n f.type [v] = some y := by
  rcases open_slice ht h with h0 | ⟨a, len, cap, m, n, D, Pl, hcs, hb, hl, hm, hmm, hx, hi⟩
  · exact .inl h0
  · refine .inr ⟨a, len, cap, m, D, Pl, hcs, hb, hl, hm, hmm, by rw [hC] at hx; exact hx, fun i him => ?_⟩
    obtain ⟨cs', hc, ht'⟩ := hi i him
    rw [hC] at hc
    obtain ⟨ys, n', hn', hy, hlen, hyl, hf⟩ := DataW.trod_struct he ht'
    obtain ⟨_, hcl, hat⟩ := World.cells?_some hc
    simp only [Prod.mk.injEq] at hy
    refine ⟨ys, n', hy.1, hy.2, hyl, fun j f hj => ?_⟩
    obtain ⟨ho, hk⟩ := hone_of hone j f hj
    have hjl : j < fs.size := (Array.getElem?_eq_some_iff.1 hj).1
    have hcell := hat j hjl
    have hv : cs'[j]? = some (cs'[j]'(by omega)) := List.getElem?_eq_getElem (by omega)
    have h1 := hf j f hj
    rw [ho, hk] at h1
    have hone' : (cs'.drop j).take 1 = [cs'[j]'(by omega)] := by
      rw [List.drop_eq_getElem_cons (by omega)]
      rfl
    rw [hone'] at h1
    have hys : ys[j]? = some (ys[j]'(by omega)) := List.getElem?_eq_getElem (by omega)
    refine ⟨_, _, ?_, hys, h1.trans hys⟩
    rw [← Go.Deep.add_add, hcell, hv]
end


theorem one_use {w : World} {b o i : Nat} {a : Addr} (ha : a = ⟨b, o, none⟩)
    {H : Type} {enc : TypeId × Value → H} (h : ∃ (ys : List (DataW H × List MemPlace)) (n : Nat), ys.length = 8 ∧
      ∀ (j : Nat) (f : Field), (#[{ name := "Dir", type := 3, offset := 0, embedded := false, tag := "", pkgPath := "", byteOffset := 0 }, { name := "Entries", type := 3, offset := 1, embedded := false, tag := "", pkgPath := "", byteOffset := 8 }, { name := "Records", type := 3, offset := 2, embedded := false, tag := "", pkgPath := "", byteOffset := 16 }, { name := "Writes", type := 3, offset := 3, embedded := false, tag := "", pkgPath := "", byteOffset := 24 }, { name := "Taken", type := 3, offset := 4, embedded := false, tag := "", pkgPath := "", byteOffset := 32 }, { name := "Freed", type := 3, offset := 5, embedded := false, tag := "", pkgPath := "", byteOffset := 40 }, { name := "Ops", type := 3, offset := 6, embedded := false, tag := "", pkgPath := "", byteOffset := 48 }, { name := "Data", type := 3, offset := 7, embedded := false, tag := "", pkgPath := "", byteOffset := 56 }] : Array Field)[j]? = some f →
        ∃ (v : Value) (y : DataW H × List MemPlace), w.cell? (a.add (i * 8 + j)) = some v ∧ ys[j]? = some y ∧ DataW.trod enc Tryd.prog w 0 (fun _ => true) true n f.type [v] = some y) :
    ∃ u : Nat → Int, ∀ j, j < 8 → w.cell? ⟨b, o + i * 8 + j, none⟩ = some (.int .i64 (u j)) := by
  subst ha
  obtain ⟨ys, n, hl, hf⟩ := h
  have hall : ∀ j, ∃ z : Int, j < 8 → w.cell? ⟨b, o + i * 8 + j, none⟩ = some (.int .i64 z) := by
    intro j
    by_cases hj : j < 8
    · have key : ∀ (f : Field), f.type = 3 → (#[{ name := "Dir", type := 3, offset := 0, embedded := false, tag := "", pkgPath := "", byteOffset := 0 }, { name := "Entries", type := 3, offset := 1, embedded := false, tag := "", pkgPath := "", byteOffset := 8 }, { name := "Records", type := 3, offset := 2, embedded := false, tag := "", pkgPath := "", byteOffset := 16 }, { name := "Writes", type := 3, offset := 3, embedded := false, tag := "", pkgPath := "", byteOffset := 24 }, { name := "Taken", type := 3, offset := 4, embedded := false, tag := "", pkgPath := "", byteOffset := 32 }, { name := "Freed", type := 3, offset := 5, embedded := false, tag := "", pkgPath := "", byteOffset := 40 }, { name := "Ops", type := 3, offset := 6, embedded := false, tag := "", pkgPath := "", byteOffset := 48 }, { name := "Data", type := 3, offset := 7, embedded := false, tag := "", pkgPath := "", byteOffset := 56 }] : Array Field)[j]? = some f → ∃ z : Int, w.cell? ⟨b, o + i * 8 + j, none⟩ = some (.int .i64 z) := by
        intro f hft hfj
        obtain ⟨v, y, c, _, tr⟩ := hf j f hfj
        rw [hft] at tr
        obtain ⟨z, hz, _, _⟩ := DataW.trod_int Tryd.underlying3 tr
        cases hz
        rw [addr_add] at c
        exact ⟨z, by rw [Nat.add_assoc]; exact c⟩
      obtain rfl | rfl | rfl | rfl | rfl | rfl | rfl | rfl : j = 0 ∨ j = 1 ∨ j = 2 ∨ j = 3 ∨ j = 4 ∨ j = 5 ∨ j = 6 ∨ j = 7 := by omega
      all_goals (obtain ⟨z, hz⟩ := key _ rfl rfl; exact ⟨z, fun _ => hz⟩)
    · exact ⟨0, fun h => absurd h hj⟩
  obtain ⟨f, hf2⟩ := Classical.axiomOfChoice hall
  exact ⟨f, hf2⟩
/-- An argument of type []api.CoUse, opened. -/
theorem open_uses {H : Type} {enc : TypeId × Value → H} {W : World} {a0 : Option Addr} {len cap : Nat} {d : DataW H} {p : List MemPlace}
    (h : DataW.Trod enc Tryd.prog W 0 (fun _ => true) true 22 (.slice a0 len cap) d p) :
    ∃ U : Nat → Nat → Int, Uses W a0 len U ∧ len ≤ cap := by
  obtain ⟨fuel, hf⟩ := h
  rcases open_slice_fields Tryd.underlying22 Tryd.underlying28 (by kernel_rfl) Tryd.cUse hf with ⟨hcs, _⟩ | ⟨a, len', cap', m, D, Pl, hcs, _, hl, _, hm, _, hi⟩
  · simp [Value.cells] at hcs
    obtain ⟨rfl, rfl, rfl⟩ := hcs
    exact ⟨fun _ _ => 0, fun h => absurd h (by omega), Nat.le_refl _⟩
  · simp [Value.cells] at hcs
    obtain ⟨rfl, rfl, rfl⟩ := hcs
    simp only [if_true] at hm
    by_cases h0 : 0 < len
    · obtain ⟨b, off, spot⟩ := a
      have hspot : spot = none := by
        obtain ⟨ys, n, _, _, hyl, hff⟩ := hi 0 (by omega)
        obtain ⟨v0, y0, c0, _⟩ := hff 0 _ rfl
        simpa [Addr.add] using World.cell?_spot c0
      subst hspot
      have hall : ∀ i, ∃ u : Nat → Int, i < len → ∀ j, j < 8 → W.cell? ⟨b, off + i * 8 + j, none⟩ = some (.int .i64 (u j)) := by
        intro i
        by_cases hlt : i < len
        · obtain ⟨ys, n, _, _, hyl, hff⟩ := hi i (by omega)
          obtain ⟨u, hu⟩ := one_use (w := W) (b := b) (o := off) (i := i) rfl ⟨ys, n, hyl, hff⟩
          exact ⟨u, fun _ => hu⟩
        · exact ⟨fun _ => 0, fun h => absurd h hlt⟩
      obtain ⟨f, hf2⟩ := Classical.axiomOfChoice hall
      exact ⟨f, fun _ => ⟨b, off, rfl, World.block_lt_of_cell? _ _ (hf2 0 h0 0 (by omega)), fun i j hlt hj => hf2 i hlt j hj⟩, hl⟩
    · exact ⟨fun _ _ => 0, fun h => absurd h h0, hl⟩
end Go.Proofs.YtogjfifpbplahaaDoor
