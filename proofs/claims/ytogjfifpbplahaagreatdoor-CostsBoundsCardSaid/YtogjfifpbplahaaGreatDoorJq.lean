/- This text proves contracts of the law's arguments, opened; no condition beyond those that each statement names. -/
import Derived.Test.YtogjfifpbplahaaGreatDoorTie
import Derived.Test.YtogjfifpbplahaaGreatDoorJa
import Derived.Test.YtogjfifpbplahaaGreatDoorJd
import Derived.ProofKit
import Derived.Lib.LaidTab
import Derived.Lib.TrailingZeros
import Derived.LaidLaws
import Derived.SevenTiedAt
import Derived.ChangeSame
import Derived.ChangeVars
import Derived.JoinedOf
import Derived.OpenShut
import Derived.Deep.Slices
import Derived.Deep.Fields
import Derived.Test.YtogjfifpbplahaaGreatDoorJe
import Derived.Lib.SmallJoins
import Derived.SliceStrings
namespace Go.Proofs.YtogjfifpbplahaaGreatDoor
open Go.ChangeShapes Go.WideShapes Go.ChangeAt Go.RowKit Go.Deep
open CM
set_option linter.unusedVariables false

theorem Tryz.own : ownKnob Tryz.prog.godebug = none := by kernel_rfl
theorem Tryz.laidOut : laidOutB Tryz.prog = true := by kernel_rfl
theorem Tryz.gPType : (Tryz.prog.globals[0]?).map (·.type) = some 130 := by kernel_rfl
theorem Tryz.cU64 : Tryz.prog.cellsOf 118 = 1 := by kernel_rfl
theorem Tryz.cPow : Tryz.prog.cellsOf 130 = 20 := by kernel_rfl
theorem Tryz.cUse : Tryz.prog.cellsOf 45 = 8 := by kernel_rfl
/-- the condition's list -/
abbrev laidL : List (String × DataW Unit) := [("math/bits.deBruijn32tab", Rows.laid_math_bits_deBruijn32tab), ("math/bits.deBruijn64tab", Rows.laid_math_bits_deBruijn64tab), ("internal/strconv.uint64pow10", Rows.laid_internal_strconv_uint64pow10)]
theorem tab_of_laid {W : World} (h : laidMet Tryz.prog laidL W) : PTab W := by
  obtain ⟨ps, ⟨_, _, _, _, _, _, _, _, _, _, hr, _⟩, _⟩ := h
  obtain ⟨_, _, _, _, _, _, _, _, _, _, hr2, _⟩ := hr
  obtain ⟨g', t', cs, fuel, p, q3, hg', ht', hvar, hd, _, _⟩ := hr2
  obtain rfl := Option.some.inj (pow_named.symm.trans hg')
  obtain rfl := Option.some.inj (Tryz.gPType.symm.trans ht')
  unfold PTab Lib.TabIs
  rw [hvar, ← Lib.cells_of_tab (k := .u64) (zs := Lib.pow10Tab) Tryz.underlying130 Tryz.underlying118 Tryz.cU64 Tryz.cPow hd]
def tab32 : List Int := Lib.deBruijn32tab.map fun n : Nat => (n : Int)
def tab64 : List Int := Lib.deBruijn64tab.map fun n : Nat => (n : Int)
def putTab (k : IntKind) (zs : List Int) : Obj → Obj
  | .cells _ t frozen => .cells (zs.map fun z => Value.int k z).toArray t frozen
  | o => o
/-- The settled world, the tables holding what their initialisers lay: the witness. -/
noncomputable def laidWorld (os : Os) : World :=
  { World.holding Tryz.prog os ⟨#[], #[], []⟩ with heap := (((World.holding Tryz.prog os ⟨#[], #[], []⟩).heap.modify 0 (putTab .u64 Lib.pow10Tab)).modify 1 (putTab .u8 tab32)).modify 2 (putTab .u8 tab64) }
theorem laid_met (os : Os) (args : Array Value) : laidMet Tryz.prog laidL ((laidWorld os).forCall (fun _ _ => 0) ⟨#[], args, []⟩).memory :=
  laidMet_of_run' 8 (by kernel_rfl) (by kernel_rfl)

section
variable {H : Type} {enc : TypeId × Value → H} {P : Program} {w : World} {base : Nat} {spare : Nat → Bool} {held : Bool}
theorem open_slice_fields {t e : TypeId} {fs : Array Field} {fuel : Nat} {cs : List Value} {x : DataW H × List MemPlace} (ht : P.underlying t = some (.slice e)) (he : P.underlying e = some (.struct fs))
    (hone : oneCellFields P fs = true) (hC : P.cellsOf e = fs.size) (h : DataW.trod enc P w base spare held fuel t cs = some x) :
    (cs = [.slice none 0 0] ∧ x = (.nil, [])) ∨
    ∃ (a : Addr) (len cap m : Nat) (D : Nat → DataW H) (Pl : Nat → List MemPlace), cs = [.slice (some a) len cap] ∧ base ≤ a.block ∧ len ≤ cap ∧ cap ≤ maxLen ∧ m = (if spare a.block then cap else len) ∧
      x = (.slice ((List.range len).map D) ((List.range (m - len)).map fun j => D (len + j)), MemPlace.row a (m * fs.size) ++ (List.range m).flatMap Pl) ∧
      ∀ i, i < m → ∃ (ys : List (DataW H × List MemPlace)) (n : Nat), D i = .agg (ys.map (·.1)) ∧ Pl i = ys.flatMap (·.2) ∧ ys.length = fs.size ∧
        ∀ (j : Nat) (f : Field), fs[j]? = some f → ∃ (v : Value) (y : DataW H × List MemPlace), w.cell? (a.add (i * fs.size + j)) = some v ∧ ys[j]? = some y ∧ DataW.trod enc P w base spare held n f.type [v] = some y := by
  rcases open_slice ht h with h0 | ⟨a, len, cap, m, n, D, Pl, hcs, hb, hl, hm, hmm, hx, hi⟩
  · exact .inl h0
  · refine .inr ⟨a, len, cap, m, D, Pl, hcs, hb, hl, hm, hmm, by rw [hC] at hx; exact hx, fun i him => ?_⟩
    obtain ⟨cs', hc, ht'⟩ := hi i him
    rw [hC] at hc
    obtain ⟨ys, n', hn', hy, hlen, hyl, hf⟩ := DataW.trod_struct he ht'
    obtain ⟨_, hcl, hat⟩ := World.cells?_some hc
    simp only [Prod.mk.injEq] at hy
    refine ⟨ys, n', hy.1, hy.2, hyl, fun j f hj => ?_⟩
    obtain ⟨ho, hk⟩ := hone_of hone j f hj
    have hjl : j < fs.size := (Array.getElem?_eq_some_iff.1 hj).1
    have hcell := hat j hjl
    have hv : cs'[j]? = some (cs'[j]'(by omega)) := List.getElem?_eq_getElem (by omega)
    have h1 := hf j f hj
    rw [ho, hk] at h1
    have hone' : (cs'.drop j).take 1 = [cs'[j]'(by omega)] := by
      rw [List.drop_eq_getElem_cons (by omega)]
      rfl
    rw [hone'] at h1
    have hys : ys[j]? = some (ys[j]'(by omega)) := List.getElem?_eq_getElem (by omega)
    refine ⟨_, _, ?_, hys, h1.trans hys⟩
    rw [← Go.Deep.add_add, hcell, hv]
end


theorem one_use {w : World} {b o i : Nat} {a : Addr} (ha : a = ⟨b, o, none⟩)
    {H : Type} {enc : TypeId × Value → H} (h : ∃ (ys : List (DataW H × List MemPlace)) (n : Nat), ys.length = 8 ∧
      ∀ (j : Nat) (f : Field), (#[{ name := "Dir", type := 3, offset := 0, embedded := false, tag := "", pkgPath := "", byteOffset := 0 }, { name := "Entries", type := 3, offset := 1, embedded := false, tag := "", pkgPath := "", byteOffset := 8 }, { name := "Records", type := 3, offset := 2, embedded := false, tag := "", pkgPath := "", byteOffset := 16 }, { name := "Writes", type := 3, offset := 3, embedded := false, tag := "", pkgPath := "", byteOffset := 24 }, { name := "Taken", type := 3, offset := 4, embedded := false, tag := "", pkgPath := "", byteOffset := 32 }, { name := "Freed", type := 3, offset := 5, embedded := false, tag := "", pkgPath := "", byteOffset := 40 }, { name := "Ops", type := 3, offset := 6, embedded := false, tag := "", pkgPath := "", byteOffset := 48 }, { name := "Data", type := 3, offset := 7, embedded := false, tag := "", pkgPath := "", byteOffset := 56 }] : Array Field)[j]? = some f →
        ∃ (v : Value) (y : DataW H × List MemPlace), w.cell? (a.add (i * 8 + j)) = some v ∧ ys[j]? = some y ∧ DataW.trod enc Tryz.prog w 0 (fun _ => true) true n f.type [v] = some y) :
    ∃ u : Nat → Int, ∀ j, j < 8 → w.cell? ⟨b, o + i * 8 + j, none⟩ = some (.int .i64 (u j)) := by
  subst ha
  obtain ⟨ys, n, hl, hf⟩ := h
  have hall : ∀ j, ∃ z : Int, j < 8 → w.cell? ⟨b, o + i * 8 + j, none⟩ = some (.int .i64 z) := by
    intro j
    by_cases hj : j < 8
    · have key : ∀ (f : Field), f.type = 3 → (#[{ name := "Dir", type := 3, offset := 0, embedded := false, tag := "", pkgPath := "", byteOffset := 0 }, { name := "Entries", type := 3, offset := 1, embedded := false, tag := "", pkgPath := "", byteOffset := 8 }, { name := "Records", type := 3, offset := 2, embedded := false, tag := "", pkgPath := "", byteOffset := 16 }, { name := "Writes", type := 3, offset := 3, embedded := false, tag := "", pkgPath := "", byteOffset := 24 }, { name := "Taken", type := 3, offset := 4, embedded := false, tag := "", pkgPath := "", byteOffset := 32 }, { name := "Freed", type := 3, offset := 5, embedded := false, tag := "", pkgPath := "", byteOffset := 40 }, { name := "Ops", type := 3, offset := 6, embedded := false, tag := "", pkgPath := "", byteOffset := 48 }, { name := "Data", type := 3, offset := 7, embedded := false, tag := "", pkgPath := "", byteOffset := 56 }] : Array Field)[j]? = some f → ∃ z : Int, w.cell? ⟨b, o + i * 8 + j, none⟩ = some (.int .i64 z) := by
        intro f hft hfj
        obtain ⟨v, y, c, _, tr⟩ := hf j f hfj
        rw [hft] at tr
        obtain ⟨z, hz, _, _⟩ := DataW.trod_int Tryz.underlying3 tr
        cases hz
        rw [addr_add] at c
        exact ⟨z, by rw [Nat.add_assoc]; exact c⟩
      obtain rfl | rfl | rfl | rfl | rfl | rfl | rfl | rfl : j = 0 ∨ j = 1 ∨ j = 2 ∨ j = 3 ∨ j = 4 ∨ j = 5 ∨ j = 6 ∨ j = 7 := by omega
      all_goals (obtain ⟨z, hz⟩ := key _ rfl rfl; exact ⟨z, fun _ => hz⟩)
    · exact ⟨0, fun h => absurd h hj⟩
  obtain ⟨f, hf2⟩ := Classical.axiomOfChoice hall
  exact ⟨f, hf2⟩
/-- An argument of type []api.CoUse, opened. -/
theorem open_uses {H : Type} {enc : TypeId × Value → H} {W : World} {a0 : Option Addr} {len cap : Nat} {d : DataW H} {p : List MemPlace}
    (h : DataW.Trod enc Tryz.prog W 0 (fun _ => true) true 48 (.slice a0 len cap) d p) :
    ∃ U : Nat → Nat → Int, Uses W a0 len U ∧ len ≤ cap := by
  obtain ⟨fuel, hf⟩ := h
  rcases open_slice_fields Tryz.underlying48 Tryz.underlying45 (by kernel_rfl) Tryz.cUse hf with ⟨hcs, _⟩ | ⟨a, len', cap', m, D, Pl, hcs, _, hl, _, hm, _, hi⟩
  · simp [Value.cells] at hcs
    obtain ⟨rfl, rfl, rfl⟩ := hcs
    exact ⟨fun _ _ => 0, fun h => absurd h (by omega), Nat.le_refl _⟩
  · simp [Value.cells] at hcs
    obtain ⟨rfl, rfl, rfl⟩ := hcs
    simp only [if_true] at hm
    by_cases h0 : 0 < len
    · obtain ⟨b, off, spot⟩ := a
      have hspot : spot = none := by
        obtain ⟨ys, n, _, _, hyl, hff⟩ := hi 0 (by omega)
        obtain ⟨v0, y0, c0, _⟩ := hff 0 _ rfl
        simpa [Addr.add] using World.cell?_spot c0
      subst hspot
      have hall : ∀ i, ∃ u : Nat → Int, i < len → ∀ j, j < 8 → W.cell? ⟨b, off + i * 8 + j, none⟩ = some (.int .i64 (u j)) := by
        intro i
        by_cases hlt : i < len
        · obtain ⟨ys, n, _, _, hyl, hff⟩ := hi i (by omega)
          obtain ⟨u, hu⟩ := one_use (w := W) (b := b) (o := off) (i := i) rfl ⟨ys, n, hyl, hff⟩
          exact ⟨u, fun _ => hu⟩
        · exact ⟨fun _ => 0, fun h => absurd h hlt⟩
      obtain ⟨f, hf2⟩ := Classical.axiomOfChoice hall
      exact ⟨f, fun _ => ⟨b, off, rfl, World.block_lt_of_cell? _ _ (hf2 0 h0 0 (by omega)), fun i j hlt hj => hf2 i hlt j hj⟩, hl⟩
    · exact ⟨fun _ _ => 0, fun h => absurd h h0, hl⟩
end Go.Proofs.YtogjfifpbplahaaGreatDoor

namespace Go.Proofs.YtogjfifpbplahaaGreatDoor
open Go.ChangeShapes Go.WideShapes Go.ChangeAt Go.RowKit Go.Deep Go.Joins
open BR
set_option linter.unusedVariables false

theorem Tryz.cAttr : Tryz.prog.cellsOf 58 = 2 := by kernel_rfl
theorem Tryz.cNode : Tryz.prog.cellsOf 43 = 10 := by kernel_rfl
theorem Tryz.cStr : Tryz.prog.cellsOf 9 = 1 := by kernel_rfl
theorem Tryz.cInt : Tryz.prog.cellsOf 3 = 1 := by kernel_rfl
theorem Tryz.cNum : Tryz.prog.cellsOf 23 = 4 := by kernel_rfl
theorem Tryz.cSize : Tryz.prog.cellsOf 26 = 5 := by kernel_rfl

section
variable {H : Type} {enc : TypeId × Value → H} {W : World}
theorem open_strs {v : Value} {fuel : Nat} {y : DataW H × List MemPlace} (h : DataW.trod enc Tryz.prog W 0 (fun _ => true) true fuel 41 [v] = some y) :
    ∃ (a0 : Option Addr) (r c : Nat) (R : Nat → ByteArray), v = .slice a0 r c ∧ StrsAt W a0 r R ∧ r ≤ c := by
  rcases open_strings Tryz.underlying41 Tryz.underlying9 Tryz.cStr h with ⟨hcs, _⟩ | ⟨a, len, cap, ss, hcs, _, hl, _, hm, _, hi, _⟩
  · injection hcs with hcs
    exact ⟨none, 0, 0, fun _ => ByteArray.empty, hcs, fun h => absurd h (Nat.lt_irrefl _), Nat.le_refl _⟩
  · injection hcs with hcs
    refine ⟨some a, len, cap, fun i => ss.getD i ByteArray.empty, hcs, fun h0 => ?_, hl⟩
    simp only [if_true] at hm
    obtain ⟨b, off, spot⟩ := a
    have c0 := hi 0 (by omega)
    have hspot : spot = none := by simpa [Addr.add] using World.cell?_spot c0
    subst hspot
    have hk : ∀ k, k < len → W.cell? ⟨b, off + k, none⟩ = some (.string (ss.getD k ByteArray.empty)) := fun k hk => by
      have := hi k (by omega)
      rw [addr_add] at this
      exact this
    exact ⟨b, off, rfl, World.block_lt_of_cell? _ _ (hk 0 h0), hk⟩
theorem open_attrs {v : Value} {fuel : Nat} {y : DataW H × List MemPlace} (h : DataW.trod enc Tryz.prog W 0 (fun _ => true) true fuel 40 [v] = some y) :
    ∃ (a0 : Option Addr) (m c : Nat) (A : Nat → BAttr), v = .slice a0 m c ∧ AttrsAt W a0 m A ∧ m ≤ c := by
  rcases open_slice_fields Tryz.underlying40 Tryz.underlying58 (by kernel_rfl) Tryz.cAttr h with ⟨hcs, _⟩ | ⟨a, len, cap, m, D, Pl, hcs, _, hl, _, hm, _, hi⟩
  · injection hcs with hcs
    exact ⟨none, 0, 0, fun _ => ⟨ByteArray.empty, ByteArray.empty⟩, hcs, fun h => absurd h (Nat.lt_irrefl _), Nat.le_refl _⟩
  · injection hcs with hcs
    simp only [if_true] at hm
    by_cases h0 : 0 < len
    · obtain ⟨b, off, spot⟩ := a
      have hspot : spot = none := by
        obtain ⟨ys, n, _, _, hyl, hff⟩ := hi 0 (by omega)
        obtain ⟨v0, y0, c0, _⟩ := hff 0 _ rfl
        simpa [Addr.add] using World.cell?_spot c0
      subst hspot
      have hall : ∀ k, ∃ x : BAttr, k < len → W.cell? ⟨b, off + k * 2, none⟩ = some (.string x.name) ∧ W.cell? ⟨b, off + k * 2 + 1, none⟩ = some (.string x.value) := by
        intro k
        by_cases hk : k < len
        · obtain ⟨ys, n, _, _, hyl, hff⟩ := hi k (by omega)
          obtain ⟨v0, y0, c0, _, t0⟩ := hff 0 _ rfl
          obtain ⟨v1, y1, c1, _, t1⟩ := hff 1 _ rfl
          obtain ⟨s0, e0, _⟩ := DataW.trod_string Tryz.underlying9 t0
          obtain ⟨s1, e1, _⟩ := DataW.trod_string Tryz.underlying9 t1
          cases e0
          cases e1
          rw [addr_add] at c0 c1
          exact ⟨⟨s0, s1⟩, fun _ => ⟨c0, by rw [Nat.add_assoc]; exact c1⟩⟩
        · exact ⟨⟨ByteArray.empty, ByteArray.empty⟩, fun h => absurd h hk⟩
      obtain ⟨A, hA⟩ := Classical.axiomOfChoice hall
      exact ⟨_, len, cap, A, hcs, fun _ => ⟨b, off, rfl, World.block_lt_of_cell? _ _ (hA 0 h0).1, hA⟩, hl⟩
    · exact ⟨some a, len, cap, fun _ => ⟨ByteArray.empty, ByteArray.empty⟩, hcs, fun h => absurd h h0, hl⟩
def noNode : BNode := ⟨0, ByteArray.empty, 0, 0, fun _ => ⟨ByteArray.empty, ByteArray.empty⟩, ByteArray.empty, 0, 0, 0, false, 0, fun _ => ByteArray.empty⟩
/-- An argument of type []api.BrNode, opened. -/
theorem open_branch {a0 : Option Addr} {len cap : Nat} {d : DataW H} {p : List MemPlace} (h : DataW.Trod enc Tryz.prog W 0 (fun _ => true) true 24 (.slice a0 len cap) d p) :
    ∃ (N : Nat → BNode) (K : Nat → Hd), BranchAt W a0 len N K := by
  obtain ⟨fuel, hf⟩ := h
  rcases open_slice_fields Tryz.underlying24 Tryz.underlying43 (by kernel_rfl) Tryz.cNode hf with ⟨hcs, _⟩ | ⟨a, len', cap', m, D, Pl, hcs, _, hl, _, hm, _, hi⟩
  · simp [Value.cells] at hcs
    obtain ⟨rfl, rfl, rfl⟩ := hcs
    exact ⟨fun _ => noNode, fun _ => ⟨none, 0, none, 0⟩, fun i hi => absurd hi (Nat.not_lt_zero i), fun h => absurd h (Nat.lt_irrefl _)⟩
  · simp [Value.cells] at hcs
    obtain ⟨rfl, rfl, rfl⟩ := hcs
    simp only [if_true] at hm
    by_cases h0 : 0 < len
    · obtain ⟨b, off, spot⟩ := a
      have hspot : spot = none := by
        obtain ⟨ys, n, _, _, hyl, hff⟩ := hi 0 (by omega)
        obtain ⟨v0, y0, c0, _⟩ := hff 0 _ rfl
        simpa [Addr.add] using World.cell?_spot c0
      subst hspot
      have hall : ∀ i, ∃ xk : BNode × Hd, i < len → NodeB W xk.1 xk.2 ∧ ∀ j v, (brV xk.1 xk.2)[j]? = some v → W.cell? ⟨b, off + i * 10 + j, none⟩ = some v := by
        intro i
        by_cases hlt : i < len
        · obtain ⟨ys, n, _, _, hyl, hff⟩ := hi i (by omega)
          obtain ⟨v0, _, c0, _, t0⟩ := hff 0 _ rfl
          obtain ⟨v1, _, c1, _, t1⟩ := hff 1 _ rfl
          obtain ⟨v2, _, c2, _, t2⟩ := hff 2 _ rfl
          obtain ⟨v3, _, c3, _, t3⟩ := hff 3 _ rfl
          obtain ⟨v4, _, c4, _, t4⟩ := hff 4 _ rfl
          obtain ⟨v5, _, c5, _, t5⟩ := hff 5 _ rfl
          obtain ⟨v6, _, c6, _, t6⟩ := hff 6 _ rfl
          obtain ⟨v7, _, c7, _, t7⟩ := hff 7 _ rfl
          obtain ⟨v8, _, c8, _, t8⟩ := hff 8 _ rfl
          obtain ⟨v9, _, c9, _, t9⟩ := hff 9 _ rfl
          obtain ⟨z0, e0, _⟩ := DataW.trod_int Tryz.underlying3 t0
          obtain ⟨z1, e1, _⟩ := DataW.trod_string Tryz.underlying9 t1
          obtain ⟨z2, e2, _⟩ := DataW.trod_int Tryz.underlying3 t2
          obtain ⟨aA, mA, cA, A, e3, hA, hcA⟩ := open_attrs t3
          obtain ⟨z4, e4, _⟩ := DataW.trod_string Tryz.underlying9 t4
          obtain ⟨z5, e5, _⟩ := DataW.trod_int Tryz.underlying3 t5
          obtain ⟨z6, e6, _⟩ := DataW.trod_int Tryz.underlying3 t6
          obtain ⟨z7, e7, _⟩ := DataW.trod_int Tryz.underlying3 t7
          obtain ⟨z8, e8, _⟩ := DataW.trod_bool Tryz.underlying4 t8
          obtain ⟨aR, rR, cR, R, e9, hR, hcR⟩ := open_strs t9
          cases e0
          cases e1
          cases e2
          subst e3
          cases e4
          cases e5
          cases e6
          cases e7
          cases e8
          subst e9
          rw [addr_add] at c0 c1 c2 c3 c4 c5 c6 c7 c8 c9
          refine ⟨(⟨z0, z1, z2, mA, A, z4, z5, z6, z7, z8, rR, R⟩, ⟨aA, cA, aR, cR⟩), fun _ => ⟨⟨hA, hcA, hR, hcR⟩, fun j v hj => ?_⟩⟩
          rw [Nat.add_assoc]
          match j, hj with
          | 0, hj => exact c0.trans hj
          | 1, hj => exact c1.trans hj
          | 2, hj => exact c2.trans hj
          | 3, hj => exact c3.trans hj
          | 4, hj => exact c4.trans hj
          | 5, hj => exact c5.trans hj
          | 6, hj => exact c6.trans hj
          | 7, hj => exact c7.trans hj
          | 8, hj => exact c8.trans hj
          | 9, hj => exact c9.trans hj
          | j + 10, hj => simp [brV] at hj
        · exact ⟨(noNode, ⟨none, 0, none, 0⟩), fun h => absurd h hlt⟩
      obtain ⟨f, hf2⟩ := Classical.axiomOfChoice hall
      refine ⟨fun i => (f i).1, fun i => (f i).2, fun i hi => (hf2 i hi).1, fun _ => ⟨b, off, rfl, ?_, fun i j v hi hj => (hf2 i hi).2 j v hj⟩⟩
      exact World.block_lt_of_cell? _ _ ((hf2 0 h0).2 0 _ rfl)
    · exact ⟨fun _ => noNode, fun _ => ⟨none, 0, none, 0⟩, fun i hi => absurd hi (by omega), fun h => absurd h h0⟩
set_option maxRecDepth 100000 in
theorem open_num {b0 : Nat} {v : Value} {d : DataW H} {p : List MemPlace} (hv : Value.okWide Tryz.prog W .any b0 23 v) (h : DataW.Trod enc Tryz.prog W 0 (fun _ => true) true 23 v d p) :
    ∃ x0 x1 x2 x3 : Int, v = .agg #[.int .i64 x0, .int .i64 x1, .int .i64 x2, .int .i64 x3] := by
  obtain ⟨v0, v1, v2, v3, y0, y1, y2, y3, n, rfl, _, _, t0, t1, t2, t3⟩ := open_agg4 Tryz.underlying23 (by kernel_rfl) Tryz.cNum hv h
  obtain ⟨z0, e0, _⟩ := DataW.trod_int Tryz.underlying3 t0
  obtain ⟨z1, e1, _⟩ := DataW.trod_int Tryz.underlying3 t1
  obtain ⟨z2, e2, _⟩ := DataW.trod_int Tryz.underlying3 t2
  obtain ⟨z3, e3, _⟩ := DataW.trod_int Tryz.underlying3 t3
  cases e0
  cases e1
  cases e2
  cases e3
  exact ⟨_, _, _, _, rfl⟩
set_option maxRecDepth 100000 in
theorem open_size {b0 : Nat} {v : Value} {d : DataW H} {p : List MemPlace} (hv : Value.okWide Tryz.prog W .any b0 26 v) (h : DataW.Trod enc Tryz.prog W 0 (fun _ => true) true 26 v d p) :
    ∃ x0 x1 x2 x3 x4 : Int, v = .agg #[.int .i64 x0, .int .i64 x1, .int .i64 x2, .int .i64 x3, .int .i64 x4] := by
  obtain ⟨cs, rfl, hsz⟩ := okWide_struct Tryz.underlying26 hv
  obtain ⟨l⟩ := cs
  match l, hsz.trans Tryz.cSize with
  | [c0, c1, c2, c3, c4], _ =>
    obtain ⟨fuel, hf⟩ := h
    obtain ⟨xs, n, _, hx, _, hlen, hg⟩ := DataW.trod_struct Tryz.underlying26 hf
    have hI := Tryz.cInt
    match xs, hlen with
    | [y0, y1, y2, y3, y4], _ =>
      have g0 : DataW.trod enc Tryz.prog W 0 (fun _ => true) true n 3 (([c0, c1, c2, c3, c4].drop 0).take (Tryz.prog.cellsOf 3)) = some y0 := hg 0 _ rfl
      have g1 : DataW.trod enc Tryz.prog W 0 (fun _ => true) true n 3 (([c0, c1, c2, c3, c4].drop 1).take (Tryz.prog.cellsOf 3)) = some y1 := hg 1 _ rfl
      have g2 : DataW.trod enc Tryz.prog W 0 (fun _ => true) true n 3 (([c0, c1, c2, c3, c4].drop 2).take (Tryz.prog.cellsOf 3)) = some y2 := hg 2 _ rfl
      have g3 : DataW.trod enc Tryz.prog W 0 (fun _ => true) true n 3 (([c0, c1, c2, c3, c4].drop 3).take (Tryz.prog.cellsOf 3)) = some y3 := hg 3 _ rfl
      have g4 : DataW.trod enc Tryz.prog W 0 (fun _ => true) true n 3 (([c0, c1, c2, c3, c4].drop 4).take (Tryz.prog.cellsOf 3)) = some y4 := hg 4 _ rfl
      rw [hI] at g0 g1 g2 g3 g4
      obtain ⟨z0, e0, _⟩ := DataW.trod_int Tryz.underlying3 (show DataW.trod enc Tryz.prog W 0 (fun _ => true) true n 3 [c0] = some y0 from g0)
      obtain ⟨z1, e1, _⟩ := DataW.trod_int Tryz.underlying3 (show DataW.trod enc Tryz.prog W 0 (fun _ => true) true n 3 [c1] = some y1 from g1)
      obtain ⟨z2, e2, _⟩ := DataW.trod_int Tryz.underlying3 (show DataW.trod enc Tryz.prog W 0 (fun _ => true) true n 3 [c2] = some y2 from g2)
      obtain ⟨z3, e3, _⟩ := DataW.trod_int Tryz.underlying3 (show DataW.trod enc Tryz.prog W 0 (fun _ => true) true n 3 [c3] = some y3 from g3)
      obtain ⟨z4, e4, _⟩ := DataW.trod_int Tryz.underlying3 (show DataW.trod enc Tryz.prog W 0 (fun _ => true) true n 3 [c4] = some y4 from g4)
      cases e0
      cases e1
      cases e2
      cases e3
      cases e4
      exact ⟨_, _, _, _, _, rfl⟩
end
end Go.Proofs.YtogjfifpbplahaaGreatDoor
