/- The law's arguments, opened: lowers, a path and two numbers. -/
import Derived.Test.YtmkedlikgchpfaaGreatDoorC5
import Derived.Test.YtmkedlikgchpfaaGreatDoorW1
import Derived.Test.YtmkedlikgchpfaaGreatDoorQ0
import Derived.OpenShut
import Derived.Deep.Slices
import Derived.Deep.Fields
import Derived.Lib.SmallJoins
import Derived.SliceStrings
namespace Go.Proofs.YtmkedlikgchpfaaGreatDoor
open Go.ChangeShapes Go.WideShapes Go.ChangeAt Go.RowKit Go.Deep Go.Joins
set_option linter.unusedVariables false

theorem Tryz.laidOut : laidOutB Tryz.prog = true := types_laid.1
theorem Tryz.cAttr : Tryz.prog.cellsOf 95 = 2 := by kernel_rfl
theorem Tryz.cNode : Tryz.prog.cellsOf 61 = 8 := by kernel_rfl
theorem Tryz.cStr : Tryz.prog.cellsOf 9 = 1 := by kernel_rfl
theorem Tryz.cInt : Tryz.prog.cellsOf 3 = 1 := by kernel_rfl
theorem Tryz.cTree : Tryz.prog.cellsOf 62 = 1 := by kernel_rfl
theorem Tryz.cAsk : Tryz.prog.cellsOf 25 = 3 := by kernel_rfl
theorem slOk_of {P : Program} {w : World} {r : Reach} {base : Nat} {t e : TypeId} {a : Option Addr} {n c : Nat} (ht : P.underlying t = some (.slice e)) (h : Cell.ok P w r base t (.slice a n c)) : SlOk w a n c := by
  unfold Cell.ok at h
  rw [ht] at h
  cases a with
  | none =>
    cases n with
    | zero => cases c with
      | zero => exact .inl ⟨rfl, rfl, rfl⟩
      | succ c => exact h.elim
    | succ n => exact h.elim
  | some a =>
    obtain ⟨_, _, _, h2, row, cells, h3, _⟩ := h
    obtain ⟨b, o, s⟩ := a
    have h2 : s = none := h2
    subst h2
    refine .inr ⟨b, o, rfl, ?_⟩
    have h3 : w.shape? b = some (row, cells) := h3
    unfold World.shape? at h3
    by_cases hb : b < w.heap.size
    · exact hb
    · rw [Array.getElem?_eq_none (by omega)] at h3
      simp at h3
section
variable {H : Type} {enc : TypeId × Value → H} {P : Program} {w : World} {base : Nat} {spare : Nat → Bool} {held : Bool}
theorem open_slice_fields {t e : TypeId} {fs : Array Field} {fuel : Nat} {cs : List Value} {x : DataW H × List MemPlace} (ht : P.underlying t = some (.slice e)) (he : P.underlying e = some (.struct fs))
    (hone : oneCellFields P fs = true) (hC : P.cellsOf e = fs.size) (h : DataW.trod enc P w base spare held fuel t cs = some x) :
    (cs = [.slice none 0 0] ∧ x = (.nil, [])) ∨
    ∃ (a : Addr) (len cap m : Nat) (D : Nat → DataW H) (Pl : Nat → List MemPlace), cs = [.slice (some a) len cap] ∧ base ≤ a.block ∧ len ≤ cap ∧ cap ≤ maxLen ∧ m = (if spare a.block then cap else len) ∧
      x = (.slice ((List.range len).map D) ((List.range (m - len)).map fun j => D (len + j)), MemPlace.row a (m * fs.size) ++ (List.range m).flatMap Pl) ∧
      ∀ i, i < m → ∃ (ys : List (DataW H × List MemPlace)) (n : Nat), D i = .agg (ys.map (·.1)) ∧ Pl i = ys.flatMap (·.2) ∧ ys.length = fs.size ∧
        ∀ (j : Nat) (f : Field), fs[j]? = some f → ∃ (v : Value) (y : DataW H × List MemPlace), w.cell? (a.add (i * fs.size + j)) = some v ∧ ys[j]? = some y ∧ DataW.trod enc P w base spare held n f.type [v] = some y := by
  rcases open_slice ht h with h0 | ⟨a, len, cap, m, n, D, Pl, hcs, hb, hl, hm, hmm, hx, hi⟩
  · exact .inl h0
  · refine .inr ⟨a, len, cap, m, D, Pl, hcs, hb, hl, hm, hmm, by rw [hC] at hx; exact hx, fun i him => ?_⟩
    obtain ⟨cs', hc, ht'⟩ := hi i him
    rw [hC] at hc
    obtain ⟨ys, n', hn', hy, hlen, hyl, hf⟩ := DataW.trod_struct he ht'
    obtain ⟨_, hcl, hat⟩ := World.cells?_some hc
    simp only [Prod.mk.injEq] at hy
    refine ⟨ys, n', hy.1, hy.2, hyl, fun j f hj => ?_⟩
    obtain ⟨ho, hk⟩ := hone_of hone j f hj
    have hjl : j < fs.size := (Array.getElem?_eq_some_iff.1 hj).1
    have hcell := hat j hjl
    have hv : cs'[j]? = some (cs'[j]'(by omega)) := List.getElem?_eq_getElem (by omega)
    have h1 := hf j f hj
    rw [ho, hk] at h1
    have hone' : (cs'.drop j).take 1 = [cs'[j]'(by omega)] := by
      rw [List.drop_eq_getElem_cons (by omega)]
      rfl
    rw [hone'] at h1
    have hys : ys[j]? = some (ys[j]'(by omega)) := List.getElem?_eq_getElem (by omega)
    refine ⟨_, _, ?_, hys, h1.trans hys⟩
    rw [← Go.Deep.add_add, hcell, hv]
end
section
variable {H : Type} {enc : TypeId × Value → H} {W : World}
theorem open_strs {v : Value} {fuel : Nat} {y : DataW H × List MemPlace} (h : DataW.trod enc Tryz.prog W 0 (fun _ => true) true fuel 23 [v] = some y) :
    ∃ (a0 : Option Addr) (r c : Nat), v = .slice a0 r c ∧ StrsAt W a0 r := by
  rcases open_strings Tryz.underlying23 Tryz.underlying9 Tryz.cStr h with ⟨hcs, _⟩ | ⟨a, len, cap, ss, hcs, _, hl, _, hm, _, hi, _⟩
  · injection hcs with hcs
    exact ⟨none, 0, 0, hcs, fun j h => absurd h (Nat.not_lt_zero j)⟩
  · injection hcs with hcs
    refine ⟨some a, len, cap, hcs, fun k hk => ?_⟩
    simp only [if_true] at hm
    obtain ⟨b, off, spot⟩ := a
    have c0 := hi 0 (by omega)
    have hspot : spot = none := by simpa [Addr.add] using World.cell?_spot c0
    subst hspot
    have this := hi k (by omega)
    rw [addr_add] at this
    exact ⟨b, off, _, rfl, World.block_lt_of_cell? _ _ this, this⟩
theorem open_attrs {v : Value} {fuel : Nat} {y : DataW H × List MemPlace} (h : DataW.trod enc Tryz.prog W 0 (fun _ => true) true fuel 33 [v] = some y) :
    ∃ (a0 : Option Addr) (m c : Nat), v = .slice a0 m c ∧ AttrsAt W a0 m := by
  rcases open_slice_fields Tryz.underlying33 Tryz.underlying95 (by kernel_rfl) Tryz.cAttr h with ⟨hcs, _⟩ | ⟨a, len, cap, m, D, Pl, hcs, _, hl, _, hm, _, hi⟩
  · injection hcs with hcs
    exact ⟨none, 0, 0, hcs, fun j h => absurd h (Nat.not_lt_zero j)⟩
  · injection hcs with hcs
    simp only [if_true] at hm
    refine ⟨_, len, cap, hcs, fun k hk => ?_⟩
    obtain ⟨b, off, spot⟩ := a
    have hspot : spot = none := by
      obtain ⟨ys, n, _, _, hyl, hff⟩ := hi 0 (by omega)
      obtain ⟨v0, y0, c0, _⟩ := hff 0 _ rfl
      simpa [Addr.add] using World.cell?_spot c0
    subst hspot
    obtain ⟨ys, n, _, _, hyl, hff⟩ := hi k (by omega)
    obtain ⟨v0, y0, c0, _, t0⟩ := hff 0 _ rfl
    obtain ⟨v1, y1, c1, _, t1⟩ := hff 1 _ rfl
    obtain ⟨s0, e0, _⟩ := DataW.trod_string Tryz.underlying9 t0
    obtain ⟨s1, e1, _⟩ := DataW.trod_string Tryz.underlying9 t1
    cases e0
    cases e1
    rw [addr_add] at c0 c1
    exact ⟨b, off, s0, s1, rfl, World.block_lt_of_cell? _ _ c0, c0, by rw [Nat.add_assoc]; exact c1⟩
theorem open_tree {v : Value} {fuel : Nat} {y : DataW H × List MemPlace} (h : DataW.trod enc Tryz.prog W 0 (fun _ => true) true fuel 62 [v] = some y) :
    ∃ (a0 : Option Addr) (m c : Nat), v = .slice a0 m c ∧ TreeAt W a0 m := by
  rcases open_slice_fields Tryz.underlying62 Tryz.underlying61 (by kernel_rfl) Tryz.cNode h with ⟨hcs, _⟩ | ⟨a, len, cap, m, D, Pl, hcs, _, hl, _, hm, _, hi⟩
  · injection hcs with hcs
    exact ⟨none, 0, 0, hcs, fun j h => absurd h (Nat.not_lt_zero j)⟩
  · injection hcs with hcs
    simp only [if_true] at hm
    refine ⟨_, len, cap, hcs, fun i hi0 => ?_⟩
    obtain ⟨b, off, spot⟩ := a
    have hspot : spot = none := by
      obtain ⟨ys, n, _, _, hyl, hff⟩ := hi 0 (by omega)
      obtain ⟨v0, y0, c0, _⟩ := hff 0 _ rfl
      simpa [Addr.add] using World.cell?_spot c0
    subst hspot
    obtain ⟨ys, n, _, _, hyl, hff⟩ := hi i (by omega)
    obtain ⟨v0, _, c0, _, t0⟩ := hff 0 _ rfl
    obtain ⟨v1, _, c1, _, t1⟩ := hff 1 _ rfl
    obtain ⟨v2, _, c2, _, t2⟩ := hff 2 _ rfl
    obtain ⟨v3, _, c3, _, t3⟩ := hff 3 _ rfl
    obtain ⟨v4, _, c4, _, t4⟩ := hff 4 _ rfl
    obtain ⟨v5, _, c5, _, t5⟩ := hff 5 _ rfl
    obtain ⟨v6, _, c6, _, t6⟩ := hff 6 _ rfl
    obtain ⟨v7, _, c7, _, t7⟩ := hff 7 _ rfl
    obtain ⟨z0, e0, _⟩ := DataW.trod_int Tryz.underlying3 t0
    obtain ⟨z1, e1, _⟩ := DataW.trod_string Tryz.underlying9 t1
    obtain ⟨z2, e2, _⟩ := DataW.trod_int Tryz.underlying3 t2
    obtain ⟨aA, mA, cA, e3, hA⟩ := open_attrs t3
    obtain ⟨z4, e4, _⟩ := DataW.trod_string Tryz.underlying9 t4
    obtain ⟨z5, e5, _⟩ := DataW.trod_int Tryz.underlying3 t5
    obtain ⟨z6, e6, _⟩ := DataW.trod_int Tryz.underlying3 t6
    obtain ⟨z7, e7, _⟩ := DataW.trod_int Tryz.underlying3 t7
    cases e0
    cases e1
    cases e2
    subst e3
    cases e4
    cases e5
    cases e6
    cases e7
    rw [addr_add] at c0 c1 c2 c3 c4 c5 c6 c7
    refine ⟨b, off, ⟨z0, z1, z2, aA, mA, cA, z4, z5, z6, z7⟩, rfl, World.block_lt_of_cell? _ _ c0, fun j v hj => ?_, hA⟩
    rw [Nat.add_assoc]
    match j, hj with
    | 0, hj => exact c0.trans hj
    | 1, hj => exact c1.trans hj
    | 2, hj => exact c2.trans hj
    | 3, hj => exact c3.trans hj
    | 4, hj => exact c4.trans hj
    | 5, hj => exact c5.trans hj
    | 6, hj => exact c6.trans hj
    | 7, hj => exact c7.trans hj
    | j + 8, hj => simp [VN.V] at hj
/-- lowers, opened -/
theorem open_lowers {a0 : Option Addr} {len cap : Nat} {d : DataW H} {p : List MemPlace} (h : DataW.Trod enc Tryz.prog W 0 (fun _ => true) true 22 (.slice a0 len cap) d p) : LowersAt W a0 len := by
  obtain ⟨fuel, hf⟩ := h
  rcases open_slice1 Tryz.underlying22 Tryz.cTree hf with ⟨hcs, _⟩ | ⟨a, len', cap', m, n, V, D, Pl, hcs, _, hl, _, hm, _, hi⟩
  · simp [Value.cells] at hcs
    obtain ⟨rfl, rfl, rfl⟩ := hcs
    exact fun j h => absurd h (Nat.not_lt_zero j)
  · simp [Value.cells] at hcs
    obtain ⟨rfl, rfl, rfl⟩ := hcs
    simp only [if_true] at hm
    intro i hlt
    obtain ⟨b, off, spot⟩ := a
    have hspot : spot = none := by
      have c0 := (hi 0 (by omega)).1
      simpa [Addr.add] using World.cell?_spot c0
    subst hspot
    obtain ⟨c1, t1⟩ := hi i (by omega)
    obtain ⟨x, k, c, e, hT⟩ := open_tree t1
    rw [addr_add, e] at c1
    exact ⟨b, off, x, k, c, rfl, World.block_lt_of_cell? _ _ c1, c1, hT⟩
set_option maxRecDepth 100000 in
/-- a question, opened -/
theorem open_ask {base : Nat} {v : Value} {d : DataW H} {p : List MemPlace} (hv : Value.okWide Tryz.prog W .any base 25 v) (h : DataW.Trod enc Tryz.prog W 0 (fun _ => true) true 25 v d p) :
    ∃ (a1 : Option Addr) (r c : Nat) (o m : Int), v = .agg #[.slice a1 r c, .int .i64 o, .int .i64 m] ∧ StrsAt W a1 r ∧ SlOk W a1 r c := by
  obtain ⟨v0, v1, v2, y0, y1, y2, n, rfl, _, _, t0, t1, t2⟩ := open_agg3 Tryz.underlying25 (by kernel_rfl) Tryz.cAsk hv h
  obtain ⟨a1, r, c, rfl, hS⟩ := open_strs t0
  obtain ⟨z1, e1, _⟩ := DataW.trod_int Tryz.underlying3 t1
  obtain ⟨z2, e2, _⟩ := DataW.trod_int Tryz.underlying3 t2
  cases e1
  cases e2
  refine ⟨a1, r, c, z1, z2, rfl, hS, ?_⟩
  unfold Value.okWide at hv
  rw [Tryz.underlying25] at hv
  obtain ⟨cs, e, _, ts, hts, _, hrow⟩ := hv
  cases e
  have ets : Tryz.prog.cellTypes Tryz.prog.depth 25 = some [23, 3, 3] := by kernel_rfl
  have hts := Option.some.inj (ets.symm.trans hts)
  subst hts
  obtain ⟨u, hu, hok⟩ := hrow 0 _ rfl
  have hu : some 23 = some u := hu
  cases hu
  unfold Cell.okWide at hok
  rw [Tryz.underlying23] at hok
  exact slOk_of Tryz.underlying23 hok
set_option maxRecDepth 1000000 in
theorem slOk_arg {base : Nat} {a : Option Addr} {n c : Nat} (hv : Value.okWide Tryz.prog W .any base 22 (.slice a n c)) : SlOk W a n c := by
  unfold Value.okWide at hv
  rw [Tryz.underlying22] at hv
  unfold Cell.okWide at hv
  rw [Tryz.underlying22] at hv
  exact slOk_of Tryz.underlying22 hv
end
end Go.Proofs.YtmkedlikgchpfaaGreatDoor
