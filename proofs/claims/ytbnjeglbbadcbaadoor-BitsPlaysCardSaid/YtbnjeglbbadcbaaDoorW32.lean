/- Arguments opened: two numbers of 16 bits, and a slice of calls. -/
import Derived.Test.YtbnjeglbbadcbaaDoorW22
import Derived.OpenShut
import Derived.Deep.Slices
import Derived.Deep.Fields
namespace Go.Proofs.YtbnjeglbbadcbaaDoor
open Go.ChangeShapes Go.WideShapes Go.Deep Go.RowKit
set_option linter.unusedVariables false

theorem okWide_array {P : Program} {w : World} {r : Reach} {base : Nat} {t e : TypeId} {n : Nat} {v : Value} (ht : P.underlying t = some (.array n e)) (h : Value.okWide P w r base t v) : ∃ cs, v = .agg cs ∧ cs.size = P.cellsOf t := by
  simp only [Value.okWide, ht] at h
  obtain ⟨cs, h1, h2, _⟩ := h
  exact ⟨cs, h1, h2⟩
theorem nat_of_wf {k : IntKind} {z : Int} {m : Nat} (h1 : k.min = 0) (h2 : k.max = m) (h : (Lit.int k z).wf = true) : ∃ n : Nat, z = n ∧ n ≤ m := by
  simp only [Lit.wf, Bool.and_eq_true, decide_eq_true_eq] at h
  rw [h1, h2] at h
  exact ⟨z.toNat, by omega, by omega⟩
theorem int_of_wf {z : Int} (h : (Lit.int .i64 z).wf = true) : -9223372036854775808 ≤ z ∧ z ≤ 9223372036854775807 := by
  have e1 : IntKind.i64.min = -9223372036854775808 := rfl
  have e2 : IntKind.i64.max = 9223372036854775807 := rfl
  simp only [Lit.wf, Bool.and_eq_true, decide_eq_true_eq] at h
  omega
theorem Tryd.c45 : Tryd.prog.cellsOf 45 = 2 := by kernel_rfl
theorem Tryd.c22 : Tryd.prog.cellsOf 22 = 1 := by kernel_rfl
theorem Tryd.c63 : Tryd.prog.cellsOf 63 = 4 := by kernel_rfl
/-- An argument of type [2]uint16, opened. -/
theorem open_pair16 {H : Type} {enc : TypeId × Value → H} {W : World} {b0 : Nat} {v : Value} {d : DataW H} {p : List MemPlace} (hv : Value.okWide Tryd.prog W .any b0 45 v)
    (h : DataW.Trod enc Tryd.prog W 0 (fun _ => true) true 45 v d p) : ∃ n m : Nat, v = .agg #[.int .u16 n, .int .u16 m] ∧ n < 65536 ∧ m < 65536 := by
  obtain ⟨cs, rfl, hsz⟩ := okWide_array Tryd.underlying45 hv
  obtain ⟨l⟩ := cs
  match l, hsz.trans Tryd.c45 with
  | [c0, c1], _ =>
    obtain ⟨fuel, hf⟩ := h
    obtain ⟨xs, m, _, _, _, hlen, hg⟩ := DataW.trod_array Tryd.underlying45 hf
    match xs, hlen with
    | [y0, y1], _ =>
      have g0 := hg 0 (by decide)
      have g1 := hg 1 (by decide)
      rw [Tryd.c22] at g0 g1
      have g0 : DataW.trod enc Tryd.prog W 0 (fun _ => true) true m 22 [c0] = some y0 := g0
      have g1 : DataW.trod enc Tryd.prog W 0 (fun _ => true) true m 22 [c1] = some y1 := g1
      obtain ⟨z0, h0, _, w0⟩ := DataW.trod_int Tryd.underlying22 g0
      obtain ⟨z1, h1, _, w1⟩ := DataW.trod_int Tryd.underlying22 g1
      cases h0
      cases h1
      obtain ⟨a, rfl, ha⟩ := nat_of_wf (m := 65535) rfl rfl w0
      obtain ⟨b, rfl, hb⟩ := nat_of_wf (m := 65535) rfl rfl w1
      exact ⟨a, b, rfl, by omega, by omega⟩

section
variable {H : Type} {enc : TypeId × Value → H} {P : Program} {w : World} {base : Nat} {spare : Nat → Bool} {held : Bool}
theorem open_slice_fields {t e : TypeId} {fs : Array Field} {fuel : Nat} {cs : List Value} {x : DataW H × List MemPlace} (ht : P.underlying t = some (.slice e)) (he : P.underlying e = some (.struct fs))
    (hone : oneCellFields P fs = true) (hC : P.cellsOf e = fs.size) (h : DataW.trod enc P w base spare held fuel t cs = some x) :
    (cs = [.slice none 0 0] ∧ x = (.nil, [])) ∨
    ∃ (a : Addr) (len cap m : Nat) (D : Nat → DataW H) (Pl : Nat → List MemPlace), cs = [.slice (some a) len cap] ∧ base ≤ a.block ∧ len ≤ cap ∧ cap ≤ maxLen ∧ m = (if spare a.block then cap else len) ∧
      x = (.slice ((List.range len).map D) ((List.range (m - len)).map fun j => D (len + j)), MemPlace.row a (m * fs.size) ++ (List.range m).flatMap Pl) ∧
      ∀ i, i < m → ∃ (ys : List (DataW H × List MemPlace)) (n : Nat), D i = .agg (ys.map (·.1)) ∧ Pl i = ys.flatMap (·.2) ∧ ys.length = fs.size ∧
        ∀ (j : Nat) (f : Field), fs[j]? = some f → ∃ (v : Value) (y : DataW H × List MemPlace), w.cell? (a.add (i * fs.size + j)) = some v ∧ ys[j]? = some y ∧ DataW.trod enc P w base spare held n f.type [v] = some y := by
  rcases open_slice ht h with h0 | ⟨a, len, cap, m, n, D, Pl, hcs, hb, hl, hm, hmm, hx, hi⟩
  · exact .inl h0
  · refine .inr ⟨a, len, cap, m, D, Pl, hcs, hb, hl, hm, hmm, by rw [hC] at hx; exact hx, fun i him => ?_⟩
    obtain ⟨cs', hc, ht'⟩ := hi i him
    rw [hC] at hc
    obtain ⟨ys, n', hn', hy, hlen, hyl, hf⟩ := DataW.trod_struct he ht'
    obtain ⟨_, hcl, hat⟩ := World.cells?_some hc
    simp only [Prod.mk.injEq] at hy
    refine ⟨ys, n', hy.1, hy.2, hyl, fun j f hj => ?_⟩
    obtain ⟨ho, hk⟩ := hone_of hone j f hj
    have hjl : j < fs.size := (Array.getElem?_eq_some_iff.1 hj).1
    have hcell := hat j hjl
    have hv : cs'[j]? = some (cs'[j]'(by omega)) := List.getElem?_eq_getElem (by omega)
    have h1 := hf j f hj
    rw [ho, hk] at h1
    have hone' : (cs'.drop j).take 1 = [cs'[j]'(by omega)] := by
      rw [List.drop_eq_getElem_cons (by omega)]
      rfl
    rw [hone'] at h1
    have hys : ys[j]? = some (ys[j]'(by omega)) := List.getElem?_eq_getElem (by omega)
    refine ⟨_, _, ?_, hys, h1.trans hys⟩
    rw [← Go.Deep.add_add, hcell, hv]
end

theorem addr_add' (b off j : Nat) : (⟨b, off, none⟩ : Addr).add j = ⟨b, off + j, none⟩ := addr_add b off j
/-- What a slice of calls holds. -/
def CallsAt (w : World) (a0 : Option Addr) (n : Nat) (fq : Nat → Nat) (fI fJ : Nat → Int) (fV : Nat → Bool) : Prop :=
  0 < n → ∃ b o, a0 = some ⟨b, o, none⟩ ∧ b < w.heap.size ∧ ∀ i, i < n → fq i < 256 ∧ fJ i ≤ 9223372036854775807 ∧ w.cell? ⟨b, o + i * 4, none⟩ = some (.int .u8 (fq i)) ∧ w.cell? ⟨b, o + i * 4 + 1, none⟩ = some (.int .i64 (fI i)) ∧ w.cell? ⟨b, o + i * 4 + 2, none⟩ = some (.int .i64 (fJ i)) ∧ w.cell? ⟨b, o + i * 4 + 3, none⟩ = some (.bool (fV i))
theorem one_call {w : World} {b o i : Nat} {a : Addr} (ha : a = ⟨b, o, none⟩)
    {H : Type} {enc : TypeId × Value → H} (h : ∃ (ys : List (DataW H × List MemPlace)) (n : Nat), ys.length = 4 ∧
      ∀ (j : Nat) (f : Field), (#[{ name := "What", type := 5, offset := 0, embedded := false, tag := "", pkgPath := "", byteOffset := 0 }, { name := "I", type := 3, offset := 1, embedded := false, tag := "", pkgPath := "", byteOffset := 8 }, { name := "N", type := 3, offset := 2, embedded := false, tag := "", pkgPath := "", byteOffset := 16 }, { name := "V", type := 4, offset := 3, embedded := false, tag := "", pkgPath := "", byteOffset := 24 }] : Array Field)[j]? = some f →
        ∃ (v : Value) (y : DataW H × List MemPlace), w.cell? (a.add (i * 4 + j)) = some v ∧ ys[j]? = some y ∧ DataW.trod enc Tryd.prog w 0 (fun _ => true) true n f.type [v] = some y) :
    ∃ (q : Nat) (I J : Int) (V : Bool), q < 256 ∧ J ≤ 9223372036854775807 ∧ w.cell? ⟨b, o + i * 4, none⟩ = some (.int .u8 q) ∧ w.cell? ⟨b, o + i * 4 + 1, none⟩ = some (.int .i64 I) ∧ w.cell? ⟨b, o + i * 4 + 2, none⟩ = some (.int .i64 J) ∧ w.cell? ⟨b, o + i * 4 + 3, none⟩ = some (.bool V) := by
  subst ha
  obtain ⟨ys, n, hl, hf⟩ := h
  obtain ⟨v0, y0, c0, _, t0⟩ := hf 0 _ rfl
  obtain ⟨v1, y1, c1, _, t1⟩ := hf 1 _ rfl
  obtain ⟨v2, y2, c2, _, t2⟩ := hf 2 _ rfl
  obtain ⟨v3, y3, c3, _, t3⟩ := hf 3 _ rfl
  obtain ⟨z0, h0, _, w0⟩ := DataW.trod_int Tryd.underlying5 t0
  obtain ⟨z1, h1, _, w1⟩ := DataW.trod_int Tryd.underlying3 t1
  obtain ⟨z2, h2, _, w2⟩ := DataW.trod_int Tryd.underlying3 t2
  obtain ⟨z3, h3, _⟩ := DataW.trod_bool Tryd.underlying4 t3
  cases h0; cases h1; cases h2; cases h3
  obtain ⟨q, rfl, hq⟩ := nat_of_wf (m := 255) rfl rfl w0
  rw [addr_add'] at c0 c1 c2 c3
  exact ⟨q, z1, z2, z3, by omega, (int_of_wf w2).2, c0, c1, c2, c3⟩
/-- An argument of type []Call, opened. -/
theorem open_calls {H : Type} {enc : TypeId × Value → H} {W : World} {a0 : Option Addr} {len cap : Nat} {d : DataW H} {p : List MemPlace}
    (h : DataW.Trod enc Tryd.prog W 0 (fun _ => true) true 59 (.slice a0 len cap) d p) :
    ∃ (fq : Nat → Nat) (fI fJ : Nat → Int) (fV : Nat → Bool), CallsAt W a0 len fq fI fJ fV := by
  obtain ⟨fuel, hf⟩ := h
  rcases open_slice_fields Tryd.underlying59 Tryd.underlying63 (by kernel_rfl) Tryd.c63 hf with ⟨hcs, _⟩ | ⟨a, len', cap', m, D, Pl, hcs, _, hl, _, hm, _, hi⟩
  · simp [Value.cells] at hcs
    obtain ⟨rfl, rfl, rfl⟩ := hcs
    exact ⟨fun _ => 0, fun _ => 0, fun _ => 0, fun _ => false, fun h => absurd h (by omega)⟩
  · simp [Value.cells] at hcs
    obtain ⟨rfl, rfl, rfl⟩ := hcs
    simp only [if_true] at hm
    by_cases h0 : 0 < len
    · obtain ⟨b, off, spot⟩ := a
      have hspot : spot = none := by
        obtain ⟨ys, n, _, _, hyl, hff⟩ := hi 0 (by omega)
        obtain ⟨v0, y0, c0, _⟩ := hff 0 _ rfl
        simpa [Addr.add] using World.cell?_spot c0
      subst hspot
      have hall : ∀ i, ∃ s : Nat × Int × Int × Bool, i < len → s.1 < 256 ∧ s.2.2.1 ≤ 9223372036854775807 ∧ W.cell? ⟨b, off + i * 4, none⟩ = some (.int .u8 s.1) ∧ W.cell? ⟨b, off + i * 4 + 1, none⟩ = some (.int .i64 s.2.1) ∧ W.cell? ⟨b, off + i * 4 + 2, none⟩ = some (.int .i64 s.2.2.1) ∧ W.cell? ⟨b, off + i * 4 + 3, none⟩ = some (.bool s.2.2.2) := by
        intro i
        by_cases hlt : i < len
        · obtain ⟨ys, n, _, _, hyl, hff⟩ := hi i (by omega)
          obtain ⟨q, I, J, V, hq⟩ := one_call (w := W) (b := b) (o := off) (i := i) rfl ⟨ys, n, hyl, hff⟩
          exact ⟨(q, I, J, V), fun _ => hq⟩
        · exact ⟨(0, 0, 0, false), fun h => absurd h hlt⟩
      obtain ⟨f, hf2⟩ := Classical.axiomOfChoice hall
      refine ⟨fun i => (f i).1, fun i => (f i).2.1, fun i => (f i).2.2.1, fun i => (f i).2.2.2, fun _ => ⟨b, off, rfl, World.block_lt_of_cell? _ _ (hf2 0 h0).2.2.1, fun i hlt => hf2 i hlt⟩⟩
    · exact ⟨fun _ => 0, fun _ => 0, fun _ => 0, fun _ => false, fun h => absurd h h0⟩
end Go.Proofs.YtbnjeglbbadcbaaDoor
