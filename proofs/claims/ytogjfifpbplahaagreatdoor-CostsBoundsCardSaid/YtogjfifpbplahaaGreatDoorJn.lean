/- This text proves contracts of the law of a range over branch.walk; no condition beyond those that each statement names. -/
import Derived.Test.YtogjfifpbplahaaGreatDoorJm
import Derived.Test.YtogjfifpbplahaaGreatDoorJj
import Derived.Maps.OwnIn
import Derived.Test.YtogjfifpbplahaaGreatDoorJl
namespace Go.Proofs.YtogjfifpbplahaaGreatDoor
open Go.RowKit Go.Shelf
open BR
set_option linter.unusedVariables false

/-- what stands through the iterator's own writing -/
def HoldG (wA : World) (B : Nat) (J : List YP → (Nat → Prop) → World → Prop) (pre : List YP) (G : Nat → Prop) (w : World) : Prop := J pre G w ∧ CellsUp wA w ∧ B ≤ w.heap.size ∧ ∀ r, G r → B ≤ r ∧ r < w.heap.size
section
variable {wA w w' : World} {B : Nat} {J : List YP → (Nat → Prop) → World → Prop} {pre : List YP} {G : Nat → Prop}
theorem HoldG.fr (hJ : UpG J) (hA : wA.heap.size ≤ B) (h : HoldG wA B J pre G w) (f : Fr (fun _ => False) w w') : HoldG wA B J pre G w' :=
  ⟨hJ _ _ _ _ _ none h.1 ⟨f.os, f.tape, f.output, f.size, fun k hk _ => f.block k hk (fun h => h)⟩ (fun r e => by cases e) (fun r hr => Or.inl hr), h.2.1.of_fr f (fun _ _ h => h), Nat.le_trans h.2.2.1 f.size,
    fun r hr => ⟨(h.2.2.2 r hr).1, Nat.lt_of_lt_of_le (h.2.2.2 r hr).2 f.size⟩⟩
theorem HoldG.app (hJ : UpG J) (hA : wA.heap.size ≤ B) (h : HoldG wA B J pre G w) {v v' : Value} {e s n : Nat} {xs : List Value} (hv : ∀ r, v.ownBlock = some r → G r) (g : w.grownBy w' v.ownBlock) (hat : v'.ownBlock = v.ownBlock ∨ v'.ownBlock = some w.heap.size)
    (own : w'.ownsRow B e s v' n xs) : HoldG wA B J pre (fun r => G r ∨ v'.ownBlock = some r) w' :=
  ⟨hJ _ _ _ _ _ v.ownBlock h.1 g hv (fun r hr => by
    rcases hr with hr | hr
    · exact Or.inl hr
    · rcases hat with e | e
      · exact Or.inl (hv r (e.symm.trans hr))
      · rw [e] at hr; injection hr with hr; exact Or.inr (Nat.le_of_eq hr)), h.2.1.of_fr (Fr.of_grown g) (fun k hk e => by have := (h.2.2.2 k (hv k e)).1; omega), Nat.le_trans h.2.2.1 g.size, fun r hr => by
    rcases hr with hr | hr
    · exact ⟨(h.2.2.2 r hr).1, Nat.lt_of_lt_of_le (h.2.2.2 r hr).2 g.size⟩
    · exact own.lt r hr⟩
end
/-- rows of different types are different blocks -/
theorem own_apart {w : World} {b b' e e' s s' n n' : Nat} {v v' : Value} {xs xs' : List Value} (h : w.ownsRow b e s v n xs) (h' : w.ownsRow b' e' s' v' n' xs') (hne : e ≠ e') : ∀ g, v.ownBlock = some g → v'.ownBlock ≠ some g := by
  intro g hg hg'
  rcases h.2 with ⟨rfl, _⟩ | ⟨g1, cap, cur, rfl, _, h1, _⟩
  · simp [Value.ownBlock] at hg
  · rcases h'.2 with ⟨rfl, _⟩ | ⟨g2, cap2, cur2, rfl, _, h2, _⟩
    · simp [Value.ownBlock] at hg'
    · simp [Value.ownBlock] at hg hg'
      subst hg
      subst hg'
      rw [h1] at h2
      injection h2 with h2
      injection h2 with _ h2
      exact hne h2
/-- a cut of a slice of the call's own: the same address -/
theorem own_slice_cut {w : World} {base : Nat} {e : TypeId} {size : Nat} {v : Value} {n : Nat} {xs : List Value} (h : w.ownsRow base e size v n xs) :
    ∃ a0 c, v = .slice a0 n c ∧ n ≤ c ∧ (∀ b o i, a0 = some ⟨b, o, i⟩ → o = 0 ∧ i = none) ∧ ∀ m, m ≤ n → w.ownsRow base e size (.slice a0 m c) m (xs.take (m * size)) := by
  rcases h.2 with ⟨rfl, rfl⟩ | ⟨g, cap, cur, rfl, hb, hg, hnc, hcm, hcs, ht⟩
  · refine ⟨none, 0, rfl, Nat.le_refl _, (fun _ _ _ h => by cases h), fun m hm => ?_⟩
    obtain rfl : m = 0 := by omega
    have hx : xs = [] := List.eq_nil_of_length_eq_zero (by have := h.1; omega)
    subst hx
    simpa using h
  · exact ⟨_, cap, rfl, hnc, (fun b o i h => by cases h; exact ⟨rfl, rfl⟩), fun m hm => own_cut h hm⟩
theorem run_cut {P : Program} (t e : TypeId) (i : TypeInfo) (ht : P.underlying t = some (.slice e)) (hi : P.info? e = some i) (a0 : Option Addr) (h0 : ∀ b o i, a0 = some ⟨b, o, i⟩ → o = 0 ∧ i = none) (n c : Nat) (m : Nat) (hm : m ≤ c) (W : World) :
    (Instr.sliceAt t (.slice a0 n c) none (some (.int .i64 (m : Int))) none).run P W = .ok (.slice a0 m c) W := by
  have ht' : P.underlying t = some (.slice (P.elem t)) := by simp [Program.elem, ht]
  have he : P.elem t = e := by simp [Program.elem, ht]
  rw [run_sliceAt_slice W t _ _ _ _ ht', run_slice_h W t a0 n c ht' .i64 m (by omega) (by omega), he]
  have ha : (if c = 0 then a0 else a0.map (·.add (0 * i.size))) = a0 := by
    cases a0 with
    | none => simp
    | some a =>
      obtain ⟨b, o, j⟩ := a
      obtain ⟨rfl, rfl⟩ := h0 b o j rfl
      simp [Addr.add]
  have hs : (sizeOf e).run P W = .ok i.size W := by simp [sizeOf, typeInfo, hi]
  rw [hs]
  simp only [Result.andThen, sliced, Int.toNat_natCast, Nat.sub_zero]
  rw [ha]
theorem way_nextD {w : World} {B k D : Nat} {N : Nat → BNode} {v : Value} {m : Nat} {xs : List Value} (h : w.ownsRow B 3 1 v m xs) (hd : (N k).depth = (D : Int)) (hm : m = D + 1) (hx : xs = wayD N k D ++ [.int .i64 (k : Int)]) :
    w.ownsRow B 3 1 v (openN N (k + 1)) (wayD N (k + 1) (openN N (k + 1))) := by
  have e : openN N (k + 1) = D + 1 := by simp only [openN]; omega
  rw [e, ← wayD_snoc hd, ← hx, ← hm]
  exact h
theorem own_strs_at {w : World} {base : Nat} {e : TypeId} {a0 : Option Addr} {c d : Nat} {R : Nat → ByteArray} (h : w.ownsRow base e 1 (.slice a0 d c) d (strsL R d)) : StrsAt w a0 d R := by
  obtain ⟨a1, c1, he, _, hs⟩ := own_strs h
  cases he
  exact hs
theorem kp_next {wA W w4 w5 : World} {G : Nat → Prop} {J : List YP → (Nat → Prop) → World → Prop} {pre pre' : List YP} (h : HoldG wA W.heap.size J pre G w4) (hj : J pre' G w5) (hk : KpG wA.heap.size G w4 w5) : HoldG wA W.heap.size J pre' G w5 :=
  ⟨hj, ⟨Nat.le_trans h.2.1.1 hk.1, fun p v hb hc => by
    have h1 := h.2.1.2 p v hb hc
    rw [← h1]
    exact World.cell?_of_block (hk.2 _ (Nat.lt_of_lt_of_le hb h.2.1.1) (Or.inr hb))⟩, Nat.le_trans h.2.2.1 hk.1, fun r hr => ⟨(h.2.2.2 r hr).1, Nat.lt_of_lt_of_le (h.2.2.2 r hr).2 hk.1⟩⟩
theorem kp_own {B : Nat} {w4 w5 : World} {G : Nat → Prop} {base : Nat} (hk : KpG B G w4 w5) {e : TypeId} {v : Value} {n : Nat} {xs : List Value} (o : w4.ownsRow base e 1 v n xs) (hG : ∀ g, v.ownBlock = some g → G g) : w5.ownsRow base e 1 v n xs := by
  rcases o.2 with ⟨rfl, rfl⟩ | ⟨g, cap, cur, rfl, hb, hg, hr⟩
  · exact ⟨o.1, .inl ⟨rfl, rfl⟩⟩
  · exact ⟨o.1, .inr ⟨g, cap, cur, rfl, hb, (hk.2 g (Array.getElem?_eq_some_iff.1 hg).1 (Or.inl (hG g rfl))).trans hg, hr⟩⟩
set_option maxRecDepth 100000 in
set_option maxHeartbeats 8000000 in
theorem walk_in (l Bx n c : Nat) (a0 : Option Addr) (N : Nat → BNode) (H : Nat → Hd) (wA W : World) (J : List YP → (Nat → Prop) → World → Prop) (Jx : List YP → World → Prop)
    (hB : BranchAt wA a0 n N H) (hA : CellsUp wA W) (hBx : W.cell? ⟨Bx, 0, none⟩ = some (.slice a0 n c)) (hD : Deep N n) (hn : n ≤ 500) (hJ : UpG J)
    (hY : ∀ pre G x W1, J pre G W1 → (∀ r, G r → W.heap.size ≤ r ∧ r < W1.heap.size) → W.heap.size ≤ W1.heap.size → PrY n N pre x W1 → YieldAt Fence.wide (3 - 1) Tryz.prog l (encY N x) W1 fun e W' => (e = .returned (.bool true) ∧ J (pre ++ [x]) G W' ∧ KpG wA.heap.size G W1 W') ∨ (e = .returned (.bool false) ∧ Jx (pre ++ [x]) W'))
    (h0 : J [] (fun _ => False) W) :
    CallsIn Fence.wide 3 Tryz.prog 42 #[.func (.yield l) #[] #[], .pointer (some ⟨Bx, 0, none⟩)] W fun e W' => (∃ v, e = .returned v) ∧ ((∃ (xs : List YP) (G : Nat → Prop), xs.length = n ∧ J xs G W') ∨ (∃ pre, Jx pre W')) := by
  have HJ := Lib.hid hJ
  have HY := Lib.hid hY
  have H0 := Lib.hid h0
  have HB := Lib.hid hB
  have HA := Lib.hid hA
  have HD := Lib.hid hD
  clear hJ hY h0 hB hA hD
  obtain ⟨ii, ia, ib, ic, id⟩ := info_parts int_info
  have II := Lib.hid (And.intro ia (And.intro ib (And.intro ic id)))
  obtain ⟨si, sa, sb, sc, sd⟩ := info_parts str_info
  have SI := Lib.hid (And.intro sa (And.intro sb (And.intro sc sd)))
  clear ia ib ic id sa sb sc sd
  refine callsIn_of_wp Tryz.func42 rfl trivial ?_ rfl
  simp only [Tryz.ntmps42, List.size_toArray, List.length_cons, List.length_nil, Nat.reduceAdd, Nat.reduceSub, Array.replicate_succ, Array.replicate_zero, List.push_toArray, List.append_toArray, List.nil_append, List.cons_append]
  gi_wp2
  gi_loopw [3, 4, 5, 6, 7, 10] (fun vd vp _ _ _ i wr => ∃ (k : Nat) (pre : List YP) (ud up : Value) (G : Nat → Prop), ud = vd ∧ up = vp ∧ k ≤ n ∧ i = .int .i64 k ∧ pre.length = k ∧ Hid (HoldG wA W.heap.size J pre G wr) ∧
    Hid (wr.ownsRow W.heap.size 3 1 ud (openN N k) (wayD N k (openN N k))) ∧ Hid (wr.ownsRow W.heap.size 9 1 up (wayN N k) (strsL (wayP N k) (wayN N k))) ∧ Hid ((∀ g, ud.ownBlock = some g → G g) ∧ (∀ g, up.ownBlock = some g → G g)) ∧ (k = 0 → ud = .slice none 0 0 ∧ up = .slice none 0 0)) (fun _ _ _ _ _ i _ => n - (intOf i).toNat)
  case atStart => exact ⟨0, [], _, _, (fun _ => False), rfl, rfl, by omega, rfl, rfl, Lib.hid ⟨H0.out, HA.out, Nat.le_refl _, fun _ h => h.elim⟩, Lib.hid (World.ownsRow_nil _ _ _ _), Lib.hid (World.ownsRow_nil _ _ _ _), Lib.hid ⟨(fun g h => by cases h), (fun g h => by cases h)⟩, fun _ => ⟨rfl, rfl⟩⟩
  case round =>
    obtain ⟨k, pre, vd, vp, G, rfl, rfl, hk, rfl, hlen, HH, HOd, HOp, HG0, hz⟩ := hrel
    by_cases hlt : k < n
    · have hBk := HB.out.up HH.out.2.1
      obtain ⟨b, o, rfl, hb, hcc⟩ := hBk.get (by omega)
      obtain ⟨c0, c1, c2, c3, c4, c5, c6, c7, c8, c9⟩ := hcc wr (Fr.refl _ _) k hlt
      have hbd := deep_bd HD.out hlt
      obtain ⟨D, hDk⟩ : ∃ D : Nat, (N k).depth = (D : Int) := ⟨(N k).depth.toNat, by omega⟩
      have hD8 : D ≤ 8 := by omega
      have hway := way_open HD.out hlt
      have hDt : (N k).depth.toNat = D := by omega
      rw [hDt] at hway
      rw [hDk] at c0
      have g1 : (0 : Int) ≤ (k : Int) := by omega
      have g2 : (k : Int) < n := by omega
      have HDk := Lib.hid hDk
      have HWA := Lib.hid (show wA.heap.size ≤ W.heap.size from HA.out.1)
      clear hBk hcc hDk hDt hbd
      obtain ⟨nm, hnm⟩ : ∃ nm, (N k).name = nm := ⟨_, rfl⟩
      have HNM := Lib.hid hnm
      rw [hnm] at c1
      clear hnm
      by_cases hk0 : k = 0
      · obtain ⟨rfl, rfl⟩ := hz hk0
        have hDz : D = 0 := by
          have := deep_zero HD.out (show 0 < n by omega)
          have e := HDk.out
          rw [hk0, this] at e
          omega
        have HK0 := Lib.hid hk0
        subst hDz
        clear hk0 hz hway hD8
        gi_wp2
        have HX := Lib.hid (RowB.new wr 43 [.int .i64 0, .string nm, .int .i64 (N k).kind, .slice (H k).aA (N k).m (H k).cA, .string (N k).data, .int .i64 (N k).major, .int .i64 (N k).minor, .int .i64 (N k).cls, .bool (N k).opq, .slice (H k).aR (N k).r (H k).cR])
        have HF0 := Lib.hid ((Fr.refl (fun _ => False) wr).alloc (Obj.cells #[.int .i64 0, .string nm, .int .i64 (N k).kind, .slice (H k).aA (N k).m (H k).cA, .string (N k).data, .int .i64 (N k).major, .int .i64 (N k).minor, .int .i64 (N k).cls, .bool (N k).opq, .slice (H k).aR (N k).r (H k).cR] 43))
        change Code.wpIn _ _ _ _ _ _ (wr.alloc (Obj.cells #[.int .i64 0, .string nm, .int .i64 (N k).kind, .slice (H k).aA (N k).m (H k).cA, .string (N k).data, .int .i64 (N k).major, .int .i64 (N k).minor, .int .i64 (N k).cls, .bool (N k).opq, .slice (H k).aR (N k).r (H k).cR] 43))
        generalize wr.alloc (Obj.cells #[.int .i64 0, .string nm, .int .i64 (N k).kind, .slice (H k).aA (N k).m (H k).cA, .string (N k).data, .int .i64 (N k).major, .int .i64 (N k).minor, .int .i64 (N k).cls, .bool (N k).opq, .slice (H k).aR (N k).r (H k).cR] 43) = W0 at *
        obtain ⟨X, hX⟩ : ∃ X, X = wr.heap.size := ⟨_, rfl⟩
        rw [← hX] at HX ⊢
        have HXE := Lib.hid hX
        clear hX
        have x0 : W0.cell? ⟨X, 0, none⟩ = some (.int .i64 0) := HX.out.cell 0
        clear c0 c1 c2 c3 c4 c5 c6 c7 c8 c9
        have hm1 : min (-1 : Int) 0 = -1 := rfl
        have hm2 : max (-1 : Int) 0 = 0 := rfl
        have hw1 : IntKind.i64.wrap (-1) = -1 := by rw [IntKind.wrap_i64]; omega
        have hw2 : max (min (IntKind.i64.wrap (-1)) 0) 0 = 0 := by rw [hw1]; rfl
        have hw3 : 0 ≤ max (min (IntKind.i64.wrap (-1)) 0) 0 ∧ max (min (IntKind.i64.wrap (-1)) 0) 0 ≤ 0 := by rw [hw2]; exact ⟨Int.le_refl _, Int.le_refl _⟩
        refine wpIn_wide.2 ?_
        go_cut [3, 4] from 15 to 30 (fun v3 v4 w' => v3 = .slice none 0 0 ∧ v4 = .slice none 0 0 ∧ Hid (w' = W0.drew))
        case first =>
          go_region_held3 (fun w' => w'.cell? ⟨X, 0, none⟩ = some (.int .i64 0)) (go_keep) (fail)
          all_goals go_wp2_with fail
          all_goals go_meet
          all_goals exact ⟨rfl, rfl, Lib.hid rfl⟩
        case rest =>
        obtain ⟨rfl, rfl, hw'⟩ := hcut
        obtain rfl := hw'.out
        clear hw'
        clear hm1 hm2 hw1 hw2 hw3 x0
        have HF1 := Lib.hid (HF0.out.drew)
        generalize W0.drew = W1 at *
        have HH1 := Lib.hid (HH.out.fr HJ.out HWA.out HF1.out)
        have HPk := Lib.hid (show parF N k = -1 by unfold parF; rw [HK0.out]; rfl)
        have HDt := Lib.hid (show (N k).depth.toNat = 0 by rw [HDk.out]; rfl)
        have hfn : Fence.wide.fn 43 := trivial
        gi_wp2_with (first
          | (gi_at_builtin; go_must (refine wpListIn_append_own_at _ rfl _ _ 53 rfl W.heap.size 3 ii _ 1 8 Tryz.underlying53 II.out.1 II.out.2.1 II.out.2.2.1 II.out.2.2.2 rfl (by decide) (.slice none 0 0) 0 [] rfl ((World.ownsRow_nil W1 W.heap.size 3 1).alloc _) ⟨W1.heap.size, 0, none⟩ 1 1 [.int .i64 (k : Int)] rfl rfl (fun j u hj => by rw [addr_add]; exact ((RowB.new W1 3 [.int .i64 (k : Int)]).cell (0 + j)).trans (by rw [Nat.zero_add]; exact hj)) (fun u hu => by rw [List.mem_singleton.1 hu]; rfl) (by unfold maxLen; omega) (by omega) (by have := HH1.out.2.2; rw [alloc_size]; omega) ?_; intro vd w3 hown hgrow hnil hat; have HO3 := Lib.hid hown; have HH3 := Lib.hid ((HH1.out.fr HJ.out HWA.out ((Fr.refl (fun _ => False) W1).alloc _)).app HJ.out HWA.out (v := .slice none 0 0) (fun r e => by cases e) hgrow hat hown); clear hown hgrow hnil hat))
          | (gi_at_call 43; go_must (refine (callsIn_wide.2 (cloneS_walk 0 0 none (pathF N k) w3 (fun h => absurd h (Nat.lt_irrefl _)) (by omega))).mono ?_; rintro e w4 ⟨a1, c1, rfl, hc1, hs1, _, hF4⟩; have HH4 := Lib.hid (HH3.out.fr HJ.out HWA.out hF4); have HO4 := Lib.hid (own_fr HO3.out hF4 (fun _ _ h => h)); obtain ⟨fn, tmps, assign, body, hy, hRd⟩ := HY.out pre _ ⟨k, a1, c1⟩ w4 HH4.out.1 HH4.out.2.2.2 HH4.out.2.2.1 ⟨hlen.symm, hlt, by rw [HDt.out]; exact hc1, by rw [HDt.out]; exact hs1⟩; have HRd := Lib.hid hRd; clear hRd hs1 hF4; unfold encY at hy; dsimp only at hy; rw [HPk.out, HDt.out] at hy)))
        refine HRd.out.mono ?_
        rintro e W5 (⟨rfl, hJ5, hk5⟩ | ⟨rfl, hJx5⟩)
        · have HH5 := Lib.hid (kp_next HH4.out hJ5 hk5)
          have HO5 := Lib.hid (way_nextD (kp_own hk5 HO4.out (fun g h => Or.inr h)) HDk.out rfl rfl)
          have HP5 := Lib.hid (show W5.ownsRow W.heap.size 9 1 (.slice none 0 0) (wayN N (k + 1)) (strsL (wayP N (k + 1)) (wayN N (k + 1))) by
            rw [show wayN N (k + 1) = 0 from HDt.out, strsL_zero]; exact World.ownsRow_nil _ _ _ _)
          have HG5 := Lib.hid (show (∀ g, vd.ownBlock = some g → (G g ∨ vd.ownBlock = some g)) ∧ (∀ g, (Value.slice none 0 0).ownBlock = some g → (G g ∨ vd.ownBlock = some g)) from ⟨(fun g h => Or.inr h), (fun g h => by cases h)⟩)
          clear hJ5 hk5
          gi_wp2
          go_roundw
          case rel => exact ⟨k + 1, pre ++ [⟨k, a1, c1⟩], _, _, _, rfl, rfl, by omega, by go_num, by rw [List.length_append, hlen]; rfl, HH5, HO5, HP5, HG5, fun h => absurd h (Nat.succ_ne_zero k)⟩
          case measure => simp [intOf]; omega
        · have HJx5 := Lib.hid hJx5
          clear hJx5
          gi_wp2
          refine bodyPost_ret (results_none rfl _ _ _) rfl ?_
          exact ⟨⟨_, rfl⟩, .inr ⟨_, HJx5.out⟩⟩
      · obtain ⟨E, rfl⟩ : ∃ E, D = E + 1 := ⟨D - 1, by have := deep_pos HD.out hlt hk0; have := HDk.out; omega⟩
        have HDk1 := Lib.hid (show (N k).depth = (E : Int) + 1 by have := HDk.out; omega)
        have HDt := Lib.hid (show (N k).depth.toNat = E + 1 by have := HDk.out; omega)
        have HPI := Lib.hid (way_in HD.out hlt HDk1.out)
        have hE8 : E ≤ 7 := by omega
        have hw1 : E + 1 ≤ openN N k := hway.1
        have hw2 : E ≤ wayN N k := by have := hway.2; omega
        have HWY := Lib.hid hw1
        have HWP := Lib.hid hw2
        obtain ⟨ad, cd, rfl, hcd, hAd, hCd⟩ := own_slice_cut HOd.out
        obtain ⟨ap, cp, rfl, hcp, hAp, hCp⟩ := own_slice_cut HOp.out
        have hCd1 := hCd (E + 1) hway.1
        have hCp1 := hCp E hw2
        rw [Nat.mul_one, wayD_take N k hway.1] at hCd1
        rw [Nat.mul_one, strsL_take (wayP N k) hw2] at hCp1
        have HCd := Lib.hid hCd1
        have HCp := Lib.hid hCp1
        obtain ⟨ax, cx, hv, _, hg⟩ := own_slice hCd1
        obtain ⟨g, hag, hgb, hgl, hgc⟩ := hg (Nat.succ_pos E)
        injection hv with hv1 hv2 hv3
        obtain rfl : ad = some ⟨g, 0, none⟩ := hv1.trans hag
        have hE := HPI.out
        have HGC := Lib.hid (hgc E _ hE)
        have HGB := Lib.hid (And.intro hgb hgl)
        have HGD := Lib.hid (fun q (h : (Value.slice (some ⟨g, 0, none⟩) (E + 1) cd).ownBlock = some q) => HG0.out.1 q h)
        have HGP := Lib.hid (fun q (h : (Value.slice ap E cp).ownBlock = some q) => HG0.out.2 q (by cases ap with | none => cases h | some a => exact h))
        clear hg hgc hE hv1 hv2 hv3 hag hCd1 hCp1 hCd hCp hgb hgl
        have SD := Lib.hid (fun (Wx : World) => run_cut (P := Tryz.prog) 53 3 ii Tryz.underlying53 II.out.1 (some ⟨g, 0, none⟩) (fun _ _ _ h => by cases h; exact ⟨rfl, rfl⟩) (openN N k) cd (E + 1) (Nat.le_trans hw1 hcd) Wx)
        have SP := Lib.hid (fun (Wx : World) => run_cut (P := Tryz.prog) 41 9 si Tryz.underlying41 SI.out.1 ap hAp (wayN N k) cp E (Nat.le_trans hw2 hcp) Wx)
        have hmn1 : min ((E : Int) + 1) (openN N k : Int) = (E : Int) + 1 := by omega
        have hmn2 : min (E : Int) (wayN N k : Int) = (E : Int) := by omega
        have hmx2 : max (E : Int) 0 = (E : Int) := by omega
        have hwr : IntKind.i64.wrap (E : Int) = (E : Int) := IntWalk.i64_in _ (by omega)
        clear hw1 hw2 hway hAd hAp hk0 hz hcd hcp hD8
        generalize openN N k = lD at *
        generalize wayN N k = lP at *
        rw [show ((E + 1 : Nat) : Int) = (E : Int) + 1 from rfl] at c0
        gi_wp2
        have HX := Lib.hid (RowB.new wr 43 [.int .i64 ((E : Int) + 1), .string nm, .int .i64 (N k).kind, .slice (H k).aA (N k).m (H k).cA, .string (N k).data, .int .i64 (N k).major, .int .i64 (N k).minor, .int .i64 (N k).cls, .bool (N k).opq, .slice (H k).aR (N k).r (H k).cR])
        have HF0 := Lib.hid ((Fr.refl (fun _ => False) wr).alloc (Obj.cells #[.int .i64 ((E : Int) + 1), .string nm, .int .i64 (N k).kind, .slice (H k).aA (N k).m (H k).cA, .string (N k).data, .int .i64 (N k).major, .int .i64 (N k).minor, .int .i64 (N k).cls, .bool (N k).opq, .slice (H k).aR (N k).r (H k).cR] 43))
        change Code.wpIn _ _ _ _ _ _ (wr.alloc (Obj.cells #[.int .i64 ((E : Int) + 1), .string nm, .int .i64 (N k).kind, .slice (H k).aA (N k).m (H k).cA, .string (N k).data, .int .i64 (N k).major, .int .i64 (N k).minor, .int .i64 (N k).cls, .bool (N k).opq, .slice (H k).aR (N k).r (H k).cR] 43))
        generalize wr.alloc (Obj.cells #[.int .i64 ((E : Int) + 1), .string nm, .int .i64 (N k).kind, .slice (H k).aA (N k).m (H k).cA, .string (N k).data, .int .i64 (N k).major, .int .i64 (N k).minor, .int .i64 (N k).cls, .bool (N k).opq, .slice (H k).aR (N k).r (H k).cR] 43) = W0 at *
        obtain ⟨X, hX⟩ : ∃ X, X = wr.heap.size := ⟨_, rfl⟩
        rw [← hX] at HX ⊢
        have HXE := Lib.hid hX
        clear hX
        have x0 : W0.cell? ⟨X, 0, none⟩ = some (.int .i64 ((E : Int) + 1)) := HX.out.cell 0
        clear c0 c1 c2 c3 c4 c5 c6 c7 c8 c9
        have sd1 : ∀ Wx : World, (Instr.sliceAt 53 (.slice (some ⟨g, 0, none⟩) lD cd) none (some (.int .i64 ((E : Int) + 1))) none).run Tryz.prog Wx = .ok (.slice (some ⟨g, 0, none⟩) (E + 1) cd) Wx := SD.out
        have sp1 : ∀ Wx : World, (Instr.sliceAt 41 (.slice ap lP cp) none (some (.int .i64 (E : Int))) none).run Tryz.prog Wx = .ok (.slice ap E cp) Wx := SP.out
        refine wpIn_wide.2 ?_
        go_cut [3, 4] from 15 to 30 (fun v3 v4 w' => v3 = .slice (some ⟨g, 0, none⟩) (E + 1) cd ∧ v4 = .slice ap E cp ∧ Hid (w' = W0.drew))
        case first =>
          go_region_held3 (fun w' => w'.cell? ⟨X, 0, none⟩ = some (.int .i64 ((E : Int) + 1))) (go_keep) (fail)
          all_goals go_wp2_with fail
          all_goals go_meet
          all_goals exact ⟨rfl, rfl, Lib.hid rfl⟩
        case rest =>
        obtain ⟨rfl, rfl, hw'⟩ := hcut
        obtain rfl := hw'.out
        clear hw' hmn1 hmn2 hmx2 hwr x0 sd1 sp1
        have HF1 := Lib.hid (HF0.out.drew)
        have HX1 := Lib.hid (HX.out.fr ((Fr.refl (fun _ => False) W0).drew) (fun h => h))
        generalize W0.drew = W1 at *
        have HH1 := Lib.hid (HH.out.fr HJ.out HWA.out HF1.out)
        have HOd1 := Lib.hid (own_fr HCd.out HF1.out (fun _ _ h => h))
        have HOp1 := Lib.hid (own_fr HCp.out HF1.out (fun _ _ h => h))
        have x1 : W1.cell? ⟨X, 1, none⟩ = some (.string nm) := HX1.out.cell 1
        have d0 : W1.cell? ⟨g, E, none⟩ = some (.int .i64 (parF N k)) := HF1.out.cell (p := ⟨g, E, none⟩) HGB.out.2 (fun h => h) HGC.out
        have i1 : (0 : Int) ≤ (E : Int) := by omega
        have hfn : Fence.wide.fn 43 := trivial
        have tok1 : True := trivial
        gi_wp2_with (first
          | (gi_at_builtin; have _t := tok1; go_must (refine wpListIn_append_own_at _ rfl _ _ 41 rfl W.heap.size 9 si _ 1 16 Tryz.underlying41 SI.out.1 SI.out.2.1 SI.out.2.2.1 SI.out.2.2.2 rfl (by decide) (.slice ap E cp) E (strsL (wayP N k) E) rfl (HOp1.out.alloc _) ⟨W1.heap.size, 0, none⟩ 1 1 [.string nm] rfl rfl (fun j u hj => by rw [addr_add]; exact ((RowB.new W1 9 [.string nm]).cell (0 + j)).trans (by rw [Nat.zero_add]; exact hj)) (fun u hu => by rw [List.mem_singleton.1 hu]; rfl) (by unfold maxLen; omega) (by omega) (by have := HH1.out.2.2; rw [alloc_size]; omega) ?_; intro vp w2 hown hgrow hnil hat; have HO2 := Lib.hid (own_fr (HOd1.out.alloc _) (Fr.of_grown hgrow) (fun q hq h => own_apart HOd1.out HOp1.out (by decide) q hq h)); have HH2 := Lib.hid ((HH1.out.fr HJ.out HWA.out ((Fr.refl (fun _ => False) W1).alloc _)).app HJ.out HWA.out (v := .slice ap E cp) HGP.out hgrow hat hown); rw [← HNM.out, wayP_snoc HDk1.out] at hown; obtain ⟨a2, c2, rfl, hc2, _⟩ := own_strs hown; have HP2 := Lib.hid hown; have HC2 := Lib.hid hc2; clear hown hgrow hnil hat hc2 _t tok1))
          | (gi_at_builtin; go_must (refine wpListIn_append_own_at _ rfl _ _ 53 rfl W.heap.size 3 ii _ 1 8 Tryz.underlying53 II.out.1 II.out.2.1 II.out.2.2.1 II.out.2.2.2 rfl (by decide) (.slice (some ⟨g, 0, none⟩) (E + 1) cd) (E + 1) (wayD N k (E + 1)) rfl (HO2.out.alloc _) ⟨w2.heap.size, 0, none⟩ 1 1 [.int .i64 (k : Int)] rfl rfl (fun j u hj => by rw [addr_add]; exact ((RowB.new w2 3 [.int .i64 (k : Int)]).cell (0 + j)).trans (by rw [Nat.zero_add]; exact hj)) (fun u hu => by rw [List.mem_singleton.1 hu]; rfl) (by unfold maxLen; omega) (by omega) (by have := HH2.out.2.2; rw [alloc_size]; omega) ?_; intro vd w3 hown hgrow hnil hat; have HO3 := Lib.hid hown; have HP3 := Lib.hid (own_fr (HP2.out.alloc _) (Fr.of_grown hgrow) (fun q hq h => own_apart HP2.out HO2.out (by decide) q hq h)); have HH3 := Lib.hid ((HH2.out.fr HJ.out HWA.out ((Fr.refl (fun _ => False) w2).alloc _)).app HJ.out HWA.out (v := .slice (some ⟨g, 0, none⟩) (E + 1) cd) (fun r e => Or.inl (HGD.out r e)) hgrow hat hown); clear hown hgrow hnil hat))
          | (gi_at_call 43; go_must (refine (callsIn_wide.2 (cloneS_walk (E + 1) c2 a2 (pathF N k) w3 (own_strs_at HP3.out) (by omega))).mono ?_; rintro e w4 ⟨a1, c1, rfl, hc1, hs1, _, hF4⟩; have HH4 := Lib.hid (HH3.out.fr HJ.out HWA.out hF4); have HO4 := Lib.hid (own_fr HO3.out hF4 (fun _ _ h => h)); have HP4 := Lib.hid (own_fr HP3.out hF4 (fun _ _ h => h)); obtain ⟨fn, tmps, assign, body, hy, hRd⟩ := HY.out pre _ ⟨k, a1, c1⟩ w4 HH4.out.1 HH4.out.2.2.2 HH4.out.2.2.1 ⟨hlen.symm, hlt, by rw [HDt.out]; exact hc1, by rw [HDt.out]; exact hs1⟩; have HRd := Lib.hid hRd; clear hRd hs1 hF4; unfold encY at hy; dsimp only at hy; rw [HDt.out] at hy)))
        refine HRd.out.mono ?_
        rintro e W5 (⟨rfl, hJ5, hk5⟩ | ⟨rfl, hJx5⟩)
        · have HH5 := Lib.hid (kp_next HH4.out hJ5 hk5)
          have HO5 := Lib.hid (way_nextD (kp_own hk5 HO4.out (fun g h => Or.inr h)) HDk.out rfl rfl)
          have HP5 := Lib.hid (show W5.ownsRow W.heap.size 9 1 (.slice a2 (E + 1) c2) (wayN N (k + 1)) (strsL (wayP N (k + 1)) (wayN N (k + 1))) by
            rw [show wayN N (k + 1) = E + 1 from HDt.out]; exact kp_own hk5 HP4.out (fun g h => Or.inl (Or.inr h)))
          have HG5 := Lib.hid (show (∀ g, vd.ownBlock = some g → ((G g ∨ (Value.slice a2 (E + 1) c2).ownBlock = some g) ∨ vd.ownBlock = some g)) ∧ (∀ g, (Value.slice a2 (E + 1) c2).ownBlock = some g → ((G g ∨ (Value.slice a2 (E + 1) c2).ownBlock = some g) ∨ vd.ownBlock = some g)) from ⟨fun g h => Or.inr h, fun g h => Or.inl (Or.inr h)⟩)
          clear hJ5 hk5
          gi_wp2
          go_roundw
          case rel => exact ⟨k + 1, pre ++ [⟨k, a1, c1⟩], _, _, _, rfl, rfl, by omega, by go_num, by rw [List.length_append, hlen]; rfl, HH5, HO5, HP5, HG5, fun h => absurd h (Nat.succ_ne_zero k)⟩
          case measure => simp [intOf]; omega
        · have HJx5 := Lib.hid hJx5
          clear hJx5
          gi_wp2
          refine bodyPost_ret (results_none rfl _ _ _) rfl ?_
          exact ⟨⟨_, rfl⟩, .inr ⟨_, HJx5.out⟩⟩
    · obtain rfl : k = n := by omega
      gi_wp2
      go_end0
      exact ⟨⟨_, rfl⟩, .inl ⟨pre, G, hlen, HH.out.1⟩⟩
end Go.Proofs.YtogjfifpbplahaaGreatDoor

namespace Go.Proofs.YtogjfifpbplahaaGreatDoor
open Go.RowKit Go.Shelf
open BR
set_option linter.unusedVariables false
variable {F : Fence} {n : Nat} {P : Program}
theorem range_box {α : Type} {g : Operand} {ps : Array Tmp} {assign body : Code} {Q : Exit → Act → World → Prop} {a : Act} {w : World}
    (hro : F.round = none) (h1 : 1 ≤ n) {gf : Nat} {lb : Array Value} (hg : a.eval g = .func (.func gf) #[] lb) (hFg : F.fn gf) (eg : ∀ args w, (callFunc gf args).run P w = .ok (.enter gf args) w)
    {encs : α → Array Value} {B0 : Nat} {Pr : List α → α → World → Prop} {S : List α → Prop} {w0 : World} (hseq : SeqOwn F (n - 1) P gf lb encs B0 Pr S w0) (hB0 : B0 ≤ w.heap.size)
    (hPr : ∀ pre x W (l : Nat) (o o' : Obj), w.heap.size ≤ l → W.heap[l]? = some o → o.isCells = false → Pr pre x W → Pr pre x (W.putObj l o')) (hPa : ∀ pre x W (o : Obj), Pr pre x W → Pr pre x (W.alloc o))
    (hb0 : Below w0.heap.size w0 w) (hps : ∀ x, (encs x).size = ps.size)
    (I : List α → (Nat → Prop) → World → Prop) (Ix : Code → List α → World → Prop) (hI : UpG I) (hI2 : ∀ s G W (l : Nat) (o o' : Obj), w.heap.size ≤ l → W.heap[l]? = some o → o.isCells = false → I s G W → I s G (W.putObj l o'))
    (hIx : ∀ c s W (l : Nat) (o o' : Obj), w.heap.size ≤ l → W.heap[l]? = some o → o.isCells = false → Ix c s W → Ix c s (W.putObj l o')) (h0 : I [] (fun _ => False) w) (a₁ : α → Nat → Act) (ob : α → Obj)
    (hassign : ∀ (l : Nat) (x : α) (W : World) (K : Act → World → Prop), K (a₁ x W.heap.size) (W.alloc (ob x)) →
      assign.wpIn (F.inRound l) (n - 1 - 1) P (Exit.then K (fun _ _ _ => False)) { tmps := (ps.zip (encs x)).foldl (fun t (p, v) => t.setIfInBounds p v) a.tmps, defers := [] } W)
    (hbody : ∀ (l : Nat) (pre : List α) (G : Nat → Prop) (x : α) (W : World) (z : Nat), I pre G W → (∀ r, G r → w.heap.size ≤ r ∧ r < W.heap.size ∧ r ≠ z) → w.heap.size ≤ z → W.heap[z]? = some (ob x) → Pr pre x W →
      body.wpIn (F.inRound l) (n - 1 - 1) P (ownPostG w.heap.size (KpG B0 G) (fun s W => I s G W) Ix (pre ++ [x]) W) (a₁ x z) W)
    (hdone : ∀ (D : Nat) (xs : List α) (G : Nat → Prop) (W : World), w.heap.size ≤ D → S xs → I xs G W → W.heap[D]? = some (.deferred (some [])) → Q .normal { a with defers := { target := .collected D, args := #[] } :: a.defers } W)
    (hstop : ∀ (D : Nat) (c : Code) (pre : List α) (W : World), w.heap.size ≤ D → Ix c pre W → W.heap[D]? = some (.deferred (some [])) → c.wpIn F n P Q { a with defers := { target := .collected D, args := #[] } :: a.defers } W) :
    (Code.rangeFunc g ps assign body).wpIn F n P Q a w := by
  have hIa : ∀ {s : List α} {G : Nat → Prop} {W : World} (o : Obj), I s G W → I s G (W.alloc o) := fun o h => hI _ _ _ _ _ none h (World.grownBy_alloc _ o none) (fun r e => by cases e) (fun r h => Or.inl h)
  refine wpIn_rangeFunc ?_
  intro fn hfn
  rw [hro]
  -- the loop's record, and the block of its rounds' deferred calls
  let R : LoopState → Option Code → Loop := fun st pe => { state := st, pending := pe, fn, tmps := a.tmps, params := ps, assign, body, defers := w.heap.size }
  let W1 := (w.alloc (.deferred (some []))).alloc (.loop (R .ready none))
  have hs1 : W1.heap.size = w.heap.size + 2 := by show ((w.alloc _).alloc _).heap.size = _; simp
  have hL1 : W1.heap[w.heap.size + 1]? = some (.loop (R .ready none)) := by
    have := World.alloc_heap_new (w.alloc (.deferred (some []))) (.loop (R .ready none)); rwa [World.size_alloc] at this
  have hD1 : W1.heap[w.heap.size]? = some (.deferred (some [])) := (Below.heap_alloc _ _ _ (by simp)).trans (World.alloc_heap_new w _)
  have hb1 : Below w0.heap.size w0 W1 := hb0.trans ((((Below.refl _ w).alloc (Nat.le_refl _) _).alloc (by simp) _).mono hb0.size)
  refine ⟨w.heap.size + 1, [{ target := .collected w.heap.size, args := #[] }], W1, { target := .fn (.func gf) lb, args := #[.func (.yield (w.heap.size + 1)) #[] #[]] }, W1, gf,
    #[.func (.yield (w.heap.size + 1)) #[] #[]] ++ lb, W1, run_enterLoop_outer _ _ _ _ _, ?_, ?_, ?_, fun _ => h1, ?_⟩
  · simp only [resolve, hg]
    simp [go_sem]
  · intro f' hf'; simp [Target.leads] at hf'; subst hf'; exact hFg
  · simp [invoke, go_sem, eg]
  refine (hseq (w.heap.size + 1)
    (fun pre G W => I pre G W ∧ W.heap[w.heap.size + 1]? = some (.loop (R .ready none)) ∧ W.heap[w.heap.size]? = some (.deferred (some [])) ∧ ¬ G (w.heap.size + 1) ∧ ¬ G w.heap.size)
    (fun pre W => ∃ c, Ix c pre W ∧ W.heap[w.heap.size + 1]? = some (.loop (R .done (some c))) ∧ W.heap[w.heap.size]? = some (.deferred (some [])))
    W1 hb1
    (fun s G G' A B row hs hgr hr hG' => by
      have hl := (Array.getElem?_eq_some_iff.1 hs.2.1).1
      refine ⟨hI s G G' A B row hs.1 hgr hr hG', ?_, ?_, fun h => ?_, fun h => ?_⟩
      · exact (hgr.block _ hl (fun e => hs.2.2.2.1 (hr _ e.symm))).trans hs.2.1
      · exact (hgr.block _ (by omega) (fun e => hs.2.2.2.2 (hr _ e.symm))).trans hs.2.2.1
      · rcases hG' _ h with h | h
        · exact hs.2.2.2.1 h
        · omega
      · rcases hG' _ h with h | h
        · exact hs.2.2.2.2 h
        · omega)
    ?_ ⟨hIa _ (hIa _ h0), hL1, hD1, (fun h => h), (fun h => h)⟩).mono ?_
  · rintro pre G x W ⟨hi, hl, hk, hGl, hGk⟩ hGG hsz hpr
    have hlt : w.heap.size + 1 < W.heap.size := (Array.getElem?_eq_some_iff.1 hl).1
    have hy := run_yield (P := P) (args := encs x) hl (hps x)
    have hlA : (W.alloc (ob x)).heap[w.heap.size + 1]? = some (.loop (R .ready none)) := (Below.heap_alloc _ _ _ hlt).trans hl
    have hkA : (W.alloc (ob x)).heap[w.heap.size]? = some (.deferred (some [])) := (Below.heap_alloc _ _ _ (by omega)).trans hk
    refine ⟨fn, _, assign, body, hy, roundIn_of_wpIn hfn (hassign _ x W _ ⟨_, run_beginRound hlA rfl, ?_⟩)⟩
    generalize hB : (W.alloc (ob x)).putObj (w.heap.size + 1) (.loop { R .ready none with state := .busy }) = WB
    have hltA : w.heap.size + 1 < (W.alloc (ob x)).heap.size := (Array.getElem?_eq_some_iff.1 hlA).1
    have hl2 : WB.heap[w.heap.size + 1]? = some (.loop { R .ready none with state := .busy }) := by rw [← hB]; exact World.putObj_heap_same hltA
    have hk2 : WB.heap[w.heap.size]? = some (.deferred (some [])) := by rw [← hB]; exact (World.putObj_heap_other (by omega)).trans hkA
    have hz2 : WB.heap[W.heap.size]? = some (ob x) := by rw [← hB]; exact (World.putObj_heap_other (by omega)).trans (World.alloc_heap_new W (ob x))
    have hsB : WB.heap.size = W.heap.size + 1 := by rw [← hB]; simp [World.putObj]
    have hw2 : KpG B0 G W WB := by
      rw [← hB]
      exact (KpG.of_fr ((Fr.refl (fun _ => False) W).alloc (ob x)) (fun _ h => h.elim)).t (KpG.put _ _ _ hGl (by omega))
    refine wpIn_mono (hbody _ pre G x WB W.heap.size (by rw [← hB]; exact hI2 _ _ _ _ _ _ (by omega) hlA rfl (hIa _ hi)) (fun r hr => by have := hGG r hr; omega) (by omega) hz2 (by rw [← hB]; exact hPr _ _ _ _ _ _ (by omega) hlA rfl (hPa _ _ _ _ hpr))) ?_
    have fin : ∀ (jump : Option Code) (W3 : World), KeepsFrom w.heap.size WB W3 →
        (Instr.endRound (w.heap.size + 1) jump).run P W3 = .ok (.bool jump.isNone) (W3.putObj (w.heap.size + 1) (.loop (R (if jump.isNone then .ready else .done) jump))) ∧
        W3.heap[w.heap.size + 1]? = some (.loop { R .ready none with state := .busy }) ∧
        (W3.putObj (w.heap.size + 1) (.loop (R (if jump.isNone then .ready else .done) jump))).heap[w.heap.size + 1]? = some (.loop (R (if jump.isNone then .ready else .done) jump)) ∧
        (W3.putObj (w.heap.size + 1) (.loop (R (if jump.isNone then .ready else .done) jump))).heap[w.heap.size]? = some (.deferred (some [])) := fun jump W3 hk3 => by
      have hl3 := hk3.same _ _ (by omega) hl2 rfl
      exact ⟨run_endRound (P := P) jump hl3, hl3, World.putObj_heap_same (Array.getElem?_eq_some_iff.1 hl3).1, (World.putObj_heap_other (by omega)).trans (hk3.same _ _ (Nat.le_refl _) hk2 rfl)⟩
    have stop : ∀ (c : Code) (W3 : World), KeepsFrom w.heap.size WB W3 → Ix c (pre ++ [x]) W3 →
        ∃ (r : Value) (W4 : World), (Instr.endRound (w.heap.size + 1) (some c)).run P W3 = .ok r W4 ∧ ((.returned r = Ending.returned (.bool true) ∧ (I (pre ++ [x]) G W4 ∧ W4.heap[w.heap.size + 1]? = some (.loop (R .ready none)) ∧ W4.heap[w.heap.size]? = some (.deferred (some [])) ∧ ¬ G (w.heap.size + 1) ∧ ¬ G w.heap.size) ∧ KpG B0 G W W4) ∨
          (.returned r = Ending.returned (.bool false) ∧ ∃ c, Ix c (pre ++ [x]) W4 ∧ W4.heap[w.heap.size + 1]? = some (.loop (R .done (some c))) ∧ W4.heap[w.heap.size]? = some (.deferred (some [])))) := fun c W3 hk3 hi3 => by
      obtain ⟨hr, hl3, hl4, hk4⟩ := fin (some c) W3 hk3
      exact ⟨_, _, hr, .inr ⟨rfl, c, hIx _ _ _ _ _ _ (by omega) hl3 rfl hi3, hl4, hk4⟩⟩
    rintro e a3 W3 hp
    cases e with
    | normal =>
      obtain ⟨hk3, hkp3, hi3⟩ := hp
      obtain ⟨hr, hl3, hl4, hk4⟩ := fin none W3 hk3
      exact ⟨_, _, hr, .inl ⟨rfl, ⟨hI2 _ _ _ _ _ _ (by omega) hl3 rfl hi3, hl4, hk4, hGl, hGk⟩, (hw2.t hkp3).t (KpG.put _ _ _ hGl (by omega))⟩⟩
    | ret => exact stop .ret W3 hp.1 hp.2
    | exit id => exact stop (.exit id) W3 hp.1 hp.2
    | goto t => exact stop (.goto t) W3 hp.1 hp.2
    | panic ch => exact hp.elim
    | outgrown => exact hp.elim
  · rintro e W2 ⟨⟨v, rfl⟩, (⟨xs, G, hS, hi, hl, hk, _, _⟩ | ⟨pre, c, hi, hl, hk⟩)⟩
    · exact ⟨none, _, run_endLoop (P := P) hl (by simp [R]), hdone _ xs G _ (Nat.le_refl _) hS (hI2 _ _ _ _ _ _ (by omega) hl rfl hi) ((World.putObj_heap_other (by omega)).trans hk)⟩
    · exact ⟨some c, _, run_endLoop (P := P) hl (by simp [R]), hstop _ c pre _ (Nat.le_refl _) (hIx _ _ _ _ _ _ (by omega) hl rfl hi) ((World.putObj_heap_other (by omega)).trans hk)⟩

/-- branch.walk's iterator, as such a sequence -/
theorem walk_seq (Bx m c : Nat) (a0 : Option Addr) (N : Nat → BNode) (H : Nat → Hd) (wA w : World) (hB : BranchAt wA a0 m N H) (hA : CellsUp wA w) (hBx : w.cell? ⟨Bx, 0, none⟩ = some (.slice a0 m c)) (hl : Bx < w.heap.size) (hD : Deep N m) (hm : m ≤ 500) :
    SeqOwn Fence.wide 3 Tryz.prog 42 #[.pointer (some ⟨Bx, 0, none⟩)] (encY N) wA.heap.size (PrY m N) (fun xs => xs.length = m) w :=
  fun l J Jx W hW hJ hY h0 => walk_in l Bx m c a0 N H wA W J Jx hB ⟨Nat.le_trans hA.1 hW.size, fun p v hp hc => (hW.cell (Nat.lt_of_lt_of_le hp hA.1)).trans (hA.2 p v hp hc)⟩ ((hW.cell (p := ⟨Bx, 0, none⟩) hl).trans hBx) hD hm hJ hY h0
theorem kps_b {S : Nat → Prop} (W : World) (l : Nat) (o o' : Obj) (h : W.heap[l]? = some o) (hc : o.isCells = false) : KpS S W (W.putObj l o') := KpS.put W l o o' h hc
theorem prY_kp {S : Nat → Prop} {m : Nat} {N : Nat → BNode} {pre : List YP} {x : YP} {W W' : World} (hS : ∀ k, ¬ S k) (h : PrY m N pre x W) (k : KpS S W W') : PrY m N pre x W' := by
  obtain ⟨h1, h2, h3, h4⟩ := h
  refine ⟨h1, h2, h3, h4.up ⟨k.1, fun p v hp hc => ?_⟩⟩
  obtain ⟨cc, T, f, hh⟩ := cells_of_cell hc
  rw [← hc]
  exact World.cell?_of_block ((k.2 _ cc T f (hS _) hh).trans hh.symm)
theorem walk_make (a0 : Option Addr) (m c : Nat) (w : World) : Calls Tryz.prog 31 #[.slice a0 m c] w fun e w' => e = .returned (.func (.func 42) #[] #[.pointer (some ⟨w.heap.size, 0, none⟩)]) ∧ w' = w.alloc (.cells #[.slice a0 m c] 24) := by
  have hmf : ∀ (fn : Fn) (first cap : Array Value) (w : World), (Instr.makeFunc fn first cap).run Tryz.prog w = .ok (.func fn first cap) w := fun _ _ _ _ => rfl
  go_enter Tryz.func31, Tryz.ntmps31
  go_wp2
  go_ret
  exact ⟨rfl, rfl⟩
/-- the law of `for i, at := range walk(b)` -/
theorem range_walk {Q : Exit → Act → World → Prop} {a : Act} {w : World} {ps : Array Tmp} {g : Operand} {assign body : Code} (Bx m c : Nat) (a0 : Option Addr) (N : Nat → BNode) (H : Nat → Hd) (wA : World)
    (hg : a.eval g = .func (.func 42) #[] #[.pointer (some ⟨Bx, 0, none⟩)]) (hps : ps.size = 2)
    (hB : BranchAt wA a0 m N H) (hA : Fr (fun _ => False) wA w) (hBx : w.cell? ⟨Bx, 0, none⟩ = some (.slice a0 m c)) (hl : Bx < w.heap.size) (hD : Deep N m) (hm : m ≤ 500)
    (I : List YP → (Nat → Prop) → World → Prop) (Ix : Code → List YP → World → Prop) (hI : UpG I) (hI2 : ∀ s G W (l : Nat) (o o' : Obj), w.heap.size ≤ l → W.heap[l]? = some o → o.isCells = false → I s G W → I s G (W.putObj l o'))
    (hIx : ∀ c s W (l : Nat) (o o' : Obj), w.heap.size ≤ l → W.heap[l]? = some o → o.isCells = false → Ix c s W → Ix c s (W.putObj l o')) (h0 : I [] (fun _ => False) w) (a₁ : YP → Nat → Act)
    (hassign : ∀ (l : Nat) (x : YP) (W : World) (K : Act → World → Prop), K (a₁ x W.heap.size) (W.alloc (.cells #[.int .i64 (parF N x.i), .slice x.a (N x.i).depth.toNat x.c] 83)) →
      assign.wpIn (Fence.wide.inRound l) 2 Tryz.prog (Exit.then K (fun _ _ _ => False)) { tmps := (ps.zip (encY N x)).foldl (fun t (p, v) => t.setIfInBounds p v) a.tmps, defers := [] } W)
    (hbody : ∀ (l : Nat) (pre : List YP) (G : Nat → Prop) (x : YP) (W : World) (z : Nat), I pre G W → (∀ r, G r → w.heap.size ≤ r ∧ r < W.heap.size ∧ r ≠ z) → w.heap.size ≤ z → RowB W z 83 [.int .i64 (parF N x.i), .slice x.a (N x.i).depth.toNat x.c] → PrY m N pre x W →
      body.wpIn (Fence.wide.inRound l) 2 Tryz.prog (ownPostG w.heap.size (KpG wA.heap.size G) (fun s W => I s G W) Ix (pre ++ [x]) W) (a₁ x z) W)
    (hdone : ∀ (D : Nat) (xs : List YP) (G : Nat → Prop) (W : World), w.heap.size ≤ D → xs.length = m → I xs G W → W.heap[D]? = some (.deferred (some [])) → Q .normal { a with defers := { target := .collected D, args := #[] } :: a.defers } W)
    (hstop : ∀ (D : Nat) (c : Code) (pre : List YP) (W : World), w.heap.size ≤ D → Ix c pre W → W.heap[D]? = some (.deferred (some [])) → c.wp Tryz.prog Q { a with defers := { target := .collected D, args := #[] } :: a.defers } W) :
    (Code.rangeFunc g ps assign body).wp Tryz.prog Q a w := by
  refine (wpIn_wide (n := 4)).1 ?_
  exact range_box (F := Fence.wide) (n := 4) rfl (by omega) (gf := 42) (lb := #[.pointer (some ⟨Bx, 0, none⟩)]) hg trivial (enters_of Tryz.func42 (by kernel_rfl) rfl)
    (walk_seq Bx m c a0 N H wA w hB ⟨hA.size, fun p v hp hc => hA.cell hp (fun h => h) hc⟩ hBx hl hD hm) hA.size
    (fun pre x W l o o' _ h hc hp => prY_kp (fun _ h => h) hp (kps_b (S := fun _ => False) W l o o' h hc)) (fun pre x W o hp => prY_kp (fun _ h => h) hp (KpS.of_fr ((Fr.refl (fun _ => False) W).alloc o)))
    (Below.refl _ _) (fun x => hps.symm) I Ix hI hI2 hIx h0 a₁ (fun x => .cells #[.int .i64 (parF N x.i), .slice x.a (N x.i).depth.toNat x.c] 83) hassign hbody
    hdone (fun D c pre W hD hI hK => wpIn_wide.2 (hstop D c pre W hD hI hK))
end Go.Proofs.YtogjfifpbplahaaGreatDoor

namespace Go.Proofs.YtogjfifpbplahaaGreatDoor
open Go.RowKit Go.Shelf
open BR
set_option linter.unusedVariables false

/-- the key of a node's redirect -/
def keyB (x : BNode) : ByteArray := ⟨#[47]⟩ ++ joinP x.r x.R
def keyL (x : BNode) : Lit := .string (keyB x).data.toList
theorem keyB_list (x : BNode) : (keyB x).data.toList = 47 :: (joinP x.r x.R).data.toList := by
  unfold keyB
  rw [ByteArray.data_append]
  simp
theorem keyL_inj (x y : BNode) : keyL x = keyL y ↔ (joinP x.r x.R).data.toList = (joinP y.r y.R).data.toList := by
  unfold keyL
  rw [Lit.string.injEq, keyB_list, keyB_list, List.cons.injEq]
  simp
theorem keyB_size {x : BNode} (h : pathE x.r x.R = 0) : (keyB x).size ≤ 2000 := by
  have h1 : (keyB x).size = (keyB x).data.toList.length := by rw [Array.length_toList]; rfl
  have h2 : (joinP x.r x.R).data.toList.length ≤ 1000 := by
    rw [Array.length_toList]; unfold joinP; show (Lib.join _ _).toArray.size ≤ 1000; rw [List.size_toArray]; exact join_small h
  rw [h1, keyB_list, List.length_cons]
  omega
open Classical in
/-- what the map gives behind k nodes -/
noncomputable def metF (N : Nat → BNode) (k : Nat) (kl : Lit) : Value := .bool (decide (∃ j, j < k ∧ 0 < (N j).r ∧ kl = keyL (N j)))
open Classical in
theorem metF_zero (N : Nat → BNode) (kl : Lit) : metF N 0 kl = .bool false := by
  unfold metF
  rw [decide_eq_false (fun ⟨j, h, _⟩ => absurd h (Nat.not_lt_zero j))]
open Classical in
theorem metF_snoc {N : Nat → BNode} {k : Nat} (h : 0 < (N k).r) (kl : Lit) : updF (metF N k) (keyL (N k)) (.bool true) kl = metF N (k + 1) kl := by
  by_cases e : kl = keyL (N k)
  · subst e
    rw [updF_same]
    unfold metF
    rw [decide_eq_true ⟨k, Nat.lt_succ_self k, h, rfl⟩]
  · rw [updF_other _ _ e]
    unfold metF
    congr 1
    rw [decide_eq_decide]
    constructor
    · rintro ⟨j, h1, h2⟩; exact ⟨j, by omega, h2⟩
    · rintro ⟨j, h1, h2, h3⟩
      refine ⟨j, ?_, h2, h3⟩
      by_cases ej : j = k
      · subst ej; exact absurd h3 e
      · omega
open Classical in
theorem metF_skip {N : Nat → BNode} {k : Nat} (h : ¬ 0 < (N k).r) (kl : Lit) : metF N k kl = metF N (k + 1) kl := by
  unfold metF
  congr 1
  rw [decide_eq_decide]
  constructor
  · rintro ⟨j, h1, h2⟩; exact ⟨j, by omega, h2⟩
  · rintro ⟨j, h1, h2, h3⟩
    refine ⟨j, ?_, h2, h3⟩
    by_cases ej : j = k
    · subst ej; exact absurd h2 h
    · omega
theorem mark_pathE {N : Nat → BNode} {i : Nat} (h : markE N i = 0) (h2 : 0 < (N i).r) : pathE (N i).r (N i).R = 0 := by
  by_cases hp : pathE (N i).r (N i).R = 0
  · exact hp
  · exfalso
    by_cases h1 : ((N i).opq = true ∨ 0 < (N i).r) ∧ (N i).kind ≠ 1 ∨ i = 0 ∧ 0 < (N i).r
    · rcases h1 with h1 | h1
      · rw [mark_kind h1] at h; cases h
      · rw [mark_root h1.1 h1.2] at h; cases h
    · by_cases h3 : (N i).opq = true ∧ 0 < (N i).r
      · rw [mark_both h1 h3.1 h3.2] at h; cases h
      · rw [mark_path h1 h3 h2 hp] at h; exact hp h
theorem met_iff {N : Nat → BNode} {k : Nat} (hz : ∀ j, j < k → markE N j = 0) (h : 0 < (N k).r) (hp : pathE (N k).r (N k).R = 0) :
    (∃ j, j < k ∧ 0 < (N j).r ∧ keyL (N k) = keyL (N j)) ↔ ∃ j, j < k ∧ samePath (N k).r (N k).R (N j).r (N j).R := by
  constructor
  · rintro ⟨j, h1, h2, h3⟩
    exact ⟨j, h1, (joinP_inj hp (mark_pathE (hz j h1) h2) h h2).1 ((keyL_inj _ _).1 h3)⟩
  · rintro ⟨j, h1, h2⟩
    have hr : 0 < (N j).r := by rw [← h2.1]; exact h
    exact ⟨j, h1, hr, (keyL_inj _ _).2 ((joinP_inj hp (mark_pathE (hz j h1) hr) h hr).2 h2)⟩
open Classical in
theorem metF_yes {N : Nat → BNode} {k : Nat} (hz : ∀ j, j < k → markE N j = 0) (h : 0 < (N k).r) (hp : pathE (N k).r (N k).R = 0) (he : ∃ j, j < k ∧ samePath (N k).r (N k).R (N j).r (N j).R) : metF N k (keyL (N k)) = .bool true := by
  unfold metF
  rw [decide_eq_true ((met_iff hz h hp).2 he)]
open Classical in
theorem metF_no {N : Nat → BNode} {k : Nat} (hz : ∀ j, j < k → markE N j = 0) (h : 0 < (N k).r) (hp : pathE (N k).r (N k).R = 0) (he : ¬ ∃ j, j < k ∧ samePath (N k).r (N k).R (N j).r (N j).R) : metF N k (keyL (N k)) = .bool false := by
  unfold metF
  rw [decide_eq_false (fun hh => he ((met_iff hz h hp).1 hh))]
/-- a node below the root has its directory -/
theorem lastAt_some {N : Nat → BNode} {n : Nat} (h : Deep N n) : ∀ m, m + 1 ≤ n → ∀ d : Int, 0 ≤ d → d ≤ (N m).depth → lastAt N (m + 1) d ≠ -1
  | 0, hm, d, h0, h1 => by
    have h2 := deep_zero h (by omega)
    have : (N 0).depth = d := by omega
    simp only [lastAt]
    rw [if_pos this]
    decide
  | m + 1, hm, d, h0, h1 => by
    by_cases e : (N (m + 1)).depth = d
    · rw [lastAt, if_pos e]; omega
    · rw [lastAt, if_neg e]
      have := (deep_step h (j := m) (by omega)).2.1
      exact lastAt_some h m (by omega) d h0 (by omega)
theorem par_some {N : Nat → BNode} {n k : Nat} (h : Deep N n) (hk : k < n) (h0 : k ≠ 0) : ∃ p : Nat, p < k ∧ parF N k = (p : Int) := by
  obtain ⟨m, rfl⟩ : ∃ m, k = m + 1 := ⟨k - 1, by omega⟩
  have h1 := deep_step h hk
  rcases lastAt_cases N ((N (m + 1)).depth - 1) (m + 1) with e | ⟨p, hp, e⟩
  · exact absurd e (lastAt_some h m (by omega) _ (by omega) (by omega))
  · exact ⟨p, hp, e⟩
/-- what stands through the rounds -/
structure CkJ (w : World) (B1 B2 B3 C6 M n c : Nat) (a0 : Option Addr) (N : Nat → BNode) (k : Nat) (W : World) : Prop where
  fr : Fr (fun _ => False) w W
  r1 : RowB W B1 24 [.slice a0 n c]
  r2 : RowB W B2 3 [.int .i64 0]
  r3 : RowB W B3 31 [.int .i64 0]
  r6 : RowB W C6 91 [.map (some M)]
  met : MapAt W Tryz.prog 9 M k (.bool false) (metF N k)
  ok : ∀ j, j < k → markE N j = 0
/-- what stands where a round has found something -/
structure CkX (w : World) (B2 B3 n : Nat) (N : Nat → BNode) (W : World) : Prop where
  fr : Fr (fun _ => False) w W
  r2 : ∃ i : Int, RowB W B2 3 [.int .i64 i]
  r3 : RowB W B3 31 [.int .i64 (branchE n N)]
theorem row_up {W W' : World} {b T : Nat} {vs : List Value} {row : Option Nat} {B : Nat} (h : RowB W b T vs) (g : W.grownBy W' row) (hr : ∀ r, row = some r → B ≤ r) (hb : b < B) : RowB W' b T vs :=
  h.of_block (g.block b h.lt (fun e => by have := hr b e.symm; omega))
theorem CkJ.up {w : World} {B1 B2 B3 C6 M n c : Nat} {a0 : Option Addr} {N : Nat → BNode} {k : Nat} {W W' : World} (h : CkJ w B1 B2 B3 C6 M n c a0 N k W) {row : Option Nat} {B : Nat} (g : W.grownBy W' row) (hr : ∀ r, row = some r → B ≤ r)
    (hB : w.heap.size ≤ B ∧ B1 < B ∧ B2 < B ∧ B3 < B ∧ C6 < B ∧ M < B) : CkJ w B1 B2 B3 C6 M n c a0 N k W' :=
  ⟨fr_grow h.fr g (fun r e => Nat.le_trans hB.1 (hr r e)), row_up h.r1 g hr hB.2.1, row_up h.r2 g hr hB.2.2.1, row_up h.r3 g hr hB.2.2.2.1, row_up h.r6 g hr hB.2.2.2.2.1,
    h.met.of_block (g.block M h.met.lt (fun e => by have := hr M e.symm; omega)), h.ok⟩
theorem CkX.up {w : World} {B2 B3 n : Nat} {N : Nat → BNode} {W W' : World} (h : CkX w B2 B3 n N W) {row : Option Nat} {B : Nat} (g : W.grownBy W' row) (hr : ∀ r, row = some r → B ≤ r)
    (hB : w.heap.size ≤ B ∧ B2 < B ∧ B3 < B) : CkX w B2 B3 n N W' := by
  obtain ⟨i, hi⟩ := h.r2
  exact ⟨fr_grow h.fr g (fun r e => Nat.le_trans hB.1 (hr r e)), ⟨i, row_up hi g hr hB.2.1⟩, row_up h.r3 g hr hB.2.2⟩
theorem CkJ.then {w : World} {B1 B2 B3 C6 M n c : Nat} {a0 : Option Addr} {N : Nat → BNode} {k : Nat} {W W' : World} (h : CkJ w B1 B2 B3 C6 M n c a0 N k W) (f : Fr (fun _ => False) W W') : CkJ w B1 B2 B3 C6 M n c a0 N k W' :=
  ⟨h.fr.then f, h.r1.fr f (fun h => h), h.r2.fr f (fun h => h), h.r3.fr f (fun h => h), h.r6.fr f (fun h => h), h.met.fr f (fun h => h), h.ok⟩
/-- a round without a redirect -/
theorem CkJ.skip {w : World} {B1 B2 B3 C6 M n c : Nat} {a0 : Option Addr} {N : Nat → BNode} {k : Nat} {W : World} (h : CkJ w B1 B2 B3 C6 M n c a0 N k W) (hr : ¬ 0 < (N k).r) (hm : markE N k = 0) : CkJ w B1 B2 B3 C6 M n c a0 N (k + 1) W :=
  ⟨h.fr, h.r1, h.r2, h.r3, h.r6, (h.met.mono (Nat.le_succ k)).congr (metF_skip hr), fun j hj => by
    by_cases e : j = k
    · subst e; exact hm
    · exact h.ok j (by omega)⟩
theorem CkX.of {w : World} {B1 B2 B3 C6 M n c : Nat} {a0 : Option Addr} {N : Nat → BNode} {k : Nat} {W : World} (h : CkJ w B1 B2 B3 C6 M n c a0 N k W) (hB : w.heap.size ≤ B2 ∧ w.heap.size ≤ B3 ∧ B2 ≠ B3) (ht : treeE n N = 0) (hk : k < n) {E i : Int} (he : markE N k = E) (hE : E ≠ 0) :
    CkX w B2 B3 n N ((W.setCell ⟨B2, 0, none⟩ (.int .i64 i)).setCell ⟨B3, 0, none⟩ (.int .i64 E)) := by
  have hb : branchE n N = E := by rw [branchE_marks ht, firstE_hit (f := markE N) h.ok (by rw [he]; exact hE) hk, he]
  have h2 := h.r2.set 0 (.int .i64 i)
  have h3 := (h.r3.fr ((Fr.refl (fun b => b = B2) W).setCell (a := ⟨B2, 0, none⟩) (fun _ => rfl) (.int .i64 i)) (fun e => hB.2.2 e.symm)).set 0 (.int .i64 E)
  refine ⟨?_, ⟨i, h2.fr ((Fr.refl (fun b => b = B3) _).setCell (a := ⟨B3, 0, none⟩) (fun _ => rfl) (.int .i64 E)) (fun e => hB.2.2 e)⟩, by rw [hb]; exact h3⟩
  exact ((h.fr.up.setCell (S := fun b => b = B2 ∨ b = B3) (a := ⟨B2, 0, none⟩) (fun _ => Or.inl rfl) _).setCell (a := ⟨B3, 0, none⟩) (fun _ => Or.inr rfl) _).mono (fun b hb hS => by rcases hS with e | e <;> omega)
end Go.Proofs.YtogjfifpbplahaaGreatDoor
