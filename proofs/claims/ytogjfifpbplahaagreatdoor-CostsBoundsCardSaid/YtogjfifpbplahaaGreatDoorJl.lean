/- This text proves contracts of the program's check of trees; no condition beyond those that each statement names. -/
import Derived.Test.YtogjfifpbplahaaGreatDoorJP9
import Derived.Test.YtogjfifpbplahaaGreatDoorJk
import Derived.Test.YtogjfifpbplahaaGreatDoorJh
import Derived.Deep.CutRange
import Derived.Deep.Cut
import Derived.Carry
namespace Go.Proofs.YtogjfifpbplahaaGreatDoor
open Go.RowKit
open BR
open Go.Op (bytesLess)
set_option linter.unusedVariables false

theorem manyF_24 {N : Nat → BNode} : ∀ k, (∀ j, j < k → nodeE N j = 0) → ∀ d : Int, 0 ≤ d → manyF N k d ≤ 24
  | 0, _, _, _ => by simp [manyF]
  | k + 1, h, d, hd => by
    have ih := manyF_24 k (fun j hj => h j (by omega)) d hd
    simp only [manyF]
    split
    · omega
    · split
      · rename_i h1 h2
        by_cases hk : k = 0
        · subst hk
          have := (nodeE_parts (h 0 (by omega))).1
          simp [shapeE] at this
          omega
        · have he := (nodeE_parts (h k (by omega))).2.1 hk
          have hd1 : (N k).depth - 1 = d := by omega
          by_cases h24 : 24 ≤ manyF N k ((N k).depth - 1)
          · exfalso
            unfold entryE at he
            by_cases hn : nameE (N k).name = 0
            · rw [if_neg (by simpa using hn)] at he
              split at he
              · cases he
              · split at he
                · cases he
                · exact absurd he (by simp)
            · rw [if_pos hn] at he; exact hn he
          · rw [hd1] at h24; omega
      · exact ih
/-- what place answers at a node -/
def posE (N : Nat → BNode) (k : Nat) : Int := if shapeE N k ≠ 0 then shapeE N k else if k ≠ 0 ∧ entryE N k ≠ 0 then entryE N k else 0
theorem posE_zero {N : Nat → BNode} {k : Nat} (h : posE N k = 0) : shapeE N k = 0 ∧ (k = 0 ∨ entryE N k = 0) := by
  unfold posE at h
  by_cases h1 : shapeE N k = 0
  · rw [if_neg (by simpa using h1)] at h
    refine ⟨h1, ?_⟩
    by_cases h2 : k = 0
    · exact Or.inl h2
    · by_cases h3 : entryE N k = 0
      · exact Or.inr h3
      · rw [if_pos ⟨h2, h3⟩] at h; exact absurd h h3
  · rw [if_pos h1] at h; exact absurd h h1
theorem posE_node {N : Nat → BNode} {k : Nat} (h : posE N k ≠ 0) : nodeE N k = posE N k := by
  unfold posE at h ⊢
  by_cases h1 : shapeE N k = 0
  · rw [if_neg (by simpa using h1)] at h ⊢
    by_cases h2 : k ≠ 0 ∧ entryE N k ≠ 0
    · rw [if_pos h2] at h ⊢; exact nodeE_entry h1 h2.1 h2.2
    · rw [if_neg h2] at h; exact absurd rfl h
  · rw [if_pos h1] at h ⊢; exact nodeE_shape h1
/-- how many directories are open behind k nodes -/
def openN (N : Nat → BNode) : Nat → Nat
  | 0 => 0
  | k + 1 => (N k).depth.toNat + 1
def fileB (N : Nat → BNode) : Nat → Bool
  | 0 => false
  | k + 1 => decide ((N k).kind ≠ 1)
/-- the checker behind k nodes: its directories -/
structure DirsAt (w : World) (base C k : Nat) (N : Nat → BNode) (fl : Bool) (m1 m2 : Value) (cl : Int) (v : Value) : Prop where
  ex : ∃ (xs : List Value), RowB w C 104 [v, .bool fl, m1, m2, .int .i64 cl] ∧ w.ownsRow base 137 2 v (openN N k) xs ∧ (k = 0 → v = .slice none 0 0) ∧
    (∀ d, d < openN N k → xs[d * 2]? = some (.int .i64 (manyF N k d)) ∧ xs[d * 2 + 1]? = some (.string (lastF N k d)))
  lt : C < base
  le : base ≤ w.heap.size
/-- what place leaves -/
def RetPl2 (base C k : Nat) (N : Nat → BNode) (fl : Bool) (m1 m2 : Value) (cl : Int) (v : Value) (w : World) (e : Ending) (w' : World) : Prop :=
  e = .returned (.int .i64 (posE N k)) ∧ Fr (fun b => b = C ∨ v.ownBlock = some b) w w' ∧ (posE N k = 0 → ∃ v', DirsAt w' base C (k + 1) N fl m1 m2 cl v')
theorem next_dirs {N : Nat → BNode} {k D : Nat} (hD : (N k).depth = (D : Int) + 1) {ys : List Value} {n : Nat} {v : Value} (h : NextK D (fun d => manyF N k d) (fun d => lastF N k d) (N k).name n v ys) :
    n = openN N (k + 1) ∧ ∀ d, d < openN N (k + 1) → ys[d * 2]? = some (.int .i64 (manyF N (k + 1) d)) ∧ ys[d * 2 + 1]? = some (.string (lastF N (k + 1) d)) := by
  have ho : openN N (k + 1) = D + 2 := by simp only [openN]; omega
  rw [ho]
  refine ⟨h.1, fun d hd => ?_⟩
  obtain ⟨h1, h2⟩ := h.2 d hd
  rw [h1, h2]
  simp only [manyF, lastF, hD]
  by_cases e1 : d = D
  · subst e1
    have k1 : ¬ ((d : Int) + 1 ≤ d) := by omega
    exact ⟨by simp [k1], by simp [k1]⟩
  · by_cases e2 : d = D + 1
    · subst e2
      have k1 : (D : Int) + 1 ≤ ((D + 1 : Nat) : Int) := by omega
      rw [if_pos k1, if_pos k1]
      exact ⟨by simp, by simp; rfl⟩
    · have k1 : ¬ ((D : Int) + 1 ≤ d) := by omega
      have k2 : ¬ ((D : Int) + 1 = (d : Int) + 1) := by omega
      rw [if_neg k1, if_neg k1, if_neg k2, if_neg k2]
      exact ⟨by simp [e1, e2], by simp [e1, e2]⟩
set_option maxHeartbeats 1000000 in
theorem place_any (base C k : Nat) (N : Nat → BNode) (H : Nat → Hd) (m1 m2 : Value) (cl : Int) (v : Value) (w : World) (hS : DirsAt w base C k N (fileB N k) m1 m2 cl v) (hk : k ≤ 500) (hok : ∀ j, j < k → nodeE N j = 0) (hs : (N k).name.size ≤ 1000) :
    Calls Tryz.prog 69 #[.pointer (some ⟨C, 0, none⟩), trA (N k) (H k)] w (RetPl2 base C k N (fileB N k) m1 m2 cl v w) := by
  obtain ⟨⟨xs, hR, hO, hv, hX⟩, hC, hb⟩ := hS
  by_cases h0 : k = 0
  · subst h0
    obtain rfl := hv rfl
    by_cases hz : (N 0).depth ≠ 0 ∨ (N 0).name.toList ≠ [] ∨ (N 0).kind ≠ 1
    · have hE : posE N 0 = 6 := by unfold posE shapeE; rw [if_pos rfl, if_pos hz]; rfl
      refine (place_zero base C m1 m2 cl (N 0) (H 0) w (fun _ _ _ => True) hR hz).mono ?_
      rintro e w' ⟨rfl, hF, _⟩
      exact ⟨by rw [hE], hF, fun h => by rw [hE] at h; cases h⟩
    · have hd : (N 0).depth = 0 := by by_cases e : (N 0).depth = 0; exact e; exact absurd (Or.inl e) hz
      have hn : (N 0).name.toList = [] := by by_cases e : (N 0).name.toList = []; exact e; exact absurd (Or.inr (Or.inl e)) hz
      have hkd : (N 0).kind = 1 := by by_cases e : (N 0).kind = 1; exact e; exact absurd (Or.inr (Or.inr e)) hz
      have hE : posE N 0 = 0 := by unfold posE shapeE; rw [if_pos rfl, if_neg hz]; simp
      refine (place_first base C m1 m2 cl (N 0) (H 0) w hR hC hb hd hn hkd).mono ?_
      rintro e w' ⟨rfl, hF, hK⟩
      refine ⟨by rw [hE], hF, fun _ => ?_⟩
      obtain ⟨v', n', xs', r1, r2, rfl, rfl⟩ := hK rfl
      have ho : openN N (0 + 1) = 1 := by simp only [openN]; rw [hd]; rfl
      refine ⟨v', ⟨_, r1, by rw [ho]; exact r2, (fun h => absurd h (Nat.succ_ne_zero _)), fun d hd' => ?_⟩, hC, Nat.le_trans hb hF.size⟩
      rw [ho] at hd'
      obtain rfl : d = 0 := by omega
      simp only [manyF, lastF, hd]
      exact ⟨rfl, rfl⟩
  · obtain ⟨i, rfl⟩ : ∃ i, k = i + 1 := ⟨k - 1, by omega⟩
    have hp := nodeE_parts (hok i (by omega))
    have hbd := shape_bd hp.1
    have hL : openN N (i + 1) = (N i).depth.toNat + 1 := rfl
    obtain ⟨a0, c, rfl, hnc, hg⟩ := own_slice hO
    obtain ⟨g, rfl, _, _, _⟩ := hg (by rw [hL]; exact Nat.succ_pos _)
    clear hg
    have hP : PlaceAt w base C g c (openN N (i + 1)) (fileB N (i + 1)) m1 m2 cl (fun d => manyF N (i + 1) d) (fun d => lastF N (i + 1) d) xs := ⟨hR, hO, hC, hb, fun d hd => (hX d hd).1, fun d hd => (hX d hd).2⟩
    have hM : ∀ d, d < openN N (i + 1) → (fun d : Nat => manyF N (i + 1) d) d ≤ 24 := fun d _ => manyF_24 (i + 1) hok d (Int.natCast_nonneg d)
    have hLL : (openN N (i + 1) : Int) = (N i).depth + 1 := by rw [hL, Int.natCast_add, Int.toNat_of_nonneg hbd.1]; rfl
    have hmost : (openN N (i + 1) : Int) - (if fileB N (i + 1) = true then 1 else 0) = (N i).depth + (if (N i).kind = 1 then 1 else 0) := by
      rw [hLL]
      by_cases e : (N i).kind = 1 <;> simp [fileB, e] <;> omega
    have hshape : shapeE N (i + 1) = if (N (i + 1)).depth < 1 ∨ (N i).depth + (if (N i).kind = 1 then 1 else 0) < (N (i + 1)).depth then 6 else if 8 < (N (i + 1)).depth then 3 else 0 := by
      unfold shapeE; rw [if_neg (Nat.succ_ne_zero i)]; rfl
    have bad : ∀ E : Int, posE N (i + 1) = E → E ≠ 0 → ∀ e w', RetPl base (some g) C E (fileB N (i + 1)) m1 m2 cl (fun _ _ _ => True) w e w' → RetPl2 base C (i + 1) N (fileB N (i + 1)) m1 m2 cl (.slice (some ⟨g, 0, none⟩) (openN N (i + 1)) c) w e w' := by
      rintro E hE hne e w' ⟨rfl, hF, _⟩
      exact ⟨by rw [hE], hF, fun h => absurd (hE.symm.trans h) hne⟩
    have good : posE N (i + 1) = 0 → ∀ D : Nat, (N (i + 1)).depth = (D : Int) + 1 → ∀ e w', RetPl base (some g) C 0 (fileB N (i + 1)) m1 m2 cl (NextK D (fun d => manyF N (i + 1) d) (fun d => lastF N (i + 1) d) (N (i + 1)).name) w e w' → RetPl2 base C (i + 1) N (fileB N (i + 1)) m1 m2 cl (.slice (some ⟨g, 0, none⟩) (openN N (i + 1)) c) w e w' := by
      rintro hE D hD e w' ⟨rfl, hF, hK⟩
      refine ⟨by rw [hE], hF, fun _ => ?_⟩
      obtain ⟨v', n', xs', r1, r2, r3⟩ := hK rfl
      obtain ⟨e1, e2⟩ := next_dirs hD r3
      exact ⟨v', ⟨xs', r1, by rw [← e1]; exact r2, (fun h => absurd h (Nat.succ_ne_zero _)), e2⟩, hC, Nat.le_trans hb hF.size⟩
    by_cases hd : (N (i + 1)).depth < 1
    · have hE : posE N (i + 1) = 6 := by unfold posE; rw [hshape, if_pos (Or.inl hd)]; rfl
      exact (place_low base C g c _ _ m1 m2 cl _ _ xs (N (i + 1)) (H (i + 1)) w _ hP (by omega) (by omega) hM hs hd).mono (bad 6 hE (by decide))
    by_cases hd2 : (openN N (i + 1) : Int) - (if fileB N (i + 1) = true then 1 else 0) < (N (i + 1)).depth
    · have hE : posE N (i + 1) = 6 := by unfold posE; rw [hshape, if_pos (Or.inr (by rw [← hmost]; exact hd2))]; rfl
      exact (place_high base C g c _ _ m1 m2 cl _ _ xs (N (i + 1)) (H (i + 1)) w _ hP (by omega) (by omega) hM hs hd hd2).mono (bad 6 hE (by decide))
    have hno : ¬ ((N (i + 1)).depth < 1 ∨ (N i).depth + (if (N i).kind = 1 then 1 else 0) < (N (i + 1)).depth) := by rw [← hmost]; exact fun h => h.elim hd hd2
    by_cases hd3 : 8 < (N (i + 1)).depth
    · have hE : posE N (i + 1) = 3 := by unfold posE; rw [hshape, if_neg hno, if_pos hd3]; rfl
      exact (place_long base C g c _ _ m1 m2 cl _ _ xs (N (i + 1)) (H (i + 1)) w _ hP (by omega) (by omega) hM hs hd hd2 hd3).mono (bad 3 hE (by decide))
    have hsh : shapeE N (i + 1) = 0 := by rw [hshape, if_neg hno, if_neg hd3]
    have hpos : posE N (i + 1) = entryE N (i + 1) := by
      unfold posE
      rw [if_neg (by simpa using hsh)]
      by_cases e : entryE N (i + 1) = 0
      · rw [if_neg (fun h => h.2 e), e]
      · rw [if_pos ⟨by omega, e⟩]
    by_cases hn : nameE (N (i + 1)).name = 0
    · obtain ⟨D, hD⟩ : ∃ D : Nat, (N (i + 1)).depth = (D : Int) + 1 := ⟨((N (i + 1)).depth - 1).toNat, by omega⟩
      have hDd : (N (i + 1)).depth - 1 = (D : Int) := by omega
      have h24 := manyF_24 (i + 1) hok (D : Int) (by omega)
      by_cases hm : manyF N (i + 1) D = 0
      · have hE : posE N (i + 1) = 0 := by rw [hpos]; exact entryE_none hn (by rw [hDd]; exact hm)
        exact (place_ok0 base C g c _ _ m1 m2 cl _ _ xs (N (i + 1)) (H (i + 1)) w (fun _ _ _ => True) hP (by omega) (by omega) hM hs D hD (by omega) hd2 hn ⟨by rw [hm]; decide, hm, Nat.le_refl _⟩).mono (good hE D hD)
      · by_cases he : (lastF N (i + 1) D).toList = (N (i + 1)).name.toList
        · have hE : posE N (i + 1) = 8 := by rw [hpos]; exact entryE_twice hn (by rw [hDd]; omega) (by rw [hDd]; exact he)
          exact (place_twice base C g c _ _ m1 m2 cl _ _ xs (N (i + 1)) (H (i + 1)) w _ hP (by omega) (by omega) hM hs D hD (by omega) hd2 hn ⟨by omega, he⟩).mono (bad 8 hE (by decide))
        · cases hb2 : bytesLess (N (i + 1)).name.toList (lastF N (i + 1) D).toList
          · have hrest : entryE N (i + 1) = if 24 ≤ manyF N (i + 1) D then 3 else 0 := by
              unfold entryE
              rw [hDd, if_neg (by simpa using hn), if_neg (fun h => he h.2), if_neg (fun h => by rw [hb2] at h; cases h.2)]
            by_cases h25 : manyF N (i + 1) D = 24
            · have hE : posE N (i + 1) = 3 := by rw [hpos, hrest, if_pos (by omega)]
              exact (place_full base C g c _ _ m1 m2 cl _ _ xs (N (i + 1)) (H (i + 1)) w _ hP (by omega) (by omega) hM hs D hD (by omega) hd2 hn ⟨by omega, he, hb2, h25⟩).mono (bad 3 hE (by decide))
            · have hE : posE N (i + 1) = 0 := by rw [hpos, hrest, if_neg (by omega)]
              exact (place_ok1 base C g c _ _ m1 m2 cl _ _ xs (N (i + 1)) (H (i + 1)) w (fun _ _ _ => True) hP (by omega) (by omega) hM hs D hD (by omega) hd2 hn ⟨h25, by omega, he, hb2⟩).mono (good hE D hD)
          · have hE : posE N (i + 1) = 6 := by
              rw [hpos]; unfold entryE
              rw [hDd, if_neg (by simpa using hn), if_neg (fun h => he h.2), if_pos ⟨by omega, hb2⟩]
            exact (place_order base C g c _ _ m1 m2 cl _ _ xs (N (i + 1)) (H (i + 1)) w _ hP (by omega) (by omega) hM hs D hD (by omega) hd2 hn ⟨by omega, he, hb2⟩).mono (bad 6 hE (by decide))
    · have hE : posE N (i + 1) = nameE (N (i + 1)).name := by rw [hpos]; exact entryE_name hn
      exact (place_name base C g c _ _ m1 m2 cl _ _ xs (N (i + 1)) (H (i + 1)) w _ hP (by omega) (by omega) hM hs hd hd2 hd3 hn).mono (bad _ hE hn)
end Go.Proofs.YtogjfifpbplahaaGreatDoor

namespace Go.Proofs.YtogjfifpbplahaaGreatDoor
open Go.RowKit
open BR
set_option linter.unusedVariables false

theorem sameA_symm {m m' : Nat} {A A' : Nat → BAttr} (h : sameA m A m' A') : sameA m' A' m A := ⟨h.1.symm, fun k hk => by obtain ⟨a, b⟩ := h.2 k (by rw [h.1]; exact hk); exact ⟨a.symm, b.symm⟩⟩
theorem sameA_trans {m m' m'' : Nat} {A A' A'' : Nat → BAttr} (h : sameA m A m' A') (g : sameA m' A' m'' A'') : sameA m A m'' A'' :=
  ⟨h.1.trans g.1, fun k hk => ⟨(h.2 k hk).1.trans (g.2 k (by rw [← h.1]; exact hk)).1, (h.2 k hk).2.trans (g.2 k (by rw [← h.1]; exact hk)).2⟩⟩
theorem like_symm {x y : BNode} (h : likeP x y) : likeP y x := ⟨h.1.symm, h.2.1.symm, h.2.2.1.symm, h.2.2.2.1.symm, sameA_symm h.2.2.2.2⟩
theorem like_trans {x y z : BNode} (h : likeP x y) (g : likeP y z) : likeP x z := ⟨h.1.trans g.1, h.2.1.trans g.2.1, h.2.2.1.trans g.2.2.1, h.2.2.2.1.trans g.2.2.2.1, sameA_trans h.2.2.2.2 g.2.2.2.2⟩
theorem like_pair {N : Nat → BNode} {i j : Nat} (hij : i < j) (h : classE N j = 0) (h0 : 0 < (N j).cls) (he : (N i).cls = (N j).cls) : likeP (N i) (N j) := by
  by_cases e : likeP (N i) (N j)
  · exact e
  · rw [classE_like hij h0 he e] at h; cases h
theorem le_mostC {N : Nat → BNode} : ∀ {k j : Nat}, j < k → (N j).cls ≤ mostC N k
  | 0, _, h => by omega
  | k + 1, j, h => by
    simp only [mostC]
    by_cases e : j = k
    · subst e; exact Int.le_max_right _ _
    · exact Int.le_trans (le_mostC (k := k) (by omega)) (Int.le_max_left _ _)
/-- the maps behind k nodes -/
def MapsAt (w : World) (C m1 m2 k : Nat) (v : Value) (fl : Bool) (N : Nat → BNode) (H : Nat → Hd) : Prop :=
  ∃ f1 f2, ClassAt w C m1 m2 k v fl (mostC N k) f1 f2 ∧ (∀ c : Int, 0 < c → c ≤ mostC N k → ∃ j, j < k ∧ (N j).cls = c ∧ f1 (kI c) = trA (N j) (H j)) ∧ (∀ c : Int, 0 < c → f2 (kI c) = .int .i64 (countC N c k))
theorem kI_ne {a b : Int} (h : a ≠ b) : kI a ≠ kI b := fun e => h (by unfold kI at e; injection e)
/-- what class leaves -/
def RetC2 (C m1 m2 k : Nat) (v : Value) (fl : Bool) (N : Nat → BNode) (H : Nat → Hd) (w : World) (e : Ending) (w' : World) : Prop :=
  e = .returned (.int .i64 (classE N k)) ∧ Fr (fun b => b = C ∨ b = m1 ∨ b = m2) w w' ∧ (classE N k = 0 → MapsAt w' C m1 m2 (k + 1) v fl N H)
set_option maxHeartbeats 1000000 in
theorem class_any (C m1 m2 k : Nat) (v : Value) (fl : Bool) (N : Nat → BNode) (H : Nat → Hd) (w : World) (hM : MapsAt w C m1 m2 k v fl N H) (hk : k ≤ 500) (hok : ∀ j, j < k → classE N j = 0)
    (hT : ∀ j, j ≤ k → NodeT w (N j) (H j)) (hm : ∀ j, j ≤ k → (N j).m ≤ 100) :
    Calls Tryz.prog 72 #[.pointer (some ⟨C, 0, none⟩), trA (N k) (H k)] w (RetC2 C m1 m2 k v fl N H w) := by
  obtain ⟨f1, f2, hC, h1, h2⟩ := hM
  have hb := mostC_bd k hok
  have hcl : 0 ≤ mostC N k ∧ mostC N k ≤ 900 := ⟨hb.1, by omega⟩
  have hn : k ≤ 1000 := by omega
  have bad : classE N k = 6 → ∀ e w', RetC C m1 m2 6 (fun _ => True) w e w' → RetC2 C m1 m2 k v fl N H w e w' := by
    rintro hE e w' ⟨rfl, hF, _⟩
    exact ⟨by rw [hE], hF, fun h => by rw [hE] at h; cases h⟩
  by_cases hneg : (N k).cls < 0
  · have hE : classE N k = 6 := by unfold classE; rw [if_pos (Or.inl hneg)]
    exact (class_low C m1 m2 k v fl _ f1 f2 (N k) (H k) w _ hC hcl hn hneg).mono (bad hE)
  by_cases hz : (N k).cls = 0
  · have hE : classE N k = 0 := by unfold classE; rw [if_neg]; rintro (h | h | h) <;> omega
    refine (class_zero C m1 m2 k v fl _ f1 f2 (N k) (H k) w (fun w' => MapsAt w' C m1 m2 (k + 1) v fl N H) hC hcl hn hz ?_).mono ?_
    · intro w' hF
      have e1 : mostC N (k + 1) = mostC N k := by simp only [mostC]; rw [hz]; omega
      have hC' := hC.fr hF
      refine ⟨f1, f2, ⟨by rw [e1]; exact hC'.row, hC'.first.mono (by omega), hC'.count.mono (by omega), hC'.n1, hC'.n2, hC'.n3⟩, fun c h0 hc => ?_, fun c h0 => ?_⟩
      · rw [e1] at hc
        obtain ⟨j, hj, h3, h4⟩ := h1 c h0 hc
        exact ⟨j, by omega, h3, h4⟩
      · rw [h2 c h0]; simp only [countC]; rw [if_neg (by omega)]; rfl
    · rintro e w' ⟨rfl, hF, hK⟩
      exact ⟨by rw [hE], hF, fun _ => hK rfl⟩
  by_cases hhi : mostC N k + 1 < (N k).cls
  · have hE : classE N k = 6 := by unfold classE; rw [if_pos (Or.inr (Or.inl hhi))]
    exact (class_high C m1 m2 k v fl _ f1 f2 (N k) (H k) w _ hC hcl hn hhi).mono (bad hE)
  have hpos : 0 < (N k).cls := by omega
  have hct := h2 (N k).cls hpos
  have hcle := countC_le N (N k).cls k
  have hcount : ∀ c : Int, 0 < c → updF f2 (kI (N k).cls) (.int .i64 ((countC N (N k).cls k : Int) + 1)) (kI c) = .int .i64 (countC N c (k + 1)) := by
    intro c h0
    simp only [countC]
    by_cases e : c = (N k).cls
    · subst e; rw [updF_same, if_pos rfl]; rfl
    · rw [updF_other _ _ (kI_ne e), h2 c h0, if_neg (fun h => e h.symm)]; rfl
  by_cases hnew : (N k).cls = mostC N k + 1
  · have hE : classE N k = 0 := by
      unfold classE; rw [if_neg]
      rintro (h | h | ⟨_, j, hj, he, _⟩)
      · omega
      · omega
      · have := le_mostC (N := N) hj; omega
    have e1 : mostC N (k + 1) = mostC N k + 1 := by simp only [mostC]; omega
    refine (class_new C m1 m2 k v fl _ f1 f2 (N k) (H k) w (fun _ => True) hC hcl hn hnew (countC N (N k).cls k) (by omega) hct).mono ?_
    rintro e w' ⟨rfl, hF, hK⟩
    refine ⟨by rw [hE], hF, fun _ => ⟨_, _, by rw [e1]; exact hK rfl, fun c h0 hc => ?_, hcount⟩⟩
    by_cases ec : c = (N k).cls
    · subst ec; exact ⟨k, by omega, rfl, updF_same _ _ _⟩
    · obtain ⟨j, hj, h3, h4⟩ := h1 c h0 (by omega)
      exact ⟨j, by omega, h3, by rw [updF_other _ _ (kI_ne ec)]; exact h4⟩
  · obtain ⟨j, hj, h3, h4⟩ := h1 (N k).cls hpos (by omega)
    by_cases hq : likeP (N j) (N k)
    · have hall : ∀ i, i < k → (N i).cls = (N k).cls → likeP (N i) (N k) := by
        intro i hi he
        by_cases eij : i = j
        · subst eij; exact hq
        · by_cases hlt : i < j
          · exact like_trans (like_pair hlt (hok j hj) (by omega) (by omega)) hq
          · exact like_trans (like_symm (like_pair (show j < i by omega) (hok i hi) (by omega) (by omega))) hq
      have hE : classE N k = 0 := by
        unfold classE; rw [if_neg]
        rintro (h | h | ⟨_, i, hi, he, hne⟩)
        · omega
        · omega
        · exact hne (hall i hi he)
      have e1 : mostC N (k + 1) = mostC N k := by simp only [mostC]; omega
      refine (class_old C m1 m2 k v fl _ f1 f2 (N k) (H k) w (fun _ => True) hC hcl hn hpos (by omega) (N j) (H j) h4 (hT j (by omega)) (hT k (Nat.le_refl _)) (hm j (by omega)) (hm k (Nat.le_refl _)) hq (countC N (N k).cls k) (by omega) hct).mono ?_
      rintro e w' ⟨rfl, hF, hK⟩
      refine ⟨by rw [hE], hF, fun _ => ⟨_, _, by rw [e1]; exact hK rfl, fun c h0 hc => ?_, hcount⟩⟩
      obtain ⟨i, hi, h5, h6⟩ := h1 c h0 (by omega)
      exact ⟨i, by omega, h5, h6⟩
    · have hE := classE_like hj hpos h3 hq
      exact (class_unlike C m1 m2 k v fl _ f1 f2 (N k) (H k) w _ hC hcl hn hpos (by omega) (N j) (H j) h4 (hT j (by omega)) (hT k (Nat.le_refl _)) (hm j (by omega)) (hm k (Nat.le_refl _)) hq).mono (bad hE)
theorem DirsAt.fr {w w' : World} {S : Nat → Prop} {base C k : Nat} {N : Nat → BNode} {fl : Bool} {m1 m2 : Value} {cl : Int} {v : Value} (h : DirsAt w base C k N fl m1 m2 cl v) (f : Fr S w w') (hC : ¬ S C) (hv : ∀ g, v.ownBlock = some g → ¬ S g) : DirsAt w' base C k N fl m1 m2 cl v := by
  obtain ⟨⟨xs, h1, h2, h3, h4⟩, h5, h6⟩ := h
  exact ⟨⟨xs, h1.fr f hC, own_fr h2 f hv, h3, h4⟩, h5, Nat.le_trans h6 f.size⟩
theorem DirsAt.own {w : World} {base C k : Nat} {N : Nat → BNode} {fl : Bool} {m1 m2 : Value} {cl : Int} {v : Value} (h : DirsAt w base C k N fl m1 m2 cl v) {g : Nat} (hg : v.ownBlock = some g) : base ≤ g ∧ g < w.heap.size := by
  obtain ⟨⟨xs, h1, h2, h3, h4⟩, h5, h6⟩ := h
  exact h2.lt g hg
theorem MapsAt.fr {w w' : World} {C m1 m2 k : Nat} {v : Value} {fl : Bool} {N : Nat → BNode} {H : Nat → Hd} (h : MapsAt w C m1 m2 k v fl N H) (f : Fr (fun _ => False) w w') : MapsAt w' C m1 m2 k v fl N H := by
  obtain ⟨f1, f2, h1, h2⟩ := h
  exact ⟨f1, f2, h1.fr f, h2⟩
theorem DirsAt.row {w : World} {base C k : Nat} {N : Nat → BNode} {fl : Bool} {m1 m2 : Value} {cl : Int} {v : Value} (h : DirsAt w base C k N fl m1 m2 cl v) : RowB w C 104 [v, .bool fl, m1, m2, .int .i64 cl] := by
  obtain ⟨⟨xs, h1, _⟩, _, _⟩ := h
  exact h1
/-- the maps, when another row of the checker has been written -/
theorem MapsAt.row {w w' : World} {S : Nat → Prop} {C m1 m2 k : Nat} {v v' : Value} {fl fl' : Bool} {N : Nat → BNode} {H : Nat → Hd} (h : MapsAt w C m1 m2 k v fl N H) (f : Fr S w w') (h1 : ¬ S m1) (h2 : ¬ S m2)
    (hR : RowB w' C 104 [v', .bool fl', .map (some m1), .map (some m2), .int .i64 (mostC N k)]) : MapsAt w' C m1 m2 k v' fl' N H := by
  obtain ⟨f1, f2, hc, h3⟩ := h
  exact ⟨f1, f2, ⟨hR, hc.first.fr f h1, hc.count.fr f h2, hc.n1, hc.n2, hc.n3⟩, h3⟩
theorem DirsAt.reRow {w w' : World} {S : Nat → Prop} {base C k : Nat} {N : Nat → BNode} {fl fl' : Bool} {m1 m2 : Value} {cl cl' : Int} {v : Value} (h : DirsAt w base C k N fl m1 m2 cl v) (f : Fr S w w') (hv : ∀ g, v.ownBlock = some g → ¬ S g)
    (hR : RowB w' C 104 [v, .bool fl', m1, m2, .int .i64 cl']) : DirsAt w' base C k N fl' m1 m2 cl' v := by
  obtain ⟨⟨xs, h1, h2, h3, h4⟩, h5, h6⟩ := h
  exact ⟨⟨xs, hR, own_fr h2 f hv, h3, h4⟩, h5, Nat.le_trans h6 f.size⟩
/-- the checker behind k nodes -/
structure ChAt (w : World) (base C m1 m2 k : Nat) (N : Nat → BNode) (H : Nat → Hd) (v : Value) : Prop where
  dirs : DirsAt w base C k N (fileB N k) (.map (some m1)) (.map (some m2)) (mostC N k) v
  maps : MapsAt w C m1 m2 k v (fileB N k) N H
  lt1 : m1 < base
  lt2 : m2 < base
theorem ChAt.fr {w w' : World} {base C m1 m2 k : Nat} {N : Nat → BNode} {H : Nat → Hd} {v : Value} (h : ChAt w base C m1 m2 k N H v) (f : Fr (fun _ => False) w w') : ChAt w' base C m1 m2 k N H v :=
  ⟨h.dirs.fr f (fun h => h) (fun _ _ h => h), h.maps.fr f, h.lt1, h.lt2⟩
/-- the blocks that a node may turn; what node leaves -/
def SN (base C m1 m2 b : Nat) : Prop := b = C ∨ b = m1 ∨ b = m2 ∨ base ≤ b
def RetN2 (base C m1 m2 k : Nat) (N : Nat → BNode) (H : Nat → Hd) (w : World) (e : Ending) (w' : World) : Prop :=
  e = .returned (.int .i64 (nodeE N k)) ∧ Fr (SN base C m1 m2) w w' ∧ (nodeE N k = 0 → ∃ v', ChAt w' base C m1 m2 (k + 1) N H v')
set_option maxRecDepth 100000 in
set_option maxHeartbeats 4000000 in
theorem node_walk (base C m1 m2 k : Nat) (N : Nat → BNode) (H : Nat → Hd) (v : Value) (w : World) (hS : ChAt w base C m1 m2 k N H v) (hk : k ≤ 500) (hok : ∀ j, j < k → nodeE N j = 0)
    (hT : ∀ w0, Fr (SN base C m1 m2) w w0 → ∀ j, j ≤ k → NodeT w0 (N j) (H j)) (hf : ∀ j, j ≤ k → Fine (N j)) :
    Calls Tryz.prog 49 #[.pointer (some ⟨C, 0, none⟩), trA (N k) (H k)] w (RetN2 base C m1 m2 k N H w) := by
  have HS := Lib.hid hS
  have HT := Lib.hid hT
  have HFi := Lib.hid hf
  have hCl : C < w.heap.size := by obtain ⟨⟨xs, h1, _⟩, _, _⟩ := hS.dirs; exact h1.lt
  have HL := Lib.hid (And.intro hS.dirs.lt (And.intro hS.lt1 (And.intro hS.lt2 hS.dirs.le)))
  have HOK := Lib.hid hok
  have CP := Lib.hid (fun (w0 : World) (h0 : DirsAt w0 base C k N (fileB N k) (.map (some m1)) (.map (some m2)) (mostC N k) v) => place_any base C k N H (.map (some m1)) (.map (some m2)) (mostC N k) v w0 h0 hk hok (hf k (Nat.le_refl _)).1)
  have CF := Lib.hid (fun (w0 : World) => fields_walk (N k) (H k) w0 (hf k (Nat.le_refl _)).2.1 (hf k (Nat.le_refl _)).2.2.1)
  have CA := Lib.hid (fun (w0 : World) (hN : NodeT w0 (N k) (H k)) => attrs_walk (N k).m (H k).cA (H k).aA (N k).A w0 hN.1 hN.2 (hf k (Nat.le_refl _)).2.2.2 (hf k (Nat.le_refl _)).2.2.1)
  have CC := Lib.hid (fun (w0 : World) (v0 : Value) (hM : MapsAt w0 C m1 m2 k v0 (fileB N (k + 1)) N H) (hT0 : ∀ j, j ≤ k → NodeT w0 (N j) (H j)) => class_any C m1 m2 k v0 (fileB N (k + 1)) N H w0 hM hk (fun j hj => (nodeE_parts (hok j hj)).2.2.2.2) hT0 (fun j hj => (hf j hj).2.2.1))
  have HB := Lib.hid (RowB.new w 106 (trV (N k) (H k)))
  have HF0 := Lib.hid ((Fr.refl (fun _ => False) w).alloc (Obj.cells (trV (N k) (H k)).toArray 106))
  clear hS hT hf hok
  unfold trA at CP CF CC ⊢
  simp only [trV] at HB HF0
  by_cases hp : posE N k = 0
  · obtain ⟨hsh, hen⟩ := posE_zero hp
    have CP0 : Hid (∀ (w0 : World), DirsAt w0 base C k N (fileB N k) (.map (some m1)) (.map (some m2)) (mostC N k) v → Calls Tryz.prog 69 #[.pointer (some ⟨C, 0, none⟩), .agg #[.int .i64 (N k).depth, .string (N k).name, .int .i64 (N k).kind, .slice (H k).aA (N k).m (H k).cA, .string (N k).data, .int .i64 (N k).major, .int .i64 (N k).minor, .int .i64 (N k).cls]] w0
        (fun e w' => e = .returned (.int .i64 0) ∧ Fr (fun b => b = C ∨ v.ownBlock = some b) w0 w' ∧ ∃ v1, DirsAt w' base C (k + 1) N (fileB N k) (.map (some m1)) (.map (some m2)) (mostC N k) v1)) :=
      Lib.hid (fun w0 h0 => (CP.out w0 h0).mono (fun e w' h => ⟨by rw [h.1, hp], h.2.1, h.2.2 hp⟩))
    have HNB := Lib.hid (show C ≠ w.heap.size ∧ ¬ v.ownBlock = some w.heap.size from ⟨by omega, fun e => by have := (HS.out.dirs.own e).2; omega⟩)
    have HFR : Hid (∀ w2 w1, Fr (fun b => b = C ∨ v.ownBlock = some b) _ w1 → Fr (fun _ => False) w1 w2 → Fr (SN base C m1 m2) w w2) := Lib.hid (fun w2 w1 h1 h2 => ((HF0.out.up.trans h1 (fun b _ hb => hb.elim (fun e => Or.inl e) (fun e => Or.inr (Or.inr (Or.inr (HS.out.dirs.own e).1))))).trans h2 (fun _ _ h => h.elim)))
    clear CP hp
    by_cases hkd : kindE (N k) = 0
    · rw [hkd] at CF
      by_cases hat : attrE (N k).m (N k).A = 0
      · rw [hat] at CA
        have HE := Lib.hid (nodeE_class hsh hen hkd hat)
        have HFB := Lib.hid (show fileB N (k + 1) = ((N k).kind != 1) by simp only [fileB]; by_cases e : (N k).kind = 1 <;> simp [e])
        rw [HFB.out] at CC
        clear hkd hat hsh hen
        go_enter Tryz.func49, Tryz.ntmps49
        go_upto_region 11 with (first
          | (go_at_call 69; go_must (refine (CP0.out _ (HS.out.fr HF0.out).dirs).mono ?_; rintro e w1 ⟨rfl, hF, v1, hD1⟩; have hb := HB.out.fr hF (fun h => HNB.out.elim (fun x y => h.elim (fun e => x e.symm) y)); have b0 : w1.cell? ⟨w.heap.size, 0, none⟩ = some (.int .i64 (N k).depth) := hb.cell 0; have b1 : w1.cell? ⟨w.heap.size, 1, none⟩ = some (.string (N k).name) := hb.cell 1; have b2 : w1.cell? ⟨w.heap.size, 2, none⟩ = some (.int .i64 (N k).kind) := hb.cell 2; have b3 : w1.cell? ⟨w.heap.size, 3, none⟩ = some (.slice (H k).aA (N k).m (H k).cA) := hb.cell 3; have b4 : w1.cell? ⟨w.heap.size, 4, none⟩ = some (.string (N k).data) := hb.cell 4; have b5 : w1.cell? ⟨w.heap.size, 5, none⟩ = some (.int .i64 (N k).major) := hb.cell 5; have b6 : w1.cell? ⟨w.heap.size, 6, none⟩ = some (.int .i64 (N k).minor) := hb.cell 6; have b7 : w1.cell? ⟨w.heap.size, 7, none⟩ = some (.int .i64 (N k).cls) := hb.cell 7; have HB1 := Lib.hid hb; have HD1 := Lib.hid hD1; have HF1 := Lib.hid hF; clear hF hD1 hb))
          | (go_at_call 70; go_must (refine (CF.out _).mono ?_; rintro e w2 ⟨rfl, hF⟩; have hb := HB1.out.fr hF (fun h => h); clear b0 b1 b2 b3 b4 b5 b6 b7; have b0 : w2.cell? ⟨w.heap.size, 0, none⟩ = some (.int .i64 (N k).depth) := hb.cell 0; have b1 : w2.cell? ⟨w.heap.size, 1, none⟩ = some (.string (N k).name) := hb.cell 1; have b2 : w2.cell? ⟨w.heap.size, 2, none⟩ = some (.int .i64 (N k).kind) := hb.cell 2; have b3 : w2.cell? ⟨w.heap.size, 3, none⟩ = some (.slice (H k).aA (N k).m (H k).cA) := hb.cell 3; have b4 : w2.cell? ⟨w.heap.size, 4, none⟩ = some (.string (N k).data) := hb.cell 4; have b5 : w2.cell? ⟨w.heap.size, 5, none⟩ = some (.int .i64 (N k).major) := hb.cell 5; have b6 : w2.cell? ⟨w.heap.size, 6, none⟩ = some (.int .i64 (N k).minor) := hb.cell 6; have b7 : w2.cell? ⟨w.heap.size, 7, none⟩ = some (.int .i64 (N k).cls) := hb.cell 7; have HB2 := Lib.hid hb; have HF2 := Lib.hid hF; clear hF hb))
          | (go_at_call 71; go_must (refine (CA.out _ (HT.out w2 (HFR.out w2 w1 HF1.out HF2.out) k (Nat.le_refl _))).mono ?_; rintro e w3 ⟨rfl, hF⟩; have hb := HB2.out.fr hF (fun h => h); clear b0 b1 b2 b3 b4 b5 b6 b7; have b0 : w3.cell? ⟨w.heap.size, 0, none⟩ = some (.int .i64 (N k).depth) := hb.cell 0; have b1 : w3.cell? ⟨w.heap.size, 1, none⟩ = some (.string (N k).name) := hb.cell 1; have b2 : w3.cell? ⟨w.heap.size, 2, none⟩ = some (.int .i64 (N k).kind) := hb.cell 2; have b3 : w3.cell? ⟨w.heap.size, 3, none⟩ = some (.slice (H k).aA (N k).m (H k).cA) := hb.cell 3; have b4 : w3.cell? ⟨w.heap.size, 4, none⟩ = some (.string (N k).data) := hb.cell 4; have b5 : w3.cell? ⟨w.heap.size, 5, none⟩ = some (.int .i64 (N k).major) := hb.cell 5; have b6 : w3.cell? ⟨w.heap.size, 6, none⟩ = some (.int .i64 (N k).minor) := hb.cell 6; have b7 : w3.cell? ⟨w.heap.size, 7, none⟩ = some (.int .i64 (N k).cls) := hb.cell 7; have HB3 := Lib.hid hb; have HF3 := Lib.hid (HF2.out.then hF); have hr := HD1.out.row.fr HF3.out (fun h => h); have c1 : w3.cell? ⟨C, 1, none⟩ = some (.bool (fileB N k)) := hr.cell 1; have f1 := hr.frozen 1; have hC3 : C < w3.heap.size := hr.lt; have hB3 : ¬ w.heap.size = C := HNB.out.1 ∘ Eq.symm; clear hF hb hr))
          | fail)
        have hD1 := HD1.out.fr (HF3.out) (fun h => h) (fun _ _ h => h)
        have hF4 : Fr (fun b => b = C) w3 (w3.setCell ⟨C, 1, none⟩ (.bool ((N k).kind != 1))) := Fr.setCell (S := fun b => b = C) (Fr.refl _ w3) (a := ⟨C, 1, none⟩) (fun _ => rfl) _
        have hR4 : RowB (w3.setCell ⟨C, 1, none⟩ (.bool ((N k).kind != 1))) C 104 [v1, .bool ((N k).kind != 1), .map (some m1), .map (some m2), .int .i64 (mostC N k)] := hD1.row.set 1 _
        have hnC := HS.out.maps
        have hM4 : MapsAt (w3.setCell ⟨C, 1, none⟩ (.bool ((N k).kind != 1))) C m1 m2 k v1 ((N k).kind != 1) N H := by
          obtain ⟨g1, g2, hc, _⟩ := HS.out.maps
          have x1 := hc.n1
          have x2 := hc.n2
          have y : ∀ g, v.ownBlock = some g → base ≤ g := fun g hg => (HS.out.dirs.own hg).1
          have l1 := HL.out.2.1
          have l2 := HL.out.2.2.1
          refine (((((HS.out.maps.fr HF0.out).row (v' := v1) (fl' := fileB N k) HF1.out ?_ ?_ HD1.out.row).fr HF3.out)).row hF4 x1 x2 hR4)
          · rintro (e | e)
            · exact x1 e
            · have := y _ e; omega
          · rintro (e | e)
            · exact x2 e
            · have := y _ e; omega
        have hF04 : Fr (SN base C m1 m2) w (w3.setCell ⟨C, 1, none⟩ (.bool ((N k).kind != 1))) := (HFR.out w3 w1 HF1.out HF3.out).trans hF4 (fun b _ e => Or.inl e)
        have hD4 := hD1.reRow hF4 (fun g hg e => by have := (hD1.own hg).1; have := HL.out.1; omega) hR4
        have hb4 := HB3.out.fr hF4 (fun e => HNB.out.1 e.symm)
        clear hnC hD1 hF4 hR4 c1 f1 b0 b1 b2 b3 b4 b5 b6 b7
        have HM4 := Lib.hid hM4
        have HF04 := Lib.hid hF04
        have HD4 := Lib.hid hD4
        generalize w3.setCell ⟨C, 1, none⟩ (.bool ((N k).kind != 1)) = w4 at *
        have b0 : w4.cell? ⟨w.heap.size, 0, none⟩ = some (.int .i64 (N k).depth) := hb4.cell 0; have b1 : w4.cell? ⟨w.heap.size, 1, none⟩ = some (.string (N k).name) := hb4.cell 1; have b2 : w4.cell? ⟨w.heap.size, 2, none⟩ = some (.int .i64 (N k).kind) := hb4.cell 2; have b3 : w4.cell? ⟨w.heap.size, 3, none⟩ = some (.slice (H k).aA (N k).m (H k).cA) := hb4.cell 3; have b4 : w4.cell? ⟨w.heap.size, 4, none⟩ = some (.string (N k).data) := hb4.cell 4; have b5 : w4.cell? ⟨w.heap.size, 5, none⟩ = some (.int .i64 (N k).major) := hb4.cell 5; have b6 : w4.cell? ⟨w.heap.size, 6, none⟩ = some (.int .i64 (N k).minor) := hb4.cell 6; have b7 : w4.cell? ⟨w.heap.size, 7, none⟩ = some (.int .i64 (N k).cls) := hb4.cell 7
        clear hM4 hF04 hD4 hb4
        go_wp2_with (go_at_call 72; go_must (refine (CC.out _ v1 HM4.out (fun j hj => HT.out _ HF04.out j hj)).mono ?_; rintro e w5 ⟨rfl, hF, hK⟩; have HF5 := Lib.hid hF; have HK5 := Lib.hid hK; clear hF hK))
        go_ret
        refine ⟨by rw [HE.out] <;> rfl, HF04.out.trans HF5.out (fun b _ hb => ?_), fun h => ⟨v1, ?_, ?_, HL.out.2.1, HL.out.2.2.1⟩⟩
        · rcases hb with e | e | e
          · exact Or.inl e
          · exact Or.inr (Or.inl e)
          · exact Or.inr (Or.inr (Or.inl e))
        · have hm := HK5.out (HE.out.symm.trans h)
          have hr : RowB w5 C 104 [v1, .bool (fileB N (k + 1)), .map (some m1), .map (some m2), .int .i64 (mostC N (k + 1))] := by
            obtain ⟨g1, g2, hc, _⟩ := hm
            rw [HFB.out]; exact hc.row
          refine HD4.out.reRow HF5.out (fun g hg e => ?_) hr
          have := (HD4.out.own hg).1
          have := HL.out
          rcases e with e | e | e <;> omega
        · have hm := HK5.out (HE.out.symm.trans h)
          rw [HFB.out]; exact hm
      · have HE := Lib.hid (nodeE_attr hsh hen hkd hat)
        have q0 : (attrE (N k).m (N k).A != 0) = true := by simpa using hat
        have HZ := Lib.hid hat
        clear hkd hat hsh hen
        generalize attrE (N k).m (N k).A = E at *
        go_enter Tryz.func49, Tryz.ntmps49
        go_wp2_with (first
          | (go_at_call 69; go_must (refine (CP0.out _ (HS.out.fr HF0.out).dirs).mono ?_; rintro e w1 ⟨rfl, hF, v1, hD1⟩; have hb := HB.out.fr hF (fun h => HNB.out.elim (fun x y => h.elim (fun e => x e.symm) y)); have b0 : w1.cell? ⟨w.heap.size, 0, none⟩ = some (.int .i64 (N k).depth) := hb.cell 0; have b1 : w1.cell? ⟨w.heap.size, 1, none⟩ = some (.string (N k).name) := hb.cell 1; have b2 : w1.cell? ⟨w.heap.size, 2, none⟩ = some (.int .i64 (N k).kind) := hb.cell 2; have b3 : w1.cell? ⟨w.heap.size, 3, none⟩ = some (.slice (H k).aA (N k).m (H k).cA) := hb.cell 3; have b4 : w1.cell? ⟨w.heap.size, 4, none⟩ = some (.string (N k).data) := hb.cell 4; have b5 : w1.cell? ⟨w.heap.size, 5, none⟩ = some (.int .i64 (N k).major) := hb.cell 5; have b6 : w1.cell? ⟨w.heap.size, 6, none⟩ = some (.int .i64 (N k).minor) := hb.cell 6; have b7 : w1.cell? ⟨w.heap.size, 7, none⟩ = some (.int .i64 (N k).cls) := hb.cell 7; have HB1 := Lib.hid hb; have HD1 := Lib.hid hD1; have HF1 := Lib.hid hF; clear hF hD1 hb))
          | (go_at_call 70; go_must (refine (CF.out _).mono ?_; rintro e w2 ⟨rfl, hF⟩; have hb := HB1.out.fr hF (fun h => h); clear b0 b1 b2 b3 b4 b5 b6 b7; have b0 : w2.cell? ⟨w.heap.size, 0, none⟩ = some (.int .i64 (N k).depth) := hb.cell 0; have b1 : w2.cell? ⟨w.heap.size, 1, none⟩ = some (.string (N k).name) := hb.cell 1; have b2 : w2.cell? ⟨w.heap.size, 2, none⟩ = some (.int .i64 (N k).kind) := hb.cell 2; have b3 : w2.cell? ⟨w.heap.size, 3, none⟩ = some (.slice (H k).aA (N k).m (H k).cA) := hb.cell 3; have b4 : w2.cell? ⟨w.heap.size, 4, none⟩ = some (.string (N k).data) := hb.cell 4; have b5 : w2.cell? ⟨w.heap.size, 5, none⟩ = some (.int .i64 (N k).major) := hb.cell 5; have b6 : w2.cell? ⟨w.heap.size, 6, none⟩ = some (.int .i64 (N k).minor) := hb.cell 6; have b7 : w2.cell? ⟨w.heap.size, 7, none⟩ = some (.int .i64 (N k).cls) := hb.cell 7; have HB2 := Lib.hid hb; have HF2 := Lib.hid hF; clear hF hb))
          | (go_at_call 71; go_must (refine (CA.out _ (HT.out w2 (HFR.out w2 w1 HF1.out HF2.out) k (Nat.le_refl _))).mono ?_; rintro e w3 ⟨rfl, hF⟩; have hb := HB2.out.fr hF (fun h => h); clear b0 b1 b2 b3 b4 b5 b6 b7; have b0 : w3.cell? ⟨w.heap.size, 0, none⟩ = some (.int .i64 (N k).depth) := hb.cell 0; have b1 : w3.cell? ⟨w.heap.size, 1, none⟩ = some (.string (N k).name) := hb.cell 1; have b2 : w3.cell? ⟨w.heap.size, 2, none⟩ = some (.int .i64 (N k).kind) := hb.cell 2; have b3 : w3.cell? ⟨w.heap.size, 3, none⟩ = some (.slice (H k).aA (N k).m (H k).cA) := hb.cell 3; have b4 : w3.cell? ⟨w.heap.size, 4, none⟩ = some (.string (N k).data) := hb.cell 4; have b5 : w3.cell? ⟨w.heap.size, 5, none⟩ = some (.int .i64 (N k).major) := hb.cell 5; have b6 : w3.cell? ⟨w.heap.size, 6, none⟩ = some (.int .i64 (N k).minor) := hb.cell 6; have b7 : w3.cell? ⟨w.heap.size, 7, none⟩ = some (.int .i64 (N k).cls) := hb.cell 7; have HB3 := Lib.hid hb; have HF3 := Lib.hid (HF2.out.then hF); have hr := HD1.out.row.fr HF3.out (fun h => h); have c1 : w3.cell? ⟨C, 1, none⟩ = some (.bool (fileB N k)) := hr.cell 1; have f1 := hr.frozen 1; have hC3 : C < w3.heap.size := hr.lt; have hB3 : ¬ w.heap.size = C := HNB.out.1 ∘ Eq.symm; clear hF hb hr))
          | fail)
        go_ret
        exact ⟨by rw [HE.out] <;> rfl, HFR.out w3 w1 HF1.out HF3.out, fun h => absurd (HE.out.symm.trans h) HZ.out⟩
    · have HE := Lib.hid (nodeE_kind hsh hen hkd)
      have q0 : (kindE (N k) != 0) = true := by simpa using hkd
      have HZ := Lib.hid hkd
      clear hkd hsh hen
      generalize kindE (N k) = E at *
      go_enter Tryz.func49, Tryz.ntmps49
      go_wp2_with (first
        | (go_at_call 69; go_must (refine (CP0.out _ (HS.out.fr HF0.out).dirs).mono ?_; rintro e w1 ⟨rfl, hF, v1, hD1⟩; have hb := HB.out.fr hF (fun h => HNB.out.elim (fun x y => h.elim (fun e => x e.symm) y)); have b0 : w1.cell? ⟨w.heap.size, 0, none⟩ = some (.int .i64 (N k).depth) := hb.cell 0; have b1 : w1.cell? ⟨w.heap.size, 1, none⟩ = some (.string (N k).name) := hb.cell 1; have b2 : w1.cell? ⟨w.heap.size, 2, none⟩ = some (.int .i64 (N k).kind) := hb.cell 2; have b3 : w1.cell? ⟨w.heap.size, 3, none⟩ = some (.slice (H k).aA (N k).m (H k).cA) := hb.cell 3; have b4 : w1.cell? ⟨w.heap.size, 4, none⟩ = some (.string (N k).data) := hb.cell 4; have b5 : w1.cell? ⟨w.heap.size, 5, none⟩ = some (.int .i64 (N k).major) := hb.cell 5; have b6 : w1.cell? ⟨w.heap.size, 6, none⟩ = some (.int .i64 (N k).minor) := hb.cell 6; have b7 : w1.cell? ⟨w.heap.size, 7, none⟩ = some (.int .i64 (N k).cls) := hb.cell 7; have HB1 := Lib.hid hb; have HD1 := Lib.hid hD1; have HF1 := Lib.hid hF; clear hF hD1 hb))
        | (go_at_call 70; go_must (refine (CF.out _).mono ?_; rintro e w2 ⟨rfl, hF⟩; have hb := HB1.out.fr hF (fun h => h); clear b0 b1 b2 b3 b4 b5 b6 b7; have b0 : w2.cell? ⟨w.heap.size, 0, none⟩ = some (.int .i64 (N k).depth) := hb.cell 0; have b1 : w2.cell? ⟨w.heap.size, 1, none⟩ = some (.string (N k).name) := hb.cell 1; have b2 : w2.cell? ⟨w.heap.size, 2, none⟩ = some (.int .i64 (N k).kind) := hb.cell 2; have b3 : w2.cell? ⟨w.heap.size, 3, none⟩ = some (.slice (H k).aA (N k).m (H k).cA) := hb.cell 3; have b4 : w2.cell? ⟨w.heap.size, 4, none⟩ = some (.string (N k).data) := hb.cell 4; have b5 : w2.cell? ⟨w.heap.size, 5, none⟩ = some (.int .i64 (N k).major) := hb.cell 5; have b6 : w2.cell? ⟨w.heap.size, 6, none⟩ = some (.int .i64 (N k).minor) := hb.cell 6; have b7 : w2.cell? ⟨w.heap.size, 7, none⟩ = some (.int .i64 (N k).cls) := hb.cell 7; have HB2 := Lib.hid hb; have HF2 := Lib.hid hF; clear hF hb))
        | fail)
      go_ret
      exact ⟨by rw [HE.out] <;> rfl, HFR.out w2 w1 HF1.out HF2.out, fun h => absurd (HE.out.symm.trans h) HZ.out⟩
  · have HE := Lib.hid (posE_node hp)
    have HFR : Hid (∀ w1, Fr (fun b => b = C ∨ v.ownBlock = some b) _ w1 → Fr (SN base C m1 m2) w w1) := Lib.hid (fun w1 h1 => (HF0.out.up.trans h1 (fun b _ hb => hb.elim (fun e => Or.inl e) (fun e => Or.inr (Or.inr (Or.inr (HS.out.dirs.own e).1))))))
    have q0 : (posE N k != 0) = true := by simpa using hp
    have HZ := Lib.hid hp
    have CP0 : Hid (∀ (w0 : World), DirsAt w0 base C k N (fileB N k) (.map (some m1)) (.map (some m2)) (mostC N k) v → Calls Tryz.prog 69 #[.pointer (some ⟨C, 0, none⟩), .agg #[.int .i64 (N k).depth, .string (N k).name, .int .i64 (N k).kind, .slice (H k).aA (N k).m (H k).cA, .string (N k).data, .int .i64 (N k).major, .int .i64 (N k).minor, .int .i64 (N k).cls]] w0
        (fun e w' => e = .returned (.int .i64 (posE N k)) ∧ Fr (fun b => b = C ∨ v.ownBlock = some b) w0 w')) :=
      Lib.hid (fun w0 h0 => (CP.out w0 h0).mono (fun e w' h => ⟨h.1, h.2.1⟩))
    clear hp CP
    generalize posE N k = E at *
    go_enter Tryz.func49, Tryz.ntmps49
    go_wp2_with (go_at_call 69; go_must (refine (CP0.out _ (HS.out.fr HF0.out).dirs).mono ?_; rintro e w1 ⟨rfl, hF⟩; have HF1 := Lib.hid hF; clear hF))
    go_ret
    exact ⟨by rw [HE.out] <;> rfl, HFR.out w1 HF1.out, fun h => absurd (HE.out.symm.trans h) HZ.out⟩
end Go.Proofs.YtogjfifpbplahaaGreatDoor

namespace Go.Proofs.YtogjfifpbplahaaGreatDoor
open Go.RowKit
open BR
set_option linter.unusedVariables false

/-- what the closure reads -/
structure LoneAt (w : World) (V C m2 n : Nat) (f2 : Lit → Value) : Prop where
  var : RowB w V 99 [.pointer (some ⟨C, 0, none⟩)]
  row : w.cell? ⟨C, 3, none⟩ = some (.map (some m2))
  lt : C < w.heap.size
  count : MapAt w Tryz.prog 3 m2 n (.int .i64 0) f2
theorem LoneAt.fr {w w' : World} {V C m2 n : Nat} {f2 : Lit → Value} (h : LoneAt w V C m2 n f2) (f : Fr (fun _ => False) w w') : LoneAt w' V C m2 n f2 :=
  ⟨h.var.fr f (fun h => h), f.cell (p := ⟨C, 3, none⟩) h.lt (fun h => h) h.row, Nat.lt_of_lt_of_le h.lt f.size, h.count.fr f (fun h => h)⟩
set_option maxRecDepth 100000 in
set_option maxHeartbeats 4000000 in
theorem lone_walk (x : BNode) (h : Hd) (V C m2 n ct : Nat) (f2 : Lit → Value) (w : World) (hL : LoneAt w V C m2 n f2) (hc : 0 < x.cls → x.cls ≤ 1000 ∧ f2 (kI x.cls) = .int .i64 ct) (q : Bool) (hq : q = true ↔ 0 < x.cls ∧ ct = 1) :
    Calls Tryz.prog 51 #[trA x h, .pointer (some ⟨V, 0, none⟩)] w (Ret (.bool q) w) := by
  have HL := Lib.hid hL
  have HQ := Lib.hid hq
  clear hq hL
  obtain ⟨d, nm, kd, m, A, dt, mj, mi, cls, op, r, R⟩ := x
  dsimp only at *
  unfold trA
  dsimp only
  have HF0 := Lib.hid ((Fr.refl (fun _ => False) w).alloc (Obj.cells #[.int .i64 d, .string nm, .int .i64 kd, .slice h.aA m h.cA, .string dt, .int .i64 mj, .int .i64 mi, .int .i64 cls] 106))
  have HB := Lib.hid (RowB.new w 106 [.int .i64 d, .string nm, .int .i64 kd, .slice h.aA m h.cA, .string dt, .int .i64 mj, .int .i64 mi, .int .i64 cls])
  by_cases hp : 0 < cls
  · obtain ⟨h1, h2⟩ := hc hp
    have HK := Lib.hid (key_int (z := cls) (by omega) h1)
    have HL1 := Lib.hid (HL.out.fr HF0.out)
    have hlk := fun (w9 : World) (g9 : Fr (fun _ => False) _ w9) => (HL1.out.count.fr g9 (fun h => h)).look keyed_int Tryz.underlying101 (zero_int _) HK.out
    rw [h2] at hlk
    have HLK := Lib.hid hlk
    clear hlk
    have p1 : decide (0 < cls) = true := by simpa using hp
    have HE0 : q = ((ct : Int) == 1) := by
      have hh := HQ.out
      by_cases e : ct = 1
      · rw [hh.2 ⟨hp, e⟩]; simp [e]
      · have : q = false := by cases q with | false => rfl | true => exact absurd (hh.1 rfl).2 e
        rw [this]; simp; omega
    cases e1 : ((ct : Int) == 1)
    all_goals
      rw [e1] at HE0
      have HE := Lib.hid HE0
      clear h2 hc HE0
      go_enter Tryz.func51, Tryz.ntmps51
      go_upto_region 1 with fail
      change Code.wp _ _ _ _ (w.alloc (Obj.cells #[.int .i64 d, .string nm, .int .i64 kd, .slice h.aA m h.cA, .string dt, .int .i64 mj, .int .i64 mi, .int .i64 cls] 106))
      generalize w.alloc (Obj.cells #[.int .i64 d, .string nm, .int .i64 kd, .slice h.aA m h.cA, .string dt, .int .i64 mj, .int .i64 mi, .int .i64 cls] 106) = W at *
      have v0 : W.cell? ⟨V, 0, none⟩ = some (.pointer (some ⟨C, 0, none⟩)) := HL1.out.var.cell 0
      have c3 := HL1.out.row
      have hCl := HL1.out.lt
      have b7 : W.cell? ⟨w.heap.size, 7, none⟩ = some (.int .i64 cls) := HB.out.cell 7
      have hlk : ∀ q9, (Instr.lookup 101 (.map (some m2)) (.int .i64 cls) false).run Tryz.prog (W.drewN q9) = .ok (.int .i64 ct) (W.drewN q9) := fun q9 => HLK.out _ ((Fr.refl _ W).drewN q9)
      go_quiet (fail)
      go_wp2_with fail
      go_ret
      exact ⟨by rw [HE.out] <;> rfl, HF0.out.drewN _⟩
  · have p1 : decide (0 < cls) = false := by simpa using hp
    have HE := Lib.hid (show q = false by cases q with | false => rfl | true => exact absurd (HQ.out.1 rfl).1 hp)
    clear hc
    go_enter Tryz.func51, Tryz.ntmps51
    go_wp2_with fail
    go_quiet (fail)
    go_wp2_with fail
    go_ret
    exact ⟨by rw [HE.out] <;> rfl, HF0.out.drewN _⟩
set_option maxRecDepth 100000 in
set_option maxHeartbeats 4000000 in
theorem index_walk (V C m2 k n c : Nat) (a0 : Option Addr) (N : Nat → BNode) (H : Nat → Hd) (f2 : Lit → Value) (w : World) (hT : TreeAt w a0 n N H) (hn : n ≤ 500) (hL : LoneAt w V C m2 k f2) (hc : ∀ j, j < n → 0 < (N j).cls → (N j).cls ≤ 1000 ∧ f2 (kI (N j).cls) = .int .i64 (countC N (N j).cls n)) :
    Calls Tryz.prog 50 #[.slice a0 n c, .func (.func 51) #[] #[.pointer (some ⟨V, 0, none⟩)]] w
      (fun e w' => ∃ i : Int, e = .returned (.int .i64 i) ∧ Fr (fun _ => False) w w' ∧ (0 ≤ i ↔ ∃ j, j < n ∧ loneP n N j)) := by
  have HT := Lib.hid hT
  have HL := Lib.hid hL
  have HC := Lib.hid hc
  clear hT hL hc
  go_enter Tryz.func50, Tryz.ntmps50
  go_wp2_with fail
  go_loopw [5, 8] (fun _ i wr => ∃ k : Nat, k ≤ n ∧ i = .int .i64 k ∧ Fr (fun _ => False) w wr ∧ Hid (∀ j, j < k → ¬ loneP n N j)) (fun _ i _ => n - (intOf i).toNat)
  case atStart => exact ⟨0, by omega, rfl, Fr.refl _ _, Lib.hid (fun j hj => by omega)⟩
  case round =>
    obtain ⟨k, hk, rfl, hF, HJ⟩ := hrel
    by_cases hlt : k < n
    · obtain ⟨b, o, rfl, hb, hcc⟩ := HT.out.get (by omega)
      obtain ⟨c0, c1, c2, c3, c4, c5, c6, c7⟩ := hcc wr hF k hlt
      have g1 : (0 : Int) ≤ (k : Int) := by omega
      have g2 : (k : Int) < n := by omega
      have HF := Lib.hid hF
      clear hF hcc
      by_cases hq : loneP n N k
      · have HX := Lib.hid (show ∃ j, j < n ∧ loneP n N j from ⟨k, hlt, hq⟩)
        have CL := Lib.hid (fun (w0 : World) (hG : Fr (fun _ => False) w w0) => lone_walk (N k) (H k) V C m2 _ (countC N (N k).cls n) f2 w0 (HL.out.fr hG) (HC.out k hlt) true ⟨fun _ => hq, fun _ => rfl⟩)
        unfold trA at CL
        clear hq
        go_wp2_with (go_at_call 51; go_must (refine (CL.out _ (by first | exact HF.out | exact HF.out.drew | exact HF.out.drewN _ | fail)).mono ?_; rintro e w1 ⟨rfl, hG⟩; have HG := Lib.hid hG; clear hG))
        go_ret
        exact ⟨_, rfl, HF.out.then HG.out, ⟨fun _ => HX.out, fun _ => by omega⟩⟩
      · have HX := Lib.hid hq
        have CL := Lib.hid (fun (w0 : World) (hG : Fr (fun _ => False) w w0) => lone_walk (N k) (H k) V C m2 _ (countC N (N k).cls n) f2 w0 (HL.out.fr hG) (HC.out k hlt) false ⟨(fun h => by cases h), fun h => absurd h hq⟩)
        unfold trA at CL
        clear hq
        go_wp2_with (go_at_call 51; go_must (refine (CL.out _ (by first | exact HF.out | exact HF.out.drew | exact HF.out.drewN _ | fail)).mono ?_; rintro e w1 ⟨rfl, hG⟩; have HG := Lib.hid hG; clear hG))
        go_roundw
        case rel => exact ⟨k + 1, by omega, by go_num, HF.out.then HG.out, Lib.hid (fun j hj => by
          by_cases e : j = k
          · subst e; exact HX.out
          · exact HJ.out j (by omega))⟩
        case measure => simp [intOf]; omega
    · obtain rfl : k = n := by omega
      have HF := Lib.hid hF
      clear hF
      go_wp2_with fail
      go_ret
      exact ⟨-1, rfl, HF.out, ⟨fun h => by omega, fun ⟨j, hj, h⟩ => absurd h (HJ.out j hj)⟩⟩
end Go.Proofs.YtogjfifpbplahaaGreatDoor

namespace Go.Proofs.YtogjfifpbplahaaGreatDoor
open Go.RowKit
open BR
set_option linter.unusedVariables false

/-- the world behind the making of the checker -/
def mkW (w : World) : World := (((w.alloc (Obj.map #[] 0)).alloc (Obj.map #[] 0)).alloc (Obj.cells #[.slice none 0 0, .bool false, .map (some w.heap.size), .map (some (w.heap.size + 1)), .int .i64 0] 104)).alloc (Obj.cells #[.pointer (some ⟨w.heap.size + 2, 0, none⟩)] 99)
theorem mk_start (w : World) (N : Nat → BNode) (H : Nat → Hd) : ChAt (mkW w) (w.heap.size + 4) (w.heap.size + 2) w.heap.size (w.heap.size + 1) 0 N H (.slice none 0 0) ∧ RowB (mkW w) (w.heap.size + 3) 99 [.pointer (some ⟨w.heap.size + 2, 0, none⟩)] ∧ Fr (fun _ => False) w (mkW w) ∧ (mkW w).heap.size = w.heap.size + 4 := by
  have hF : Fr (fun _ => False) w (mkW w) := ((((Fr.refl _ w).alloc _).alloc _).alloc _).alloc _
  have hsz : (mkW w).heap.size = w.heap.size + 4 := by unfold mkW; simp only [alloc_size]
  have hV : RowB (mkW w) (w.heap.size + 3) 99 [.pointer (some ⟨w.heap.size + 2, 0, none⟩)] := by
    have := RowB.new (((w.alloc (Obj.map #[] 0)).alloc (Obj.map #[] 0)).alloc (Obj.cells #[.slice none 0 0, .bool false, .map (some w.heap.size), .map (some (w.heap.size + 1)), .int .i64 0] 104)) 99 [.pointer (some ⟨w.heap.size + 2, 0, none⟩)]
    simp only [alloc_size] at this
    exact this
  have hR : RowB (mkW w) (w.heap.size + 2) 104 [.slice none 0 0, .bool false, .map (some w.heap.size), .map (some (w.heap.size + 1)), .int .i64 0] := by
    have := RowB.new ((w.alloc (Obj.map #[] 0)).alloc (Obj.map #[] 0)) 104 [.slice none 0 0, .bool false, .map (some w.heap.size), .map (some (w.heap.size + 1)), .int .i64 0]
    simp only [alloc_size] at this
    exact this.fr ((Fr.refl (fun _ => False) _).alloc _) (fun h => h)
  have hM1 : MapAt (mkW w) Tryz.prog 3 w.heap.size 0 zeroTr (fun _ => zeroTr) := (MapAt.new w _ _ _).fr ((((Fr.refl (fun _ => False) _).alloc _).alloc _).alloc _) (fun h => h)
  have hM2 : MapAt (mkW w) Tryz.prog 3 (w.heap.size + 1) 0 (.int .i64 0) (fun _ => .int .i64 0) := by
    have := MapAt.new (w.alloc (Obj.map #[] 0)) Tryz.prog 3 (.int .i64 0)
    rw [alloc_size] at this
    exact this.fr (((Fr.refl (fun _ => False) _).alloc _).alloc _) (fun h => h)
  refine ⟨⟨⟨⟨[], hR, World.ownsRow_nil _ _ _ _, (fun _ => rfl), (fun d hd => absurd hd (Nat.not_lt_zero d))⟩, by omega, by omega⟩, ⟨_, _, ⟨hR, hM1, hM2, by omega, by omega, by omega⟩, (fun c h1 h2 => ?_), (fun c _ => rfl)⟩, by omega, by omega⟩, hV, hF, hsz⟩
  have : mostC N 0 = 0 := rfl
  omega
set_option maxRecDepth 100000 in
set_option maxHeartbeats 4000000 in
theorem tcheck_walk (n c : Nat) (a0 : Option Addr) (N : Nat → BNode) (H : Nat → Hd) (w : World) (hT : TreeAt w a0 n N H) (hn : n ≤ 1000) (hf : ∀ j, j < n → Fine (N j)) :
    Calls Tryz.prog 38 #[.slice a0 n c] w (RetI (treeE n N) w) := by
  by_cases h0 : n = 0
  · subst h0
    have HE := Lib.hid (show treeE 0 N = 6 by unfold treeE; rw [if_pos rfl])
    go_enter Tryz.func38, Tryz.ntmps38
    go_wp2_with fail
    go_ret2
    exact ⟨-1, by rw [HE.out] <;> rfl, Fr.refl _ _⟩
  · by_cases h1 : 120 < n
    · have HE := Lib.hid (show treeE n N = 3 by unfold treeE; rw [if_neg h0, if_pos h1])
      have q0 : ((n : Int) == 0) = false := by simp; omega
      clear h0
      go_enter Tryz.func38, Tryz.ntmps38
      go_wp2_with fail
      go_ret2
      exact ⟨-1, by rw [HE.out] <;> rfl, Fr.refl _ _⟩
    · have HT := Lib.hid hT
      have HFi := Lib.hid hf
      have H0 := Lib.hid h0
      have q0 : ((n : Int) == 0) = false := by simp; omega
      clear hT hf h0
      go_enter Tryz.func38, Tryz.ntmps38
      have hmk : ∀ (t : TypeId) (w : World), (Instr.makeMap t none).run Tryz.prog w = .ok (.map (some w.heap.size)) (w.alloc (.map #[] 0)) := fun t w => run_makeMap t w
      go_upto_region 6 with fail
      obtain ⟨hCh, hV, hF, hsz⟩ := mk_start w N H
      have HCh := Lib.hid hCh
      have HV := Lib.hid hV
      have HF0 := Lib.hid hF
      clear hCh hV hF
      change Code.wp _ _ _ _ (mkW w)
      obtain ⟨m1, hm1⟩ : ∃ m1, m1 = w.heap.size := ⟨_, rfl⟩
      obtain ⟨m2, hm2⟩ : ∃ m2, m2 = w.heap.size + 1 := ⟨_, rfl⟩
      obtain ⟨C, hC⟩ : ∃ C, C = w.heap.size + 2 := ⟨_, rfl⟩
      obtain ⟨V, hV⟩ : ∃ V, V = w.heap.size + 3 := ⟨_, rfl⟩
      obtain ⟨B, hB⟩ : ∃ B, B = w.heap.size + 4 := ⟨_, rfl⟩
      have HN := Lib.hid (show w.heap.size ≤ m1 ∧ w.heap.size ≤ m2 ∧ w.heap.size ≤ C ∧ w.heap.size ≤ B ∧ V < B ∧ V ≠ C ∧ V ≠ m1 ∧ V ≠ m2 by omega)
      rw [← hB, ← hC, ← hm2, ← hm1] at HCh
      rw [← hV, ← hC] at HV
      simp only [Nat.add_assoc, Nat.reduceAdd]
      rw [← hV, ← hC, ← hm2, ← hm1]
      clear hm1 hm2 hC hV hB hsz hmk
      generalize mkW w = W0 at *
      go_wp2_with fail
      go_loopw [5, 6, 7, 23] (fun _ _ _ i wr => ∃ (k : Nat) (v : Value), k ≤ n ∧ i = .int .i64 k ∧ Fr (fun _ => False) w wr ∧ Hid (ChAt wr B C m1 m2 k N H v) ∧ Hid (RowB wr V 99 [.pointer (some ⟨C, 0, none⟩)]) ∧ Hid (∀ j, j < k → nodeE N j = 0)) (fun _ _ _ i _ => n - (intOf i).toNat)
      case atStart => exact ⟨0, _, by omega, rfl, HF0.out, HCh, HV, Lib.hid (fun j hj => by omega)⟩
      case round =>
        obtain ⟨k, v, hk, rfl, hF, HK, HVr, HJ⟩ := hrel
        by_cases hlt : k < n
        · obtain ⟨b, o, rfl, hb, hcc⟩ := HT.out.get (by omega)
          obtain ⟨c0, c1, c2, c3, c4, c5, c6, c7⟩ := hcc wr hF k hlt
          have g1 : (0 : Int) ≤ (k : Int) := by omega
          have g2 : (k : Int) < n := by omega
          have v0 : wr.cell? ⟨V, 0, none⟩ = some (.pointer (some ⟨C, 0, none⟩)) := HVr.out.cell 0
          have hVl := HVr.out.lt
          have HF := Lib.hid hF
          have hk1 : k ≤ 500 := by omega
          have CN := Lib.hid (fun (w0 : World) (h0 : ChAt w0 B C m1 m2 k N H v) (hw0 : Fr (fun _ => False) w w0) => node_walk B C m1 m2 k N H v w0 h0 hk1 HJ.out (fun w9 h9 j hj => (HT.out.1 j (by omega)).fr (hw0.mono (S' := SN B C m1 m2) (fun _ _ h => h.elim) |>.trans h9 (fun _ _ h => h)) (fun q hq hS => by have := HN.out; rcases hS with e | e | e | e <;> omega)) (fun j hj => HFi.out j (by omega)))
          unfold trA at CN
          clear hF hcc
          have HVN := Lib.hid (show ¬ SN B C m1 m2 V from fun h => by have := HN.out; rcases h with e | e | e | e <;> omega)
          have HFS := Lib.hid (fun (w8 w9 : World) (h8 : Fr (fun _ => False) w w8) (h9 : Fr (SN B C m1 m2) w8 w9) => (show Fr (fun _ => False) w w9 from h8.trans h9 (fun q hq hS => by have := HN.out; rcases hS with e | e | e | e <;> omega)))
          by_cases he : nodeE N k = 0
          · have CN0 : Hid (∀ (w0 : World), ChAt w0 B C m1 m2 k N H v → Fr (fun _ => False) w w0 → Calls Tryz.prog 49 #[.pointer (some ⟨C, 0, none⟩), .agg #[.int .i64 (N k).depth, .string (N k).name, .int .i64 (N k).kind, .slice (H k).aA (N k).m (H k).cA, .string (N k).data, .int .i64 (N k).major, .int .i64 (N k).minor, .int .i64 (N k).cls]] w0
              (fun e w' => e = .returned (.int .i64 0) ∧ Fr (SN B C m1 m2) w0 w' ∧ ∃ v', ChAt w' B C m1 m2 (k + 1) N H v')) :=
              Lib.hid (fun w0 h0 hw0 => (CN.out w0 h0 hw0).mono (fun e w' h => ⟨by rw [h.1, he], h.2.1, h.2.2 he⟩))
            have HZ := Lib.hid he
            clear he CN
            go_wp2_with (go_at_call 49; go_must (refine (CN0.out _ (HK.out.fr ((Fr.refl (fun _ => False) _).alloc _)) (HF.out.alloc _)).mono ?_; rintro e w1 ⟨rfl, hG, v1, hC1⟩; have HG := Lib.hid hG; have HC1 := Lib.hid hC1; clear hG hC1))
            go_roundw
            case rel => exact ⟨k + 1, v1, by omega, by go_num, HFS.out _ _ (HF.out.alloc _) HG.out, HC1, Lib.hid ((HVr.out.fr ((Fr.refl (fun _ => False) _).alloc _) (fun h => h)).fr HG.out HVN.out), Lib.hid (fun j hj => by
              by_cases e : j = k
              · subst e; exact HZ.out
              · exact HJ.out j (by omega))⟩
            case measure => simp [intOf]; omega
          · have HE := Lib.hid (treeE_node H0.out h1 HJ.out he hlt)
            have CN0 : Hid (∀ (w0 : World), ChAt w0 B C m1 m2 k N H v → Fr (fun _ => False) w w0 → Calls Tryz.prog 49 #[.pointer (some ⟨C, 0, none⟩), .agg #[.int .i64 (N k).depth, .string (N k).name, .int .i64 (N k).kind, .slice (H k).aA (N k).m (H k).cA, .string (N k).data, .int .i64 (N k).major, .int .i64 (N k).minor, .int .i64 (N k).cls]] w0
              (fun e w' => e = .returned (.int .i64 (nodeE N k)) ∧ Fr (SN B C m1 m2) w0 w')) :=
              Lib.hid (fun w0 h0 hw0 => (CN.out w0 h0 hw0).mono (fun e w' h => ⟨h.1, h.2.1⟩))
            have q1 : (nodeE N k != 0) = true := by simpa using he
            clear he CN
            generalize nodeE N k = E at *
            go_wp2_with (go_at_call 49; go_must (refine (CN0.out _ (HK.out.fr ((Fr.refl (fun _ => False) _).alloc _)) (HF.out.alloc _)).mono ?_; rintro e w1 ⟨rfl, hG⟩; have HG := Lib.hid hG; clear hG))
            go_ret2
            exact ⟨k, by rw [HE.out] <;> rfl, HFS.out _ _ (HF.out.alloc _) HG.out⟩
        · obtain rfl : k = n := by omega
          have CI : Hid (Calls Tryz.prog 50 #[.slice a0 k c, .func (.func 51) #[] #[.pointer (some ⟨V, 0, none⟩)]] wr
              (fun e w' => ∃ i : Int, e = .returned (.int .i64 i) ∧ Fr (fun _ => False) wr w' ∧ (0 ≤ i ↔ ∃ j, j < k ∧ loneP k N j))) := by
            obtain ⟨f1, f2, hc, _, h3⟩ := HK.out.maps
            have hmo := mostC_bd k (fun j hj => (nodeE_parts (HJ.out j hj)).2.2.2.2)
            exact Lib.hid (index_walk V C m2 k k c a0 N H f2 wr (HT.out.fr hF (fun _ _ h => h)) (by omega) ⟨HVr.out, hc.row.cell 3, hc.row.lt, hc.count⟩ (fun j hj h0 => ⟨by have := le_mostC (N := N) hj; omega, h3 _ h0⟩))
          have HF := Lib.hid hF
          clear hF
          by_cases hl : ∃ j, j < k ∧ loneP k N j
          · have HE := Lib.hid (treeE_lone H0.out h1 HJ.out hl)
            have HX := Lib.hid hl
            clear hl
            go_wp2_with (go_at_call 50; go_must (refine CI.out.mono ?_; rintro e w1 ⟨i, rfl, hG, hi⟩; have hi0 : 0 ≤ i := hi.2 HX.out; have HG := Lib.hid hG; clear hG hi))
            go_ret2
            exact ⟨i, by rw [HE.out] <;> rfl, HF.out.then HG.out⟩
          · have HE := Lib.hid (treeE_ok H0.out h1 HJ.out hl)
            have HX := Lib.hid hl
            clear hl
            go_wp2_with (go_at_call 50; go_must (refine CI.out.mono ?_; rintro e w1 ⟨i, rfl, hG, hi⟩; have hi0 : ¬ 0 ≤ i := fun h => HX.out (hi.1 h); have HG := Lib.hid hG; clear hG hi))
            go_ret2
            exact ⟨0, by rw [HE.out] <;> rfl, HF.out.then HG.out⟩
end Go.Proofs.YtogjfifpbplahaaGreatDoor
