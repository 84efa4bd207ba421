/- This text proves contracts of the reference's checks of attributes; no condition beyond those that each statement names. -/
import Derived.Test.YtogjfifpbplahaaGreatDoorJf
namespace Go.Proofs.YtogjfifpbplahaaGreatDoor
open Go.RowKit
open BR
open Go.Op (bytesLess)
set_option linter.unusedVariables false

/-- the cells of one node of a tree -/
structure TCells (w : World) (b o i : Nat) (x : BNode) (h : Hd) : Prop where
  c0 : w.cell? ⟨b, o + i * 8, none⟩ = some (.int .i64 x.depth)
  c1 : w.cell? ⟨b, o + i * 8 + 1, none⟩ = some (.string x.name)
  c2 : w.cell? ⟨b, o + i * 8 + 2, none⟩ = some (.int .i64 x.kind)
  c3 : w.cell? ⟨b, o + i * 8 + 3, none⟩ = some (.slice h.aA x.m h.cA)
  c4 : w.cell? ⟨b, o + i * 8 + 4, none⟩ = some (.string x.data)
  c5 : w.cell? ⟨b, o + i * 8 + 5, none⟩ = some (.int .i64 x.major)
  c6 : w.cell? ⟨b, o + i * 8 + 6, none⟩ = some (.int .i64 x.minor)
  c7 : w.cell? ⟨b, o + i * 8 + 7, none⟩ = some (.int .i64 x.cls)
theorem TreeAt.get {w : World} {a0 : Option Addr} {n : Nat} {N : Nat → BNode} {H : Nat → Hd} (h : TreeAt w a0 n N H) (hn : 0 < n) :
    ∃ b o, a0 = some ⟨b, o, none⟩ ∧ b < w.heap.size ∧ ∀ (w' : World), Fr (fun _ => False) w w' → ∀ i, i < n → TCells w' b o i (N i) (H i) := by
  obtain ⟨b, o, h1, h2, h3⟩ := h.2 hn
  refine ⟨b, o, h1, h2, fun w' f i hi => ⟨?_, ?_, ?_, ?_, ?_, ?_, ?_, ?_⟩⟩
  · exact f.cell (p := ⟨b, o + i * 8, none⟩) h2 (fun h => h) (h3 i 0 _ hi rfl)
  · exact f.cell (p := ⟨b, o + i * 8 + 1, none⟩) h2 (fun h => h) (h3 i 1 _ hi rfl)
  · exact f.cell (p := ⟨b, o + i * 8 + 2, none⟩) h2 (fun h => h) (h3 i 2 _ hi rfl)
  · exact f.cell (p := ⟨b, o + i * 8 + 3, none⟩) h2 (fun h => h) (h3 i 3 _ hi rfl)
  · exact f.cell (p := ⟨b, o + i * 8 + 4, none⟩) h2 (fun h => h) (h3 i 4 _ hi rfl)
  · exact f.cell (p := ⟨b, o + i * 8 + 5, none⟩) h2 (fun h => h) (h3 i 5 _ hi rfl)
  · exact f.cell (p := ⟨b, o + i * 8 + 6, none⟩) h2 (fun h => h) (h3 i 6 _ hi rfl)
  · exact f.cell (p := ⟨b, o + i * 8 + 7, none⟩) h2 (fun h => h) (h3 i 7 _ hi rfl)

theorem countC_le (N : Nat → BNode) (c : Int) : ∀ k, countC N c k ≤ k
  | 0 => Nat.le_refl _
  | k + 1 => by
    have := countC_le N c k
    simp only [countC]
    split <;> omega
set_option maxHeartbeats 2000000 in
theorem rcount_walk (n c : Nat) (a0 : Option Addr) (N : Nat → BNode) (H : Nat → Hd) (z : Int) (w : World) (hT : TreeAt w a0 n N H) (hn : n ≤ 1000) :
    Calls Tryz.prog 60 #[.slice a0 n c, .int .i64 z] w (Ret (.int .i64 (countC N z n)) w) := by
  have HT := Lib.hid hT
  clear hT
  go_enter Tryz.func60, Tryz.ntmps60
  go_wp2_with fail
  go_loopw [5, 6] (fun t i wr => ∃ k : Nat, k ≤ n ∧ i = .int .i64 k ∧ t = .int .i64 (countC N z k) ∧ Fr (fun _ => False) w wr) (fun _ i _ => n - (intOf i).toNat)
  case atStart => exact ⟨0, by omega, rfl, rfl, Fr.refl _ _⟩
  case round =>
    obtain ⟨k, hk, rfl, rfl, hF⟩ := hrel
    by_cases hlt : k < n
    · obtain ⟨b, o, rfl, hb, hc⟩ := HT.out.get (by omega)
      have c7 := (hc wr hF k hlt).c7
      have g1 : (0 : Int) ≤ (k : Int) := by omega
      have g2 : (k : Int) < n := by omega
      have h1 := countC_le N z k
      have HF := Lib.hid hF
      clear hF hc
      have HS := Lib.hid (show countC N z (k + 1) = countC N z k + (if (N k).cls = z then 1 else 0) from rfl)
      generalize countC N z k = T at *
      by_cases he : (N k).cls = z
      · have HS := Lib.hid (HS.out.trans (by rw [if_pos he]))
        have e1 : ((N k).cls == z) = true := by simpa using he
        clear he
        go_wp2_with fail
        go_roundw
        case rel => exact ⟨k + 1, by omega, by go_num, by rw [HS.out]; go_num, HF.out⟩
        case measure => simp [intOf]; omega
      · have HS := Lib.hid (HS.out.trans (by rw [if_neg he]))
        have e1 : ((N k).cls == z) = false := by simpa using he
        clear he
        go_wp2_with fail
        go_roundw
        case rel => exact ⟨k + 1, by omega, by go_num, by rw [HS.out]; rfl, HF.out⟩
        case measure => simp [intOf]; omega
    · obtain rfl : k = n := by omega
      have HF := Lib.hid hF
      clear hF
      go_wp2_with fail
      go_ret
      exact ⟨rfl, HF.out⟩
theorem shape_bd {N : Nat → BNode} {j : Nat} (h : shapeE N j = 0) : 0 ≤ (N j).depth ∧ (N j).depth ≤ 8 := by
  unfold shapeE at h
  by_cases e : j = 0
  · subst e
    rw [if_pos rfl] at h
    by_cases hh : (N 0).depth ≠ 0 ∨ (N 0).name.toList ≠ [] ∨ (N 0).kind ≠ 1
    · rw [if_pos hh] at h; omega
    · have : (N 0).depth = 0 := by
        by_cases e : (N 0).depth = 0
        · exact e
        · exact absurd (Or.inl e) hh
      omega
  · rw [if_neg e] at h
    by_cases h1 : (N j).depth < 1 ∨ (N (j - 1)).depth + (if (N (j - 1)).kind = 1 then 1 else 0) < (N j).depth
    · rw [if_pos h1] at h; omega
    · rw [if_neg h1] at h
      by_cases h2 : 8 < (N j).depth
      · rw [if_pos h2] at h; omega
      · omega
set_option maxRecDepth 100000 in
set_option maxHeartbeats 4000000 in
theorem rshape_walk (n c i : Nat) (a0 : Option Addr) (N : Nat → BNode) (H : Nat → Hd) (w : World) (hT : TreeAt w a0 n N H) (hn : n ≤ 1000) (hi : i < n) (hp : ∀ j, j < i → shapeE N j = 0) :
    Calls Tryz.prog 55 #[.slice a0 n c, .int .i64 i] w (Ret (.int .i64 (shapeE N i)) w) := by
  obtain ⟨b, o, rfl, hb, hc⟩ := hT.get (by omega)
  clear hT
  cases i with
  | zero =>
    have hE : shapeE N 0 = if (N 0).depth ≠ 0 ∨ (N 0).name.toList ≠ [] ∨ (N 0).kind ≠ 1 then 6 else 0 := by unfold shapeE; rw [if_pos rfl]
    obtain ⟨c0, c1, c2, c3, c4, c5, c6, c7⟩ := hc w (Fr.refl _ _) 0 hi
    clear hc
    simp only [Nat.zero_mul, Nat.add_zero] at c0 c1 c2 c3 c4 c5 c6 c7
    have g2 : (0 : Int) < n := by omega
    rw [show ((0 : Nat) : Int) = 0 from rfl]
    generalize N 0 = x at *
    generalize H 0 = h at *
    by_cases h0 : x.depth = 0
    · have e0 : (x.depth != 0) = false := by simpa using h0
      have d0 : (x.depth == 0) = true := by simpa using h0
      by_cases h1 : x.name.toList = []
      · have e1 : x.name.toList.isEmpty = true := List.isEmpty_iff.2 h1
        by_cases h2 : x.kind = 1
        · have e2 : (x.kind != 1) = false := by simpa using h2
          have d2 : (x.kind == 1) = true := by simpa using h2
          rw [hE, if_neg (by simp [h0, h1, h2])]
          clear h0 h1 h2 hE
          go_enter Tryz.func55, Tryz.ntmps55
          go_wp2
          go_ret
          exact ⟨rfl, (Fr.refl _ w).alloc _⟩
        · have e2 : (x.kind != 1) = true := by simpa using h2
          have d2 : (x.kind == 1) = false := by simpa using h2
          rw [hE, if_pos (Or.inr (Or.inr h2))]
          clear h0 h1 h2 hE
          go_enter Tryz.func55, Tryz.ntmps55
          go_wp2
          go_ret
          exact ⟨rfl, (Fr.refl _ w).alloc _⟩
      · have e1 : x.name.toList.isEmpty = false := by cases he : x.name.toList.isEmpty with | false => rfl | true => exact absurd (List.isEmpty_iff.1 he) h1
        rw [hE, if_pos (Or.inr (Or.inl h1))]
        clear h0 h1 hE
        go_enter Tryz.func55, Tryz.ntmps55
        go_wp2
        go_ret
        exact ⟨rfl, (Fr.refl _ w).alloc _⟩
    · have e0 : (x.depth != 0) = true := by simpa using h0
      have d0 : (x.depth == 0) = false := by simpa using h0
      rw [hE, if_pos (Or.inl h0)]
      clear h0 hE
      go_enter Tryz.func55, Tryz.ntmps55
      go_wp2
      go_ret
      exact ⟨rfl, (Fr.refl _ w).alloc _⟩
  | succ j =>
    have hE : shapeE N (j + 1) = if (N (j + 1)).depth < 1 ∨ (N j).depth + (if (N j).kind = 1 then 1 else 0) < (N (j + 1)).depth then 6 else if 8 < (N (j + 1)).depth then 3 else 0 := by
      unfold shapeE; rw [if_neg (by omega), show j + 1 - 1 = j by omega]
    obtain ⟨q1, q2⟩ := shape_bd (hp j (by omega))
    obtain ⟨c0, c1, c2, c3, c4, c5, c6, c7⟩ := hc w (Fr.refl _ _) (j + 1) hi
    obtain ⟨d0, d1, d2, d3, d4, d5, d6, d7⟩ := hc w (Fr.refl _ _) j (by omega)
    clear hc hp d1 d3 d4 d5 d6 d7
    generalize N (j + 1) = x at *
    generalize N j = y at *
    generalize H (j + 1) = h at *
    have g1 : (0 : Int) ≤ (j : Int) := by omega
    have g2 : (j : Int) < n := by omega
    by_cases hk : y.kind = 1
    · have ek : (y.kind == 1) = true := by simpa using hk
      rw [if_pos hk] at hE
      by_cases h0 : x.depth < 1
      · rw [hE, if_pos (Or.inl h0)]
        clear hE hk
        go_enter Tryz.func55, Tryz.ntmps55
        go_wp2
        go_ret
        exact ⟨rfl, (Fr.refl _ w).alloc _⟩
      · by_cases h1 : y.depth + 1 < x.depth
        · rw [hE, if_pos (Or.inr h1)]
          clear hE hk
          go_enter Tryz.func55, Tryz.ntmps55
          go_wp2
          go_ret
          exact ⟨rfl, (Fr.refl _ w).alloc _⟩
        · by_cases h2 : 8 < x.depth
          · rw [hE, if_neg (by omega), if_pos h2]
            clear hE hk
            go_enter Tryz.func55, Tryz.ntmps55
            go_wp2
            go_ret
            exact ⟨rfl, (Fr.refl _ w).alloc _⟩
          · rw [hE, if_neg (by omega), if_neg h2]
            clear hE hk
            go_enter Tryz.func55, Tryz.ntmps55
            go_wp2
            go_ret
            exact ⟨rfl, (Fr.refl _ w).alloc _⟩
    · have ek : (y.kind == 1) = false := by simpa using hk
      rw [if_neg hk] at hE
      by_cases h0 : x.depth < 1
      · rw [hE, if_pos (Or.inl h0)]
        clear hE hk
        go_enter Tryz.func55, Tryz.ntmps55
        go_wp2
        go_ret
        exact ⟨rfl, (Fr.refl _ w).alloc _⟩
      · by_cases h1 : y.depth < x.depth
        · rw [hE, if_pos (Or.inr (by omega))]
          clear hE hk
          go_enter Tryz.func55, Tryz.ntmps55
          go_wp2
          go_ret
          exact ⟨rfl, (Fr.refl _ w).alloc _⟩
        · by_cases h2 : 8 < x.depth
          · omega
          · rw [hE, if_neg (by omega), if_neg h2]
            clear hE hk
            go_enter Tryz.func55, Tryz.ntmps55
            go_wp2
            go_ret
            exact ⟨rfl, (Fr.refl _ w).alloc _⟩
end Go.Proofs.YtogjfifpbplahaaGreatDoor

namespace Go.Proofs.YtogjfifpbplahaaGreatDoor
open Go.RowKit
open BR
open Go.Op (bytesLess)
set_option linter.unusedVariables false

theorem manyF_le (N : Nat → BNode) (d : Int) : ∀ k, manyF N k d ≤ k
  | 0 => Nat.le_refl _
  | k + 1 => by
    have := manyF_le N d k
    simp only [manyF]
    split
    · omega
    · split <;> omega
/-- what is known when the entries from p on have been looked at -/
def EntI (N : Nat → BNode) (i p cnt : Nat) (ll : Int) : Prop :=
  cnt + manyF N p ((N i).depth - 1) = manyF N i ((N i).depth - 1) ∧
  ((ll = -1 ∧ cnt = 0 ∧ lastF N p ((N i).depth - 1) = lastF N i ((N i).depth - 1)) ∨ ∃ q : Nat, ll = q ∧ q < i ∧ (N q).name = lastF N i ((N i).depth - 1) ∧ 0 < cnt)
theorem ent_start (N : Nat → BNode) (i : Nat) : EntI N i i 0 (-1) := ⟨by omega, Or.inl ⟨rfl, rfl, rfl⟩⟩
theorem ent_skip {N : Nat → BNode} {i q cnt : Nat} {ll : Int} (h : EntI N i (q + 1) cnt ll) (hd : (N i).depth < (N q).depth) : EntI N i q cnt ll := by
  obtain ⟨h1, h2⟩ := h
  simp only [manyF, lastF] at h1 h2
  rw [if_neg (by omega), if_neg (by omega)] at h1
  refine ⟨h1, ?_⟩
  rcases h2 with ⟨a, b, c⟩ | h2
  · rw [if_neg (by omega), if_neg (by omega)] at c
    exact Or.inl ⟨a, b, c⟩
  · exact Or.inr h2
theorem ent_new {N : Nat → BNode} {i q cnt : Nat} (h : EntI N i (q + 1) cnt (-1)) (hq : q < i) (hd : (N q).depth = (N i).depth) : EntI N i q (cnt + 1) q := by
  obtain ⟨h1, h2⟩ := h
  simp only [manyF, lastF] at h1 h2
  rw [if_neg (by omega), if_pos (by omega)] at h1
  refine ⟨by omega, Or.inr ⟨q, rfl, hq, ?_, by omega⟩⟩
  rcases h2 with ⟨a, b, c⟩ | ⟨q', a, _⟩
  · rw [if_neg (by omega), if_pos (by omega)] at c
    exact c
  · omega
theorem ent_more {N : Nat → BNode} {i q cnt : Nat} {ll : Int} (h : EntI N i (q + 1) cnt ll) (h0 : 0 ≤ ll) (hd : (N q).depth = (N i).depth) : EntI N i q (cnt + 1) ll := by
  obtain ⟨h1, h2⟩ := h
  simp only [manyF] at h1
  rw [if_neg (by omega), if_pos (by omega)] at h1
  refine ⟨by omega, Or.inr ?_⟩
  rcases h2 with ⟨a, b, c⟩ | ⟨q', a, b, c, d⟩
  · omega
  · exact ⟨q', a, b, c, by omega⟩
theorem ent_none {N : Nat → BNode} {i cnt : Nat} {ll : Int} (h : EntI N i 0 cnt ll) : cnt = manyF N i ((N i).depth - 1) := by
  have := h.1
  simp only [manyF] at this
  omega
theorem ent_up {N : Nat → BNode} {i q cnt : Nat} {ll : Int} (h : EntI N i (q + 1) cnt ll) (hd : (N q).depth < (N i).depth) : cnt = manyF N i ((N i).depth - 1) := by
  have := h.1
  simp only [manyF] at this
  rw [if_pos (by omega)] at this
  omega
theorem ent_le {N : Nat → BNode} {i p cnt : Nat} {ll : Int} (h : EntI N i p cnt ll) : cnt ≤ i := by
  have := h.1
  have := manyF_le N ((N i).depth - 1) i
  omega
theorem ent_ll {N : Nat → BNode} {i p cnt : Nat} {ll : Int} (h : EntI N i p cnt ll) : (ll = -1 ∧ cnt = 0) ∨ ∃ q : Nat, ll = q ∧ q < i ∧ (N q).name = lastF N i ((N i).depth - 1) ∧ 0 < cnt := by
  rcases h.2 with ⟨a, b, _⟩ | h
  · exact Or.inl ⟨a, b⟩
  · exact Or.inr h
theorem entryE_name {N : Nat → BNode} {i : Nat} (h : nameE (N i).name ≠ 0) : entryE N i = nameE (N i).name := by unfold entryE; rw [if_pos h]
theorem entryE_none {N : Nat → BNode} {i : Nat} (h : nameE (N i).name = 0) (h0 : manyF N i ((N i).depth - 1) = 0) : entryE N i = 0 := by
  unfold entryE; rw [if_neg (by simpa using h), h0, if_neg (by omega), if_neg (by omega), if_neg (by omega)]
theorem entryE_twice {N : Nat → BNode} {i : Nat} (h : nameE (N i).name = 0) (h0 : 0 < manyF N i ((N i).depth - 1)) (h1 : (lastF N i ((N i).depth - 1)).toList = (N i).name.toList) : entryE N i = 8 := by
  unfold entryE; rw [if_neg (by simpa using h), if_pos ⟨h0, h1⟩]
theorem entryE_order {N : Nat → BNode} {i : Nat} (h : nameE (N i).name = 0) (h0 : 0 < manyF N i ((N i).depth - 1)) (h1 : (lastF N i ((N i).depth - 1)).toList ≠ (N i).name.toList)
    (h2 : bytesLess (N i).name.toList (lastF N i ((N i).depth - 1)).toList = true) : entryE N i = 6 := by
  unfold entryE; rw [if_neg (by simpa using h), if_neg (fun e => h1 e.2), if_pos ⟨h0, h2⟩]
theorem entryE_rest {N : Nat → BNode} {i : Nat} (h : nameE (N i).name = 0) (h1 : (lastF N i ((N i).depth - 1)).toList ≠ (N i).name.toList)
    (h2 : bytesLess (N i).name.toList (lastF N i ((N i).depth - 1)).toList = false) : entryE N i = if 24 ≤ manyF N i ((N i).depth - 1) then 3 else 0 := by
  unfold entryE; rw [if_neg (by simpa using h), if_neg (fun e => h1 e.2), if_neg (fun e => by rw [h2] at e; cases e.2)]
/-- greater: not less, not equal -/
theorem gt_spell {a b : List UInt8} {q : Bool} (h : bytesLess b a = q) (hne : (a == b) = false) : (bytesLess a b || a == b) = !q := by
  rw [hne, Bool.or_false]
  have hne' : a ≠ b := by simpa using hne
  cases q
  · rw [blt_total h (fun e => hne' e.symm)]; rfl
  · rw [blt_asymm h]; rfl
set_option maxRecDepth 100000 in
set_option maxHeartbeats 4000000 in
theorem rentry_walk (n c i : Nat) (a0 : Option Addr) (N : Nat → BNode) (H : Nat → Hd) (w : World) (hT : TreeAt w a0 n N H) (hn : n ≤ 1000) (hi : i < n) (hsz : (N i).name.size ≤ 1000) :
    Calls Tryz.prog 56 #[.slice a0 n c, .int .i64 i] w (Ret (.int .i64 (entryE N i)) w) := by
  obtain ⟨b, o, rfl, hb, hc⟩ := hT.get (by omega)
  clear hT
  have c1 := (hc w (Fr.refl _ _) i hi).c1
  have HC := Lib.hid hc
  clear hc
  have g1 : (0 : Int) ≤ (i : Int) := by omega
  have g2 : (i : Int) < n := by omega
  have HN := Lib.hid (rname_walk (N i).name w hsz)
  by_cases he : nameE (N i).name = 0
  · rw [he] at HN
    have HZ := Lib.hid he
    clear he
    go_enter Tryz.func56, Tryz.ntmps56
    go_wp2_with (go_at_call 76; go_must (refine HN.out.mono ?_; rintro e w1 ⟨rfl, hF⟩; have HF1 := Lib.hid hF; clear hF))
    clear c1
    go_loopw [6, 7, 8] (fun m l z wr => ∃ (p cnt : Nat) (zz ll : Int), p ≤ i ∧ zz = (p : Int) - 1 ∧ z = .int .i64 zz ∧ m = .int .i64 cnt ∧ l = .int .i64 ll ∧ Fr (fun _ => False) w wr ∧ Hid (EntI N i p cnt ll)) (fun _ _ z _ => (intOf z + 1).toNat)
    case atStart => exact ⟨i, 0, _, _, Nat.le_refl _, rfl, rfl, rfl, rfl, HF1.out, Lib.hid (ent_start N i)⟩
    case round =>
      obtain ⟨p, cnt, zz, ll, hp, hz, rfl, rfl, rfl, hF, HE⟩ := hrel
      have tail : ∀ (wq : World), Fr (fun _ => False) w wq → cnt = manyF N i ((N i).depth - 1) → True := fun _ _ _ => trivial
      clear tail
      have hcnt := ent_le HE.out
      rcases Nat.eq_zero_or_pos p with rfl | hp0
      · obtain rfl : zz = -1 := by omega
        clear hz
        have HM := Lib.hid (ent_none HE.out)
        have HF := Lib.hid hF
        clear hF
        have dg : decide ((0 : Int) ≤ -1) = false := rfl
        rcases ent_ll HE.out with ⟨rfl, rfl⟩ | ⟨q', rfl, hq', hnm, hpos⟩
        · have HV := Lib.hid (entryE_none HZ.out HM.out.symm)
          go_wp2_with fail
          go_quiet (fail)
          go_wp2_with fail
          go_quiet (fail)
          go_wp2_with fail
          go_quiet (fail)
          go_wp2_with fail
          go_ret
          exact ⟨by rw [HV.out] <;> rfl, by first | exact HF.out.drewN _ | exact (HF.out.drewN _).drewN _ | exact ((HF.out.drewN _).drewN _).drewN _⟩
        · have c1 := (HC.out wr HF.out q' (by omega)).c1
          have d1 := (HC.out wr HF.out i hi).c1
          have g5 : (0 : Int) ≤ (q' : Int) := by omega
          have g6 : (q' : Int) < n := by omega
          rw [hnm] at c1
          have HMP := Lib.hid (show 0 < manyF N i ((N i).depth - 1) by have := HM.out; omega)
          have T := fun h => entryE_twice HZ.out HMP.out h
          have O := fun h k => entryE_order HZ.out HMP.out h k
          have R := fun h k => entryE_rest (N := N) (i := i) HZ.out h k
          rw [← HM.out] at R
          clear hnm
          generalize lastF N i ((N i).depth - 1) = s at *
          generalize (N i).name = t at *
          by_cases h1 : s.toList = t.toList
          · have HV := Lib.hid (T h1)
            have e1 := eq_beq h1
            clear h1 T O R
            go_wp2_with fail
            go_quiet (fail)
            go_wp2_with fail
            go_quiet (fail)
            go_wp2_with fail
            go_ret
            exact ⟨by rw [HV.out] <;> rfl, by first | exact HF.out.drewN _ | exact (HF.out.drewN _).drewN _ | exact ((HF.out.drewN _).drewN _).drewN _⟩
          · have e1 := ne_beq h1
            cases h2 : bytesLess t.toList s.toList
            · have e2 := gt_spell h2 e1
              have e3 : (bytesLess s.toList t.toList) = true := blt_total h2 (fun e => h1 e.symm)
              by_cases h3 : 24 ≤ cnt
              · have HV := Lib.hid ((R h1 h2).trans (if_pos h3))
                clear h1 T O R h2
                go_wp2_with fail
                go_quiet (fail)
                go_wp2_with fail
                go_quiet (fail)
                go_wp2_with fail
                go_quiet (fail)
                go_wp2_with fail
                go_ret
                exact ⟨by rw [HV.out] <;> rfl, by first | exact HF.out.drewN _ | exact (HF.out.drewN _).drewN _ | exact ((HF.out.drewN _).drewN _).drewN _⟩
              · have HV := Lib.hid ((R h1 h2).trans (if_neg h3))
                clear h1 T O R h2
                go_wp2_with fail
                go_quiet (fail)
                go_wp2_with fail
                go_quiet (fail)
                go_wp2_with fail
                go_quiet (fail)
                go_wp2_with fail
                go_ret
                exact ⟨by rw [HV.out] <;> rfl, by first | exact HF.out.drewN _ | exact (HF.out.drewN _).drewN _ | exact ((HF.out.drewN _).drewN _).drewN _⟩
            · have e2 := gt_spell h2 e1
              have e3 : (bytesLess s.toList t.toList) = false := blt_asymm h2
              have HV := Lib.hid (O h1 h2)
              clear h1 T O R h2
              go_wp2_with fail
              go_quiet (fail)
              go_wp2_with fail
              go_quiet (fail)
              go_wp2_with fail
              go_quiet (fail)
              go_wp2_with fail
              go_ret
              exact ⟨by rw [HV.out] <;> rfl, by first | exact HF.out.drewN _ | exact (HF.out.drewN _).drewN _ | exact ((HF.out.drewN _).drewN _).drewN _⟩
      · obtain ⟨q, rfl⟩ : ∃ q, p = q + 1 := ⟨p - 1, by omega⟩
        obtain rfl : zz = (q : Int) := by omega
        clear hz
        have c0 := (HC.out wr hF q (by omega)).c0
        have d0 := (HC.out wr hF i hi).c0
        have g3 : (0 : Int) ≤ (q : Int) := by omega
        have g4 : (q : Int) < n := by omega
        have HF := Lib.hid hF
        clear hF
        by_cases h1 : (N i).depth ≤ (N q).depth
        · by_cases h2 : (N q).depth = (N i).depth
          · have e2 : ((N q).depth == (N i).depth) = true := by simpa using h2
            by_cases h3 : ll < 0
            · obtain ⟨rfl, hc0⟩ : ll = -1 ∧ cnt = 0 := by
                rcases ent_ll HE.out with h | ⟨q', a, _⟩
                · exact h
                · omega
              have HE2 := Lib.hid (ent_new HE.out (by omega) h2)
              clear h2 h3 hc0
              go_wp2_with fail
              go_quiet (fail)
              go_wp2_with fail
              go_quiet (fail)
              go_wp2_with fail
              go_roundw
              case rel => exact ⟨q, cnt + 1, _, _, by omega, rfl, rfl, by go_num, rfl, HF.out.drewN _, HE2⟩
              case measure => simp [intOf]; try omega
            · have HE2 := Lib.hid (ent_more HE.out (by omega) h2)
              clear h2
              go_wp2_with fail
              go_quiet (fail)
              go_wp2_with fail
              go_quiet (fail)
              go_wp2_with fail
              go_roundw
              case rel => exact ⟨q, cnt + 1, _, _, by omega, rfl, rfl, by go_num, rfl, HF.out.drewN _, HE2⟩
              case measure => simp [intOf]; try omega
          · have e2 : ((N q).depth == (N i).depth) = false := by simpa using h2
            have HE2 := Lib.hid (ent_skip HE.out (by omega))
            clear h2
            go_wp2_with fail
            go_quiet (fail)
            go_wp2_with fail
            go_quiet (fail)
            go_wp2_with fail
            go_roundw
            case rel => exact ⟨q, cnt, _, _, by omega, rfl, rfl, rfl, rfl, HF.out.drewN _, HE2⟩
            case measure => simp [intOf]; try omega
        · have HM := Lib.hid (ent_up HE.out (by omega))
          rcases ent_ll HE.out with ⟨rfl, rfl⟩ | ⟨q', rfl, hq', hnm, hpos⟩
          · have HV := Lib.hid (entryE_none HZ.out HM.out.symm)
            go_wp2_with fail
            go_quiet (fail)
            go_wp2_with fail
            go_quiet (fail)
            go_wp2_with fail
            go_quiet (fail)
            go_wp2_with fail
            go_ret
            exact ⟨by rw [HV.out] <;> rfl, by first | exact HF.out.drewN _ | exact (HF.out.drewN _).drewN _ | exact ((HF.out.drewN _).drewN _).drewN _⟩
          · have c1 := (HC.out wr HF.out q' (by omega)).c1
            have d1 := (HC.out wr HF.out i hi).c1
            have g5 : (0 : Int) ≤ (q' : Int) := by omega
            have g6 : (q' : Int) < n := by omega
            rw [hnm] at c1
            have HMP := Lib.hid (show 0 < manyF N i ((N i).depth - 1) by have := HM.out; omega)
            have T := fun h => entryE_twice HZ.out HMP.out h
            have O := fun h k => entryE_order HZ.out HMP.out h k
            have R := fun h k => entryE_rest (N := N) (i := i) HZ.out h k
            rw [← HM.out] at R
            clear hnm
            generalize lastF N i ((N i).depth - 1) = s at *
            generalize (N i).name = t at *
            by_cases h1 : s.toList = t.toList
            · have HV := Lib.hid (T h1)
              have e1 := eq_beq h1
              clear h1 T O R
              go_wp2_with fail
              go_quiet (fail)
              go_wp2_with fail
              go_quiet (fail)
              go_wp2_with fail
              go_ret
              exact ⟨by rw [HV.out] <;> rfl, by first | exact HF.out.drewN _ | exact (HF.out.drewN _).drewN _ | exact ((HF.out.drewN _).drewN _).drewN _⟩
            · have e1 := ne_beq h1
              cases h2 : bytesLess t.toList s.toList
              · have e2 := gt_spell h2 e1
                have e3 : (bytesLess s.toList t.toList) = true := blt_total h2 (fun e => h1 e.symm)
                by_cases h3 : 24 ≤ cnt
                · have HV := Lib.hid ((R h1 h2).trans (if_pos h3))
                  clear h1 T O R h2
                  go_wp2_with fail
                  go_quiet (fail)
                  go_wp2_with fail
                  go_quiet (fail)
                  go_wp2_with fail
                  go_quiet (fail)
                  go_wp2_with fail
                  go_ret
                  exact ⟨by rw [HV.out] <;> rfl, by first | exact HF.out.drewN _ | exact (HF.out.drewN _).drewN _ | exact ((HF.out.drewN _).drewN _).drewN _⟩
                · have HV := Lib.hid ((R h1 h2).trans (if_neg h3))
                  clear h1 T O R h2
                  go_wp2_with fail
                  go_quiet (fail)
                  go_wp2_with fail
                  go_quiet (fail)
                  go_wp2_with fail
                  go_quiet (fail)
                  go_wp2_with fail
                  go_ret
                  exact ⟨by rw [HV.out] <;> rfl, by first | exact HF.out.drewN _ | exact (HF.out.drewN _).drewN _ | exact ((HF.out.drewN _).drewN _).drewN _⟩
              · have e2 := gt_spell h2 e1
                have e3 : (bytesLess s.toList t.toList) = false := blt_asymm h2
                have HV := Lib.hid (O h1 h2)
                clear h1 T O R h2
                go_wp2_with fail
                go_quiet (fail)
                go_wp2_with fail
                go_quiet (fail)
                go_wp2_with fail
                go_quiet (fail)
                go_wp2_with fail
                go_ret
                exact ⟨by rw [HV.out] <;> rfl, by first | exact HF.out.drewN _ | exact (HF.out.drewN _).drewN _ | exact ((HF.out.drewN _).drewN _).drewN _⟩
  · have HE := Lib.hid (entryE_name he)
    have q0 : (nameE (N i).name != 0) = true := by simpa using he
    generalize nameE (N i).name = E at *
    clear he
    go_enter Tryz.func56, Tryz.ntmps56
    go_wp2_with (go_at_call 76; go_must (refine HN.out.mono ?_; rintro e w1 ⟨rfl, hF⟩; have HF1 := Lib.hid hF; clear hF))
    go_ret
    exact ⟨by rw [HE.out] <;> rfl, HF1.out⟩
end Go.Proofs.YtogjfifpbplahaaGreatDoor
