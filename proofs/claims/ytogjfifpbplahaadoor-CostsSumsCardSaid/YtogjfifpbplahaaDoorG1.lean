/- Two lists, one after the other: the sums, the peak; append of batches. -/
import Derived.Test.YtogjfifpbplahaaDoorA2
import Derived.Maps.AppendAt
import Derived.Deep.Upon
namespace Go.Proofs.YtogjfifpbplahaaDoor
open Go.RowKit Go.Shelf
open CM
set_option linter.unusedVariables false

def cat (n : Nat) (U V : Nat → Nat → Int) (i j : Nat) : Int := if i < n then U i j else V (i - n) j
theorem cat_lo {n i : Nat} {U V : Nat → Nat → Int} (h : i < n) : cat n U V i = U i := by funext j; simp [cat, h]
theorem cat_hi {n m : Nat} {U V : Nat → Nat → Int} : cat n U V (n + m) = V m := by
  funext j
  unfold cat
  rw [if_neg (by omega), show n + m - n = m by omega]
theorem sum_lo {n : Nat} {U V : Nat → Nat → Int} {j : Nat} : ∀ k, k ≤ n → sumF (cat n U V) j k = sumF U j k
  | 0, _ => rfl
  | k + 1, h => by simp only [sumF]; rw [sum_lo k (by omega), cat_lo (by omega)]
theorem sum_cat {n : Nat} {U V : Nat → Nat → Int} {j : Nat} : ∀ m, sumF (cat n U V) j (n + m) = sumF U j n + sumF V j m
  | 0 => by simp only [sumF, Nat.add_zero, Int.add_zero]; exact sum_lo n (Nat.le_refl _)
  | m + 1 => by
    show sumF (cat n U V) j (n + m) + cat n U V (n + m) j = _
    rw [sum_cat m, cat_hi]
    simp only [sumF]
    omega
theorem ok_lo {n : Nat} {U V : Nat → Nat → Int} : ∀ k, k ≤ n → okB (cat n U V) k = okB U k
  | 0, _ => rfl
  | k + 1, h => by simp only [okB]; rw [ok_lo k (by omega), cat_lo (by omega)]
theorem ok_cat {n : Nat} {U V : Nat → Nat → Int} : ∀ m, okB (cat n U V) (n + m) = (okB U n && okB V m)
  | 0 => by simp only [okB, Nat.add_zero, Bool.and_true]; exact ok_lo n (Nat.le_refl _)
  | m + 1 => by
    show (okB (cat n U V) (n + m) && ok1 (cat n U V (n + m))) = _
    rw [ok_cat m, cat_hi]
    simp only [okB, Bool.and_assoc]
theorem most_lo {n : Nat} {U V : Nat → Nat → Int} : ∀ k, k ≤ n → mostF (cat n U V) k = mostF U k
  | 0, _ => rfl
  | k + 1, h => by
    simp only [mostF, nowF]
    rw [most_lo k (by omega), sum_lo (k + 1) h, sum_lo (k + 1) h]
theorem most_cat {n : Nat} {U V : Nat → Nat → Int} : ∀ m, mostF (cat n U V) (n + m) = max (mostF U n) (mostF V m + nowF U n)
  | 0 => by
    simp only [mostF, Nat.add_zero]
    rw [most_lo n (Nat.le_refl _)]
    have := mostF_now (U := U) n n (Nat.le_refl _)
    omega
  | m + 1 => by
    show max (mostF (cat n U V) (n + m)) (nowF (cat n U V) (n + (m + 1))) = _
    rw [most_cat m]
    simp only [mostF, nowF]
    rw [sum_cat, sum_cat]
    omega
theorem list_cat {n m : Nat} {U V : Nat → Nat → Int} : listE (n + m) (cat n U V) = 0 ↔ listE n U = 0 ∧ listE m V = 0 ∧ n + m ≤ 70 := by
  constructor
  · intro h
    obtain ⟨h1, h2⟩ := listE_ok h
    rw [ok_cat, Bool.and_eq_true] at h2
    unfold listE
    rw [if_neg (by omega), if_pos h2.1, if_neg (by omega), if_pos h2.2]
    exact ⟨rfl, rfl, h1⟩
  · rintro ⟨h1, h2, h3⟩
    have q1 := (listE_ok h1).2
    have q2 := (listE_ok h2).2
    unfold listE
    rw [if_neg (by omega), ok_cat, q1, q2]
    rfl

def cellsU (U : Nat → Nat → Int) (n : Nat) : List Value := (List.range (n * 8)).map (fun k => .int .i64 (U (k / 8) (k % 8)))
theorem cellsU_len (U : Nat → Nat → Int) (n : Nat) : (cellsU U n).length = n * 8 := by simp [cellsU]
theorem cellsU_at (U : Nat → Nat → Int) {n k : Nat} (h : k < n * 8) : (cellsU U n)[k]? = some (.int .i64 (U (k / 8) (k % 8))) := by
  simp [cellsU, h]
theorem use_info : (Tryd.prog.info? 28).map (fun i => (i.zero, i.size, i.bytes)) = some (some (.agg #[.int .i64 0, .int .i64 0, .int .i64 0, .int .i64 0, .int .i64 0, .int .i64 0, .int .i64 0, .int .i64 0]), 8, 64) := by kernel_rfl
theorem run_append_uses (w : World) (base : Nat) (ty : TypeId) (g n cap : Nat) (xs : List Value) (hown : w.ownsRow base 28 8 (.slice (some ⟨g, 0, none⟩) n cap) n xs) (hnc : n ≤ cap) (a0 : Option Addr) (m c : Nat) (U : Nat → Nat → Int) (hU : Uses w a0 m U) (hm : n + m ≤ 1000) (hbase : base ≤ w.heap.size) :
    ∃ g' cap' w', (Builtin.append_ #[22, 22] ty #[.slice (some ⟨g, 0, none⟩) n cap, .slice a0 m c]).run Tryd.prog w = .ok (.slice (some ⟨g', 0, none⟩) (n + m) cap') w' ∧ n + m ≤ cap' ∧
      w'.ownsRow base 28 8 (.slice (some ⟨g', 0, none⟩) (n + m) cap') (n + m) (xs ++ cellsU U m) ∧ w.grownBy w' (some g) := by
  obtain ⟨i0, hi, hz0, hz1, hz2⟩ := info_parts use_info
  by_cases h0 : m = 0
  · subst h0
    have hs : Src Tryd.prog i0.size 22 (.slice a0 0 c) 0 [] w := by
      cases a0 with
      | none => exact ⟨.inl ⟨_, Tryd.underlying22⟩, fun _ => rfl, run_firstCells_none w _ 0 0 c, run_firstCells_none w.drew _ 0 0 c, by simp, fun _ h => by cases h⟩
      | some a => exact Src.ofSlice w Tryd.underlying22 a 0 c [] (by simp) (fun j u h => by simp at h) (fun _ h => by cases h)
    have h := run_append_nothing (P := Tryd.prog) w 22 22 ty 28 i0 Tryd.underlying22 hi (some ⟨g, 0, none⟩) n cap hnc (.slice a0 0 c) hs
    refine ⟨g, cap, w, h, hnc, by simpa [cellsU] using hown, ⟨rfl, rfl, rfl, Nat.le_refl _, fun _ _ _ => rfl⟩⟩
  · obtain ⟨b, o, rfl, hb, hc⟩ := hU (by omega)
    obtain ⟨v', w', hr, h2, h3, h4, h5⟩ := run_append_own_at (P := Tryd.prog) w base 22 ty 28 i0 _ 8 64 Tryd.underlying22 hi hz0 hz1 hz2 rfl (by decide) _ n xs hown ⟨b, o, none⟩ m c (cellsU U m) (cellsU_len U m)
      (fun j u hj => by
        have hlt : j < m * 8 := by have := (List.getElem?_eq_some_iff.1 hj).1; rwa [cellsU_len] at this
        rw [cellsU_at U hlt] at hj
        rw [← Option.some.inj hj, addr_add]
        have := hc (j / 8) (j % 8) (by omega) (by omega)
        rw [show o + j / 8 * 8 + j % 8 = o + j by omega] at this
        exact this)
      (fun u hu => by
        obtain ⟨k, _, rfl⟩ := List.mem_map.1 hu
        rfl) (by unfold maxLen; omega) (by omega) hbase
    obtain ⟨g', cap', hv, hcap⟩ : ∃ g' cap', v' = .slice (some ⟨g', 0, none⟩) (n + m) cap' ∧ n + m ≤ cap' := by
      rcases h2.2 with ⟨_, hz⟩ | ⟨g', cap', cur, hv, _, _, hcp, _⟩
      · omega
      · exact ⟨g', cap', hv, hcp⟩
    subst hv
    exact ⟨g', cap', w', hr, hcap, h2, h3⟩
theorem uses_own {w : World} {base g n m cap : Nat} {U V : Nat → Nat → Int} (h : w.ownsRow base 28 8 (.slice (some ⟨g, 0, none⟩) (n + m) cap) (n + m) (cellsU U n ++ cellsU V m)) : Uses w (some ⟨g, 0, none⟩) (n + m) (cat n U V) := fun h0 => by
  rcases h.2 with ⟨hv, hz⟩ | ⟨g', cap', cur, hv, hb, hg, h1, h2, h3, h4⟩
  · omega
  · cases hv
    refine ⟨g, 0, rfl, (Array.getElem?_eq_some_iff.1 hg).1, fun i j hi hj => ?_⟩
    have e1 : w.cell? ⟨g, 0 + i * 8 + j, none⟩ = cur[0 + i * 8 + j]? := by simp [World.cell?, hg]
    have e2 : (cellsU U n ++ cellsU V m)[i * 8 + j]? = cur.toList[i * 8 + j]? := by
      rw [← h4, List.getElem?_take, if_pos (by omega)]
    rw [e1, show 0 + i * 8 + j = i * 8 + j by omega, ← Array.getElem?_toList, ← e2]
    unfold cat
    by_cases hlt : i < n
    · rw [if_pos hlt, List.getElem?_append_left (by rw [cellsU_len]; omega), cellsU_at U (by omega), show (i * 8 + j) / 8 = i by omega, show (i * 8 + j) % 8 = j by omega]
    · rw [if_neg hlt, List.getElem?_append_right (by rw [cellsU_len]; omega), cellsU_len, cellsU_at V (by omega), show (i * 8 + j - n * 8) / 8 = i - n by omega, show (i * 8 + j - n * 8) % 8 = j by omega]
end Go.Proofs.YtogjfifpbplahaaDoor
