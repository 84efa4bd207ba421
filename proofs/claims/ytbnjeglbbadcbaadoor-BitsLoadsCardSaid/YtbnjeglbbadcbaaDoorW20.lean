/- The law's helpers: example, awake. -/
import Derived.Test.YtbnjeglbbadcbaaDoorW19
namespace Go.Proofs.YtbnjeglbbadcbaaDoor
open Go.RowKit
open BM
set_option linter.unusedVariables false

theorem Tab.lt {w : World} (h : Tab w) : 0 < w.heap.size := World.block_lt_of_cell? _ _ (h 0 (by decide))
theorem Tab.fr {S : Nat → Prop} {w w' : World} (h : Tab w) (f : Fr S w w') (hb : ¬ S 0) : Tab w' := fun j hj => by
  rw [← h j hj]; exact World.cell?_of_block (f.block 0 h.lt hb)

theorem NextV.uniq {l : List Bool} {v : Bool} {fr a e a' e' : Int} (h : NextV l v fr a e) (k : NextV l v fr a' e') : a = a' ∧ e = e' := by
  unfold NextV at h k
  by_cases hc : 0 ≤ fr ∧ fr ≤ l.length
  · rw [if_pos hc] at h k
    obtain ⟨p, hp, h⟩ := h
    obtain ⟨q, hq, k⟩ := k
    obtain rfl := hp.uniq hq
    by_cases hl : p < l.length
    · rw [if_pos hl] at h k; exact ⟨h.1.trans k.1.symm, h.2.trans k.2.symm⟩
    · rw [if_neg hl] at h k; exact ⟨h.1.trans k.1.symm, h.2.trans k.2.symm⟩
  · rw [if_neg hc] at h k; exact ⟨h.1.trans k.1.symm, h.2.trans k.2.symm⟩
theorem LastV.uniq {l : List Bool} {v : Bool} {bf a e a' e' : Int} (h : LastV l v bf a e) (k : LastV l v bf a' e') : a = a' ∧ e = e' := by
  unfold LastV at h k
  by_cases hc : 0 ≤ bf ∧ bf ≤ l.length
  · rw [if_pos hc] at h k
    rcases h with ⟨p, hp, h⟩ | ⟨hn, h⟩ <;> rcases k with ⟨q, hq, k⟩ | ⟨kn, k⟩
    · obtain rfl := hp.uniq hq
      exact ⟨h.1.trans k.1.symm, h.2.trans k.2.symm⟩
    · exact absurd (kn p hp.lt) (by rw [hp.has]; simp)
    · exact absurd (hn q hq.lt) (by rw [hq.has]; simp)
    · exact ⟨h.1.trans k.1.symm, h.2.trans k.2.symm⟩
  · rw [if_neg hc] at h k; exact ⟨h.1.trans k.1.symm, h.2.trans k.2.symm⟩
theorem IsRun.uniq {l : List Bool} {v : Bool} {n fr p q : Nat} (h : IsRun l v n fr p) (k : IsRun l v n fr q) : p = q := by
  rcases Nat.lt_trichotomy p q with hl | hl | hl
  · exact absurd h.good (k.none p h.ge hl)
  · exact hl
  · exact absurd k.good (h.none q k.ge hl)
theorem RunV.uniq {l : List Bool} {v : Bool} {fr n a e a' e' : Int} (h : RunV l v fr n a e) (k : RunV l v fr n a' e') : a = a' ∧ e = e' := by
  unfold RunV at h k
  by_cases hc : 0 ≤ fr ∧ fr ≤ l.length
  · rw [if_pos hc] at h k
    by_cases hn : n < 1
    · rw [if_pos hn] at h k; exact ⟨h.1.trans k.1.symm, h.2.trans k.2.symm⟩
    · rw [if_neg hn] at h k
      rcases h with ⟨p, hp, h⟩ | ⟨hn, h⟩ <;> rcases k with ⟨q, hq, k⟩ | ⟨kn, k⟩
      · obtain rfl := hp.uniq hq
        exact ⟨h.1.trans k.1.symm, h.2.trans k.2.symm⟩
      · exact absurd hp.good (kn p hp.ge)
      · exact absurd hq.good (hn q hq.ge)
      · exact ⟨h.1.trans k.1.symm, h.2.trans k.2.symm⟩
  · rw [if_neg hc] at h k; exact ⟨h.1.trans k.1.symm, h.2.trans k.2.symm⟩

/-! ### the example of the document -/
def exL : List Bool := mkL 10 (bb [230, 0])
theorem exL_length : exL.length = 10 := mkL_length _ _
theorem exL_eq : exL = [false, true, true, false, false, true, true, true, false, false] := by decide
theorem loadE_ex : loadE 10 [230, 0] = 0 := by
  unfold loadE
  rw [if_pos (by decide), if_pos (by decide)]
theorem ex_next : NextV exL true 3 5 0 := by
  unfold NextV
  rw [if_pos (by rw [exL_length]; decide)]
  refine ⟨5, ⟨by decide, by decide, ?_, fun _ => by decide⟩, ?_⟩
  · have : ∀ q, q < 5 → 3 ≤ q → bt exL q = !true := by decide
    exact fun q h1 h2 => this q h2 h1
  · rw [if_pos (by rw [exL_length]; decide)]; exact ⟨rfl, rfl⟩
theorem ex_run1 : RunV exL false 0 2 3 0 := by
  unfold RunV
  rw [if_pos (by rw [exL_length]; decide), if_neg (by decide)]
  refine Or.inl ⟨3, ⟨by decide, ⟨by decide, ?_⟩, ?_⟩, rfl, rfl⟩
  · have : ∀ q, q < 5 → 3 ≤ q → bt exL q = false := by decide
    exact fun q h1 h2 => this q h2 h1
  · intro q _ hq hg
    have : ∀ q, q < 3 → bt exL q = true ∨ bt exL (q + 1) = true := by decide
    rcases this q hq with h | h
    · rw [hg.2 q (Nat.le_refl _) (by have : (2 : Int).toNat = 2 := rfl; omega)] at h; cases h
    · rw [hg.2 (q + 1) (by omega) (by have : (2 : Int).toNat = 2 := rfl; omega)] at h; cases h
theorem ex_run2 : RunV exL true 0 4 0 4 := by
  unfold RunV
  rw [if_pos (by rw [exL_length]; decide), if_neg (by decide)]
  refine Or.inr ⟨?_, rfl, rfl⟩
  intro q _ hg
  have h4 : (4 : Int).toNat = 4 := rfl
  have h1 := hg.1
  rw [exL_length, h4] at h1
  have : ∀ q, q < 7 → bt exL q = false ∨ bt exL (q + 1) = false ∨ bt exL (q + 2) = false ∨ bt exL (q + 3) = false := by decide
  rcases this q (by omega) with h | h | h | h
  · rw [hg.2 q (Nat.le_refl _) (by omega)] at h; cases h
  · rw [hg.2 (q + 1) (by omega) (by omega)] at h; cases h
  · rw [hg.2 (q + 2) (by omega) (by omega)] at h; cases h
  · rw [hg.2 (q + 3) (by omega) (by omega)] at h; cases h
theorem ex_run3 : RunV exL true 0 3 5 0 := by
  unfold RunV
  rw [if_pos (by rw [exL_length]; decide), if_neg (by decide)]
  have h3 : (3 : Int).toNat = 3 := rfl
  refine Or.inl ⟨5, ⟨by decide, ⟨by decide, ?_⟩, ?_⟩, rfl, rfl⟩
  · have : ∀ q, q < 8 → 5 ≤ q → bt exL q = true := by decide
    exact fun q h1 h2 => this q h2 h1
  · intro q _ hq hg
    have : ∀ q, q < 5 → bt exL q = false ∨ bt exL (q + 1) = false ∨ bt exL (q + 2) = false := by decide
    rcases this q hq with h | h | h
    · rw [hg.2 q (Nat.le_refl _) (by omega)] at h; cases h
    · rw [hg.2 (q + 1) (by omega) (by omega)] at h; cases h
    · rw [hg.2 (q + 2) (by omega) (by omega)] at h; cases h
theorem ex_count : countV exL 0 10 = 5 := by decide
theorem ex_in : inE exL.length 0 10 = 0 := by rw [exL_length]; decide

set_option maxRecDepth 100000 in
theorem ex_walk (w : World) :
    Calls Tryd.prog 34 #[] w fun e w' => ∃ b, e = .returned (.pointer (some ⟨b, 0, none⟩)) ∧ IsMap w' b exL ∧ w.heap.size ≤ b ∧ Fr (fun _ => False) w w' := by
  have HL : ∀ (w0 : World) (b c : Nat), Arg w0 (some ⟨b, 0, none⟩) [230, 0] → Calls Tryd.prog 19 #[.int .i64 10, .slice (some ⟨b, 0, none⟩) 2 c] w0 fun e w' => e = .returned (.tuple #[.pointer (some ⟨w0.heap.size, 0, none⟩), .int .i64 0]) ∧ IsMap w' w0.heap.size exL ∧ Fr (fun _ => False) w0 w' := by
    intro w0 b c hA
    refine (load_walk 10 (some ⟨b, 0, none⟩) [230, 0] c w0 hA (by decide) (fun h => by cases h)).mono ?_
    rintro e w' ⟨hF, h⟩
    rw [loadE_ex, if_pos rfl] at h
    exact ⟨h.1, h.2, hF⟩
  have HL := Lib.hid HL
  go_enter Tryd.func34, Tryd.ntmps34
  go_wp2_with (first | (go_at_call 19; go_must (refine (HL.out _ _ _ (RowB.new w 5 (bvs [230, 0])).arg).mono ?_; rintro e w1 ⟨rfl, hM, hF⟩; have HM := Lib.hid hM; have HF := Lib.hid (((Fr.refl (fun _ => False) w).alloc _).trans hF (fun _ _ h => h)); clear hM hF)))
  go_ret
  have e1 : (w.alloc (Obj.cells (bvs [230, 0]).toArray 5)).heap.size = w.heap.size + 1 := Array.size_push _
  have h1 := HM.out
  rw [e1] at h1
  exact ⟨_, rfl, h1, Nat.le_succ _, HF.out⟩

set_option maxRecDepth 100000 in
set_option maxHeartbeats 400000 in
theorem awake_core (w : World) (L : List Bool) (HT : Hid (Tab w))
    (HE : Hid (∀ w0 : World, Calls Tryd.prog 34 #[] w0 fun e w' => ∃ b, e = .returned (.pointer (some ⟨b, 0, none⟩)) ∧ IsMap w' b L ∧ w0.heap.size ≤ b ∧ Fr (fun _ => False) w0 w'))
    (H1 : Hid (∀ (w0 : World) (b : Nat), IsMap w0 b L → Calls Tryd.prog 14 #[.pointer (some ⟨b, 0, none⟩), .int .i64 0, .int .i64 10] w0 fun e w' => e = .returned (.tuple #[.int .i64 5, .int .i64 0]) ∧ ∃ q, w' = w0.drewN q))
    (H2 : Hid (∀ (w0 : World) (b : Nat), IsMap w0 b L → Tab w0 → Calls Tryd.prog 30 #[.pointer (some ⟨b, 0, none⟩), .int .i64 3, .bool true] w0 fun e w' => e = .returned (.tuple #[.int .i64 5, .int .i64 0]) ∧ ∃ q, w' = w0.drewN q))
    (H3 : Hid (∀ (w0 : World) (b : Nat), IsMap w0 b L → Tab w0 → Calls Tryd.prog 12 #[.pointer (some ⟨b, 0, none⟩), .int .i64 0, .int .i64 2, .bool false] w0 fun e w' => e = .returned (.tuple #[.int .i64 3, .int .i64 0]) ∧ ∃ q, w' = w0.drewN q))
    (H4 : Hid (∀ (w0 : World) (b : Nat), IsMap w0 b L → Tab w0 → Calls Tryd.prog 12 #[.pointer (some ⟨b, 0, none⟩), .int .i64 0, .int .i64 4, .bool true] w0 fun e w' => e = .returned (.tuple #[.int .i64 0, .int .i64 4]) ∧ ∃ q, w' = w0.drewN q))
    (H5 : Hid (∀ (w0 : World) (b : Nat), IsMap w0 b L → Calls Tryd.prog 13 #[.pointer (some ⟨b, 0, none⟩)] w0 fun e w' => e = .returned (.int .i64 10) ∧ w0 = w')) :
    Calls Tryd.prog 15 #[] w fun e w' => e = .returned (.bool true) ∧ Fr (fun _ => False) w w' := by
  go_enter Tryd.func15, Tryd.ntmps15
  go_wp2_with (first
    | (go_at_call 34; go_must (refine (HE.out _).mono ?_; rintro e w1 ⟨b, rfl, hM, -, hF⟩; have HM := Lib.hid hM; have HF := Lib.hid hF; have HT1 := Lib.hid (HT.out.fr hF (fun h => h)); clear hM hF))
    | (go_at_call 14; go_must (refine (H1.out _ b (by exact HM.out)).mono ?_; rintro e w' ⟨rfl, q, rfl⟩))
    | (go_at_call 30; go_must (refine (H2.out _ b (by exact HM.out) (by exact HT1.out)).mono ?_; rintro e w' ⟨rfl, q, rfl⟩))
    | (go_at_call 12; refine (H3.out _ b (by exact HM.out) (by exact HT1.out)).mono ?_; rintro e w' ⟨rfl, q, rfl⟩; clear H3)
    | (go_at_call 12; refine (H4.out _ b (by exact HM.out) (by exact HT1.out)).mono ?_; rintro e w' ⟨rfl, q, rfl⟩)
    | (go_at_call 13; go_must (refine (H5.out _ b (by exact HM.out)).mono ?_; rintro e w' ⟨rfl, rfl⟩)))
  go_ret
  exact ⟨rfl, HF.out.drewN _⟩
/-- **awake** -/
theorem awake_walk (w : World) (hT : Tab w) :
    Calls Tryd.prog 15 #[] w fun e w' => e = .returned (.bool true) ∧ Fr (fun _ => False) w w' := by
  refine awake_core w exL (Lib.hid hT) (Lib.hid ex_walk) (Lib.hid ?_) (Lib.hid ?_) (Lib.hid ?_) (Lib.hid ?_) (Lib.hid ?_)
  · intro w0 b hm
    have := count_walk b exL 0 10 w0 hm
    rw [ex_count, ex_in] at this
    exact this
  · intro w0 b hm hT
    refine (next_walk b exL 3 true w0 hm hT).mono ?_
    rintro e w' ⟨a, c, rfl, hn, hq⟩
    obtain ⟨rfl, rfl⟩ := hn.uniq ex_next
    exact ⟨rfl, hq⟩
  · intro w0 b hm hT
    refine (run_walk b exL 0 2 false w0 hm hT (by decide)).mono ?_
    rintro e w' ⟨a, c, rfl, hn, hq⟩
    obtain ⟨rfl, rfl⟩ := hn.uniq ex_run1
    exact ⟨rfl, hq⟩
  · intro w0 b hm hT
    refine (run_walk b exL 0 4 true w0 hm hT (by decide)).mono ?_
    rintro e w' ⟨a, c, rfl, hn, hq⟩
    obtain ⟨rfl, rfl⟩ := hn.uniq ex_run2
    exact ⟨rfl, hq⟩
  · intro w0 b hm
    have := len_walk b exL.length w0 hm.1.made hm.1.len
    rw [exL_length] at this
    exact this
end Go.Proofs.YtbnjeglbbadcbaaDoor
