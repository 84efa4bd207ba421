/- This text proves contracts of costs.Bound, Peak and Check, and the reference's Bound; no condition beyond those that each statement names. -/
import Derived.Test.YtogjfifpbplahaaGreatDoorJa
namespace Go.Proofs.YtogjfifpbplahaaGreatDoor
open Go.RowKit
open CM
set_option linter.unusedVariables false

theorem within_any (a l h : Int) (w : World) : Calls Tryz.prog 17 #[.int .i64 a, .int .i64 l, .int .i64 h] w fun e w' => e = .returned (.bool (decide (l ≤ a) && decide (a ≤ h))) ∧ w = w' := by
  go_enter Tryz.func17, Tryz.ntmps17
  go_wp2
  all_goals go_ret
  all_goals first | exact ⟨rfl, rfl⟩ | exact ⟨ret_bool (by simp; omega), rfl⟩
theorem within_in (a l h : Int) (w : World) (h0 : l ≤ a ∧ a ≤ h) : Calls Tryz.prog 17 #[.int .i64 a, .int .i64 l, .int .i64 h] w fun e w' => e = .returned (.bool true) ∧ w = w' := by
  have := within_any a l h w
  rw [show (decide (l ≤ a) && decide (a ≤ h)) = true by simp; omega] at this
  exact this
theorem within_out (a l h : Int) (w : World) (h0 : ¬ (l ≤ a ∧ a ≤ h)) : Calls Tryz.prog 17 #[.int .i64 a, .int .i64 l, .int .i64 h] w fun e w' => e = .returned (.bool false) ∧ w = w' := by
  have := within_any a l h w
  rw [show (decide (l ≤ a) && decide (a ≤ h)) = false by simp; omega] at this
  exact this
def bdV (d e n c : Int) : Value := .tuple #[.agg #[.int .i64 (bdR d e n c), .int .i64 (bdT d e n c), .int .i64 (bdO d e n c)], .int .i64 (bdE d e n c)]
theorem bd_bad {d e n c : Int} (h : bdE d e n c = 7) : bdV d e n c = .tuple #[.agg #[.int .i64 0, .int .i64 0, .int .i64 0], .int .i64 7] := by
  unfold bdV bdR bdT bdO
  rw [h]
  rfl
theorem bd_first {e n c : Int} (hn : 1 ≤ n ∧ n ≤ 60) (he : 0 ≤ e ∧ e ≤ 120) (hc : 0 ≤ c ∧ c ≤ 120) : bdV (-3) e n c = .tuple #[.agg #[.int .i64 1, .int .i64 0, .int .i64 0], .int .i64 0] := by
  have hE : bdE (-3) e n c = 0 := by unfold bdE; rw [if_neg (by omega), if_pos (Or.inl rfl)]
  unfold bdV bdR bdT bdO
  rw [hE]
  rfl
theorem bd_last {d e n c : Int} (hn : 1 ≤ n ∧ n ≤ 60) (he : 0 ≤ e ∧ e ≤ 120) (hc : 0 ≤ c ∧ c ≤ 120) (h3 : d ≠ -3) (h : d = -1 ∨ d = n) : bdV d e n c = .tuple #[.agg #[.int .i64 (36 + c), .int .i64 16, .int .i64 (1 + c)], .int .i64 0] := by
  have hE : bdE d e n c = 0 := by unfold bdE; rw [if_neg (by omega), if_pos (by omega)]
  unfold bdV bdR bdT bdO
  rw [hE]
  simp only [ne_eq, not_true_eq_false, if_false, h3, h, if_true]
theorem bd_mid {d e n c : Int} (hn : 1 ≤ n ∧ n ≤ 60) (he : 0 ≤ e ∧ e ≤ 120) (hc : 0 ≤ c ∧ c ≤ 120) (h : 0 ≤ d ∧ d < n) : bdV d e n c = .tuple #[.agg #[.int .i64 (23 + 4 * e), .int .i64 (19 + 3 * e), .int .i64 (2 + 2 * e)], .int .i64 0] := by
  have hE : bdE d e n c = 0 := by unfold bdE; rw [if_neg (by omega), if_pos (by omega)]
  unfold bdV bdR bdT bdO
  rw [hE]
  have h1 : d ≠ -3 := by omega
  have h2 : ¬ (d = -1 ∨ d = n) := by omega
  simp only [ne_eq, not_true_eq_false, if_false, h1, h2]
set_option maxRecDepth 100000 in
set_option maxHeartbeats 4000000 in
theorem bound_walk (d e n c : Int) (w : World) : Calls Tryz.prog 6 #[.int .i64 d, .int .i64 e, .int .i64 n, .int .i64 c] w (Ret (bdV d e n c) w) := by
  by_cases h0 : n < 1
  · rw [bd_bad (by unfold bdE; rw [if_pos (by omega)])]
    go_enter Tryz.func6, Tryz.ntmps6
    go_wp2
    exact bodyPost_ret (v := .tuple #[.agg #[.int .i64 0, .int .i64 0, .int .i64 0], .int .i64 7]) (by simp [results, Tryz.results6, go_sem]) rfl ⟨rfl, (Fr.refl _ w).alloc _⟩
  have h0 : 1 ≤ n := by omega
  by_cases h1 : 60 < n
  · rw [bd_bad (by unfold bdE; rw [if_pos (by omega)])]
    go_enter Tryz.func6, Tryz.ntmps6
    go_wp2
    exact bodyPost_ret (v := .tuple #[.agg #[.int .i64 0, .int .i64 0, .int .i64 0], .int .i64 7]) (by simp [results, Tryz.results6, go_sem]) rfl ⟨rfl, (Fr.refl _ w).alloc _⟩
  have h1 : n ≤ 60 := by omega
  by_cases h2 : e < 0
  · rw [bd_bad (by unfold bdE; rw [if_pos (by omega)])]
    go_enter Tryz.func6, Tryz.ntmps6
    go_wp2
    exact bodyPost_ret (v := .tuple #[.agg #[.int .i64 0, .int .i64 0, .int .i64 0], .int .i64 7]) (by simp [results, Tryz.results6, go_sem]) rfl ⟨rfl, (Fr.refl _ w).alloc _⟩
  have h2 : 0 ≤ e := by omega
  by_cases h3 : 120 < e
  · rw [bd_bad (by unfold bdE; rw [if_pos (by omega)])]
    go_enter Tryz.func6, Tryz.ntmps6
    go_wp2
    exact bodyPost_ret (v := .tuple #[.agg #[.int .i64 0, .int .i64 0, .int .i64 0], .int .i64 7]) (by simp [results, Tryz.results6, go_sem]) rfl ⟨rfl, (Fr.refl _ w).alloc _⟩
  have h3 : e ≤ 120 := by omega
  by_cases h4 : c < 0
  · rw [bd_bad (by unfold bdE; rw [if_pos (by omega)])]
    go_enter Tryz.func6, Tryz.ntmps6
    go_wp2
    exact bodyPost_ret (v := .tuple #[.agg #[.int .i64 0, .int .i64 0, .int .i64 0], .int .i64 7]) (by simp [results, Tryz.results6, go_sem]) rfl ⟨rfl, (Fr.refl _ w).alloc _⟩
  have h4 : 0 ≤ c := by omega
  by_cases h5 : 120 < c
  · rw [bd_bad (by unfold bdE; rw [if_pos (by omega)])]
    go_enter Tryz.func6, Tryz.ntmps6
    go_wp2
    exact bodyPost_ret (v := .tuple #[.agg #[.int .i64 0, .int .i64 0, .int .i64 0], .int .i64 7]) (by simp [results, Tryz.results6, go_sem]) rfl ⟨rfl, (Fr.refl _ w).alloc _⟩
  have h5 : c ≤ 120 := by omega
  by_cases h6 : d = -3
  · subst h6
    rw [bd_first ⟨h0, h1⟩ ⟨h2, h3⟩ ⟨h4, h5⟩]
    go_enter Tryz.func6, Tryz.ntmps6
    go_wp2
    exact bodyPost_ret (v := .tuple #[.agg #[.int .i64 1, .int .i64 0, .int .i64 0], .int .i64 0]) (by simp [results, Tryz.results6, go_sem]) rfl ⟨rfl, (Fr.refl _ w).alloc _⟩
  have e6 : (d == -3) = false := by simp [h6]
  have e7 : (d != -3) = true := by simp [h6]
  by_cases h7 : d = -1
  · subst h7
    rw [bd_last ⟨h0, h1⟩ ⟨h2, h3⟩ ⟨h4, h5⟩ h6 (Or.inl rfl)]
    clear h6
    go_enter Tryz.func6, Tryz.ntmps6
    go_wp2
    exact bodyPost_ret (v := .tuple #[.agg #[.int .i64 (36 + c), .int .i64 16, .int .i64 (1 + c)], .int .i64 0]) (by simp [results, Tryz.results6, go_sem]) rfl ⟨rfl, (Fr.refl _ w).alloc _⟩
  have e8 : (d == -1) = false := by simp [h7]
  have e9 : (d != -1) = true := by simp [h7]
  by_cases h8 : d = n
  · have e10 : (d == n) = true := by simp [h8]
    rw [bd_last ⟨h0, h1⟩ ⟨h2, h3⟩ ⟨h4, h5⟩ h6 (Or.inr h8)]
    have hd0 : 0 ≤ d := by omega
    have hdn : d ≤ n := by omega
    clear h6 h7 h8
    go_enter Tryz.func6, Tryz.ntmps6
    go_wp2
    exact bodyPost_ret (v := .tuple #[.agg #[.int .i64 (36 + c), .int .i64 16, .int .i64 (1 + c)], .int .i64 0]) (by simp [results, Tryz.results6, go_sem]) rfl ⟨rfl, (Fr.refl _ w).alloc _⟩
  have e10 : (d == n) = false := by simp [h8]
  by_cases h9 : d < 0
  · rw [bd_bad (by unfold bdE; rw [if_neg (by omega), if_neg (by omega)])]
    clear h6 h7 h8
    go_enter Tryz.func6, Tryz.ntmps6
    go_wp2
    exact bodyPost_ret (v := .tuple #[.agg #[.int .i64 0, .int .i64 0, .int .i64 0], .int .i64 7]) (by simp [results, Tryz.results6, go_sem]) rfl ⟨rfl, (Fr.refl _ w).alloc _⟩
  by_cases h10 : n < d
  · have hd0 : 0 ≤ d := by omega
    have e12 : decide (d ≤ n) = false := by simp; omega
    rw [bd_bad (by unfold bdE; rw [if_neg (by omega), if_neg (by omega)])]
    clear h6 h7 h8 h9
    go_enter Tryz.func6, Tryz.ntmps6
    go_wp2
    exact bodyPost_ret (v := .tuple #[.agg #[.int .i64 0, .int .i64 0, .int .i64 0], .int .i64 7]) (by simp [results, Tryz.results6, go_sem]) rfl ⟨rfl, (Fr.refl _ w).alloc _⟩
  have hd0 : 0 ≤ d := by omega
  have hdn : d ≤ n := by omega
  rw [bd_mid ⟨h0, h1⟩ ⟨h2, h3⟩ ⟨h4, h5⟩ (by omega)]
  clear h6 h7 h8 h9 h10
  go_enter Tryz.func6, Tryz.ntmps6
  go_wp2
  exact bodyPost_ret (v := .tuple #[.agg #[.int .i64 (23 + 4 * e), .int .i64 (19 + 3 * e), .int .i64 (2 + 2 * e)], .int .i64 0]) (by simp [results, Tryz.results6, go_sem]) rfl ⟨rfl, (Fr.refl _ w).alloc _⟩
set_option maxRecDepth 100000 in
set_option maxHeartbeats 4000000 in
theorem rbound_walk (d e n c : Int) (w : World) : Calls Tryz.prog 7 #[.int .i64 d, .int .i64 e, .int .i64 n, .int .i64 c] w (Ret (bdV d e n c) w) := by
  by_cases h0 : n < 1
  · rw [bd_bad (by unfold bdE; rw [if_pos (by omega)])]
    go_enter Tryz.func7, Tryz.ntmps7
    go_wp2
    exact bodyPost_ret (v := .tuple #[.agg #[.int .i64 0, .int .i64 0, .int .i64 0], .int .i64 7]) (by simp [results, Tryz.results7, go_sem]) rfl ⟨rfl, (Fr.refl _ w).alloc _⟩
  have h0 : 1 ≤ n := by omega
  by_cases h1 : 60 < n
  · rw [bd_bad (by unfold bdE; rw [if_pos (by omega)])]
    go_enter Tryz.func7, Tryz.ntmps7
    go_wp2
    exact bodyPost_ret (v := .tuple #[.agg #[.int .i64 0, .int .i64 0, .int .i64 0], .int .i64 7]) (by simp [results, Tryz.results7, go_sem]) rfl ⟨rfl, (Fr.refl _ w).alloc _⟩
  have h1 : n ≤ 60 := by omega
  by_cases h2 : e < 0
  · rw [bd_bad (by unfold bdE; rw [if_pos (by omega)])]
    go_enter Tryz.func7, Tryz.ntmps7
    go_wp2
    exact bodyPost_ret (v := .tuple #[.agg #[.int .i64 0, .int .i64 0, .int .i64 0], .int .i64 7]) (by simp [results, Tryz.results7, go_sem]) rfl ⟨rfl, (Fr.refl _ w).alloc _⟩
  have h2 : 0 ≤ e := by omega
  by_cases h3 : 120 < e
  · rw [bd_bad (by unfold bdE; rw [if_pos (by omega)])]
    go_enter Tryz.func7, Tryz.ntmps7
    go_wp2
    exact bodyPost_ret (v := .tuple #[.agg #[.int .i64 0, .int .i64 0, .int .i64 0], .int .i64 7]) (by simp [results, Tryz.results7, go_sem]) rfl ⟨rfl, (Fr.refl _ w).alloc _⟩
  have h3 : e ≤ 120 := by omega
  by_cases h4 : c < 0
  · rw [bd_bad (by unfold bdE; rw [if_pos (by omega)])]
    go_enter Tryz.func7, Tryz.ntmps7
    go_wp2
    exact bodyPost_ret (v := .tuple #[.agg #[.int .i64 0, .int .i64 0, .int .i64 0], .int .i64 7]) (by simp [results, Tryz.results7, go_sem]) rfl ⟨rfl, (Fr.refl _ w).alloc _⟩
  have h4 : 0 ≤ c := by omega
  by_cases h5 : 120 < c
  · rw [bd_bad (by unfold bdE; rw [if_pos (by omega)])]
    go_enter Tryz.func7, Tryz.ntmps7
    go_wp2
    exact bodyPost_ret (v := .tuple #[.agg #[.int .i64 0, .int .i64 0, .int .i64 0], .int .i64 7]) (by simp [results, Tryz.results7, go_sem]) rfl ⟨rfl, (Fr.refl _ w).alloc _⟩
  have h5 : c ≤ 120 := by omega
  by_cases h6 : d = -3
  · subst h6
    rw [bd_first ⟨h0, h1⟩ ⟨h2, h3⟩ ⟨h4, h5⟩]
    go_enter Tryz.func7, Tryz.ntmps7
    go_wp2
    exact bodyPost_ret (v := .tuple #[.agg #[.int .i64 1, .int .i64 0, .int .i64 0], .int .i64 0]) (by simp [results, Tryz.results7, go_sem]) rfl ⟨rfl, (Fr.refl _ w).alloc _⟩
  have e6 : (d == -3) = false := by simp [h6]
  have e7 : (d != -3) = true := by simp [h6]
  by_cases h7 : d = -1
  · subst h7
    rw [bd_last ⟨h0, h1⟩ ⟨h2, h3⟩ ⟨h4, h5⟩ h6 (Or.inl rfl)]
    clear h6
    go_enter Tryz.func7, Tryz.ntmps7
    go_wp2
    exact bodyPost_ret (v := .tuple #[.agg #[.int .i64 (36 + c), .int .i64 16, .int .i64 (1 + c)], .int .i64 0]) (by simp [results, Tryz.results7, go_sem]) rfl ⟨rfl, (Fr.refl _ w).alloc _⟩
  have e8 : (d == -1) = false := by simp [h7]
  have e9 : (d != -1) = true := by simp [h7]
  by_cases h8 : d = n
  · have e10 : (d == n) = true := by simp [h8]
    rw [bd_last ⟨h0, h1⟩ ⟨h2, h3⟩ ⟨h4, h5⟩ h6 (Or.inr h8)]
    have hd0 : 0 ≤ d := by omega
    have hdn : d ≤ n := by omega
    clear h6 h7 h8
    go_enter Tryz.func7, Tryz.ntmps7
    go_wp2
    exact bodyPost_ret (v := .tuple #[.agg #[.int .i64 (36 + c), .int .i64 16, .int .i64 (1 + c)], .int .i64 0]) (by simp [results, Tryz.results7, go_sem]) rfl ⟨rfl, (Fr.refl _ w).alloc _⟩
  have e10 : (d == n) = false := by simp [h8]
  by_cases h9 : d < 0
  · rw [bd_bad (by unfold bdE; rw [if_neg (by omega), if_neg (by omega)])]
    clear h6 h7 h8
    go_enter Tryz.func7, Tryz.ntmps7
    go_wp2
    exact bodyPost_ret (v := .tuple #[.agg #[.int .i64 0, .int .i64 0, .int .i64 0], .int .i64 7]) (by simp [results, Tryz.results7, go_sem]) rfl ⟨rfl, (Fr.refl _ w).alloc _⟩
  by_cases h10 : n < d
  · have hd0 : 0 ≤ d := by omega
    have e12 : decide (d ≤ n) = false := by simp; omega
    rw [bd_bad (by unfold bdE; rw [if_neg (by omega), if_neg (by omega)])]
    clear h6 h7 h8 h9
    go_enter Tryz.func7, Tryz.ntmps7
    go_wp2
    exact bodyPost_ret (v := .tuple #[.agg #[.int .i64 0, .int .i64 0, .int .i64 0], .int .i64 7]) (by simp [results, Tryz.results7, go_sem]) rfl ⟨rfl, (Fr.refl _ w).alloc _⟩
  have hd0 : 0 ≤ d := by omega
  have hdn : d ≤ n := by omega
  rw [bd_mid ⟨h0, h1⟩ ⟨h2, h3⟩ ⟨h4, h5⟩ (by omega)]
  clear h6 h7 h8 h9 h10
  go_enter Tryz.func7, Tryz.ntmps7
  go_wp2
  exact bodyPost_ret (v := .tuple #[.agg #[.int .i64 (23 + 4 * e), .int .i64 (19 + 3 * e), .int .i64 (2 + 2 * e)], .int .i64 0]) (by simp [results, Tryz.results7, go_sem]) rfl ⟨rfl, (Fr.refl _ w).alloc _⟩
set_option maxRecDepth 100000 in
set_option maxHeartbeats 4000000 in
theorem over_walk (u : Nat → Int) (r t o : Int) (w : World) (h2 : 0 ≤ u 2 ∧ u 2 ≤ 1000000) (h7 : 0 ≤ u 7) : Calls Tryz.prog 23 #[.agg #[.int .i64 (u 0), .int .i64 (u 1), .int .i64 (u 2), .int .i64 (u 3), .int .i64 (u 4), .int .i64 (u 5), .int .i64 (u 6), .int .i64 (u 7)], .agg #[.int .i64 r, .int .i64 t, .int .i64 o]] w (Ret (.int .i64 (overF u r t o)) w) := by
  have hz : 0 ≤ u 2 := h2.1
  have hm : u 2 ≤ 1000000 := h2.2
  clear h2
  have key : ∀ x, overF u r t o = x → (overF u r t o = x) := fun _ h => h
  have HV := Lib.hid (fun x (h : overF u r t o = x) => h)
  obtain ⟨x, hx⟩ : ∃ x, overF u r t o = x := ⟨_, rfl⟩
  rw [hx]
  unfold overF at hx
  generalize u 0 = u0 at *
  generalize u 1 = u1 at *
  generalize u 2 = u2 at *
  generalize u 3 = u3 at *
  generalize u 4 = u4 at *
  generalize u 5 = u5 at *
  generalize u 6 = u6 at *
  generalize u 7 = u7 at *
  clear key HV
  by_cases c0 : r < u2
  · rw [if_pos c0] at hx
    have HX := Lib.hid hx.symm
    clear hx
    go_enter Tryz.func23, Tryz.ntmps23
    go_wp2
    go_ret
    exact ⟨by rw [HX.out]; rfl, ((Fr.refl _ w).alloc _).alloc _⟩
  by_cases c1 : u3 ≠ 2 + 2 * u2
  · rw [if_neg c0, if_pos c1] at hx
    have HX := Lib.hid hx.symm
    clear hx
    have e1 : (u3 != 2 + 2 * u2) = true := by simp [c1]
    have e2 : (u3 != 2 * u2 + 2) = true := by rw [bne_iff_ne]; omega
    clear c1
    go_enter Tryz.func23, Tryz.ntmps23
    go_wp2
    go_ret
    exact ⟨by rw [HX.out]; rfl, ((Fr.refl _ w).alloc _).alloc _⟩
  have c1 : u3 = 2 + 2 * u2 := by omega
  have e1 : (u3 != 2 + 2 * u2) = false := by simp [c1]
  have e2 : (u3 != 2 * u2 + 2) = false := by rw [bne_eq_false_iff_eq]; omega
  have HC := Lib.hid c1
  replace c1 : ¬ (u3 ≠ 2 + 2 * u2) := by omega
  rw [if_neg c0, if_neg c1] at hx
  clear c1
  by_cases c2 : t < u4
  · rw [if_pos c2] at hx
    have HX := Lib.hid hx.symm
    clear hx
    go_enter Tryz.func23, Tryz.ntmps23
    go_wp2
    go_ret
    exact ⟨by rw [HX.out]; rfl, ((Fr.refl _ w).alloc _).alloc _⟩
  by_cases c3 : o < u6
  · rw [if_neg c2, if_pos c3] at hx
    have HX := Lib.hid hx.symm
    clear hx
    go_enter Tryz.func23, Tryz.ntmps23
    go_wp2
    go_ret
    exact ⟨by rw [HX.out]; rfl, ((Fr.refl _ w).alloc _).alloc _⟩
  by_cases c4 : 0 < u7
  · rw [if_neg c2, if_neg c3, if_pos c4] at hx
    have HX := Lib.hid hx.symm
    clear hx
    go_enter Tryz.func23, Tryz.ntmps23
    go_wp2
    go_ret
    exact ⟨by rw [HX.out]; rfl, ((Fr.refl _ w).alloc _).alloc _⟩
  rw [if_neg c2, if_neg c3, if_neg c4] at hx
  have HX := Lib.hid hx.symm
  clear hx
  have d0 : u2 ≤ r := by omega
  have d2 : u4 ≤ t := by omega
  have d3 : u6 ≤ o := by omega
  have d4 : u7 ≤ 0 := by omega
  clear c0 c2 c3 c4
  go_enter Tryz.func23, Tryz.ntmps23
  go_wp2
  go_ret
  exact ⟨by rw [HX.out]; rfl, ((Fr.refl _ w).alloc _).alloc _⟩
end Go.Proofs.YtogjfifpbplahaaGreatDoor

namespace Go.Proofs.YtogjfifpbplahaaGreatDoor
open Go.RowKit
open CM
set_option linter.unusedVariables false

theorem RowB.drew {w : World} {b : Nat} {T : TypeId} {vs : List Value} (h : RowB w b T vs) : RowB w.drew b T vs := h
theorem listE_ok {n : Nat} {U : Nat → Nat → Int} (h : listE n U = 0) : n ≤ 70 ∧ okB U n = true := by
  unfold listE at h
  split at h
  · cases h
  · split at h
    · exact ⟨by omega, by assumption⟩
    · cases h
theorem sumF_le {U : Nat → Nat → Int} {n k : Nat} (h : okB U n = true) (hn : n ≤ 70) (hk : k ≤ n) (j : Nat) (h1 : 1 ≤ j) (h8 : j < 8) : 0 ≤ sumF U j k ∧ sumF U j k ≤ 70000000 := by
  have := sumF_bd (U := U) (j := j) (n := k) (fun i hi => ok1_bd (okB_at h (by omega)) j h1 h8)
  omega
theorem ok1_bd0 {u : Nat → Int} (h : ok1 u = true) (j : Nat) (h8 : j < 8) : -3 ≤ u j ∧ u j ≤ 1000000 := by
  by_cases h0 : j = 0
  · subst h0
    simp only [ok1, Bool.and_eq_true, Bool.or_eq_true, beq_iff_eq, decide_eq_true_eq] at h
    omega
  · have := ok1_bd h j (by omega) h8
    omega
end Go.Proofs.YtogjfifpbplahaaGreatDoor

namespace Go.Proofs.YtogjfifpbplahaaGreatDoor
open Go.RowKit Go.Shelf
open CM
set_option linter.unusedVariables false

/-- what Peak returns -/
def peakV (n : Nat) (U : Nat → Nat → Int) : Value := .tuple #[.int .i64 (if listE n U = 0 then mostF U n else 0), .int .i64 (listE n U)]
theorem nowF_step (U : Nat → Nat → Int) (k : Nat) : nowF U (k + 1) = nowF U k + (U k 4 - U k 5) := by
  simp only [nowF, sumF]; omega

set_option maxRecDepth 100000 in
set_option maxHeartbeats 4000000 in
theorem peak_ok (n c b o : Nat) (a0 : Option Addr) (U : Nat → Nat → Int) (w : World) (hE : listE n U = 0) (hU : Hid (Uses w a0 n U)) (ha : 0 < n → a0 = some ⟨b, o, none⟩) (hb : 0 < n → b < w.heap.size) (hc : Hid (∀ i j, i < n → j < 8 → w.cell? ⟨b, o + i * 8 + j, none⟩ = some (.int .i64 (U i j)))) :
    Calls Tryz.prog 14 #[.slice a0 n c] w (Ret (.tuple #[.int .i64 (mostF U n), .int .i64 0]) w) := by
  have HL := Lib.hid (fun (w0 : World) (hF : Fr (fun _ => False) w w0) => check_walk n c a0 U w0 (hU.out.fr hF (fun _ _ h => h)))
  rw [hE] at HL
  obtain ⟨hn, hok⟩ := listE_ok hE
  have HOK := Lib.hid hok
  clear hE hok
  have HA := Lib.hid ha
  have HB := Lib.hid hb
  clear ha hb
  go_enter Tryz.func14, Tryz.ntmps14
  go_wp2_with (go_at_call 22; go_must (refine (HL.out _ (Fr.refl _ _)).mono ?_; rintro e w1 ⟨rfl, hF⟩; have HF1 := Lib.hid hF; clear hF))
  go_loopw [16, 5, 6] (fun i m q wr => ∃ k : Nat, k ≤ n ∧ i = .int .i64 k ∧ m = .int .i64 (mostF U k) ∧ q = .int .i64 (nowF U k) ∧ Fr (fun _ => False) w wr) (fun i _ _ _ => n - (intOf i).toNat)
  case atStart => exact ⟨0, by omega, rfl, rfl, rfl, HF1.out⟩
  case round =>
    obtain ⟨k, hk, rfl, rfl, rfl, hF⟩ := hrel
    by_cases hlt : k < n
    · have ha := HA.out (by omega)
      have hb := HB.out (by omega)
      subst ha
      have c0 : wr.cell? ⟨b, o + k * 8, none⟩ = some (.int .i64 (U k 0)) := hF.cell (w := w) (p := ⟨b, o + k * 8, none⟩) hb (fun h => h) (hc.out k 0 hlt (by omega))
      have c1 : wr.cell? ⟨b, o + k * 8 + 1, none⟩ = some (.int .i64 (U k 1)) := hF.cell (w := w) (p := ⟨b, o + k * 8 + 1, none⟩) hb (fun h => h) (hc.out k 1 hlt (by omega))
      have c2 : wr.cell? ⟨b, o + k * 8 + 2, none⟩ = some (.int .i64 (U k 2)) := hF.cell (w := w) (p := ⟨b, o + k * 8 + 2, none⟩) hb (fun h => h) (hc.out k 2 hlt (by omega))
      have c3 : wr.cell? ⟨b, o + k * 8 + 3, none⟩ = some (.int .i64 (U k 3)) := hF.cell (w := w) (p := ⟨b, o + k * 8 + 3, none⟩) hb (fun h => h) (hc.out k 3 hlt (by omega))
      have c4 : wr.cell? ⟨b, o + k * 8 + 4, none⟩ = some (.int .i64 (U k 4)) := hF.cell (w := w) (p := ⟨b, o + k * 8 + 4, none⟩) hb (fun h => h) (hc.out k 4 hlt (by omega))
      have c5 : wr.cell? ⟨b, o + k * 8 + 5, none⟩ = some (.int .i64 (U k 5)) := hF.cell (w := w) (p := ⟨b, o + k * 8 + 5, none⟩) hb (fun h => h) (hc.out k 5 hlt (by omega))
      have c6 : wr.cell? ⟨b, o + k * 8 + 6, none⟩ = some (.int .i64 (U k 6)) := hF.cell (w := w) (p := ⟨b, o + k * 8 + 6, none⟩) hb (fun h => h) (hc.out k 6 hlt (by omega))
      have c7 : wr.cell? ⟨b, o + k * 8 + 7, none⟩ = some (.int .i64 (U k 7)) := hF.cell (w := w) (p := ⟨b, o + k * 8 + 7, none⟩) hb (fun h => h) (hc.out k 7 hlt (by omega))
      have HF := Lib.hid hF
      clear hF
      obtain ⟨q1, q2⟩ := nowF_bd HOK.out hn k hk
      obtain ⟨q3, q4⟩ := nowF_bd HOK.out hn (k + 1) hlt
      have q5 := nowF_step U k
      rw [q5] at q3 q4
      obtain ⟨p1, p2⟩ := ok1_bd (okB_at HOK.out hlt) 4 (by omega) (by omega)
      obtain ⟨p3, p4⟩ := ok1_bd (okB_at HOK.out hlt) 5 (by omega) (by omega)
      have g1 : (0 : Int) ≤ (k : Int) := by omega
      have g2 : (k : Int) < (n : Int) := by omega
      go_wp2_with fail
      go_roundw
      case rel =>
        refine ⟨k + 1, by omega, by go_num, ?_, ?_, ?_⟩
        · rw [show mostF U (k + 1) = max (mostF U k) (nowF U (k + 1)) from rfl, q5]
          congr 1
          split <;> omega
        · rw [q5]
        · exact HF.out.alloc _
      case measure => simp [intOf]; omega
    · obtain rfl : k = n := by omega
      have HF := Lib.hid hF
      clear hF
      go_wp2_with fail
      exact bodyPost_ret (v := .tuple #[.int .i64 (mostF U k), .int .i64 0]) (by simp [results, Tryz.results14, go_sem]) rfl ⟨rfl, HF.out⟩
set_option maxRecDepth 100000 in
set_option maxHeartbeats 1000000 in
theorem peak_bad (n c : Nat) (a0 : Option Addr) (U : Nat → Nat → Int) (w : World) (hE : listE n U ≠ 0) (h : Uses w a0 n U) :
    Calls Tryz.prog 14 #[.slice a0 n c] w (Ret (.tuple #[.int .i64 0, .int .i64 (listE n U)]) w) := by
  have HL := Lib.hid (check_walk n c a0 U w h)
  generalize listE n U = E at *
  have e1 : (E != 0) = true := by simp [hE]
  clear hE h
  go_enter Tryz.func14, Tryz.ntmps14
  go_wp2_with (go_at_call 22; go_must (refine HL.out.mono ?_; rintro e w1 ⟨rfl, hF⟩; have HF1 := Lib.hid hF; clear hF))
  exact bodyPost_ret (v := .tuple #[.int .i64 0, .int .i64 E]) (by simp [results, Tryz.results14, go_sem]) rfl ⟨rfl, HF1.out⟩
theorem peak_walk (n c : Nat) (a0 : Option Addr) (U : Nat → Nat → Int) (w : World) (h : Uses w a0 n U) :
    Calls Tryz.prog 14 #[.slice a0 n c] w (Ret (peakV n U) w) := by
  unfold peakV
  by_cases hE : listE n U = 0
  · rw [if_pos hE]
    rw [hE]
    by_cases h0 : 0 < n
    · obtain ⟨b, o, rfl, hb, hc⟩ := h h0
      exact peak_ok n c b o _ U w hE (Lib.hid h) (fun _ => rfl) (fun _ => hb) (Lib.hid hc)
    · exact peak_ok n c 0 0 _ U w hE (Lib.hid h) (fun hn => absurd hn h0) (fun hn => absurd hn h0) (Lib.hid (fun i j hi => by omega))
  · rw [if_neg hE]
    exact peak_bad n c a0 U w hE h
end Go.Proofs.YtogjfifpbplahaaGreatDoor

namespace Go.Proofs.YtogjfifpbplahaaGreatDoor
open Go.RowKit Go.Shelf
open CM
set_option linter.unusedVariables false

/-- what Check returns -/
def checkV (n : Nat) (U : Nat → Nat → Int) (d c : Int) : Value :=
  if listE n U ≠ 0 then .tuple #[.int .i64 0, .int .i64 0, .int .i64 (listE n U)]
  else if chkB U d c n = true then .tuple #[.int .i64 (chkI U d c n), .int .i64 (chkV U d c n), .int .i64 0] else .tuple #[.int .i64 0, .int .i64 0, .int .i64 7]
theorem bdE_two (d e n c : Int) : bdE d e n c = 0 ∨ bdE d e n c = 7 := by
  unfold bdE; split
  · exact .inr rfl
  · split
    · exact .inl rfl
    · exact .inr rfl
theorem overF_bd (u : Nat → Int) (r t o : Int) : 0 ≤ overF u r t o ∧ overF u r t o ≤ 5 := by
  unfold overF; (repeat' split) <;> omega
theorem chkIV (U : Nat → Nat → Int) (d c : Int) : ∀ n, (chkI U d c n = -1 ∧ chkV U d c n = 0) ∨ (0 ≤ chkI U d c n ∧ chkI U d c n < n ∧ 0 < chkV U d c n ∧ chkV U d c n ≤ 5)
  | 0 => .inl ⟨rfl, rfl⟩
  | n + 1 => by
    have ih := chkIV U d c n
    have hb : 0 ≤ chkW U d c n ∧ chkW U d c n ≤ 5 := overF_bd _ _ _ _
    simp only [chkI, chkV]
    by_cases h : chkI U d c n < 0 ∧ chkW U d c n ≠ 0
    · rw [if_pos h, if_pos h]; right; omega
    · rw [if_neg h, if_neg h]; omega
theorem chkB_le {U : Nat → Nat → Int} {d c : Int} {n m : Nat} (h : chkB U d c n = true) (hm : m ≤ n) : chkB U d c m = true := by
  induction n with
  | zero => obtain rfl : m = 0 := by omega
            exact h
  | succ k ih =>
    by_cases e : m = k + 1
    · subst e; exact h
    · simp only [chkB, Bool.and_eq_true] at h
      exact ih h.1 (by omega)
theorem chkB_bad {U : Nat → Nat → Int} {d c : Int} {n k : Nat} (hk : k < n) (h : bdE (U k 0) (U k 1) d c ≠ 0) : chkB U d c n = false := by
  cases e : chkB U d c n with
  | false => rfl
  | true =>
    have := chkB_le e (show k + 1 ≤ n by omega)
    simp only [chkB, Bool.and_eq_true, decide_eq_true_eq] at this
    exact absurd this.2 h
theorem chk_keep {U : Nat → Nat → Int} {d c : Int} {k : Nat} (h : ¬ (chkI U d c k < 0 ∧ chkW U d c k ≠ 0)) : chkI U d c (k + 1) = chkI U d c k ∧ chkV U d c (k + 1) = chkV U d c k := by
  simp only [chkI, chkV]; rw [if_neg h, if_neg h]; exact ⟨rfl, rfl⟩
theorem chk_new {U : Nat → Nat → Int} {d c : Int} {k : Nat} (h : chkI U d c k < 0 ∧ chkW U d c k ≠ 0) : chkI U d c (k + 1) = k ∧ chkV U d c (k + 1) = chkW U d c k := by
  simp only [chkI, chkV]; rw [if_pos h, if_pos h]; exact ⟨rfl, rfl⟩
theorem checkV_bad {n : Nat} {U : Nat → Nat → Int} {d c : Int} (h : listE n U ≠ 0) : checkV n U d c = .tuple #[.int .i64 0, .int .i64 0, .int .i64 (listE n U)] := by
  unfold checkV; rw [if_pos h]
theorem checkV_no {n : Nat} {U : Nat → Nat → Int} {d c : Int} (h : listE n U = 0) (h' : chkB U d c n = false) : checkV n U d c = .tuple #[.int .i64 0, .int .i64 0, .int .i64 7] := by
  unfold checkV; rw [if_neg (by simp [h]), if_neg (by simp [h'])]
theorem checkV_ok {n : Nat} {U : Nat → Nat → Int} {d c : Int} (h : listE n U = 0) (h' : chkB U d c n = true) : checkV n U d c = .tuple #[.int .i64 (chkI U d c n), .int .i64 (chkV U d c n), .int .i64 0] := by
  unfold checkV; rw [if_neg (by simp [h]), if_pos h']

set_option maxRecDepth 100000 in
set_option maxHeartbeats 4000000 in
theorem ccheck_ok (n c b o : Nat) (a0 : Option Addr) (U : Nat → Nat → Int) (dd cc : Int) (w : World) (hE : listE n U = 0) (hU : Hid (Uses w a0 n U)) (ha : 0 < n → a0 = some ⟨b, o, none⟩) (hb : 0 < n → b < w.heap.size) (hc : Hid (∀ i j, i < n → j < 8 → w.cell? ⟨b, o + i * 8 + j, none⟩ = some (.int .i64 (U i j)))) :
    Calls Tryz.prog 13 #[.slice a0 n c, .int .i64 dd, .int .i64 cc] w (Ret (checkV n U dd cc) w) := by
  have HL := Lib.hid (fun (w0 : World) (hF : Fr (fun _ => False) w w0) => check_walk n c a0 U w0 (hU.out.fr hF (fun _ _ h => h)))
  rw [hE] at HL
  obtain ⟨hn, hok⟩ := listE_ok hE
  have HOK := Lib.hid hok
  have HA := Lib.hid ha
  have HB := Lib.hid hb
  have HV1 := Lib.hid (fun (h : chkB U dd cc n = true) => checkV_ok (d := dd) (c := cc) hE h)
  have HV0 := Lib.hid (fun (h : chkB U dd cc n = false) => checkV_no (d := dd) (c := cc) hE h)
  clear ha hb hE hok
  go_enter Tryz.func13, Tryz.ntmps13
  go_wp2_with (go_at_call 22; go_must (refine (HL.out _ (Fr.refl _ _)).mono ?_; rintro e w1 ⟨rfl, hF⟩; have HF1 := Lib.hid hF; clear hF))
  go_loopw [22, 6, 7] (fun i m v wr => ∃ k : Nat, k ≤ n ∧ i = .int .i64 k ∧ m = .int .i64 (chkI U dd cc k) ∧ v = .int .i64 (chkV U dd cc k) ∧ chkB U dd cc k = true ∧ Fr (fun _ => False) w wr) (fun i _ _ _ => n - (intOf i).toNat)
  case atStart => exact ⟨0, by omega, rfl, rfl, rfl, rfl, HF1.out⟩
  case round =>
    obtain ⟨k, hk, rfl, rfl, rfl, hB, hF⟩ := hrel
    by_cases hlt : k < n
    · have ha := HA.out (by omega)
      have hb := HB.out (by omega)
      subst ha
      have c0 : wr.cell? ⟨b, o + k * 8, none⟩ = some (.int .i64 (U k 0)) := hF.cell (w := w) (p := ⟨b, o + k * 8, none⟩) hb (fun h => h) (hc.out k 0 hlt (by omega))
      have c1 : wr.cell? ⟨b, o + k * 8 + 1, none⟩ = some (.int .i64 (U k 1)) := hF.cell (w := w) (p := ⟨b, o + k * 8 + 1, none⟩) hb (fun h => h) (hc.out k 1 hlt (by omega))
      have c2 : wr.cell? ⟨b, o + k * 8 + 2, none⟩ = some (.int .i64 (U k 2)) := hF.cell (w := w) (p := ⟨b, o + k * 8 + 2, none⟩) hb (fun h => h) (hc.out k 2 hlt (by omega))
      have c3 : wr.cell? ⟨b, o + k * 8 + 3, none⟩ = some (.int .i64 (U k 3)) := hF.cell (w := w) (p := ⟨b, o + k * 8 + 3, none⟩) hb (fun h => h) (hc.out k 3 hlt (by omega))
      have c4 : wr.cell? ⟨b, o + k * 8 + 4, none⟩ = some (.int .i64 (U k 4)) := hF.cell (w := w) (p := ⟨b, o + k * 8 + 4, none⟩) hb (fun h => h) (hc.out k 4 hlt (by omega))
      have c5 : wr.cell? ⟨b, o + k * 8 + 5, none⟩ = some (.int .i64 (U k 5)) := hF.cell (w := w) (p := ⟨b, o + k * 8 + 5, none⟩) hb (fun h => h) (hc.out k 5 hlt (by omega))
      have c6 : wr.cell? ⟨b, o + k * 8 + 6, none⟩ = some (.int .i64 (U k 6)) := hF.cell (w := w) (p := ⟨b, o + k * 8 + 6, none⟩) hb (fun h => h) (hc.out k 6 hlt (by omega))
      have c7 : wr.cell? ⟨b, o + k * 8 + 7, none⟩ = some (.int .i64 (U k 7)) := hF.cell (w := w) (p := ⟨b, o + k * 8 + 7, none⟩) hb (fun h => h) (hc.out k 7 hlt (by omega))
      have HF := Lib.hid hF
      have HBk := Lib.hid hB
      clear hF hB
      have HP2 := Lib.hid (ok1_bd (okB_at HOK.out hlt) 2 (by omega) (by omega))
      have HP7 := Lib.hid (ok1_bd (okB_at HOK.out hlt) 7 (by omega) (by omega))
      have g1 : (0 : Int) ≤ (k : Int) := by omega
      have g2 : (k : Int) < (n : Int) := by omega
      have HBD := Lib.hid (fun (w0 : World) => bound_walk (U k 0) (U k 1) dd cc w0)
      by_cases hbd : bdE (U k 0) (U k 1) dd cc = 0
      · have HOV := Lib.hid (fun (w0 : World) => over_walk (U k) (bdR (U k 0) (U k 1) dd cc) (bdT (U k 0) (U k 1) dd cc) (bdO (U k 0) (U k 1) dd cc) w0 HP2.out HP7.out.1)
        change Hid (∀ w0 : World, Calls _ _ _ w0 (Ret (.int .i64 (chkW U dd cc k)) w0)) at HOV
        have HN := Lib.hid (show chkB U dd cc (k + 1) = true by simp only [chkB, Bool.and_eq_true, decide_eq_true_eq]; exact ⟨HBk.out, hbd⟩)
        have HBV : Hid (bdV (U k 0) (U k 1) dd cc = .tuple #[.agg #[.int .i64 (bdR (U k 0) (U k 1) dd cc), .int .i64 (bdT (U k 0) (U k 1) dd cc), .int .i64 (bdO (U k 0) (U k 1) dd cc)], .int .i64 0]) := Lib.hid (by unfold bdV; rw [hbd])
        rw [HBV.out] at HBD
        have hwb : 0 ≤ chkW U dd cc k ∧ chkW U dd cc k ≤ 5 := overF_bd _ _ _ _
        have HIV := Lib.hid (chkIV U dd cc k)
        have HKE := Lib.hid (fun h => chk_keep (U := U) (d := dd) (c := cc) (k := k) h)
        have HNE := Lib.hid (fun h => chk_new (U := U) (d := dd) (c := cc) (k := k) h)
        clear hbd HBV
        generalize bdR (U k 0) (U k 1) dd cc = rr at *
        generalize bdT (U k 0) (U k 1) dd cc = tt at *
        generalize bdO (U k 0) (U k 1) dd cc = oo at *
        obtain ⟨y, hy⟩ : ∃ y, chkW U dd cc k = y := ⟨_, rfl⟩
        rw [hy] at HOV HKE HNE hwb
        have hwb1 := hwb.1
        have hwb2 := hwb.2
        clear hy hwb
        obtain ⟨p, hp⟩ : ∃ p, chkI U dd cc k = p := ⟨_, rfl⟩
        obtain ⟨q, hq⟩ : ∃ q, chkV U dd cc k = q := ⟨_, rfl⟩
        rw [hp, hq] at HIV
        rw [hp] at HKE HNE
        rw [hq] at HKE
        rw [hp, hq]
        clear hp hq
        by_cases h0 : y = 0
        · subst h0
          go_wp2_with (first | (go_at_call 6; go_must (refine (HBD.out _).mono ?_; rintro e w2 ⟨rfl, hG⟩; have HG := Lib.hid (((HF.out.alloc _).then hG).alloc (.cells #[.int .i64 rr, .int .i64 tt, .int .i64 oo] 30)); have HR := Lib.hid ((RowB.new wr 45 [.int .i64 (U k 0), .int .i64 (U k 1), .int .i64 (U k 2), .int .i64 (U k 3), .int .i64 (U k 4), .int .i64 (U k 5), .int .i64 (U k 6), .int .i64 (U k 7)]).fr hG (fun h => h)); have x0 : w2.cell? ⟨wr.heap.size, 0, none⟩ = some (.int .i64 (U k 0)) := HR.out.cell 0; have x1 : w2.cell? ⟨wr.heap.size, 1, none⟩ = some (.int .i64 (U k 1)) := HR.out.cell 1; have x2 : w2.cell? ⟨wr.heap.size, 2, none⟩ = some (.int .i64 (U k 2)) := HR.out.cell 2; have x3 : w2.cell? ⟨wr.heap.size, 3, none⟩ = some (.int .i64 (U k 3)) := HR.out.cell 3; have x4 : w2.cell? ⟨wr.heap.size, 4, none⟩ = some (.int .i64 (U k 4)) := HR.out.cell 4; have x5 : w2.cell? ⟨wr.heap.size, 5, none⟩ = some (.int .i64 (U k 5)) := HR.out.cell 5; have x6 : w2.cell? ⟨wr.heap.size, 6, none⟩ = some (.int .i64 (U k 6)) := HR.out.cell 6; have x7 : w2.cell? ⟨wr.heap.size, 7, none⟩ = some (.int .i64 (U k 7)) := HR.out.cell 7; have hlz : wr.heap.size < w2.heap.size := HR.out.lt; clear hG)) | (go_at_call 23; go_must (refine (HOV.out _).mono ?_; rintro e w3 ⟨rfl, hG⟩; have HG2 := Lib.hid (HG.out.then hG); clear hG)))
          go_roundw
          case rel =>
            refine ⟨k + 1, by omega, by go_num, ?_, ?_, HN.out, HG2.out⟩
            · rw [(HKE.out (fun h => h.2 rfl)).1]
            · rw [(HKE.out (fun h => h.2 rfl)).2]
          case measure => simp [intOf]; omega
        · have hy1 : 0 < y := by omega
          by_cases hq : q = 0
          · subst hq
            have hp1 : p = -1 := by have := HIV.out; omega
            subst hp1
            clear h0
            go_wp2_with (first | (go_at_call 6; go_must (refine (HBD.out _).mono ?_; rintro e w2 ⟨rfl, hG⟩; have HG := Lib.hid (((HF.out.alloc _).then hG).alloc (.cells #[.int .i64 rr, .int .i64 tt, .int .i64 oo] 30)); have HR := Lib.hid ((RowB.new wr 45 [.int .i64 (U k 0), .int .i64 (U k 1), .int .i64 (U k 2), .int .i64 (U k 3), .int .i64 (U k 4), .int .i64 (U k 5), .int .i64 (U k 6), .int .i64 (U k 7)]).fr hG (fun h => h)); have x0 : w2.cell? ⟨wr.heap.size, 0, none⟩ = some (.int .i64 (U k 0)) := HR.out.cell 0; have x1 : w2.cell? ⟨wr.heap.size, 1, none⟩ = some (.int .i64 (U k 1)) := HR.out.cell 1; have x2 : w2.cell? ⟨wr.heap.size, 2, none⟩ = some (.int .i64 (U k 2)) := HR.out.cell 2; have x3 : w2.cell? ⟨wr.heap.size, 3, none⟩ = some (.int .i64 (U k 3)) := HR.out.cell 3; have x4 : w2.cell? ⟨wr.heap.size, 4, none⟩ = some (.int .i64 (U k 4)) := HR.out.cell 4; have x5 : w2.cell? ⟨wr.heap.size, 5, none⟩ = some (.int .i64 (U k 5)) := HR.out.cell 5; have x6 : w2.cell? ⟨wr.heap.size, 6, none⟩ = some (.int .i64 (U k 6)) := HR.out.cell 6; have x7 : w2.cell? ⟨wr.heap.size, 7, none⟩ = some (.int .i64 (U k 7)) := HR.out.cell 7; have hlz : wr.heap.size < w2.heap.size := HR.out.lt; clear hG)) | (go_at_call 23; go_must (refine (HOV.out _).mono ?_; rintro e w3 ⟨rfl, hG⟩; have HG2 := Lib.hid (HG.out.then hG); clear hG)))
            go_roundw
            case rel =>
              refine ⟨k + 1, by omega, by go_num, ?_, ?_, HN.out, HG2.out⟩
              · rw [(HNE.out ⟨by omega, by omega⟩).1]
              · rw [(HNE.out ⟨by omega, by omega⟩).2]
            case measure => simp [intOf]; omega
          · have hp1 : 0 ≤ p := by have := HIV.out; omega
            clear h0
            go_wp2_with (first | (go_at_call 6; go_must (refine (HBD.out _).mono ?_; rintro e w2 ⟨rfl, hG⟩; have HG := Lib.hid (((HF.out.alloc _).then hG).alloc (.cells #[.int .i64 rr, .int .i64 tt, .int .i64 oo] 30)); have HR := Lib.hid ((RowB.new wr 45 [.int .i64 (U k 0), .int .i64 (U k 1), .int .i64 (U k 2), .int .i64 (U k 3), .int .i64 (U k 4), .int .i64 (U k 5), .int .i64 (U k 6), .int .i64 (U k 7)]).fr hG (fun h => h)); have x0 : w2.cell? ⟨wr.heap.size, 0, none⟩ = some (.int .i64 (U k 0)) := HR.out.cell 0; have x1 : w2.cell? ⟨wr.heap.size, 1, none⟩ = some (.int .i64 (U k 1)) := HR.out.cell 1; have x2 : w2.cell? ⟨wr.heap.size, 2, none⟩ = some (.int .i64 (U k 2)) := HR.out.cell 2; have x3 : w2.cell? ⟨wr.heap.size, 3, none⟩ = some (.int .i64 (U k 3)) := HR.out.cell 3; have x4 : w2.cell? ⟨wr.heap.size, 4, none⟩ = some (.int .i64 (U k 4)) := HR.out.cell 4; have x5 : w2.cell? ⟨wr.heap.size, 5, none⟩ = some (.int .i64 (U k 5)) := HR.out.cell 5; have x6 : w2.cell? ⟨wr.heap.size, 6, none⟩ = some (.int .i64 (U k 6)) := HR.out.cell 6; have x7 : w2.cell? ⟨wr.heap.size, 7, none⟩ = some (.int .i64 (U k 7)) := HR.out.cell 7; have hlz : wr.heap.size < w2.heap.size := HR.out.lt; clear hG)) | (go_at_call 23; go_must (refine (HOV.out _).mono ?_; rintro e w3 ⟨rfl, hG⟩; have HG2 := Lib.hid (HG.out.then hG); clear hG)))
            go_roundw
            case rel =>
              refine ⟨k + 1, by omega, by go_num, ?_, ?_, HN.out, HG2.out⟩
              · rw [(HKE.out (fun h => by omega)).1]
              · rw [(HKE.out (fun h => by omega)).2]
            case measure => simp [intOf]; omega
      · have h7 : bdE (U k 0) (U k 1) dd cc = 7 := by have := bdE_two (U k 0) (U k 1) dd cc; omega
        rw [bd_bad h7] at HBD
        rw [HV0.out (chkB_bad hlt hbd)]
        clear hbd h7
        go_wp2_with (go_at_call 6; go_must (refine (HBD.out _).mono ?_; rintro e w2 ⟨rfl, hG⟩; have HG := Lib.hid ((HF.out.alloc _).then hG); clear hG))
        exact bodyPost_ret (v := .tuple #[.int .i64 0, .int .i64 0, .int .i64 7]) (by simp [results, Tryz.results13, go_sem]) rfl ⟨rfl, HG.out.alloc _⟩
    · obtain rfl : k = n := by omega
      have HF := Lib.hid hF
      have HBk := Lib.hid hB
      clear hF hB
      go_wp2_with fail
      exact bodyPost_ret (v := .tuple #[.int .i64 (chkI U dd cc k), .int .i64 (chkV U dd cc k), .int .i64 0]) (by simp [results, Tryz.results13, go_sem]) rfl ⟨by rw [HV1.out HBk.out], HF.out⟩
set_option maxRecDepth 100000 in
set_option maxHeartbeats 1000000 in
theorem ccheck_bad (n c : Nat) (a0 : Option Addr) (U : Nat → Nat → Int) (dd cc : Int) (w : World) (hE : listE n U ≠ 0) (h : Uses w a0 n U) :
    Calls Tryz.prog 13 #[.slice a0 n c, .int .i64 dd, .int .i64 cc] w (Ret (.tuple #[.int .i64 0, .int .i64 0, .int .i64 (listE n U)]) w) := by
  have HL := Lib.hid (check_walk n c a0 U w h)
  generalize listE n U = E at *
  have e1 : (E != 0) = true := by simp [hE]
  clear hE h
  go_enter Tryz.func13, Tryz.ntmps13
  go_wp2_with (go_at_call 22; go_must (refine HL.out.mono ?_; rintro e w1 ⟨rfl, hF⟩; have HF1 := Lib.hid hF; clear hF))
  exact bodyPost_ret (v := .tuple #[.int .i64 0, .int .i64 0, .int .i64 E]) (by simp [results, Tryz.results13, go_sem]) rfl ⟨rfl, HF1.out⟩
theorem ccheck_walk (n c : Nat) (a0 : Option Addr) (U : Nat → Nat → Int) (dd cc : Int) (w : World) (h : Uses w a0 n U) :
    Calls Tryz.prog 13 #[.slice a0 n c, .int .i64 dd, .int .i64 cc] w (Ret (checkV n U dd cc) w) := by
  by_cases hE : listE n U = 0
  · by_cases h0 : 0 < n
    · obtain ⟨b, o, rfl, hb, hc⟩ := h h0
      exact ccheck_ok n c b o _ U dd cc w hE (Lib.hid h) (fun _ => rfl) (fun _ => hb) (Lib.hid hc)
    · exact ccheck_ok n c 0 0 _ U dd cc w hE (Lib.hid h) (fun hn => absurd hn h0) (fun hn => absurd hn h0) (Lib.hid (fun i j hi => by omega))
  · rw [checkV_bad hE]
    exact ccheck_bad n c a0 U dd cc w hE h
end Go.Proofs.YtogjfifpbplahaaGreatDoor
