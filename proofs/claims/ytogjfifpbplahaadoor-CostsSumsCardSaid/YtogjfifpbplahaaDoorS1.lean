/- costs.Bound, over, Total, and the reference's Bound, wrong, walked. -/
import Derived.Test.YtogjfifpbplahaaDoorL1
namespace Go.Proofs.YtogjfifpbplahaaDoor
open Go.RowKit
open CM
set_option linter.unusedVariables false

def bdV (d e n c : Int) : Value := .tuple #[.agg #[.int .i64 (bdR d e n c), .int .i64 (bdT d e n c), .int .i64 (bdO d e n c)], .int .i64 (bdE d e n c)]
theorem bd_bad {d e n c : Int} (h : bdE d e n c = 7) : bdV d e n c = .tuple #[.agg #[.int .i64 0, .int .i64 0, .int .i64 0], .int .i64 7] := by
  unfold bdV bdR bdT bdO
  rw [h]
  rfl
theorem bd_first {e n c : Int} (hn : 1 ≤ n ∧ n ≤ 60) (he : 0 ≤ e ∧ e ≤ 120) (hc : 0 ≤ c ∧ c ≤ 120) : bdV (-3) e n c = .tuple #[.agg #[.int .i64 1, .int .i64 0, .int .i64 0], .int .i64 0] := by
  have hE : bdE (-3) e n c = 0 := by unfold bdE; rw [if_neg (by omega), if_pos (Or.inl rfl)]
  unfold bdV bdR bdT bdO
  rw [hE]
  rfl
theorem bd_last {d e n c : Int} (hn : 1 ≤ n ∧ n ≤ 60) (he : 0 ≤ e ∧ e ≤ 120) (hc : 0 ≤ c ∧ c ≤ 120) (h3 : d ≠ -3) (h : d = -1 ∨ d = n) : bdV d e n c = .tuple #[.agg #[.int .i64 (36 + c), .int .i64 16, .int .i64 (1 + c)], .int .i64 0] := by
  have hE : bdE d e n c = 0 := by unfold bdE; rw [if_neg (by omega), if_pos (by omega)]
  unfold bdV bdR bdT bdO
  rw [hE]
  simp only [ne_eq, not_true_eq_false, if_false, h3, h, if_true]
theorem bd_mid {d e n c : Int} (hn : 1 ≤ n ∧ n ≤ 60) (he : 0 ≤ e ∧ e ≤ 120) (hc : 0 ≤ c ∧ c ≤ 120) (h : 0 ≤ d ∧ d < n) : bdV d e n c = .tuple #[.agg #[.int .i64 (23 + 4 * e), .int .i64 (19 + 3 * e), .int .i64 (2 + 2 * e)], .int .i64 0] := by
  have hE : bdE d e n c = 0 := by unfold bdE; rw [if_neg (by omega), if_pos (by omega)]
  unfold bdV bdR bdT bdO
  rw [hE]
  have h1 : d ≠ -3 := by omega
  have h2 : ¬ (d = -1 ∨ d = n) := by omega
  simp only [ne_eq, not_true_eq_false, if_false, h1, h2]
set_option maxRecDepth 100000 in
set_option maxHeartbeats 4000000 in
theorem bound_walk (d e n c : Int) (w : World) : Calls Tryd.prog 14 #[.int .i64 d, .int .i64 e, .int .i64 n, .int .i64 c] w (Ret (bdV d e n c) w) := by
  by_cases h0 : n < 1
  · rw [bd_bad (by unfold bdE; rw [if_pos (by omega)])]
    go_enter Tryd.func14, Tryd.ntmps14
    go_wp2
    exact bodyPost_ret (v := .tuple #[.agg #[.int .i64 0, .int .i64 0, .int .i64 0], .int .i64 7]) (by simp [results, Tryd.results14, go_sem]) rfl ⟨rfl, (Fr.refl _ w).alloc _⟩
  have h0 : 1 ≤ n := by omega
  by_cases h1 : 60 < n
  · rw [bd_bad (by unfold bdE; rw [if_pos (by omega)])]
    go_enter Tryd.func14, Tryd.ntmps14
    go_wp2
    exact bodyPost_ret (v := .tuple #[.agg #[.int .i64 0, .int .i64 0, .int .i64 0], .int .i64 7]) (by simp [results, Tryd.results14, go_sem]) rfl ⟨rfl, (Fr.refl _ w).alloc _⟩
  have h1 : n ≤ 60 := by omega
  by_cases h2 : e < 0
  · rw [bd_bad (by unfold bdE; rw [if_pos (by omega)])]
    go_enter Tryd.func14, Tryd.ntmps14
    go_wp2
    exact bodyPost_ret (v := .tuple #[.agg #[.int .i64 0, .int .i64 0, .int .i64 0], .int .i64 7]) (by simp [results, Tryd.results14, go_sem]) rfl ⟨rfl, (Fr.refl _ w).alloc _⟩
  have h2 : 0 ≤ e := by omega
  by_cases h3 : 120 < e
  · rw [bd_bad (by unfold bdE; rw [if_pos (by omega)])]
    go_enter Tryd.func14, Tryd.ntmps14
    go_wp2
    exact bodyPost_ret (v := .tuple #[.agg #[.int .i64 0, .int .i64 0, .int .i64 0], .int .i64 7]) (by simp [results, Tryd.results14, go_sem]) rfl ⟨rfl, (Fr.refl _ w).alloc _⟩
  have h3 : e ≤ 120 := by omega
  by_cases h4 : c < 0
  · rw [bd_bad (by unfold bdE; rw [if_pos (by omega)])]
    go_enter Tryd.func14, Tryd.ntmps14
    go_wp2
    exact bodyPost_ret (v := .tuple #[.agg #[.int .i64 0, .int .i64 0, .int .i64 0], .int .i64 7]) (by simp [results, Tryd.results14, go_sem]) rfl ⟨rfl, (Fr.refl _ w).alloc _⟩
  have h4 : 0 ≤ c := by omega
  by_cases h5 : 120 < c
  · rw [bd_bad (by unfold bdE; rw [if_pos (by omega)])]
    go_enter Tryd.func14, Tryd.ntmps14
    go_wp2
    exact bodyPost_ret (v := .tuple #[.agg #[.int .i64 0, .int .i64 0, .int .i64 0], .int .i64 7]) (by simp [results, Tryd.results14, go_sem]) rfl ⟨rfl, (Fr.refl _ w).alloc _⟩
  have h5 : c ≤ 120 := by omega
  by_cases h6 : d = -3
  · subst h6
    rw [bd_first ⟨h0, h1⟩ ⟨h2, h3⟩ ⟨h4, h5⟩]
    go_enter Tryd.func14, Tryd.ntmps14
    go_wp2
    exact bodyPost_ret (v := .tuple #[.agg #[.int .i64 1, .int .i64 0, .int .i64 0], .int .i64 0]) (by simp [results, Tryd.results14, go_sem]) rfl ⟨rfl, (Fr.refl _ w).alloc _⟩
  have e6 : (d == -3) = false := by simp [h6]
  have e7 : (d != -3) = true := by simp [h6]
  by_cases h7 : d = -1
  · subst h7
    rw [bd_last ⟨h0, h1⟩ ⟨h2, h3⟩ ⟨h4, h5⟩ h6 (Or.inl rfl)]
    clear h6
    go_enter Tryd.func14, Tryd.ntmps14
    go_wp2
    exact bodyPost_ret (v := .tuple #[.agg #[.int .i64 (36 + c), .int .i64 16, .int .i64 (1 + c)], .int .i64 0]) (by simp [results, Tryd.results14, go_sem]) rfl ⟨rfl, (Fr.refl _ w).alloc _⟩
  have e8 : (d == -1) = false := by simp [h7]
  have e9 : (d != -1) = true := by simp [h7]
  by_cases h8 : d = n
  · have e10 : (d == n) = true := by simp [h8]
    rw [bd_last ⟨h0, h1⟩ ⟨h2, h3⟩ ⟨h4, h5⟩ h6 (Or.inr h8)]
    have hd0 : 0 ≤ d := by omega
    have hdn : d ≤ n := by omega
    clear h6 h7 h8
    go_enter Tryd.func14, Tryd.ntmps14
    go_wp2
    exact bodyPost_ret (v := .tuple #[.agg #[.int .i64 (36 + c), .int .i64 16, .int .i64 (1 + c)], .int .i64 0]) (by simp [results, Tryd.results14, go_sem]) rfl ⟨rfl, (Fr.refl _ w).alloc _⟩
  have e10 : (d == n) = false := by simp [h8]
  by_cases h9 : d < 0
  · rw [bd_bad (by unfold bdE; rw [if_neg (by omega), if_neg (by omega)])]
    clear h6 h7 h8
    go_enter Tryd.func14, Tryd.ntmps14
    go_wp2
    exact bodyPost_ret (v := .tuple #[.agg #[.int .i64 0, .int .i64 0, .int .i64 0], .int .i64 7]) (by simp [results, Tryd.results14, go_sem]) rfl ⟨rfl, (Fr.refl _ w).alloc _⟩
  by_cases h10 : n < d
  · have hd0 : 0 ≤ d := by omega
    have e12 : decide (d ≤ n) = false := by simp; omega
    rw [bd_bad (by unfold bdE; rw [if_neg (by omega), if_neg (by omega)])]
    clear h6 h7 h8 h9
    go_enter Tryd.func14, Tryd.ntmps14
    go_wp2
    exact bodyPost_ret (v := .tuple #[.agg #[.int .i64 0, .int .i64 0, .int .i64 0], .int .i64 7]) (by simp [results, Tryd.results14, go_sem]) rfl ⟨rfl, (Fr.refl _ w).alloc _⟩
  have hd0 : 0 ≤ d := by omega
  have hdn : d ≤ n := by omega
  rw [bd_mid ⟨h0, h1⟩ ⟨h2, h3⟩ ⟨h4, h5⟩ (by omega)]
  clear h6 h7 h8 h9 h10
  go_enter Tryd.func14, Tryd.ntmps14
  go_wp2
  exact bodyPost_ret (v := .tuple #[.agg #[.int .i64 (23 + 4 * e), .int .i64 (19 + 3 * e), .int .i64 (2 + 2 * e)], .int .i64 0]) (by simp [results, Tryd.results14, go_sem]) rfl ⟨rfl, (Fr.refl _ w).alloc _⟩
set_option maxRecDepth 100000 in
set_option maxHeartbeats 4000000 in
theorem rbound_walk (d e n c : Int) (w : World) : Calls Tryd.prog 19 #[.int .i64 d, .int .i64 e, .int .i64 n, .int .i64 c] w (Ret (bdV d e n c) w) := by
  by_cases h0 : n < 1
  · rw [bd_bad (by unfold bdE; rw [if_pos (by omega)])]
    go_enter Tryd.func19, Tryd.ntmps19
    go_wp2
    exact bodyPost_ret (v := .tuple #[.agg #[.int .i64 0, .int .i64 0, .int .i64 0], .int .i64 7]) (by simp [results, Tryd.results19, go_sem]) rfl ⟨rfl, (Fr.refl _ w).alloc _⟩
  have h0 : 1 ≤ n := by omega
  by_cases h1 : 60 < n
  · rw [bd_bad (by unfold bdE; rw [if_pos (by omega)])]
    go_enter Tryd.func19, Tryd.ntmps19
    go_wp2
    exact bodyPost_ret (v := .tuple #[.agg #[.int .i64 0, .int .i64 0, .int .i64 0], .int .i64 7]) (by simp [results, Tryd.results19, go_sem]) rfl ⟨rfl, (Fr.refl _ w).alloc _⟩
  have h1 : n ≤ 60 := by omega
  by_cases h2 : e < 0
  · rw [bd_bad (by unfold bdE; rw [if_pos (by omega)])]
    go_enter Tryd.func19, Tryd.ntmps19
    go_wp2
    exact bodyPost_ret (v := .tuple #[.agg #[.int .i64 0, .int .i64 0, .int .i64 0], .int .i64 7]) (by simp [results, Tryd.results19, go_sem]) rfl ⟨rfl, (Fr.refl _ w).alloc _⟩
  have h2 : 0 ≤ e := by omega
  by_cases h3 : 120 < e
  · rw [bd_bad (by unfold bdE; rw [if_pos (by omega)])]
    go_enter Tryd.func19, Tryd.ntmps19
    go_wp2
    exact bodyPost_ret (v := .tuple #[.agg #[.int .i64 0, .int .i64 0, .int .i64 0], .int .i64 7]) (by simp [results, Tryd.results19, go_sem]) rfl ⟨rfl, (Fr.refl _ w).alloc _⟩
  have h3 : e ≤ 120 := by omega
  by_cases h4 : c < 0
  · rw [bd_bad (by unfold bdE; rw [if_pos (by omega)])]
    go_enter Tryd.func19, Tryd.ntmps19
    go_wp2
    exact bodyPost_ret (v := .tuple #[.agg #[.int .i64 0, .int .i64 0, .int .i64 0], .int .i64 7]) (by simp [results, Tryd.results19, go_sem]) rfl ⟨rfl, (Fr.refl _ w).alloc _⟩
  have h4 : 0 ≤ c := by omega
  by_cases h5 : 120 < c
  · rw [bd_bad (by unfold bdE; rw [if_pos (by omega)])]
    go_enter Tryd.func19, Tryd.ntmps19
    go_wp2
    exact bodyPost_ret (v := .tuple #[.agg #[.int .i64 0, .int .i64 0, .int .i64 0], .int .i64 7]) (by simp [results, Tryd.results19, go_sem]) rfl ⟨rfl, (Fr.refl _ w).alloc _⟩
  have h5 : c ≤ 120 := by omega
  by_cases h6 : d = -3
  · subst h6
    rw [bd_first ⟨h0, h1⟩ ⟨h2, h3⟩ ⟨h4, h5⟩]
    go_enter Tryd.func19, Tryd.ntmps19
    go_wp2
    exact bodyPost_ret (v := .tuple #[.agg #[.int .i64 1, .int .i64 0, .int .i64 0], .int .i64 0]) (by simp [results, Tryd.results19, go_sem]) rfl ⟨rfl, (Fr.refl _ w).alloc _⟩
  have e6 : (d == -3) = false := by simp [h6]
  have e7 : (d != -3) = true := by simp [h6]
  by_cases h7 : d = -1
  · subst h7
    rw [bd_last ⟨h0, h1⟩ ⟨h2, h3⟩ ⟨h4, h5⟩ h6 (Or.inl rfl)]
    clear h6
    go_enter Tryd.func19, Tryd.ntmps19
    go_wp2
    exact bodyPost_ret (v := .tuple #[.agg #[.int .i64 (36 + c), .int .i64 16, .int .i64 (1 + c)], .int .i64 0]) (by simp [results, Tryd.results19, go_sem]) rfl ⟨rfl, (Fr.refl _ w).alloc _⟩
  have e8 : (d == -1) = false := by simp [h7]
  have e9 : (d != -1) = true := by simp [h7]
  by_cases h8 : d = n
  · have e10 : (d == n) = true := by simp [h8]
    rw [bd_last ⟨h0, h1⟩ ⟨h2, h3⟩ ⟨h4, h5⟩ h6 (Or.inr h8)]
    have hd0 : 0 ≤ d := by omega
    have hdn : d ≤ n := by omega
    clear h6 h7 h8
    go_enter Tryd.func19, Tryd.ntmps19
    go_wp2
    exact bodyPost_ret (v := .tuple #[.agg #[.int .i64 (36 + c), .int .i64 16, .int .i64 (1 + c)], .int .i64 0]) (by simp [results, Tryd.results19, go_sem]) rfl ⟨rfl, (Fr.refl _ w).alloc _⟩
  have e10 : (d == n) = false := by simp [h8]
  by_cases h9 : d < 0
  · rw [bd_bad (by unfold bdE; rw [if_neg (by omega), if_neg (by omega)])]
    clear h6 h7 h8
    go_enter Tryd.func19, Tryd.ntmps19
    go_wp2
    exact bodyPost_ret (v := .tuple #[.agg #[.int .i64 0, .int .i64 0, .int .i64 0], .int .i64 7]) (by simp [results, Tryd.results19, go_sem]) rfl ⟨rfl, (Fr.refl _ w).alloc _⟩
  by_cases h10 : n < d
  · have hd0 : 0 ≤ d := by omega
    have e12 : decide (d ≤ n) = false := by simp; omega
    rw [bd_bad (by unfold bdE; rw [if_neg (by omega), if_neg (by omega)])]
    clear h6 h7 h8 h9
    go_enter Tryd.func19, Tryd.ntmps19
    go_wp2
    exact bodyPost_ret (v := .tuple #[.agg #[.int .i64 0, .int .i64 0, .int .i64 0], .int .i64 7]) (by simp [results, Tryd.results19, go_sem]) rfl ⟨rfl, (Fr.refl _ w).alloc _⟩
  have hd0 : 0 ≤ d := by omega
  have hdn : d ≤ n := by omega
  rw [bd_mid ⟨h0, h1⟩ ⟨h2, h3⟩ ⟨h4, h5⟩ (by omega)]
  clear h6 h7 h8 h9 h10
  go_enter Tryd.func19, Tryd.ntmps19
  go_wp2
  exact bodyPost_ret (v := .tuple #[.agg #[.int .i64 (23 + 4 * e), .int .i64 (19 + 3 * e), .int .i64 (2 + 2 * e)], .int .i64 0]) (by simp [results, Tryd.results19, go_sem]) rfl ⟨rfl, (Fr.refl _ w).alloc _⟩
set_option maxRecDepth 100000 in
set_option maxHeartbeats 4000000 in
theorem over_walk (u : Nat → Int) (r t o : Int) (w : World) (h2 : 0 ≤ u 2 ∧ u 2 ≤ 1000000) (h7 : 0 ≤ u 7) : Calls Tryd.prog 17 #[.agg #[.int .i64 (u 0), .int .i64 (u 1), .int .i64 (u 2), .int .i64 (u 3), .int .i64 (u 4), .int .i64 (u 5), .int .i64 (u 6), .int .i64 (u 7)], .agg #[.int .i64 r, .int .i64 t, .int .i64 o]] w (Ret (.int .i64 (overF u r t o)) w) := by
  have hz : 0 ≤ u 2 := h2.1
  have hm : u 2 ≤ 1000000 := h2.2
  clear h2
  have key : ∀ x, overF u r t o = x → (overF u r t o = x) := fun _ h => h
  have HV := Lib.hid (fun x (h : overF u r t o = x) => h)
  obtain ⟨x, hx⟩ : ∃ x, overF u r t o = x := ⟨_, rfl⟩
  rw [hx]
  unfold overF at hx
  generalize u 0 = u0 at *
  generalize u 1 = u1 at *
  generalize u 2 = u2 at *
  generalize u 3 = u3 at *
  generalize u 4 = u4 at *
  generalize u 5 = u5 at *
  generalize u 6 = u6 at *
  generalize u 7 = u7 at *
  clear key HV
  by_cases c0 : r < u2
  · rw [if_pos c0] at hx
    have HX := Lib.hid hx.symm
    clear hx
    go_enter Tryd.func17, Tryd.ntmps17
    go_wp2
    go_ret
    exact ⟨by rw [HX.out]; rfl, ((Fr.refl _ w).alloc _).alloc _⟩
  by_cases c1 : u3 ≠ 2 + 2 * u2
  · rw [if_neg c0, if_pos c1] at hx
    have HX := Lib.hid hx.symm
    clear hx
    have e1 : (u3 != 2 + 2 * u2) = true := by simp [c1]
    have e2 : (u3 != 2 * u2 + 2) = true := by rw [bne_iff_ne]; omega
    clear c1
    go_enter Tryd.func17, Tryd.ntmps17
    go_wp2
    go_ret
    exact ⟨by rw [HX.out]; rfl, ((Fr.refl _ w).alloc _).alloc _⟩
  have c1 : u3 = 2 + 2 * u2 := by omega
  have e1 : (u3 != 2 + 2 * u2) = false := by simp [c1]
  have e2 : (u3 != 2 * u2 + 2) = false := by rw [bne_eq_false_iff_eq]; omega
  have HC := Lib.hid c1
  replace c1 : ¬ (u3 ≠ 2 + 2 * u2) := by omega
  rw [if_neg c0, if_neg c1] at hx
  clear c1
  by_cases c2 : t < u4
  · rw [if_pos c2] at hx
    have HX := Lib.hid hx.symm
    clear hx
    go_enter Tryd.func17, Tryd.ntmps17
    go_wp2
    go_ret
    exact ⟨by rw [HX.out]; rfl, ((Fr.refl _ w).alloc _).alloc _⟩
  by_cases c3 : o < u6
  · rw [if_neg c2, if_pos c3] at hx
    have HX := Lib.hid hx.symm
    clear hx
    go_enter Tryd.func17, Tryd.ntmps17
    go_wp2
    go_ret
    exact ⟨by rw [HX.out]; rfl, ((Fr.refl _ w).alloc _).alloc _⟩
  by_cases c4 : 0 < u7
  · rw [if_neg c2, if_neg c3, if_pos c4] at hx
    have HX := Lib.hid hx.symm
    clear hx
    go_enter Tryd.func17, Tryd.ntmps17
    go_wp2
    go_ret
    exact ⟨by rw [HX.out]; rfl, ((Fr.refl _ w).alloc _).alloc _⟩
  rw [if_neg c2, if_neg c3, if_neg c4] at hx
  have HX := Lib.hid hx.symm
  clear hx
  have d0 : u2 ≤ r := by omega
  have d2 : u4 ≤ t := by omega
  have d3 : u6 ≤ o := by omega
  have d4 : u7 ≤ 0 := by omega
  clear c0 c2 c3 c4
  go_enter Tryd.func17, Tryd.ntmps17
  go_wp2
  go_ret
  exact ⟨by rw [HX.out]; rfl, ((Fr.refl _ w).alloc _).alloc _⟩
set_option maxRecDepth 100000 in
set_option maxHeartbeats 4000000 in
theorem wrong_walk (u : Nat → Int) (r t o : Int) (w : World) (h2 : 0 ≤ u 2 ∧ u 2 ≤ 1000000) (h7 : 0 ≤ u 7) : Calls Tryd.prog 20 #[.agg #[.int .i64 (u 0), .int .i64 (u 1), .int .i64 (u 2), .int .i64 (u 3), .int .i64 (u 4), .int .i64 (u 5), .int .i64 (u 6), .int .i64 (u 7)], .agg #[.int .i64 r, .int .i64 t, .int .i64 o]] w (Ret (.int .i64 (overF u r t o)) w) := by
  have hz : 0 ≤ u 2 := h2.1
  have hm : u 2 ≤ 1000000 := h2.2
  clear h2
  have key : ∀ x, overF u r t o = x → (overF u r t o = x) := fun _ h => h
  have HV := Lib.hid (fun x (h : overF u r t o = x) => h)
  obtain ⟨x, hx⟩ : ∃ x, overF u r t o = x := ⟨_, rfl⟩
  rw [hx]
  unfold overF at hx
  generalize u 0 = u0 at *
  generalize u 1 = u1 at *
  generalize u 2 = u2 at *
  generalize u 3 = u3 at *
  generalize u 4 = u4 at *
  generalize u 5 = u5 at *
  generalize u 6 = u6 at *
  generalize u 7 = u7 at *
  clear key HV
  by_cases c0 : r < u2
  · rw [if_pos c0] at hx
    have HX := Lib.hid hx.symm
    clear hx
    go_enter Tryd.func20, Tryd.ntmps20
    go_wp2
    go_ret
    exact ⟨by rw [HX.out]; rfl, ((Fr.refl _ w).alloc _).alloc _⟩
  by_cases c1 : u3 ≠ 2 + 2 * u2
  · rw [if_neg c0, if_pos c1] at hx
    have HX := Lib.hid hx.symm
    clear hx
    have e1 : (u3 != 2 + 2 * u2) = true := by simp [c1]
    have e2 : (u3 != 2 * u2 + 2) = true := by rw [bne_iff_ne]; omega
    clear c1
    go_enter Tryd.func20, Tryd.ntmps20
    go_wp2
    go_ret
    exact ⟨by rw [HX.out]; rfl, ((Fr.refl _ w).alloc _).alloc _⟩
  have c1 : u3 = 2 + 2 * u2 := by omega
  have e1 : (u3 != 2 + 2 * u2) = false := by simp [c1]
  have e2 : (u3 != 2 * u2 + 2) = false := by rw [bne_eq_false_iff_eq]; omega
  have HC := Lib.hid c1
  replace c1 : ¬ (u3 ≠ 2 + 2 * u2) := by omega
  rw [if_neg c0, if_neg c1] at hx
  clear c1
  by_cases c2 : t < u4
  · rw [if_pos c2] at hx
    have HX := Lib.hid hx.symm
    clear hx
    go_enter Tryd.func20, Tryd.ntmps20
    go_wp2
    go_ret
    exact ⟨by rw [HX.out]; rfl, ((Fr.refl _ w).alloc _).alloc _⟩
  by_cases c3 : o < u6
  · rw [if_neg c2, if_pos c3] at hx
    have HX := Lib.hid hx.symm
    clear hx
    go_enter Tryd.func20, Tryd.ntmps20
    go_wp2
    go_ret
    exact ⟨by rw [HX.out]; rfl, ((Fr.refl _ w).alloc _).alloc _⟩
  by_cases c4 : 0 < u7
  · rw [if_neg c2, if_neg c3, if_pos c4] at hx
    have HX := Lib.hid hx.symm
    clear hx
    have e7 : (u7 != 0) = true := by rw [bne_iff_ne]; omega
    go_enter Tryd.func20, Tryd.ntmps20
    go_wp2
    go_ret
    exact ⟨by rw [HX.out]; rfl, ((Fr.refl _ w).alloc _).alloc _⟩
  rw [if_neg c2, if_neg c3, if_neg c4] at hx
  have HX := Lib.hid hx.symm
  clear hx
  have e7 : (u7 != 0) = false := by rw [bne_eq_false_iff_eq]; omega
  have d0 : u2 ≤ r := by omega
  have d2 : u4 ≤ t := by omega
  have d3 : u6 ≤ o := by omega
  have d4 : u7 ≤ 0 := by omega
  clear c0 c2 c3 c4
  go_enter Tryd.func20, Tryd.ntmps20
  go_wp2
  go_ret
  exact ⟨by rw [HX.out]; rfl, ((Fr.refl _ w).alloc _).alloc _⟩
end Go.Proofs.YtogjfifpbplahaaDoor
