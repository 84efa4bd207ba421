/- The checks of a node's kind and fields, walked: the reference's kind, tree.fields. -/
import Derived.Test.YtogjfifpbplahaaGreatDoorJf
namespace Go.Proofs.YtogjfifpbplahaaGreatDoor
open Go.RowKit
open BR
set_option linter.unusedVariables false

theorem size_toList (s : ByteArray) : s.toList.length = s.size := by rw [toList_data]; exact Array.length_toList
set_option maxRecDepth 100000 in
set_option maxHeartbeats 8000000 in
theorem rkind_walk (x : BNode) (h : Hd) (w : World) (hs : x.data.size ≤ 1000) (hm : x.m ≤ 100) :
    Calls Tryz.prog 57 #[trA x h] w (Ret (.int .i64 (kindE x)) w) := by
  obtain ⟨d, nm, kd, m, A, dt, mj, mi, cl, op, r, R⟩ := x
  unfold trA
  dsimp only at hs hm ⊢
  by_cases k0 : kd < 1
  · skip
    rw [(show kindE ⟨d, nm, kd, m, A, dt, mj, mi, cl, op, r, R⟩ = 14 by simp [kindE, k0] <;> omega)]
    go_enter Tryz.func57, Tryz.ntmps57
    go_wp2
    all_goals go_ret
    all_goals exact ⟨rfl, (Fr.refl _ w).alloc _⟩
  by_cases k6 : 5 < kd
  · skip
    rw [(show kindE ⟨d, nm, kd, m, A, dt, mj, mi, cl, op, r, R⟩ = 14 by simp [kindE, k6] <;> omega)]
    go_enter Tryz.func57, Tryz.ntmps57
    go_wp2
    all_goals go_ret
    all_goals exact ⟨rfl, (Fr.refl _ w).alloc _⟩
  have hk : kd = 1 ∨ kd = 2 ∨ kd = 3 ∨ kd = 4 ∨ kd = 5 := by omega
  clear k0 k6
  rcases hk with rfl | rfl | rfl | rfl | rfl
  · have hkd : True := trivial
    by_cases hd : dt.toList = []
    case neg =>
      have e0 : dt.toList.isEmpty = false := by cases he : dt.toList.isEmpty with | false => rfl | true => exact absurd (List.isEmpty_iff.1 he) hd
      rw [(show kindE ⟨d, nm, 1, m, A, dt, mj, mi, cl, op, r, R⟩ = 6 by simp [kindE, hd] <;> omega)]
      clear hd
      go_enter Tryz.func57, Tryz.ntmps57
      go_wp2
      all_goals go_ret
      all_goals exact ⟨rfl, (Fr.refl _ w).alloc _⟩
    have e0 : dt.toList.isEmpty = true := List.isEmpty_iff.2 hd
    have e1 : (dt.size : Int) ≤ 0 := by have := size_toList dt; rw [hd] at this; simp at this; omega
    by_cases hmj : mj = 0
    case neg =>
      have qmj : (mj == 0) = false := by simpa using hmj
      have pmj : (mj != 0) = true := by simpa using hmj
      rw [(show kindE ⟨d, nm, 1, m, A, dt, mj, mi, cl, op, r, R⟩ = 6 by simp [kindE, hd, hmj] <;> omega)]
      clear hd hmj
      go_enter Tryz.func57, Tryz.ntmps57
      go_wp2
      all_goals go_ret
      all_goals exact ⟨rfl, (Fr.refl _ w).alloc _⟩
    subst hmj
    by_cases hmi : mi = 0
    case neg =>
      have qmi : (mi == 0) = false := by simpa using hmi
      have pmi : (mi != 0) = true := by simpa using hmi
      rw [(show kindE ⟨d, nm, 1, m, A, dt, 0, mi, cl, op, r, R⟩ = 6 by simp [kindE, hd, hmi] <;> omega)]
      clear hd hmi
      go_enter Tryz.func57, Tryz.ntmps57
      go_wp2
      all_goals go_ret
      all_goals exact ⟨rfl, (Fr.refl _ w).alloc _⟩
    subst hmi
    by_cases hcl : cl = 0
    case neg =>
      have qcl : (cl == 0) = false := by simpa using hcl
      have pcl : (cl != 0) = true := by simpa using hcl
      rw [(show kindE ⟨d, nm, 1, m, A, dt, 0, 0, cl, op, r, R⟩ = 6 by simp [kindE, hd, hcl] <;> omega)]
      clear hd hcl
      go_enter Tryz.func57, Tryz.ntmps57
      go_wp2
      all_goals go_ret
      all_goals exact ⟨rfl, (Fr.refl _ w).alloc _⟩
    subst hcl
    rw [(show kindE ⟨d, nm, 1, m, A, dt, 0, 0, 0, op, r, R⟩ = 0 by simp [kindE, hd] <;> omega)]
    clear hd
    go_enter Tryz.func57, Tryz.ntmps57
    go_wp2
    all_goals go_ret
    all_goals exact ⟨rfl, (Fr.refl _ w).alloc _⟩
  · have hkd : True := trivial
    by_cases hmj : mj = 0
    case neg =>
      have qmj : (mj == 0) = false := by simpa using hmj
      have pmj : (mj != 0) = true := by simpa using hmj
      rw [(show kindE ⟨d, nm, 2, m, A, dt, mj, mi, cl, op, r, R⟩ = 6 by simp [kindE, hmj] <;> omega)]
      clear hmj
      go_enter Tryz.func57, Tryz.ntmps57
      go_wp2
      all_goals go_ret
      all_goals exact ⟨rfl, (Fr.refl _ w).alloc _⟩
    subst hmj
    by_cases hmi : mi = 0
    case neg =>
      have qmi : (mi == 0) = false := by simpa using hmi
      have pmi : (mi != 0) = true := by simpa using hmi
      rw [(show kindE ⟨d, nm, 2, m, A, dt, 0, mi, cl, op, r, R⟩ = 6 by simp [kindE, hmi] <;> omega)]
      clear hmi
      go_enter Tryz.func57, Tryz.ntmps57
      go_wp2
      all_goals go_ret
      all_goals exact ⟨rfl, (Fr.refl _ w).alloc _⟩
    subst hmi
    by_cases hz : 384 < dt.size
    case pos =>
      rw [(show kindE ⟨d, nm, 2, m, A, dt, 0, 0, cl, op, r, R⟩ = 3 by simp [kindE, hz] <;> omega)]
      go_enter Tryz.func57, Tryz.ntmps57
      go_wp2
      all_goals go_ret
      all_goals exact ⟨rfl, (Fr.refl _ w).alloc _⟩
    rw [(show kindE ⟨d, nm, 2, m, A, dt, 0, 0, cl, op, r, R⟩ = 0 by simp [kindE, hz] <;> omega)]
    go_enter Tryz.func57, Tryz.ntmps57
    go_wp2
    all_goals go_ret
    all_goals exact ⟨rfl, (Fr.refl _ w).alloc _⟩
  · have hkd : True := trivial
    by_cases hmj : mj = 0
    case neg =>
      have qmj : (mj == 0) = false := by simpa using hmj
      have pmj : (mj != 0) = true := by simpa using hmj
      rw [(show kindE ⟨d, nm, 3, m, A, dt, mj, mi, cl, op, r, R⟩ = 6 by simp [kindE, hmj] <;> omega)]
      clear hmj
      go_enter Tryz.func57, Tryz.ntmps57
      go_wp2
      all_goals go_ret
      all_goals exact ⟨rfl, (Fr.refl _ w).alloc _⟩
    subst hmj
    by_cases hmi : mi = 0
    case neg =>
      have qmi : (mi == 0) = false := by simpa using hmi
      have pmi : (mi != 0) = true := by simpa using hmi
      rw [(show kindE ⟨d, nm, 3, m, A, dt, 0, mi, cl, op, r, R⟩ = 6 by simp [kindE, hmi] <;> omega)]
      clear hmi
      go_enter Tryz.func57, Tryz.ntmps57
      go_wp2
      all_goals go_ret
      all_goals exact ⟨rfl, (Fr.refl _ w).alloc _⟩
    subst hmi
    by_cases hd : dt.toList = []
    case pos =>
      have e0 : dt.toList.isEmpty = true := List.isEmpty_iff.2 hd
      rw [(show kindE ⟨d, nm, 3, m, A, dt, 0, 0, cl, op, r, R⟩ = 6 by simp [kindE, hd] <;> omega)]
      clear hd
      go_enter Tryz.func57, Tryz.ntmps57
      go_wp2
      all_goals go_ret
      all_goals exact ⟨rfl, (Fr.refl _ w).alloc _⟩
    have e0 : dt.toList.isEmpty = false := by cases he : dt.toList.isEmpty with | false => rfl | true => exact absurd (List.isEmpty_iff.1 he) hd
    by_cases hz : 200 < dt.size
    case pos =>
      rw [(show kindE ⟨d, nm, 3, m, A, dt, 0, 0, cl, op, r, R⟩ = 3 by simp [kindE, hd, hz] <;> omega)]
      clear hd
      go_enter Tryz.func57, Tryz.ntmps57
      go_wp2
      all_goals go_ret
      all_goals exact ⟨rfl, (Fr.refl _ w).alloc _⟩
    rw [(show kindE ⟨d, nm, 3, m, A, dt, 0, 0, cl, op, r, R⟩ = 0 by simp [kindE, hd, hz] <;> omega)]
    clear hd
    go_enter Tryz.func57, Tryz.ntmps57
    go_wp2
    all_goals go_ret
    all_goals exact ⟨rfl, (Fr.refl _ w).alloc _⟩
  · have hkd : True := trivial
    by_cases hd : dt.toList = []
    case neg =>
      have e0 : dt.toList.isEmpty = false := by cases he : dt.toList.isEmpty with | false => rfl | true => exact absurd (List.isEmpty_iff.1 he) hd
      rw [(show kindE ⟨d, nm, 4, m, A, dt, mj, mi, cl, op, r, R⟩ = 6 by simp [kindE, hd] <;> omega)]
      clear hd
      go_enter Tryz.func57, Tryz.ntmps57
      go_wp2
      all_goals go_ret
      all_goals exact ⟨rfl, (Fr.refl _ w).alloc _⟩
    have e0 : dt.toList.isEmpty = true := List.isEmpty_iff.2 hd
    have e1 : (dt.size : Int) ≤ 0 := by have := size_toList dt; rw [hd] at this; simp at this; omega
    by_cases hnmj : mj < 0
    case pos =>
      rw [(show kindE ⟨d, nm, 4, m, A, dt, mj, mi, cl, op, r, R⟩ = 7 by simp [kindE, hd, hnmj] <;> omega)]
      clear hd
      go_enter Tryz.func57, Tryz.ntmps57
      go_wp2
      all_goals go_ret
      all_goals exact ⟨rfl, (Fr.refl _ w).alloc _⟩
    have pnmj : 0 ≤ mj := by omega
    by_cases hxmj : 255 < mj
    case pos =>
      rw [(show kindE ⟨d, nm, 4, m, A, dt, mj, mi, cl, op, r, R⟩ = 7 by simp [kindE, hd, hnmj, hxmj] <;> omega)]
      clear hd
      go_enter Tryz.func57, Tryz.ntmps57
      go_wp2
      all_goals go_ret
      all_goals exact ⟨rfl, (Fr.refl _ w).alloc _⟩
    by_cases hnmi : mi < 0
    case pos =>
      rw [(show kindE ⟨d, nm, 4, m, A, dt, mj, mi, cl, op, r, R⟩ = 7 by simp [kindE, hd, hnmj, hxmj, hnmi] <;> omega)]
      clear hd
      go_enter Tryz.func57, Tryz.ntmps57
      go_wp2
      all_goals go_ret
      all_goals exact ⟨rfl, (Fr.refl _ w).alloc _⟩
    have pnmi : 0 ≤ mi := by omega
    by_cases hxmi : 255 < mi
    case pos =>
      rw [(show kindE ⟨d, nm, 4, m, A, dt, mj, mi, cl, op, r, R⟩ = 7 by simp [kindE, hd, hnmj, hxmj, hnmi, hxmi] <;> omega)]
      clear hd
      go_enter Tryz.func57, Tryz.ntmps57
      go_wp2
      all_goals go_ret
      all_goals exact ⟨rfl, (Fr.refl _ w).alloc _⟩
    rw [(show kindE ⟨d, nm, 4, m, A, dt, mj, mi, cl, op, r, R⟩ = 0 by simp [kindE, hd, hnmj, hxmj, hnmi, hxmi] <;> omega)]
    clear hd
    go_enter Tryz.func57, Tryz.ntmps57
    go_wp2
    all_goals go_ret
    all_goals exact ⟨rfl, (Fr.refl _ w).alloc _⟩
  · have hkd : True := trivial
    by_cases hd : dt.toList = []
    case neg =>
      have e0 : dt.toList.isEmpty = false := by cases he : dt.toList.isEmpty with | false => rfl | true => exact absurd (List.isEmpty_iff.1 he) hd
      rw [(show kindE ⟨d, nm, 5, m, A, dt, mj, mi, cl, op, r, R⟩ = 6 by simp [kindE, hd] <;> omega)]
      clear hd
      go_enter Tryz.func57, Tryz.ntmps57
      go_wp2
      all_goals go_ret
      all_goals exact ⟨rfl, (Fr.refl _ w).alloc _⟩
    have e0 : dt.toList.isEmpty = true := List.isEmpty_iff.2 hd
    have e1 : (dt.size : Int) ≤ 0 := by have := size_toList dt; rw [hd] at this; simp at this; omega
    by_cases hmj : mj = 0
    case neg =>
      have qmj : (mj == 0) = false := by simpa using hmj
      have pmj : (mj != 0) = true := by simpa using hmj
      rw [(show kindE ⟨d, nm, 5, m, A, dt, mj, mi, cl, op, r, R⟩ = 6 by simp [kindE, hd, hmj] <;> omega)]
      clear hd hmj
      go_enter Tryz.func57, Tryz.ntmps57
      go_wp2
      all_goals go_ret
      all_goals exact ⟨rfl, (Fr.refl _ w).alloc _⟩
    subst hmj
    by_cases hmi : mi = 0
    case neg =>
      have qmi : (mi == 0) = false := by simpa using hmi
      have pmi : (mi != 0) = true := by simpa using hmi
      rw [(show kindE ⟨d, nm, 5, m, A, dt, 0, mi, cl, op, r, R⟩ = 6 by simp [kindE, hd, hmi] <;> omega)]
      clear hd hmi
      go_enter Tryz.func57, Tryz.ntmps57
      go_wp2
      all_goals go_ret
      all_goals exact ⟨rfl, (Fr.refl _ w).alloc _⟩
    subst hmi
    by_cases hmm : 0 < m
    case pos =>
      have qm : (0 : Int) < (m : Int) := by omega
      rw [(show kindE ⟨d, nm, 5, m, A, dt, 0, 0, cl, op, r, R⟩ = 6 by simp [kindE, hd, hmm] <;> omega)]
      clear hd
      go_enter Tryz.func57, Tryz.ntmps57
      go_wp2
      all_goals go_ret
      all_goals exact ⟨rfl, (Fr.refl _ w).alloc _⟩
    have qm : ¬ (0 : Int) < (m : Int) := by omega
    by_cases hcl : cl = 0
    case neg =>
      have qcl : (cl == 0) = false := by simpa using hcl
      have pcl : (cl != 0) = true := by simpa using hcl
      rw [(show kindE ⟨d, nm, 5, m, A, dt, 0, 0, cl, op, r, R⟩ = 6 by simp [kindE, hd, hmm, hcl] <;> omega)]
      clear hd hcl
      go_enter Tryz.func57, Tryz.ntmps57
      go_wp2
      all_goals go_ret
      all_goals exact ⟨rfl, (Fr.refl _ w).alloc _⟩
    subst hcl
    rw [(show kindE ⟨d, nm, 5, m, A, dt, 0, 0, 0, op, r, R⟩ = 0 by simp [kindE, hd, hmm] <;> omega)]
    clear hd
    go_enter Tryz.func57, Tryz.ntmps57
    go_wp2
    all_goals go_ret
    all_goals exact ⟨rfl, (Fr.refl _ w).alloc _⟩

set_option maxRecDepth 100000 in
set_option maxHeartbeats 8000000 in
theorem fields_walk (x : BNode) (h : Hd) (w : World) (hs : x.data.size ≤ 1000) (hm : x.m ≤ 100) :
    Calls Tryz.prog 70 #[trA x h] w (Ret (.int .i64 (kindE x)) w) := by
  obtain ⟨d, nm, kd, m, A, dt, mj, mi, cl, op, r, R⟩ := x
  unfold trA
  dsimp only at hs hm ⊢
  by_cases k0 : kd < 1
  · skip
    rw [(show kindE ⟨d, nm, kd, m, A, dt, mj, mi, cl, op, r, R⟩ = 14 by simp [kindE, k0] <;> omega)]
    go_enter Tryz.func70, Tryz.ntmps70
    go_wp2
    all_goals go_ret
    all_goals exact ⟨rfl, (Fr.refl _ w).alloc _⟩
  by_cases k6 : 5 < kd
  · skip
    rw [(show kindE ⟨d, nm, kd, m, A, dt, mj, mi, cl, op, r, R⟩ = 14 by simp [kindE, k6] <;> omega)]
    go_enter Tryz.func70, Tryz.ntmps70
    go_wp2
    all_goals go_ret
    all_goals exact ⟨rfl, (Fr.refl _ w).alloc _⟩
  have hk : kd = 1 ∨ kd = 2 ∨ kd = 3 ∨ kd = 4 ∨ kd = 5 := by omega
  clear k0 k6
  rcases hk with rfl | rfl | rfl | rfl | rfl
  · have hkd : True := trivial
    by_cases hd : dt.toList = []
    case neg =>
      have e0 : dt.toList.isEmpty = false := by cases he : dt.toList.isEmpty with | false => rfl | true => exact absurd (List.isEmpty_iff.1 he) hd
      rw [(show kindE ⟨d, nm, 1, m, A, dt, mj, mi, cl, op, r, R⟩ = 6 by simp [kindE, hd] <;> omega)]
      clear hd
      go_enter Tryz.func70, Tryz.ntmps70
      go_wp2
      all_goals go_ret
      all_goals exact ⟨rfl, (Fr.refl _ w).alloc _⟩
    have e0 : dt.toList.isEmpty = true := List.isEmpty_iff.2 hd
    have e1 : (dt.size : Int) ≤ 0 := by have := size_toList dt; rw [hd] at this; simp at this; omega
    by_cases hmj : mj = 0
    case neg =>
      have qmj : (mj == 0) = false := by simpa using hmj
      have pmj : (mj != 0) = true := by simpa using hmj
      rw [(show kindE ⟨d, nm, 1, m, A, dt, mj, mi, cl, op, r, R⟩ = 6 by simp [kindE, hd, hmj] <;> omega)]
      clear hd hmj
      go_enter Tryz.func70, Tryz.ntmps70
      go_wp2
      all_goals go_ret
      all_goals exact ⟨rfl, (Fr.refl _ w).alloc _⟩
    subst hmj
    by_cases hmi : mi = 0
    case neg =>
      have qmi : (mi == 0) = false := by simpa using hmi
      have pmi : (mi != 0) = true := by simpa using hmi
      rw [(show kindE ⟨d, nm, 1, m, A, dt, 0, mi, cl, op, r, R⟩ = 6 by simp [kindE, hd, hmi] <;> omega)]
      clear hd hmi
      go_enter Tryz.func70, Tryz.ntmps70
      go_wp2
      all_goals go_ret
      all_goals exact ⟨rfl, (Fr.refl _ w).alloc _⟩
    subst hmi
    by_cases hcl : cl = 0
    case neg =>
      have qcl : (cl == 0) = false := by simpa using hcl
      have pcl : (cl != 0) = true := by simpa using hcl
      rw [(show kindE ⟨d, nm, 1, m, A, dt, 0, 0, cl, op, r, R⟩ = 6 by simp [kindE, hd, hcl] <;> omega)]
      clear hd hcl
      go_enter Tryz.func70, Tryz.ntmps70
      go_wp2
      all_goals go_ret
      all_goals exact ⟨rfl, (Fr.refl _ w).alloc _⟩
    subst hcl
    rw [(show kindE ⟨d, nm, 1, m, A, dt, 0, 0, 0, op, r, R⟩ = 0 by simp [kindE, hd] <;> omega)]
    clear hd
    go_enter Tryz.func70, Tryz.ntmps70
    go_wp2
    all_goals go_ret
    all_goals exact ⟨rfl, (Fr.refl _ w).alloc _⟩
  · have hkd : True := trivial
    by_cases hmj : mj = 0
    case neg =>
      have qmj : (mj == 0) = false := by simpa using hmj
      have pmj : (mj != 0) = true := by simpa using hmj
      rw [(show kindE ⟨d, nm, 2, m, A, dt, mj, mi, cl, op, r, R⟩ = 6 by simp [kindE, hmj] <;> omega)]
      clear hmj
      go_enter Tryz.func70, Tryz.ntmps70
      go_wp2
      all_goals go_ret
      all_goals exact ⟨rfl, (Fr.refl _ w).alloc _⟩
    subst hmj
    by_cases hmi : mi = 0
    case neg =>
      have qmi : (mi == 0) = false := by simpa using hmi
      have pmi : (mi != 0) = true := by simpa using hmi
      rw [(show kindE ⟨d, nm, 2, m, A, dt, 0, mi, cl, op, r, R⟩ = 6 by simp [kindE, hmi] <;> omega)]
      clear hmi
      go_enter Tryz.func70, Tryz.ntmps70
      go_wp2
      all_goals go_ret
      all_goals exact ⟨rfl, (Fr.refl _ w).alloc _⟩
    subst hmi
    by_cases hz : 384 < dt.size
    case pos =>
      rw [(show kindE ⟨d, nm, 2, m, A, dt, 0, 0, cl, op, r, R⟩ = 3 by simp [kindE, hz] <;> omega)]
      go_enter Tryz.func70, Tryz.ntmps70
      go_wp2
      all_goals go_ret
      all_goals exact ⟨rfl, (Fr.refl _ w).alloc _⟩
    rw [(show kindE ⟨d, nm, 2, m, A, dt, 0, 0, cl, op, r, R⟩ = 0 by simp [kindE, hz] <;> omega)]
    go_enter Tryz.func70, Tryz.ntmps70
    go_wp2
    all_goals go_ret
    all_goals exact ⟨rfl, (Fr.refl _ w).alloc _⟩
  · have hkd : True := trivial
    by_cases hmj : mj = 0
    case neg =>
      have qmj : (mj == 0) = false := by simpa using hmj
      have pmj : (mj != 0) = true := by simpa using hmj
      rw [(show kindE ⟨d, nm, 3, m, A, dt, mj, mi, cl, op, r, R⟩ = 6 by simp [kindE, hmj] <;> omega)]
      clear hmj
      go_enter Tryz.func70, Tryz.ntmps70
      go_wp2
      all_goals go_ret
      all_goals exact ⟨rfl, (Fr.refl _ w).alloc _⟩
    subst hmj
    by_cases hmi : mi = 0
    case neg =>
      have qmi : (mi == 0) = false := by simpa using hmi
      have pmi : (mi != 0) = true := by simpa using hmi
      rw [(show kindE ⟨d, nm, 3, m, A, dt, 0, mi, cl, op, r, R⟩ = 6 by simp [kindE, hmi] <;> omega)]
      clear hmi
      go_enter Tryz.func70, Tryz.ntmps70
      go_wp2
      all_goals go_ret
      all_goals exact ⟨rfl, (Fr.refl _ w).alloc _⟩
    subst hmi
    by_cases hd : dt.toList = []
    case pos =>
      have e0 : dt.toList.isEmpty = true := List.isEmpty_iff.2 hd
      rw [(show kindE ⟨d, nm, 3, m, A, dt, 0, 0, cl, op, r, R⟩ = 6 by simp [kindE, hd] <;> omega)]
      clear hd
      go_enter Tryz.func70, Tryz.ntmps70
      go_wp2
      all_goals go_ret
      all_goals exact ⟨rfl, (Fr.refl _ w).alloc _⟩
    have e0 : dt.toList.isEmpty = false := by cases he : dt.toList.isEmpty with | false => rfl | true => exact absurd (List.isEmpty_iff.1 he) hd
    by_cases hz : 200 < dt.size
    case pos =>
      rw [(show kindE ⟨d, nm, 3, m, A, dt, 0, 0, cl, op, r, R⟩ = 3 by simp [kindE, hd, hz] <;> omega)]
      clear hd
      go_enter Tryz.func70, Tryz.ntmps70
      go_wp2
      all_goals go_ret
      all_goals exact ⟨rfl, (Fr.refl _ w).alloc _⟩
    rw [(show kindE ⟨d, nm, 3, m, A, dt, 0, 0, cl, op, r, R⟩ = 0 by simp [kindE, hd, hz] <;> omega)]
    clear hd
    go_enter Tryz.func70, Tryz.ntmps70
    go_wp2
    all_goals go_ret
    all_goals exact ⟨rfl, (Fr.refl _ w).alloc _⟩
  · have hkd : True := trivial
    by_cases hd : dt.toList = []
    case neg =>
      have e0 : dt.toList.isEmpty = false := by cases he : dt.toList.isEmpty with | false => rfl | true => exact absurd (List.isEmpty_iff.1 he) hd
      rw [(show kindE ⟨d, nm, 4, m, A, dt, mj, mi, cl, op, r, R⟩ = 6 by simp [kindE, hd] <;> omega)]
      clear hd
      go_enter Tryz.func70, Tryz.ntmps70
      go_wp2
      all_goals go_ret
      all_goals exact ⟨rfl, (Fr.refl _ w).alloc _⟩
    have e0 : dt.toList.isEmpty = true := List.isEmpty_iff.2 hd
    have e1 : (dt.size : Int) ≤ 0 := by have := size_toList dt; rw [hd] at this; simp at this; omega
    by_cases hnmj : mj < 0
    case pos =>
      rw [(show kindE ⟨d, nm, 4, m, A, dt, mj, mi, cl, op, r, R⟩ = 7 by simp [kindE, hd, hnmj] <;> omega)]
      clear hd
      go_enter Tryz.func70, Tryz.ntmps70
      go_wp2
      all_goals go_ret
      all_goals exact ⟨rfl, (Fr.refl _ w).alloc _⟩
    have pnmj : 0 ≤ mj := by omega
    by_cases hxmj : 255 < mj
    case pos =>
      rw [(show kindE ⟨d, nm, 4, m, A, dt, mj, mi, cl, op, r, R⟩ = 7 by simp [kindE, hd, hnmj, hxmj] <;> omega)]
      clear hd
      go_enter Tryz.func70, Tryz.ntmps70
      go_wp2
      all_goals go_ret
      all_goals exact ⟨rfl, (Fr.refl _ w).alloc _⟩
    by_cases hnmi : mi < 0
    case pos =>
      rw [(show kindE ⟨d, nm, 4, m, A, dt, mj, mi, cl, op, r, R⟩ = 7 by simp [kindE, hd, hnmj, hxmj, hnmi] <;> omega)]
      clear hd
      go_enter Tryz.func70, Tryz.ntmps70
      go_wp2
      all_goals go_ret
      all_goals exact ⟨rfl, (Fr.refl _ w).alloc _⟩
    have pnmi : 0 ≤ mi := by omega
    by_cases hxmi : 255 < mi
    case pos =>
      rw [(show kindE ⟨d, nm, 4, m, A, dt, mj, mi, cl, op, r, R⟩ = 7 by simp [kindE, hd, hnmj, hxmj, hnmi, hxmi] <;> omega)]
      clear hd
      go_enter Tryz.func70, Tryz.ntmps70
      go_wp2
      all_goals go_ret
      all_goals exact ⟨rfl, (Fr.refl _ w).alloc _⟩
    rw [(show kindE ⟨d, nm, 4, m, A, dt, mj, mi, cl, op, r, R⟩ = 0 by simp [kindE, hd, hnmj, hxmj, hnmi, hxmi] <;> omega)]
    clear hd
    go_enter Tryz.func70, Tryz.ntmps70
    go_wp2
    all_goals go_ret
    all_goals exact ⟨rfl, (Fr.refl _ w).alloc _⟩
  · have hkd : True := trivial
    by_cases hd : dt.toList = []
    case neg =>
      have e0 : dt.toList.isEmpty = false := by cases he : dt.toList.isEmpty with | false => rfl | true => exact absurd (List.isEmpty_iff.1 he) hd
      rw [(show kindE ⟨d, nm, 5, m, A, dt, mj, mi, cl, op, r, R⟩ = 6 by simp [kindE, hd] <;> omega)]
      clear hd
      go_enter Tryz.func70, Tryz.ntmps70
      go_wp2
      all_goals go_ret
      all_goals exact ⟨rfl, (Fr.refl _ w).alloc _⟩
    have e0 : dt.toList.isEmpty = true := List.isEmpty_iff.2 hd
    have e1 : (dt.size : Int) ≤ 0 := by have := size_toList dt; rw [hd] at this; simp at this; omega
    by_cases hmj : mj = 0
    case neg =>
      have qmj : (mj == 0) = false := by simpa using hmj
      have pmj : (mj != 0) = true := by simpa using hmj
      rw [(show kindE ⟨d, nm, 5, m, A, dt, mj, mi, cl, op, r, R⟩ = 6 by simp [kindE, hd, hmj] <;> omega)]
      clear hd hmj
      go_enter Tryz.func70, Tryz.ntmps70
      go_wp2
      all_goals go_ret
      all_goals exact ⟨rfl, (Fr.refl _ w).alloc _⟩
    subst hmj
    by_cases hmi : mi = 0
    case neg =>
      have qmi : (mi == 0) = false := by simpa using hmi
      have pmi : (mi != 0) = true := by simpa using hmi
      rw [(show kindE ⟨d, nm, 5, m, A, dt, 0, mi, cl, op, r, R⟩ = 6 by simp [kindE, hd, hmi] <;> omega)]
      clear hd hmi
      go_enter Tryz.func70, Tryz.ntmps70
      go_wp2
      all_goals go_ret
      all_goals exact ⟨rfl, (Fr.refl _ w).alloc _⟩
    subst hmi
    by_cases hmm : 0 < m
    case pos =>
      have qm : (0 : Int) < (m : Int) := by omega
      rw [(show kindE ⟨d, nm, 5, m, A, dt, 0, 0, cl, op, r, R⟩ = 6 by simp [kindE, hd, hmm] <;> omega)]
      clear hd
      go_enter Tryz.func70, Tryz.ntmps70
      go_wp2
      all_goals go_ret
      all_goals exact ⟨rfl, (Fr.refl _ w).alloc _⟩
    have qm : ¬ (0 : Int) < (m : Int) := by omega
    by_cases hcl : cl = 0
    case neg =>
      have qcl : (cl == 0) = false := by simpa using hcl
      have pcl : (cl != 0) = true := by simpa using hcl
      rw [(show kindE ⟨d, nm, 5, m, A, dt, 0, 0, cl, op, r, R⟩ = 6 by simp [kindE, hd, hmm, hcl] <;> omega)]
      clear hd hcl
      go_enter Tryz.func70, Tryz.ntmps70
      go_wp2
      all_goals go_ret
      all_goals exact ⟨rfl, (Fr.refl _ w).alloc _⟩
    subst hcl
    rw [(show kindE ⟨d, nm, 5, m, A, dt, 0, 0, 0, op, r, R⟩ = 0 by simp [kindE, hd, hmm] <;> omega)]
    clear hd
    go_enter Tryz.func70, Tryz.ntmps70
    go_wp2
    all_goals go_ret
    all_goals exact ⟨rfl, (Fr.refl _ w).alloc _⟩

end Go.Proofs.YtogjfifpbplahaaGreatDoor
