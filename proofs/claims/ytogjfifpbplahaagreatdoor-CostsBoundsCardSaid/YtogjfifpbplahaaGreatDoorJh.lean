/- This text proves contracts of the reference's check of trees; slices of the call's own; no condition beyond those that each statement names. -/
import Derived.Test.YtogjfifpbplahaaGreatDoorJR7
import Derived.Test.YtogjfifpbplahaaGreatDoorJe
import Derived.Maps.AppendAt
import Derived.Deep.Upon
import Derived.Test.YtogjfifpbplahaaGreatDoorJc
import Derived.Deep.RegionHeld3
import Derived.OwnWalk
namespace Go.Proofs.YtogjfifpbplahaaGreatDoor
open Go.RowKit
open BR
set_option linter.unusedVariables false

/-- a number, not told, and an error -/
def RetI (e : Int) (w : World) (E : Ending) (w' : World) : Prop := ∃ i : Int, E = .returned (.tuple #[.int .i64 i, .int .i64 e]) ∧ Fr (fun _ => False) w w'
theorem nodeE_parts {N : Nat → BNode} {j : Nat} (h : nodeE N j = 0) : shapeE N j = 0 ∧ (j ≠ 0 → entryE N j = 0) ∧ kindE (N j) = 0 ∧ attrE (N j).m (N j).A = 0 ∧ classE N j = 0 := by
  unfold nodeE at h
  by_cases h1 : shapeE N j = 0
  · rw [if_neg (by simpa using h1)] at h
    by_cases h2 : j ≠ 0 ∧ entryE N j ≠ 0
    · rw [if_pos h2] at h; exact absurd h h2.2
    · rw [if_neg h2] at h
      by_cases h3 : kindE (N j) = 0
      · rw [if_neg (by simpa using h3)] at h
        by_cases h4 : attrE (N j).m (N j).A = 0
        · rw [if_neg (by simpa using h4)] at h
          exact ⟨h1, fun hj => by by_cases e : entryE N j = 0; exact e; exact absurd ⟨hj, e⟩ h2, h3, h4, h⟩
        · rw [if_pos h4] at h; exact absurd h h4
      · rw [if_pos h3] at h; exact absurd h h3
  · rw [if_pos h1] at h; exact absurd h h1
theorem nodeE_shape {N : Nat → BNode} {j : Nat} (h : shapeE N j ≠ 0) : nodeE N j = shapeE N j := by unfold nodeE; rw [if_pos h]
theorem nodeE_entry {N : Nat → BNode} {j : Nat} (h : shapeE N j = 0) (hj : j ≠ 0) (h2 : entryE N j ≠ 0) : nodeE N j = entryE N j := by unfold nodeE; rw [if_neg (by simpa using h), if_pos ⟨hj, h2⟩]
theorem nodeE_kind {N : Nat → BNode} {j : Nat} (h : shapeE N j = 0) (h2 : j = 0 ∨ entryE N j = 0) (h3 : kindE (N j) ≠ 0) : nodeE N j = kindE (N j) := by
  unfold nodeE; rw [if_neg (by simpa using h), if_neg (fun e => by rcases h2 with h2 | h2; exact e.1 h2; exact e.2 h2), if_pos h3]
theorem nodeE_attr {N : Nat → BNode} {j : Nat} (h : shapeE N j = 0) (h2 : j = 0 ∨ entryE N j = 0) (h3 : kindE (N j) = 0) (h4 : attrE (N j).m (N j).A ≠ 0) : nodeE N j = attrE (N j).m (N j).A := by
  unfold nodeE; rw [if_neg (by simpa using h), if_neg (fun e => by rcases h2 with h2 | h2; exact e.1 h2; exact e.2 h2), if_neg (by simpa using h3), if_pos h4]
theorem nodeE_class {N : Nat → BNode} {j : Nat} (h : shapeE N j = 0) (h2 : j = 0 ∨ entryE N j = 0) (h3 : kindE (N j) = 0) (h4 : attrE (N j).m (N j).A = 0) : nodeE N j = classE N j := by
  unfold nodeE; rw [if_neg (by simpa using h), if_neg (fun e => by rcases h2 with h2 | h2; exact e.1 h2; exact e.2 h2), if_neg (by simpa using h3), if_neg (by simpa using h4)]
theorem treeE_node {n : Nat} {N : Nat → BNode} {j : Nat} (h0 : ¬ n = 0) (h1 : ¬ 120 < n) (hj : ∀ i, i < j → nodeE N i = 0) (he : nodeE N j ≠ 0) (hlt : j < n) : treeE n N = nodeE N j := by
  have := firstE_hit (f := nodeE N) hj he hlt
  unfold treeE; rw [if_neg h0, if_neg h1, if_pos (by rw [this]; exact he), this]
theorem treeE_lone {n : Nat} {N : Nat → BNode} (h0 : ¬ n = 0) (h1 : ¬ 120 < n) (hj : ∀ i, i < n → nodeE N i = 0) (he : ∃ j, j < n ∧ loneP n N j) : treeE n N = 6 := by
  unfold treeE; rw [if_neg h0, if_neg h1, if_neg (by rw [firstE_all hj]; simp), if_pos he]
theorem treeE_ok {n : Nat} {N : Nat → BNode} (h0 : ¬ n = 0) (h1 : ¬ 120 < n) (hj : ∀ i, i < n → nodeE N i = 0) (he : ¬ ∃ j, j < n ∧ loneP n N j) : treeE n N = 0 := by
  unfold treeE; rw [if_neg h0, if_neg h1, if_neg (by rw [firstE_all hj]; simp), if_neg he]
/-- what the walks ask of a node's sizes -/
def Fine (x : BNode) : Prop := x.name.size ≤ 1000 ∧ x.data.size ≤ 1000 ∧ x.m ≤ 100 ∧ ∀ k, k < x.m → (x.A k).name.size ≤ 1000 ∧ (x.A k).value.size ≤ 1000
set_option maxRecDepth 100000 in
set_option maxHeartbeats 8000000 in
theorem rtree_walk (n c : Nat) (a0 : Option Addr) (N : Nat → BNode) (H : Nat → Hd) (w : World) (hT : TreeAt w a0 n N H) (hn : n ≤ 1000) (hs : ∀ i, i < n → Fine (N i)) :
    Calls Tryz.prog 44 #[.slice a0 n c] w (RetI (treeE n N) w) := by
  by_cases h0 : n = 0
  · subst h0
    rw [show treeE 0 N = 6 from by unfold treeE; rw [if_pos rfl]]
    rw [show (Value.slice a0 0 c) = Value.slice a0 0 c from rfl]
    go_enter Tryz.func44, Tryz.ntmps44
    go_wp2_with fail
    go_ret2
    exact ⟨-1, rfl, Fr.refl _ _⟩
  have e0 : ((n : Int) == 0) = false := by simp; omega
  by_cases h1 : 120 < n
  · rw [show treeE n N = 3 from by unfold treeE; rw [if_neg h0, if_pos h1]]
    clear h0
    go_enter Tryz.func44, Tryz.ntmps44
    go_wp2_with fail
    go_ret2
    exact ⟨-1, rfl, Fr.refl _ _⟩
  have HZ := Lib.hid h0
  obtain ⟨b, o, rfl, hb, hc⟩ := hT.get (by omega)
  have HC := Lib.hid hc
  have HNT := Lib.hid hT.1
  have HT := Lib.hid hT
  have HS := Lib.hid hs
  clear h0 hc hT hs
  go_enter Tryz.func44, Tryz.ntmps44
  go_wp2_with fail
  clear e0
  go_loopw [4, 5] (fun z _ wr => ∃ k : Nat, k ≤ n ∧ z = .int .i64 k ∧ Fr (fun _ => False) w wr ∧ Hid (∀ j, j < k → nodeE N j = 0)) (fun z _ _ => n - (intOf z).toNat)
  case atStart => exact ⟨0, by omega, rfl, Fr.refl _ _, Lib.hid (fun j hj => by omega)⟩
  case round =>
    obtain ⟨k, hk, rfl, hF, HJ⟩ := hrel
    obtain ⟨wo, rfl⟩ : ∃ wo : World, wo = wr := ⟨_, rfl⟩
    have HF := Lib.hid hF
    clear hF
    by_cases hlt : k < n
    · have g1 : (0 : Int) ≤ (k : Int) := by omega
      have g2 : (k : Int) < n := by omega
      have HA := Lib.hid (HS.out k hlt)
      have C1 := Lib.hid (fun w0 (hG : Fr (fun _ => False) w w0) => rshape_walk n c k _ N H w0 (HT.out.fr hG (fun _ _ h => h)) hn hlt (fun j hj => (nodeE_parts (HJ.out j hj)).1))
      have C2 := Lib.hid (fun w0 (hG : Fr (fun _ => False) w w0) => rentry_walk n c k _ N H w0 (HT.out.fr hG (fun _ _ h => h)) hn hlt HA.out.1)
      have C3 := Lib.hid (fun w0 => rkind_walk (N k) (H k) w0 HA.out.2.1 HA.out.2.2.1)
      have C4 := Lib.hid (fun w0 (hG : Fr (fun _ => False) w w0) => rattrs_walk (N k).m (H k).cA (H k).aA (N k).A w0 ((HNT.out k hlt).1.fr hG (fun _ _ h => h)) HA.out.2.2.2 HA.out.2.2.1)
      have C5 := Lib.hid (fun w0 (hG : Fr (fun _ => False) w w0) => rclass_walk n c k _ N H w0 (HT.out.fr hG (fun _ _ h => h)) hn hlt (fun j hj => (HS.out j (by omega)).2.2.1) (fun j hj => (nodeE_parts (HJ.out j hj)).2.2.2.2))
      have HCC := Lib.hid (fun w0 (hG : Fr (fun _ => False) w w0) => HC.out w0 hG k hlt)
      have E1 := Lib.hid (fun (h : shapeE N k ≠ 0) => nodeE_shape h)
      have E2 := Lib.hid (fun (h : shapeE N k = 0) (hj : k ≠ 0) (h2 : entryE N k ≠ 0) => nodeE_entry h hj h2)
      have E3 := Lib.hid (fun (h : shapeE N k = 0) (h2 : k = 0 ∨ entryE N k = 0) (h3 : kindE (N k) ≠ 0) => nodeE_kind h h2 h3)
      have E4 := Lib.hid (fun (h : shapeE N k = 0) (h2 : k = 0 ∨ entryE N k = 0) (h3 : kindE (N k) = 0) (h4 : attrE (N k).m (N k).A ≠ 0) => nodeE_attr h h2 h3 h4)
      have E5 := Lib.hid (fun (h : shapeE N k = 0) (h2 : k = 0 ∨ entryE N k = 0) (h3 : kindE (N k) = 0) (h4 : attrE (N k).m (N k).A = 0) => nodeE_class h h2 h3 h4)
      have EH := Lib.hid (fun (he : nodeE N k ≠ 0) => treeE_node HZ.out h1 HJ.out he hlt)
      unfold trA at C3
      generalize H k = hd at *
      generalize N k = x at *
      have g0 : ¬ (n : Int) ≤ (k : Int) := by omega
      by_cases kz : k = 0
      · have kd : decide ((0 : Int) < (k : Int)) = false := by simp; omega
        have kd2 : decide (0 < k) = false := by simp; omega
        have KZ := Lib.hid kz
        clear kz
        by_cases s0 : shapeE N k = 0
        case neg =>
          have hq := E1.out s0
          have HV := Lib.hid ((EH.out (by rw [hq]; exact s0)).trans hq)
          have q0 : (shapeE N k != 0) = true := by simpa using s0
          have q1 : (shapeE N k == 0) = false := by simpa using s0
          clear hq s0 E1 E2 E3 E4 E5 EH
          generalize shapeE N k = E at *
          go_wp2_with (first | (go_at_call 55; go_must (refine (C1.out _ HF.out).mono ?_; rintro e w1 ⟨rfl, hF⟩; have F1 := Lib.hid (HF.out.then hF); obtain ⟨c0, c1, c2, c3, c4, c5, c6, c7⟩ := HCC.out _ F1.out; clear hF)))
          go_ret2
          exact ⟨k, by rw [HV.out] <;> rfl, F1.out⟩
        have S0 := Lib.hid s0
        rw [s0] at C1
        clear s0
        have HD := Lib.hid (Or.inl KZ.out : k = 0 ∨ entryE N k = 0)
        by_cases s2 : kindE x = 0
        case neg =>
          have hq := E3.out S0.out HD.out s2
          have HV := Lib.hid ((EH.out (by rw [hq]; exact s2)).trans hq)
          have q0 : (kindE x != 0) = true := by simpa using s2
          have q1 : (kindE x == 0) = false := by simpa using s2
          clear hq s2 E1 E2 E3 E4 E5 EH
          generalize kindE x = E at *
          go_wp2_with (first | (go_at_call 55; go_must (refine (C1.out _ HF.out).mono ?_; rintro e w1 ⟨rfl, hF⟩; have F1 := Lib.hid (HF.out.then hF); obtain ⟨c0, c1, c2, c3, c4, c5, c6, c7⟩ := HCC.out _ F1.out; clear hF)) | (go_at_call 57; go_must (refine (C3.out _).mono ?_; rintro e w3 ⟨rfl, hF⟩; clear c0 c1 c2 c3 c4 c5 c6 c7; have F3 := Lib.hid (F1.out.then hF); obtain ⟨c0, c1, c2, c3, c4, c5, c6, c7⟩ := HCC.out _ F3.out; clear hF)))
          go_ret2
          exact ⟨k, by rw [HV.out] <;> rfl, F3.out⟩
        have S2 := Lib.hid s2
        rw [s2] at C3
        clear s2
        by_cases s3 : attrE x.m x.A = 0
        case neg =>
          have hq := E4.out S0.out HD.out S2.out s3
          have HV := Lib.hid ((EH.out (by rw [hq]; exact s3)).trans hq)
          have q0 : (attrE x.m x.A != 0) = true := by simpa using s3
          have q1 : (attrE x.m x.A == 0) = false := by simpa using s3
          clear hq s3 E1 E2 E3 E4 E5 EH
          generalize attrE x.m x.A = E at *
          go_wp2_with (first | (go_at_call 55; go_must (refine (C1.out _ HF.out).mono ?_; rintro e w1 ⟨rfl, hF⟩; have F1 := Lib.hid (HF.out.then hF); obtain ⟨c0, c1, c2, c3, c4, c5, c6, c7⟩ := HCC.out _ F1.out; clear hF)) | (go_at_call 57; go_must (refine (C3.out _).mono ?_; rintro e w3 ⟨rfl, hF⟩; clear c0 c1 c2 c3 c4 c5 c6 c7; have F3 := Lib.hid (F1.out.then hF); obtain ⟨c0, c1, c2, c3, c4, c5, c6, c7⟩ := HCC.out _ F3.out; clear hF)) | (go_at_call 58; go_must (refine (C4.out _ F3.out).mono ?_; rintro e w4 ⟨rfl, hF⟩; clear c0 c1 c2 c3 c4 c5 c6 c7; have F4 := Lib.hid (F3.out.then hF); clear hF)))
          go_ret2
          exact ⟨k, by rw [HV.out] <;> rfl, F4.out⟩
        have S3 := Lib.hid s3
        rw [s3] at C4
        clear s3
        by_cases s4 : classE N k = 0
        case neg =>
          have hq := E5.out S0.out HD.out S2.out S3.out
          have HV := Lib.hid ((EH.out (by rw [hq]; exact s4)).trans hq)
          have q0 : (classE N k != 0) = true := by simpa using s4
          have q1 : (classE N k == 0) = false := by simpa using s4
          clear hq s4 E1 E2 E3 E4 E5 EH
          generalize classE N k = E at *
          go_wp2_with (first | (go_at_call 55; go_must (refine (C1.out _ HF.out).mono ?_; rintro e w1 ⟨rfl, hF⟩; have F1 := Lib.hid (HF.out.then hF); obtain ⟨c0, c1, c2, c3, c4, c5, c6, c7⟩ := HCC.out _ F1.out; clear hF)) | (go_at_call 57; go_must (refine (C3.out _).mono ?_; rintro e w3 ⟨rfl, hF⟩; clear c0 c1 c2 c3 c4 c5 c6 c7; have F3 := Lib.hid (F1.out.then hF); obtain ⟨c0, c1, c2, c3, c4, c5, c6, c7⟩ := HCC.out _ F3.out; clear hF)) | (go_at_call 58; go_must (refine (C4.out _ F3.out).mono ?_; rintro e w4 ⟨rfl, hF⟩; clear c0 c1 c2 c3 c4 c5 c6 c7; have F4 := Lib.hid (F3.out.then hF); clear hF)) | (go_at_call 59; go_must (refine (C5.out _ F4.out).mono ?_; rintro e w5 ⟨rfl, hF⟩; have F5 := Lib.hid (F4.out.then hF); clear hF)))
          go_ret2
          exact ⟨k, by rw [HV.out] <;> rfl, F5.out⟩
        have S4 := Lib.hid s4
        rw [s4] at C5
        clear s4
        have HK := Lib.hid ((E5.out S0.out HD.out S2.out S3.out).trans S4.out)
        go_wp2_with (first | (go_at_call 55; go_must (refine (C1.out _ HF.out).mono ?_; rintro e w1 ⟨rfl, hF⟩; have F1 := Lib.hid (HF.out.then hF); obtain ⟨c0, c1, c2, c3, c4, c5, c6, c7⟩ := HCC.out _ F1.out; clear hF)) | (go_at_call 57; go_must (refine (C3.out _).mono ?_; rintro e w3 ⟨rfl, hF⟩; clear c0 c1 c2 c3 c4 c5 c6 c7; have F3 := Lib.hid (F1.out.then hF); obtain ⟨c0, c1, c2, c3, c4, c5, c6, c7⟩ := HCC.out _ F3.out; clear hF)) | (go_at_call 58; go_must (refine (C4.out _ F3.out).mono ?_; rintro e w4 ⟨rfl, hF⟩; clear c0 c1 c2 c3 c4 c5 c6 c7; have F4 := Lib.hid (F3.out.then hF); clear hF)) | (go_at_call 59; go_must (refine (C5.out _ F4.out).mono ?_; rintro e w5 ⟨rfl, hF⟩; have F5 := Lib.hid (F4.out.then hF); clear hF)))
        go_roundw
        case rel => exact ⟨k + 1, by omega, by go_num, F5.out, Lib.hid (fun j hj => by
          by_cases e : j = k
          · subst e; exact HK.out
          · exact HJ.out j (by omega))⟩
        case measure => simp [intOf]; omega
      · have kd : decide ((0 : Int) < (k : Int)) = true := by simp; omega
        have kd2 : decide (0 < k) = true := by simp; omega
        have KZ := Lib.hid kz
        clear kz
        by_cases s0 : shapeE N k = 0
        case neg =>
          have hq := E1.out s0
          have HV := Lib.hid ((EH.out (by rw [hq]; exact s0)).trans hq)
          have q0 : (shapeE N k != 0) = true := by simpa using s0
          have q1 : (shapeE N k == 0) = false := by simpa using s0
          clear hq s0 E1 E2 E3 E4 E5 EH
          generalize shapeE N k = E at *
          go_wp2_with (first | (go_at_call 55; go_must (refine (C1.out _ HF.out).mono ?_; rintro e w1 ⟨rfl, hF⟩; have F1 := Lib.hid (HF.out.then hF); obtain ⟨c0, c1, c2, c3, c4, c5, c6, c7⟩ := HCC.out _ F1.out; clear hF)))
          go_ret2
          exact ⟨k, by rw [HV.out] <;> rfl, F1.out⟩
        have S0 := Lib.hid s0
        rw [s0] at C1
        clear s0
        by_cases s1 : entryE N k = 0
        case neg =>
          have hq := E2.out S0.out KZ.out s1
          have HV := Lib.hid ((EH.out (by rw [hq]; exact s1)).trans hq)
          have q0 : (entryE N k != 0) = true := by simpa using s1
          have q1 : (entryE N k == 0) = false := by simpa using s1
          clear hq s1 E1 E2 E3 E4 E5 EH
          generalize entryE N k = E at *
          go_wp2_with (first | (go_at_call 55; go_must (refine (C1.out _ HF.out).mono ?_; rintro e w1 ⟨rfl, hF⟩; have F1 := Lib.hid (HF.out.then hF); obtain ⟨c0, c1, c2, c3, c4, c5, c6, c7⟩ := HCC.out _ F1.out; clear hF)) | (go_at_call 56; go_must (refine (C2.out _ F1.out).mono ?_; rintro e w2 ⟨rfl, hF⟩; clear c0 c1 c2 c3 c4 c5 c6 c7; have F2 := Lib.hid (F1.out.then hF); obtain ⟨c0, c1, c2, c3, c4, c5, c6, c7⟩ := HCC.out _ F2.out; clear hF)))
          go_ret2
          exact ⟨k, by rw [HV.out] <;> rfl, F2.out⟩
        have S1 := Lib.hid s1
        rw [s1] at C2
        clear s1
        have HD := Lib.hid (Or.inr S1.out : k = 0 ∨ entryE N k = 0)
        by_cases s2 : kindE x = 0
        case neg =>
          have hq := E3.out S0.out HD.out s2
          have HV := Lib.hid ((EH.out (by rw [hq]; exact s2)).trans hq)
          have q0 : (kindE x != 0) = true := by simpa using s2
          have q1 : (kindE x == 0) = false := by simpa using s2
          clear hq s2 E1 E2 E3 E4 E5 EH
          generalize kindE x = E at *
          go_wp2_with (first | (go_at_call 55; go_must (refine (C1.out _ HF.out).mono ?_; rintro e w1 ⟨rfl, hF⟩; have F1 := Lib.hid (HF.out.then hF); obtain ⟨c0, c1, c2, c3, c4, c5, c6, c7⟩ := HCC.out _ F1.out; clear hF)) | (go_at_call 56; go_must (refine (C2.out _ F1.out).mono ?_; rintro e w2 ⟨rfl, hF⟩; clear c0 c1 c2 c3 c4 c5 c6 c7; have F2 := Lib.hid (F1.out.then hF); obtain ⟨c0, c1, c2, c3, c4, c5, c6, c7⟩ := HCC.out _ F2.out; clear hF)) | (go_at_call 57; go_must (refine (C3.out _).mono ?_; rintro e w3 ⟨rfl, hF⟩; clear c0 c1 c2 c3 c4 c5 c6 c7; have F3 := Lib.hid (F2.out.then hF); obtain ⟨c0, c1, c2, c3, c4, c5, c6, c7⟩ := HCC.out _ F3.out; clear hF)))
          go_ret2
          exact ⟨k, by rw [HV.out] <;> rfl, F3.out⟩
        have S2 := Lib.hid s2
        rw [s2] at C3
        clear s2
        by_cases s3 : attrE x.m x.A = 0
        case neg =>
          have hq := E4.out S0.out HD.out S2.out s3
          have HV := Lib.hid ((EH.out (by rw [hq]; exact s3)).trans hq)
          have q0 : (attrE x.m x.A != 0) = true := by simpa using s3
          have q1 : (attrE x.m x.A == 0) = false := by simpa using s3
          clear hq s3 E1 E2 E3 E4 E5 EH
          generalize attrE x.m x.A = E at *
          go_wp2_with (first | (go_at_call 55; go_must (refine (C1.out _ HF.out).mono ?_; rintro e w1 ⟨rfl, hF⟩; have F1 := Lib.hid (HF.out.then hF); obtain ⟨c0, c1, c2, c3, c4, c5, c6, c7⟩ := HCC.out _ F1.out; clear hF)) | (go_at_call 56; go_must (refine (C2.out _ F1.out).mono ?_; rintro e w2 ⟨rfl, hF⟩; clear c0 c1 c2 c3 c4 c5 c6 c7; have F2 := Lib.hid (F1.out.then hF); obtain ⟨c0, c1, c2, c3, c4, c5, c6, c7⟩ := HCC.out _ F2.out; clear hF)) | (go_at_call 57; go_must (refine (C3.out _).mono ?_; rintro e w3 ⟨rfl, hF⟩; clear c0 c1 c2 c3 c4 c5 c6 c7; have F3 := Lib.hid (F2.out.then hF); obtain ⟨c0, c1, c2, c3, c4, c5, c6, c7⟩ := HCC.out _ F3.out; clear hF)) | (go_at_call 58; go_must (refine (C4.out _ F3.out).mono ?_; rintro e w4 ⟨rfl, hF⟩; clear c0 c1 c2 c3 c4 c5 c6 c7; have F4 := Lib.hid (F3.out.then hF); clear hF)))
          go_ret2
          exact ⟨k, by rw [HV.out] <;> rfl, F4.out⟩
        have S3 := Lib.hid s3
        rw [s3] at C4
        clear s3
        by_cases s4 : classE N k = 0
        case neg =>
          have hq := E5.out S0.out HD.out S2.out S3.out
          have HV := Lib.hid ((EH.out (by rw [hq]; exact s4)).trans hq)
          have q0 : (classE N k != 0) = true := by simpa using s4
          have q1 : (classE N k == 0) = false := by simpa using s4
          clear hq s4 E1 E2 E3 E4 E5 EH
          generalize classE N k = E at *
          go_wp2_with (first | (go_at_call 55; go_must (refine (C1.out _ HF.out).mono ?_; rintro e w1 ⟨rfl, hF⟩; have F1 := Lib.hid (HF.out.then hF); obtain ⟨c0, c1, c2, c3, c4, c5, c6, c7⟩ := HCC.out _ F1.out; clear hF)) | (go_at_call 56; go_must (refine (C2.out _ F1.out).mono ?_; rintro e w2 ⟨rfl, hF⟩; clear c0 c1 c2 c3 c4 c5 c6 c7; have F2 := Lib.hid (F1.out.then hF); obtain ⟨c0, c1, c2, c3, c4, c5, c6, c7⟩ := HCC.out _ F2.out; clear hF)) | (go_at_call 57; go_must (refine (C3.out _).mono ?_; rintro e w3 ⟨rfl, hF⟩; clear c0 c1 c2 c3 c4 c5 c6 c7; have F3 := Lib.hid (F2.out.then hF); obtain ⟨c0, c1, c2, c3, c4, c5, c6, c7⟩ := HCC.out _ F3.out; clear hF)) | (go_at_call 58; go_must (refine (C4.out _ F3.out).mono ?_; rintro e w4 ⟨rfl, hF⟩; clear c0 c1 c2 c3 c4 c5 c6 c7; have F4 := Lib.hid (F3.out.then hF); clear hF)) | (go_at_call 59; go_must (refine (C5.out _ F4.out).mono ?_; rintro e w5 ⟨rfl, hF⟩; have F5 := Lib.hid (F4.out.then hF); clear hF)))
          go_ret2
          exact ⟨k, by rw [HV.out] <;> rfl, F5.out⟩
        have S4 := Lib.hid s4
        rw [s4] at C5
        clear s4
        have HK := Lib.hid ((E5.out S0.out HD.out S2.out S3.out).trans S4.out)
        go_wp2_with (first | (go_at_call 55; go_must (refine (C1.out _ HF.out).mono ?_; rintro e w1 ⟨rfl, hF⟩; have F1 := Lib.hid (HF.out.then hF); obtain ⟨c0, c1, c2, c3, c4, c5, c6, c7⟩ := HCC.out _ F1.out; clear hF)) | (go_at_call 56; go_must (refine (C2.out _ F1.out).mono ?_; rintro e w2 ⟨rfl, hF⟩; clear c0 c1 c2 c3 c4 c5 c6 c7; have F2 := Lib.hid (F1.out.then hF); obtain ⟨c0, c1, c2, c3, c4, c5, c6, c7⟩ := HCC.out _ F2.out; clear hF)) | (go_at_call 57; go_must (refine (C3.out _).mono ?_; rintro e w3 ⟨rfl, hF⟩; clear c0 c1 c2 c3 c4 c5 c6 c7; have F3 := Lib.hid (F2.out.then hF); obtain ⟨c0, c1, c2, c3, c4, c5, c6, c7⟩ := HCC.out _ F3.out; clear hF)) | (go_at_call 58; go_must (refine (C4.out _ F3.out).mono ?_; rintro e w4 ⟨rfl, hF⟩; clear c0 c1 c2 c3 c4 c5 c6 c7; have F4 := Lib.hid (F3.out.then hF); clear hF)) | (go_at_call 59; go_must (refine (C5.out _ F4.out).mono ?_; rintro e w5 ⟨rfl, hF⟩; have F5 := Lib.hid (F4.out.then hF); clear hF)))
        go_roundw
        case rel => exact ⟨k + 1, by omega, by go_num, F5.out, Lib.hid (fun j hj => by
          by_cases e : j = k
          · subst e; exact HK.out
          · exact HJ.out j (by omega))⟩
        case measure => simp [intOf]; omega
    · obtain rfl : k = n := by omega
      go_wp2_with fail
      go_loopw [6] (fun z wr => ∃ p : Nat, p ≤ k ∧ z = .int .i64 p ∧ Fr (fun _ => False) w wr ∧ Hid (∀ j, j < p → ¬ loneP k N j)) (fun z _ => k - (intOf z).toNat)
      case atStart => exact ⟨0, by omega, rfl, HF.out, Lib.hid (fun j hj => by omega)⟩
      case round =>
        obtain ⟨p, hp, rfl, hF, HP⟩ := hrel
        by_cases hlt : p < k
        · have g1 : (0 : Int) ≤ (p : Int) := by omega
          have g2 : (p : Int) < k := by omega
          have c7 := (HC.out wr hF p hlt).c7
          have HF := Lib.hid hF
          have CC := Lib.hid (fun z => rcount_walk k c _ N H z wr (HT.out.fr hF (fun _ _ h => h)) hn)
          have HLN := Lib.hid (fun (h : loneP k N p) => treeE_lone HZ.out h1 HJ.out ⟨p, hlt, h⟩)
          have HLP := Lib.hid (show loneP k N p ↔ 0 < (N p).cls ∧ countC N (N p).cls k = 1 from Iff.rfl)
          clear hF
          obtain ⟨z, hz⟩ : ∃ z, z = (N p).cls := ⟨_, rfl⟩
          rw [← hz] at c7 HLP
          clear hz
          have CC := Lib.hid (CC.out z)
          by_cases h0 : 0 < z
          · by_cases h2 : countC N z k = 1
            · have HV := Lib.hid (HLN.out (HLP.out.2 ⟨h0, h2⟩))
              rw [h2] at CC
              clear h2
              go_wp2_with (go_at_call 60; go_must (refine CC.out.mono ?_; rintro e w1 ⟨rfl, hF⟩; have HF1 := Lib.hid (HF.out.then hF); clear hF))
              go_ret2
              exact ⟨p, by rw [HV.out] <;> rfl, HF1.out⟩
            · have HNL := Lib.hid (fun h => h2 (HLP.out.1 h).2)
              have q1 : ((countC N z k : Int) == 1) = false := by simp; omega
              clear h2
              generalize countC N z k = T at *
              go_wp2_with (go_at_call 60; go_must (refine CC.out.mono ?_; rintro e w1 ⟨rfl, hF⟩; have HF1 := Lib.hid (HF.out.then hF); clear hF))
              go_roundw
              case rel => exact ⟨p + 1, by omega, by go_num, HF1.out, Lib.hid (fun j hj => by
                by_cases e : j = p
                · subst e; exact HNL.out
                · exact HP.out j (by omega))⟩
              case measure => simp [intOf]; omega
          · have HNL := Lib.hid (fun h => h0 (HLP.out.1 h).1)
            go_wp2_with fail
            go_roundw
            case rel => exact ⟨p + 1, by omega, by go_num, HF.out, Lib.hid (fun j hj => by
              by_cases e : j = p
              · subst e; exact HNL.out
              · exact HP.out j (by omega))⟩
            case measure => simp [intOf]; omega
        · obtain rfl : p = k := by omega
          have HV := Lib.hid (treeE_ok HZ.out h1 HJ.out (fun ⟨j, hj, h⟩ => HP.out j hj h))
          have HF := Lib.hid hF
          clear hF
          go_wp2_with fail
          go_ret2
          exact ⟨0, by rw [HV.out] <;> rfl, HF.out⟩
end Go.Proofs.YtogjfifpbplahaaGreatDoor

namespace Go.Proofs.YtogjfifpbplahaaGreatDoor
open Go.RowKit
open BR
set_option linter.unusedVariables false

section
variable {P : Program}
theorem run_append_any (w : World) (base : Nat) (t ty e : TypeId) (i : TypeInfo) (z : Value) (size bytes : Nat) (ht : P.underlying t = some (.slice e)) (hi : P.info? e = some i) (hz : i.zero = some z)
    (hsize : i.size = size) (hby : i.bytes = bytes) (hzs : z.cells.size = size) (hsz : 0 < size)
    (v : Value) (n : Nat) (xs : List Value) (hown : w.ownsRow base e size v n xs)
    (a0 : Option Addr) (m c : Nat) (news : List Value) (hl : news.length = m * size) (hnews : 0 < m → ∃ b o, a0 = some ⟨b, o, none⟩ ∧ ∀ j u, news[j]? = some u → w.cell? ⟨b, o + j, none⟩ = some u) (h1 : ∀ u ∈ news, u.oneCell' = true)
    (h63 : n + m ≤ maxLen) (hbytes : (n + m) * bytes ≤ 140737488355328) (hbase : base ≤ w.heap.size) :
    ∃ v' w', (Builtin.append_ #[t, t] ty #[v, .slice a0 m c]).run P w = .ok v' w' ∧ w'.ownsRow base e size v' (n + m) (xs ++ news) ∧ w.grownBy w' v.ownBlock ∧ (v'.ownBlock = v.ownBlock ∨ v'.ownBlock = some w.heap.size) := by
  by_cases h0 : m = 0
  · subst h0
    have hnil : news = [] := List.eq_nil_of_length_eq_zero (by simpa using hl)
    subst hnil
    have hs : Src P i.size t (.slice a0 0 c) 0 [] w := by
      cases a0 with
      | none => exact ⟨.inl ⟨_, ht⟩, fun _ => rfl, run_firstCells_none w _ 0 0 c, run_firstCells_none w.drew _ 0 0 c, by simp, fun _ h => by cases h⟩
      | some a => exact Src.ofSlice w ht a 0 c [] (by simp) (fun j u h => by simp at h) (fun _ h => by cases h)
    have key : ∀ (b : Option Addr) (cap : Nat), n ≤ cap → v = .slice b n cap → (Builtin.append_ #[t, t] ty #[v, .slice a0 0 c]).run P w = .ok v w := by
      intro b cap hle hv
      rw [hv]
      exact run_append_nothing (P := P) w t t ty e i ht hi b n cap hle (.slice a0 0 c) hs
    have hrun : (Builtin.append_ #[t, t] ty #[v, .slice a0 0 c]).run P w = .ok v w := by
      rcases hown.2 with ⟨hv, hn⟩ | ⟨g, cap, cur, hv, _, _, hnc, _⟩
      · exact key none 0 (by omega) (by rw [hn]; exact hv)
      · exact key _ cap hnc hv
    exact ⟨v, w, hrun, by simpa using hown, ⟨rfl, rfl, rfl, Nat.le_refl _, fun _ _ _ => rfl⟩, Or.inl rfl⟩
  · obtain ⟨b, o, rfl, hc⟩ := hnews (by omega)
    obtain ⟨v', w', hr, h2, h3, h4, h5⟩ := run_append_own_at (P := P) w base t ty e i z size bytes ht hi hz hsize hby hzs hsz v n xs hown ⟨b, o, none⟩ m c news hl (fun j u hj => by rw [addr_add]; exact hc j u hj) h1 h63 hbytes hbase
    exact ⟨v', w', hr, h2, h3, h5⟩
theorem wp_append_any {w : World} {o : Oper} {a : Act} {K : Act → World → Prop} {Q : Exit → Act → World → Prop} (s x : Operand) (t : TypeId)
    (ho : o.op = .call { callee := .builtin .append, args := #[s, x], argTypes := #[t, t] })
    (base : Nat) (e : TypeId) (i : TypeInfo) (z : Value) (size bytes : Nat) (ht : P.underlying t = some (.slice e)) (hi : P.info? e = some i) (hz : i.zero = some z)
    (hsize : i.size = size) (hby : i.bytes = bytes) (hzs : z.cells.size = size) (hsz : 0 < size)
    (v : Value) (n : Nat) (xs : List Value) (hs : a.eval s = v) (hown : w.ownsRow base e size v n xs)
    (a0 : Option Addr) (m c : Nat) (news : List Value) (hx : a.eval x = .slice a0 m c) (hl : news.length = m * size) (hnews : 0 < m → ∃ b o, a0 = some ⟨b, o, none⟩ ∧ ∀ j u, news[j]? = some u → w.cell? ⟨b, o + j, none⟩ = some u) (h1 : ∀ u ∈ news, u.oneCell' = true)
    (h63 : n + m ≤ maxLen) (hbytes : (n + m) * bytes ≤ 140737488355328) (hbase : base ≤ w.heap.size)
    (h : ∀ v' w', w'.ownsRow base e size v' (n + m) (xs ++ news) → w.grownBy w' v.ownBlock → (v'.ownBlock = v.ownBlock ∨ v'.ownBlock = some w.heap.size) → K (a.put o.dst v') w') :
    Oper.wp P o a w K Q := by
  obtain ⟨v', w', hr, h2, h3, h5⟩ := run_append_any (P := P) w base t o.type e i z size bytes ht hi hz hsize hby hzs hsz v n xs hown a0 m c news hl hnews h1 h63 hbytes hbase
  unfold Oper.wp execOp
  simp only [ho, resolve, invoke, builtin, Sem.run_bind, Sem.run_pure, Result.andThen_ok, List.map_toArray, List.map_cons, List.map_nil, hs, hx, hr]
  exact h v' w' h2 h3 h5
theorem wpList_append_any {w : World} {ops : Array Oper} {rest : List Oper} {o : Oper} {a : Act} {Q : Exit → Act → World → Prop} (hgd : o.guard = none) (s x : Operand) (t : TypeId)
    (ho : o.op = .call { callee := .builtin .append, args := #[s, x], argTypes := #[t, t] })
    (base : Nat) (e : TypeId) (i : TypeInfo) (z : Value) (size bytes : Nat) (ht : P.underlying t = some (.slice e)) (hi : P.info? e = some i) (hz : i.zero = some z)
    (hsize : i.size = size) (hby : i.bytes = bytes) (hzs : z.cells.size = size) (hsz : 0 < size)
    (v : Value) (n : Nat) (xs : List Value) (hs : a.eval s = v) (hown : w.ownsRow base e size v n xs)
    (a0 : Option Addr) (m c : Nat) (news : List Value) (hx : a.eval x = .slice a0 m c) (hl : news.length = m * size) (hnews : 0 < m → ∃ b o, a0 = some ⟨b, o, none⟩ ∧ ∀ j u, news[j]? = some u → w.cell? ⟨b, o + j, none⟩ = some u) (h1 : ∀ u ∈ news, u.oneCell' = true)
    (h63 : n + m ≤ maxLen) (hbytes : (n + m) * bytes ≤ 140737488355328) (hbase : base ≤ w.heap.size)
    (h : ∀ v' w', w'.ownsRow base e size v' (n + m) (xs ++ news) → w.grownBy w' v.ownBlock → (v'.ownBlock = v.ownBlock ∨ v'.ownBlock = some w.heap.size) → wpList P ops Q rest (a.put o.dst v') w') :
    wpList P ops Q (o :: rest) a w := by
  refine wpList_plain hgd fun K hK => ?_
  exact wp_append_any s x t ho base e i z size bytes ht hi hz hsize hby hzs hsz v n xs hs hown a0 m c news hx hl hnews h1 h63 hbytes hbase (fun v' w' a1 a2 a3 => hK _ _ (h v' w' a1 a2 a3))
end
/-- what the call's own slice holds -/
theorem own_slice {w : World} {base : Nat} {e : TypeId} {size : Nat} {v : Value} {n : Nat} {xs : List Value} (h : w.ownsRow base e size v n xs) :
    ∃ a0 c, v = .slice a0 n c ∧ n ≤ c ∧ (0 < n → ∃ g, a0 = some ⟨g, 0, none⟩ ∧ base ≤ g ∧ g < w.heap.size ∧ ∀ j u, xs[j]? = some u → w.cell? ⟨g, j, none⟩ = some u) := by
  rcases h.2 with ⟨rfl, rfl⟩ | ⟨g, cap, cur, rfl, hb, hg, hnc, hcm, hcs, ht⟩
  · exact ⟨none, 0, rfl, Nat.le_refl _, fun h => absurd h (by omega)⟩
  · refine ⟨_, cap, rfl, hnc, fun hn => ⟨g, rfl, hb, (Array.getElem?_eq_some_iff.1 hg).1, fun j u hj => ?_⟩⟩
    have := h.cells (g := g) rfl j u hj
    rw [addr_add] at this
    rw [Nat.zero_add] at this
    exact this
theorem fr_grow {w0 w w' : World} {row : Option Nat} (h : Fr (fun _ => False) w0 w) (k : w.grownBy w' row) (hg : ∀ g, row = some g → w0.heap.size ≤ g) : Fr (fun _ => False) w0 w' :=
  ⟨k.os.trans h.os, k.tape.trans h.tape, k.output.trans h.output, Nat.le_trans h.size k.size, fun i hi _ =>
    (k.block i (Nat.lt_of_lt_of_le hi h.size) (fun e => by have := hg i e.symm; omega)).trans (h.block i hi (fun h => h))⟩
theorem own_block_ge {w : World} {base : Nat} {e : TypeId} {size : Nat} {v : Value} {n : Nat} {xs : List Value} (h : w.ownsRow base e size v n xs) : ∀ g, v.ownBlock = some g → base ≤ g := fun g hg => (h.lt g hg).1
/-- the call's own slice stays, whatever is made or written elsewhere -/
theorem own_fr {w w' : World} {S : Nat → Prop} {base : Nat} {e : TypeId} {size : Nat} {v : Value} {n : Nat} {xs : List Value} (h : w.ownsRow base e size v n xs) (f : Fr S w w') (hS : ∀ g, v.ownBlock = some g → ¬ S g) : w'.ownsRow base e size v n xs := by
  rcases h.2 with ⟨rfl, rfl⟩ | ⟨g, cap, cur, rfl, hb, hg, hr⟩
  · exact ⟨h.1, .inl ⟨rfl, rfl⟩⟩
  · exact ⟨h.1, .inr ⟨g, cap, cur, rfl, hb, (f.block g (Array.getElem?_eq_some_iff.1 hg).1 (hS g rfl)).trans hg, hr⟩⟩

/-! attributes -/
def cellsA (A : Nat → BAttr) (m : Nat) : List Value := (List.range (m * 2)).map (fun k => if k % 2 = 0 then .string (A (k / 2)).name else .string (A (k / 2)).value)
theorem cellsA_len (A : Nat → BAttr) (m : Nat) : (cellsA A m).length = m * 2 := by simp [cellsA]
theorem cellsA_name (A : Nat → BAttr) {m k : Nat} (h : k < m) : (cellsA A m)[k * 2]? = some (.string (A k).name) := by
  simp [cellsA, show k * 2 < m * 2 by omega]
theorem cellsA_value (A : Nat → BAttr) {m k : Nat} (h : k < m) : (cellsA A m)[k * 2 + 1]? = some (.string (A k).value) := by
  simp [cellsA, show k * 2 + 1 < m * 2 by omega, show (k * 2 + 1) % 2 = 1 by omega, show (k * 2 + 1) / 2 = k by omega]
theorem cellsA_one (A : Nat → BAttr) (m : Nat) : ∀ u ∈ cellsA A m, u.oneCell' = true := by
  intro u hu
  obtain ⟨k, _, rfl⟩ := List.mem_map.1 hu
  split <;> rfl
theorem cellsA_src {w : World} {a0 : Option Addr} {m : Nat} {A : Nat → BAttr} (h : AttrsAt w a0 m A) : 0 < m → ∃ b o, a0 = some ⟨b, o, none⟩ ∧ ∀ j u, (cellsA A m)[j]? = some u → w.cell? ⟨b, o + j, none⟩ = some u := fun hm => by
  obtain ⟨b, o, h1, h2, h3⟩ := h hm
  refine ⟨b, o, h1, fun j u hj => ?_⟩
  have hlt : j < m * 2 := by have := (List.getElem?_eq_some_iff.1 hj).1; rwa [cellsA_len] at this
  have hk := h3 (j / 2) (by omega)
  by_cases e : j % 2 = 0
  · have := cellsA_name A (m := m) (k := j / 2) (by omega)
    rw [show j / 2 * 2 = j by omega, hj] at this
    rw [show o + j = o + j / 2 * 2 by omega, hk.1, Option.some.inj this]
  · have := cellsA_value A (m := m) (k := j / 2) (by omega)
    rw [show j / 2 * 2 + 1 = j by omega, hj] at this
    rw [show o + j = o + j / 2 * 2 + 1 by omega, hk.2, Option.some.inj this]
theorem own_attrs {w : World} {base : Nat} {e : TypeId} {v : Value} {m : Nat} {A : Nat → BAttr} (h : w.ownsRow base e 2 v m (cellsA A m)) : ∃ a0 c, v = .slice a0 m c ∧ m ≤ c ∧ AttrsAt w a0 m A := by
  obtain ⟨a0, c, rfl, hc, hr⟩ := own_slice h
  refine ⟨a0, c, rfl, hc, fun hm => ?_⟩
  obtain ⟨g, rfl, hb, hlt, hj⟩ := hr hm
  exact ⟨g, 0, rfl, hlt, fun k hk => ⟨by rw [Nat.zero_add]; exact hj _ _ (cellsA_name A hk), by rw [Nat.zero_add]; exact hj _ _ (cellsA_value A hk)⟩⟩
/-! nodes of a tree -/
def cellsT (N : Nat → BNode) (H : Nat → Hd) : Nat → List Value
  | 0 => []
  | k + 1 => cellsT N H k ++ trV (N k) (H k)
theorem cellsT_len (N : Nat → BNode) (H : Nat → Hd) : ∀ n, (cellsT N H n).length = n * 8
  | 0 => rfl
  | k + 1 => by simp only [cellsT, List.length_append, cellsT_len N H k, trV, List.length_cons, List.length_nil]; omega
theorem cellsT_at (N : Nat → BNode) (H : Nat → Hd) {i j : Nat} (hj : j < 8) : ∀ {n : Nat}, i < n → (cellsT N H n)[i * 8 + j]? = (trV (N i) (H i))[j]?
  | 0, h => by omega
  | k + 1, h => by
    have hl := cellsT_len N H k
    simp only [cellsT]
    by_cases e : i = k
    · subst e
      rw [List.getElem?_append_right (by omega), hl, show i * 8 + j - i * 8 = j by omega]
    · rw [List.getElem?_append_left (by omega)]
      exact cellsT_at N H hj (by omega)
theorem trV_len (x : BNode) (h : Hd) : (trV x h).length = 8 := rfl
theorem own_tree {w : World} {base : Nat} {e : TypeId} {v : Value} {n : Nat} {N : Nat → BNode} {H : Nat → Hd} (h : w.ownsRow base e 8 v n (cellsT N H n)) (hN : ∀ i, i < n → NodeT w (N i) (H i)) : ∃ a0 c, v = .slice a0 n c ∧ n ≤ c ∧ TreeAt w a0 n N H := by
  obtain ⟨a0, c, rfl, hc, hr⟩ := own_slice h
  refine ⟨a0, c, rfl, hc, hN, fun hm => ?_⟩
  obtain ⟨g, rfl, hb, hlt, hj⟩ := hr hm
  refine ⟨g, 0, rfl, hlt, fun i j v hi hv => ?_⟩
  have hj8 : j < 8 := by have := (List.getElem?_eq_some_iff.1 hv).1; rwa [trV_len] at this
  rw [Nat.zero_add]
  exact hj _ _ ((cellsT_at N H hj8 hi).trans hv)
end Go.Proofs.YtogjfifpbplahaaGreatDoor

namespace Go.Proofs.YtogjfifpbplahaaGreatDoor
open Go.RowKit
open BR
set_option linter.unusedVariables false

theorem at_info : (Tryz.prog.info? 58).map (fun i => (i.zero, i.size, i.bytes)) = some (some (.agg #[.string ⟨#[]⟩, .string ⟨#[]⟩]), 2, 32) := by kernel_rfl
/-- what comes back: a slice of the same attributes -/
def RetA (m : Nat) (A : Nat → BAttr) (w : World) (e : Ending) (w' : World) : Prop := ∃ a0 c, e = .returned (.slice a0 m c) ∧ m ≤ c ∧ AttrsAt w' a0 m A ∧ (∀ b o, 0 < m → a0 = some ⟨b, o, none⟩ → w.heap.size ≤ b) ∧ Fr (fun _ => False) w w'
set_option maxRecDepth 100000 in
set_option maxHeartbeats 1000000 in
theorem cloneA_walk (m c : Nat) (a0 : Option Addr) (A : Nat → BAttr) (w : World) (hA : AttrsAt w a0 m A) (hm : m ≤ 100) :
    Calls Tryz.prog 73 #[.slice a0 m c] w (RetA m A w) := by
  obtain ⟨i0, hi, hz0, hz1, hz2⟩ := info_parts at_info
  have qn : ∀ (w : World) (a : Option Addr) (n c n' c' : Nat), (binOp .eql 40 (.slice a n c) (.slice none n' c')).run Tryz.prog w = .ok (.bool a.isNone) w := fun w a n c n' c' => Lib.run_eql_slice_nil w _ _ a n c n' c' Tryz.underlying40
  have HA := Lib.hid hA
  clear hA
  cases a0 with
  | none =>
    have h0 : m = 0 := by
      by_cases h : 0 < m
      · obtain ⟨b, o, h, _⟩ := HA.out h; cases h
      · omega
    have HZ := Lib.hid h0
    clear h0
    go_enter Tryz.func73, Tryz.ntmps73
    go_wp2_with fail
    go_ret
    exact ⟨none, 0, by rw [HZ.out] <;> rfl, by rw [HZ.out] <;> omega, fun h => by rw [HZ.out] at h; omega, (fun _ _ h => by rw [HZ.out] at h; omega), Fr.refl _ _⟩
  | some ad =>
    go_enter Tryz.func73, Tryz.ntmps73
    have HB := Lib.hid (fun (w0 : World) (hG : Fr (fun _ => False) w w0) => cellsA_src (HA.out.fr hG (fun _ _ h => h)))
    go_wp2_with (at_builtin; refine wpList_append_any rfl _ _ 40 rfl w.heap.size 58 i0 _ 2 32 Tryz.underlying40 hi hz0 hz1 hz2 rfl (by decide) _ 0 [] rfl (World.ownsRow_made w #[] 0 (Nat.le_refl _) (Nat.zero_le _) rfl) (some ad) m c (cellsA A m) rfl (cellsA_len A m) ?qs (cellsA_one A m) ?q1 ?q2 ?q3 ?_)
    case qs => exact HB.out _ ((Fr.refl _ w).alloc _)
    case q1 => unfold maxLen; omega
    case q2 => omega
    case q3 => simp
    intro v' w1 hown hgrow hat
    have hF : Fr (fun _ => False) w w1 := fr_grow ((Fr.refl _ w).alloc _) hgrow (fun g hg => by simp [Value.ownBlock] at hg; omega)
    obtain ⟨a1, c1, rfl, hc1, hA1⟩ := own_attrs hown
    have HG := Lib.hid (fun b o (_ : 0 < m) (h : a1 = some ⟨b, o, none⟩) => own_block_ge hown b (by rw [h]; rfl))
    have HF := Lib.hid hF
    have HA1 := Lib.hid hA1
    clear hown hgrow hat hF hA1
    go_wp2_with fail
    go_ret
    exact ⟨a1, c1, rfl, hc1, HA1.out, HG.out, HF.out⟩
theorem AttrsAt.keep {S : Nat → Prop} {w w' : World} {a0 : Option Addr} {m : Nat} {A : Nat → BAttr} (h : AttrsAt w a0 m A) (f : Fr S w w') (hS : ∀ b o, 0 < m → a0 = some ⟨b, o, none⟩ → ¬ S b) : AttrsAt w' a0 m A := fun hn => by
  obtain ⟨b, o, h1, h2, h3⟩ := h hn
  exact ⟨b, o, h1, Nat.lt_of_lt_of_le h2 f.size, fun k hk => ⟨f.cell h2 (hS b o hn h1) (h3 k hk).1, f.cell h2 (hS b o hn h1) (h3 k hk).2⟩⟩
def brA (x : BNode) (h : Hd) : Value := .agg #[.int .i64 x.depth, .string x.name, .int .i64 x.kind, .slice h.aA x.m h.cA, .string x.data, .int .i64 x.major, .int .i64 x.minor, .int .i64 x.cls, .bool x.opq, .slice h.aR x.r h.cR]
def zeroT : List Value := [(.int .i64 0), (.string ⟨#[]⟩), (.int .i64 0), (.slice none 0 0), (.string ⟨#[]⟩), (.int .i64 0), (.int .i64 0), (.int .i64 0)]
/-- what comes back: the node without its marks, its attributes copied -/
def RetN (x : BNode) (w : World) (e : Ending) (w' : World) : Prop := ∃ h : Hd, e = .returned (.agg #[.int .i64 x.depth, .string x.name, .int .i64 x.kind, .slice h.aA x.m h.cA, .string x.data, .int .i64 x.major, .int .i64 x.minor, .int .i64 x.cls]) ∧ NodeT w' x h ∧ (∀ b o, 0 < x.m → h.aA = some ⟨b, o, none⟩ → w.heap.size ≤ b) ∧ Fr (fun _ => False) w w'
set_option maxRecDepth 100000 in
set_option maxHeartbeats 4000000 in
theorem plain_walk (x : BNode) (h : Hd) (w : World) (hx : NodeB w x h) (hm : x.m ≤ 100) : Calls Tryz.prog 52 #[brA x h] w (RetN x w) := by
  have HC := Lib.hid (fun (w0 : World) (hG : Fr (fun _ => False) w w0) => cloneA_walk x.m h.cA h.aA x.A w0 (hx.1.fr hG (fun _ _ h => h)) hm)
  clear hx
  have hR1 : RowB ((w.alloc (.cells #[.int .i64 x.depth, .string x.name, .int .i64 x.kind, .slice h.aA x.m h.cA, .string x.data, .int .i64 x.major, .int .i64 x.minor, .int .i64 x.cls, .bool x.opq, .slice h.aR x.r h.cR] 43)).alloc (.cells zeroT.toArray 106)) w.heap.size 43 (brV x h) := (RowB.new w 43 (brV x h)).fr ((Fr.refl (fun _ => False) _).alloc _) (fun h => h)
  have hR2 : RowB ((w.alloc (.cells #[.int .i64 x.depth, .string x.name, .int .i64 x.kind, .slice h.aA x.m h.cA, .string x.data, .int .i64 x.major, .int .i64 x.minor, .int .i64 x.cls, .bool x.opq, .slice h.aR x.r h.cR] 43)).alloc (.cells zeroT.toArray 106)) (w.heap.size + 1) 106 zeroT := by
    have := RowB.new (w.alloc (.cells #[.int .i64 x.depth, .string x.name, .int .i64 x.kind, .slice h.aA x.m h.cA, .string x.data, .int .i64 x.major, .int .i64 x.minor, .int .i64 x.cls, .bool x.opq, .slice h.aR x.r h.cR] 43)) 106 zeroT
    rw [alloc_size] at this
    exact this
  have hF : Fr (fun _ => False) w ((w.alloc (.cells #[.int .i64 x.depth, .string x.name, .int .i64 x.kind, .slice h.aA x.m h.cA, .string x.data, .int .i64 x.major, .int .i64 x.minor, .int .i64 x.cls, .bool x.opq, .slice h.aR x.r h.cR] 43)).alloc (.cells zeroT.toArray 106)) := ((Fr.refl _ w).alloc _).alloc _
  have HS := Lib.hid (fun (w0 : World) (hG : Fr (fun _ => False) ((w.alloc (.cells #[.int .i64 x.depth, .string x.name, .int .i64 x.kind, .slice h.aA x.m h.cA, .string x.data, .int .i64 x.major, .int .i64 x.minor, .int .i64 x.cls, .bool x.opq, .slice h.aR x.r h.cR] 43)).alloc (.cells zeroT.toArray 106)) w0) => And.intro (hR1.fr hG (fun h => h)) (hR2.fr hG (fun h => h)))
  unfold brA
  unfold zeroT at *
  go_enter Tryz.func52, Tryz.ntmps52
  go_wp2_with fail
  have hz : ((w.alloc (.cells #[.int .i64 x.depth, .string x.name, .int .i64 x.kind, .slice h.aA x.m h.cA, .string x.data, .int .i64 x.major, .int .i64 x.minor, .int .i64 x.cls, .bool x.opq, .slice h.aR x.r h.cR] 43)).alloc (Obj.cells #[.int .i64 0, .string ⟨#[]⟩, .int .i64 0, .slice none 0 0, .string ⟨#[]⟩, .int .i64 0, .int .i64 0, .int .i64 0] 106)).heap.size = w.heap.size + 2 := by simp
  have HF := Lib.hid hF
  clear hF
  change Code.wp _ _ _ _ ((w.alloc (.cells #[.int .i64 x.depth, .string x.name, .int .i64 x.kind, .slice h.aA x.m h.cA, .string x.data, .int .i64 x.major, .int .i64 x.minor, .int .i64 x.cls, .bool x.opq, .slice h.aR x.r h.cR] 43)).alloc (Obj.cells #[.int .i64 0, .string ⟨#[]⟩, .int .i64 0, .slice none 0 0, .string ⟨#[]⟩, .int .i64 0, .int .i64 0, .int .i64 0] 106))
  generalize ((w.alloc (.cells #[.int .i64 x.depth, .string x.name, .int .i64 x.kind, .slice h.aA x.m h.cA, .string x.data, .int .i64 x.major, .int .i64 x.minor, .int .i64 x.cls, .bool x.opq, .slice h.aR x.r h.cR] 43)).alloc (Obj.cells #[.int .i64 0, .string ⟨#[]⟩, .int .i64 0, .slice none 0 0, .string ⟨#[]⟩, .int .i64 0, .int .i64 0, .int .i64 0] 106)) = W0 at *
  obtain ⟨B, hB⟩ : ∃ B, B = w.heap.size := ⟨_, rfl⟩
  obtain ⟨C, hC⟩ : ∃ C, C = w.heap.size + 1 := ⟨_, rfl⟩
  rw [← hC] at hR2 HS ⊢
  rw [← hB] at hR1 HS ⊢
  have HBC := Lib.hid (And.intro hB hC)
  have HZ := Lib.hid hz
  clear hB hC hz
  have a0 : W0.cell? ⟨B, 0, none⟩ = some (.int .i64 x.depth) := hR1.cell 0; have a1 : W0.cell? ⟨B, 1, none⟩ = some (.string x.name) := hR1.cell 1; have a2 : W0.cell? ⟨B, 2, none⟩ = some (.int .i64 x.kind) := hR1.cell 2; have a3 : W0.cell? ⟨B, 3, none⟩ = some (.slice h.aA x.m h.cA) := hR1.cell 3; have a4 : W0.cell? ⟨B, 4, none⟩ = some (.string x.data) := hR1.cell 4; have a5 : W0.cell? ⟨B, 5, none⟩ = some (.int .i64 x.major) := hR1.cell 5; have a6 : W0.cell? ⟨B, 6, none⟩ = some (.int .i64 x.minor) := hR1.cell 6; have a7 : W0.cell? ⟨B, 7, none⟩ = some (.int .i64 x.cls) := hR1.cell 7; have b0 : W0.cell? ⟨C, 0, none⟩ = some (.int .i64 0) := hR2.cell 0; have b1 : W0.cell? ⟨C, 1, none⟩ = some (.string ⟨#[]⟩) := hR2.cell 1; have b2 : W0.cell? ⟨C, 2, none⟩ = some (.int .i64 0) := hR2.cell 2; have b3 : W0.cell? ⟨C, 3, none⟩ = some (.slice none 0 0) := hR2.cell 3; have b4 : W0.cell? ⟨C, 4, none⟩ = some (.string ⟨#[]⟩) := hR2.cell 4; have b5 : W0.cell? ⟨C, 5, none⟩ = some (.int .i64 0) := hR2.cell 5; have b6 : W0.cell? ⟨C, 6, none⟩ = some (.int .i64 0) := hR2.cell 6; have b7 : W0.cell? ⟨C, 7, none⟩ = some (.int .i64 0) := hR2.cell 7; have f0 : W0.frozen? ⟨C, 0, none⟩ = false := hR2.frozen 0; have f1 : W0.frozen? ⟨C, 1, none⟩ = false := hR2.frozen 1; have f2 : W0.frozen? ⟨C, 2, none⟩ = false := hR2.frozen 2; have f3 : W0.frozen? ⟨C, 3, none⟩ = false := hR2.frozen 3; have f4 : W0.frozen? ⟨C, 4, none⟩ = false := hR2.frozen 4; have f5 : W0.frozen? ⟨C, 5, none⟩ = false := hR2.frozen 5; have f6 : W0.frozen? ⟨C, 6, none⟩ = false := hR2.frozen 6; have f7 : W0.frozen? ⟨C, 7, none⟩ = false := hR2.frozen 7; skip
  clear hR1 hR2
  have nBC : ¬ B = C := by obtain ⟨u, v⟩ := HBC.out; omega
  have nCB : ¬ C = B := fun h => nBC h.symm
  go_region_held3 (fun w' => w'.cell? ⟨B, 0, none⟩ = some (.int .i64 x.depth) ∧ w'.cell? ⟨B, 1, none⟩ = some (.string x.name) ∧ w'.cell? ⟨B, 2, none⟩ = some (.int .i64 x.kind) ∧ w'.cell? ⟨B, 3, none⟩ = some (.slice h.aA x.m h.cA) ∧ w'.cell? ⟨B, 4, none⟩ = some (.string x.data) ∧ w'.cell? ⟨B, 5, none⟩ = some (.int .i64 x.major) ∧ w'.cell? ⟨B, 6, none⟩ = some (.int .i64 x.minor) ∧ w'.cell? ⟨B, 7, none⟩ = some (.int .i64 x.cls)) (go_keep) (first | (go_at_call 73; go_must (refine (HC.out W0.drew HF.out.drew).mono ?_; rintro e w1 ⟨aN, cN, rfl, hc1, hA1, hB1, hG⟩; have HA1 := Lib.hid hA1; have HB1 := Lib.hid hB1; have HC1 := Lib.hid hc1; have HG := Lib.hid ((Fr.refl _ W0).drew.then hG); obtain ⟨r1, r2⟩ := HS.out w1 ((Fr.refl _ W0).drew.then hG); clear a0 a1 a2 a3 a4 a5 a6 a7 b0 b1 b2 b3 b4 b5 b6 b7 f0 f1 f2 f3 f4 f5 f6 f7;  have a0 : w1.cell? ⟨B, 0, none⟩ = some (.int .i64 x.depth) := r1.cell 0; have a1 : w1.cell? ⟨B, 1, none⟩ = some (.string x.name) := r1.cell 1; have a2 : w1.cell? ⟨B, 2, none⟩ = some (.int .i64 x.kind) := r1.cell 2; have a3 : w1.cell? ⟨B, 3, none⟩ = some (.slice h.aA x.m h.cA) := r1.cell 3; have a4 : w1.cell? ⟨B, 4, none⟩ = some (.string x.data) := r1.cell 4; have a5 : w1.cell? ⟨B, 5, none⟩ = some (.int .i64 x.major) := r1.cell 5; have a6 : w1.cell? ⟨B, 6, none⟩ = some (.int .i64 x.minor) := r1.cell 6; have a7 : w1.cell? ⟨B, 7, none⟩ = some (.int .i64 x.cls) := r1.cell 7; have b0 : w1.cell? ⟨C, 0, none⟩ = some (.int .i64 0) := r2.cell 0; have b1 : w1.cell? ⟨C, 1, none⟩ = some (.string ⟨#[]⟩) := r2.cell 1; have b2 : w1.cell? ⟨C, 2, none⟩ = some (.int .i64 0) := r2.cell 2; have b3 : w1.cell? ⟨C, 3, none⟩ = some (.slice none 0 0) := r2.cell 3; have b4 : w1.cell? ⟨C, 4, none⟩ = some (.string ⟨#[]⟩) := r2.cell 4; have b5 : w1.cell? ⟨C, 5, none⟩ = some (.int .i64 0) := r2.cell 5; have b6 : w1.cell? ⟨C, 6, none⟩ = some (.int .i64 0) := r2.cell 6; have b7 : w1.cell? ⟨C, 7, none⟩ = some (.int .i64 0) := r2.cell 7; have f0 : w1.frozen? ⟨C, 0, none⟩ = false := r2.frozen 0; have f1 : w1.frozen? ⟨C, 1, none⟩ = false := r2.frozen 1; have f2 : w1.frozen? ⟨C, 2, none⟩ = false := r2.frozen 2; have f3 : w1.frozen? ⟨C, 3, none⟩ = false := r2.frozen 3; have f4 : w1.frozen? ⟨C, 4, none⟩ = false := r2.frozen 4; have f5 : w1.frozen? ⟨C, 5, none⟩ = false := r2.frozen 5; have f6 : w1.frozen? ⟨C, 6, none⟩ = false := r2.frozen 6; have f7 : w1.frozen? ⟨C, 7, none⟩ = false := r2.frozen 7; have HR2 := Lib.hid r2; clear hA1 hB1 hc1 hG r1 r2)))
  go_wp2_with fail
  have hFs : Fr (fun b => b = C) w1 ((((((((w1.setCell ⟨C, 0, none⟩ (.int .i64 x.depth)).setCell ⟨C, 1, none⟩ (.string x.name)).setCell ⟨C, 2, none⟩ (.int .i64 x.kind)).setCell ⟨C, 3, none⟩ (.slice aN x.m cN)).setCell ⟨C, 4, none⟩ (.string x.data)).setCell ⟨C, 5, none⟩ (.int .i64 x.major)).setCell ⟨C, 6, none⟩ (.int .i64 x.minor)).setCell ⟨C, 7, none⟩ (.int .i64 x.cls)) := (Fr.setCell (Fr.setCell (Fr.setCell (Fr.setCell (Fr.setCell (Fr.setCell (Fr.setCell (Fr.setCell (Fr.refl (fun b => b = C) w1) (a := ⟨C, 0, none⟩) (fun _ => rfl) (.int .i64 x.depth)) (a := ⟨C, 1, none⟩) (fun _ => rfl) (.string x.name)) (a := ⟨C, 2, none⟩) (fun _ => rfl) (.int .i64 x.kind)) (a := ⟨C, 3, none⟩) (fun _ => rfl) (.slice aN x.m cN)) (a := ⟨C, 4, none⟩) (fun _ => rfl) (.string x.data)) (a := ⟨C, 5, none⟩) (fun _ => rfl) (.int .i64 x.major)) (a := ⟨C, 6, none⟩) (fun _ => rfl) (.int .i64 x.minor)) (a := ⟨C, 7, none⟩) (fun _ => rfl) (.int .i64 x.cls))
  have hRs : RowB ((((((((w1.setCell ⟨C, 0, none⟩ (.int .i64 x.depth)).setCell ⟨C, 1, none⟩ (.string x.name)).setCell ⟨C, 2, none⟩ (.int .i64 x.kind)).setCell ⟨C, 3, none⟩ (.slice aN x.m cN)).setCell ⟨C, 4, none⟩ (.string x.data)).setCell ⟨C, 5, none⟩ (.int .i64 x.major)).setCell ⟨C, 6, none⟩ (.int .i64 x.minor)).setCell ⟨C, 7, none⟩ (.int .i64 x.cls)) C 106 [.int .i64 x.depth, .string x.name, .int .i64 x.kind, .slice aN x.m cN, .string x.data, .int .i64 x.major, .int .i64 x.minor, .int .i64 x.cls] := ((((((((HR2.out.set 0 (.int .i64 x.depth)).set 1 (.string x.name)).set 2 (.int .i64 x.kind)).set 3 (.slice aN x.m cN)).set 4 (.string x.data)).set 5 (.int .i64 x.major)).set 6 (.int .i64 x.minor)).set 7 (.int .i64 x.cls))
  clear a0 a1 a2 a3 a4 a5 a6 a7 b0 b1 b2 b3 b4 b5 b6 b7 f0 f1 f2 f3 f4 f5 f6 f7
  generalize ((((((((w1.setCell ⟨C, 0, none⟩ (.int .i64 x.depth)).setCell ⟨C, 1, none⟩ (.string x.name)).setCell ⟨C, 2, none⟩ (.int .i64 x.kind)).setCell ⟨C, 3, none⟩ (.slice aN x.m cN)).setCell ⟨C, 4, none⟩ (.string x.data)).setCell ⟨C, 5, none⟩ (.int .i64 x.major)).setCell ⟨C, 6, none⟩ (.int .i64 x.minor)).setCell ⟨C, 7, none⟩ (.int .i64 x.cls)) = W3 at *
  have s0 : W3.cell? ⟨C, 0, none⟩ = some (.int .i64 x.depth) := hRs.cell 0; have s1 : W3.cell? ⟨C, 1, none⟩ = some (.string x.name) := hRs.cell 1; have s2 : W3.cell? ⟨C, 2, none⟩ = some (.int .i64 x.kind) := hRs.cell 2; have s3 : W3.cell? ⟨C, 3, none⟩ = some (.slice aN x.m cN) := hRs.cell 3; have s4 : W3.cell? ⟨C, 4, none⟩ = some (.string x.data) := hRs.cell 4; have s5 : W3.cell? ⟨C, 5, none⟩ = some (.int .i64 x.major) := hRs.cell 5; have s6 : W3.cell? ⟨C, 6, none⟩ = some (.int .i64 x.minor) := hRs.cell 6; have s7 : W3.cell? ⟨C, 7, none⟩ = some (.int .i64 x.cls) := hRs.cell 7
  have HFs := Lib.hid hFs
  clear hFs hRs nBC nCB
  refine bodyPost_ret (v := .agg #[.int .i64 x.depth, .string x.name, .int .i64 x.kind, .slice aN x.m cN, .string x.data, .int .i64 x.major, .int .i64 x.minor, .int .i64 x.cls]) (by simp [results, Tryz.results52, go_sem, *]) rfl ⟨⟨aN, cN, none, 0⟩, rfl, ⟨HA1.out.keep HFs.out (fun b o hm h e => by have h1 : W0.heap.size ≤ b := HB1.out b o hm h; have e : b = C := e; have h2 := HZ.out; obtain ⟨hB, hC⟩ := HBC.out; omega), HC1.out⟩, (fun b o hm h => by have h1 : W0.heap.size ≤ b := HB1.out b o hm h; have h2 := HZ.out; omega), ?_⟩
  exact (HF.out.then HG.out).trans HFs.out (fun k hk e => by have e : k = C := e; obtain ⟨hB, hC⟩ := HBC.out; omega)
theorem step_append_any {P : Program} {w : World} {ops : Array Oper} {o : Oper} {a : Act} {K : Act → World → Prop} {Q : Exit → Act → World → Prop} {E : Prop} (hgd : o.guard = none) (s x : Operand) (t : TypeId)
    (ho : o.op = .call { callee := .builtin .append, args := #[s, x], argTypes := #[t, t] })
    (base : Nat) (e : TypeId) (i : TypeInfo) (z : Value) (size bytes : Nat) (ht : P.underlying t = some (.slice e)) (hi : P.info? e = some i) (hz : i.zero = some z)
    (hsize : i.size = size) (hby : i.bytes = bytes) (hzs : z.cells.size = size) (hsz : 0 < size)
    (v : Value) (n : Nat) (xs : List Value) (hs : a.eval s = v) (hown : w.ownsRow base e size v n xs)
    (a0 : Option Addr) (m c : Nat) (news : List Value) (hx : a.eval x = .slice a0 m c) (hl : news.length = m * size) (hnews : 0 < m → ∃ b o, a0 = some ⟨b, o, none⟩ ∧ ∀ j u, news[j]? = some u → w.cell? ⟨b, o + j, none⟩ = some u) (h1 : ∀ u ∈ news, u.oneCell' = true)
    (h63 : n + m ≤ maxLen) (hbytes : (n + m) * bytes ≤ 140737488355328) (hbase : base ≤ w.heap.size)
    (h : ∀ v' w', w'.ownsRow base e size v' (n + m) (xs ++ news) → w.grownBy w' v.ownBlock → (v'.ownBlock = v.ownBlock ∨ v'.ownBlock = some w.heap.size) → K (a.put o.dst v') w') :
    if Region.wanted o (yielded ops a.tmps) = true then Oper.wp P o a w K Q else E := by
  have hw : Region.wanted o (yielded ops a.tmps) = true := by simp [Region.wanted, hgd]
  rw [if_pos hw]
  exact wp_append_any s x t ho base e i z size bytes ht hi hz hsize hby hzs hsz v n xs hs hown a0 m c news hx hl hnews h1 h63 hbytes hbase h
set_option maxRecDepth 100000 in
set_option maxHeartbeats 4000000 in
theorem rnode_walk (x : BNode) (h : Hd) (w : World) (hx : NodeB w x h) (hm : x.m ≤ 100) : Calls Tryz.prog 61 #[brA x h] w (RetN x w) := by
  obtain ⟨i0, hi, hz0, hz1, hz2⟩ := info_parts at_info
  have HC := Lib.hid (fun (w0 : World) (hG : Fr (fun _ => False) w w0) => cellsA_src (hx.1.fr hG (fun _ _ h => h)))
  clear hx
  have hR1 : RowB ((w.alloc (.cells #[.int .i64 x.depth, .string x.name, .int .i64 x.kind, .slice h.aA x.m h.cA, .string x.data, .int .i64 x.major, .int .i64 x.minor, .int .i64 x.cls, .bool x.opq, .slice h.aR x.r h.cR] 43)).alloc (.cells zeroT.toArray 106)) w.heap.size 43 (brV x h) := (RowB.new w 43 (brV x h)).fr ((Fr.refl (fun _ => False) _).alloc _) (fun h => h)
  have hR2 : RowB ((w.alloc (.cells #[.int .i64 x.depth, .string x.name, .int .i64 x.kind, .slice h.aA x.m h.cA, .string x.data, .int .i64 x.major, .int .i64 x.minor, .int .i64 x.cls, .bool x.opq, .slice h.aR x.r h.cR] 43)).alloc (.cells zeroT.toArray 106)) (w.heap.size + 1) 106 zeroT := by
    have := RowB.new (w.alloc (.cells #[.int .i64 x.depth, .string x.name, .int .i64 x.kind, .slice h.aA x.m h.cA, .string x.data, .int .i64 x.major, .int .i64 x.minor, .int .i64 x.cls, .bool x.opq, .slice h.aR x.r h.cR] 43)) 106 zeroT
    rw [alloc_size] at this
    exact this
  have hF : Fr (fun _ => False) w ((w.alloc (.cells #[.int .i64 x.depth, .string x.name, .int .i64 x.kind, .slice h.aA x.m h.cA, .string x.data, .int .i64 x.major, .int .i64 x.minor, .int .i64 x.cls, .bool x.opq, .slice h.aR x.r h.cR] 43)).alloc (.cells zeroT.toArray 106)) := ((Fr.refl _ w).alloc _).alloc _
  have HS := Lib.hid (fun (w0 : World) (hG : Fr (fun _ => False) ((w.alloc (.cells #[.int .i64 x.depth, .string x.name, .int .i64 x.kind, .slice h.aA x.m h.cA, .string x.data, .int .i64 x.major, .int .i64 x.minor, .int .i64 x.cls, .bool x.opq, .slice h.aR x.r h.cR] 43)).alloc (.cells zeroT.toArray 106)) w0) => And.intro (hR1.fr hG (fun h => h)) (hR2.fr hG (fun h => h)))
  unfold brA
  unfold zeroT at *
  go_enter Tryz.func61, Tryz.ntmps61
  go_wp2_with fail
  have hz : ((w.alloc (.cells #[.int .i64 x.depth, .string x.name, .int .i64 x.kind, .slice h.aA x.m h.cA, .string x.data, .int .i64 x.major, .int .i64 x.minor, .int .i64 x.cls, .bool x.opq, .slice h.aR x.r h.cR] 43)).alloc (Obj.cells #[.int .i64 0, .string ⟨#[]⟩, .int .i64 0, .slice none 0 0, .string ⟨#[]⟩, .int .i64 0, .int .i64 0, .int .i64 0] 106)).heap.size = w.heap.size + 2 := by simp
  have HF := Lib.hid hF
  clear hF
  change Code.wp _ _ _ _ ((w.alloc (.cells #[.int .i64 x.depth, .string x.name, .int .i64 x.kind, .slice h.aA x.m h.cA, .string x.data, .int .i64 x.major, .int .i64 x.minor, .int .i64 x.cls, .bool x.opq, .slice h.aR x.r h.cR] 43)).alloc (Obj.cells #[.int .i64 0, .string ⟨#[]⟩, .int .i64 0, .slice none 0 0, .string ⟨#[]⟩, .int .i64 0, .int .i64 0, .int .i64 0] 106))
  generalize ((w.alloc (.cells #[.int .i64 x.depth, .string x.name, .int .i64 x.kind, .slice h.aA x.m h.cA, .string x.data, .int .i64 x.major, .int .i64 x.minor, .int .i64 x.cls, .bool x.opq, .slice h.aR x.r h.cR] 43)).alloc (Obj.cells #[.int .i64 0, .string ⟨#[]⟩, .int .i64 0, .slice none 0 0, .string ⟨#[]⟩, .int .i64 0, .int .i64 0, .int .i64 0] 106)) = W0 at *
  obtain ⟨B, hB⟩ : ∃ B, B = w.heap.size := ⟨_, rfl⟩
  obtain ⟨C, hC⟩ : ∃ C, C = w.heap.size + 1 := ⟨_, rfl⟩
  rw [← hC] at hR2 HS ⊢
  rw [← hB] at hR1 HS ⊢
  have HBC := Lib.hid (And.intro hB hC)
  have HZ := Lib.hid hz
  clear hB hC hz
  have a0 : W0.cell? ⟨B, 0, none⟩ = some (.int .i64 x.depth) := hR1.cell 0; have a1 : W0.cell? ⟨B, 1, none⟩ = some (.string x.name) := hR1.cell 1; have a2 : W0.cell? ⟨B, 2, none⟩ = some (.int .i64 x.kind) := hR1.cell 2; have a3 : W0.cell? ⟨B, 3, none⟩ = some (.slice h.aA x.m h.cA) := hR1.cell 3; have a4 : W0.cell? ⟨B, 4, none⟩ = some (.string x.data) := hR1.cell 4; have a5 : W0.cell? ⟨B, 5, none⟩ = some (.int .i64 x.major) := hR1.cell 5; have a6 : W0.cell? ⟨B, 6, none⟩ = some (.int .i64 x.minor) := hR1.cell 6; have a7 : W0.cell? ⟨B, 7, none⟩ = some (.int .i64 x.cls) := hR1.cell 7; have b0 : W0.cell? ⟨C, 0, none⟩ = some (.int .i64 0) := hR2.cell 0; have b1 : W0.cell? ⟨C, 1, none⟩ = some (.string ⟨#[]⟩) := hR2.cell 1; have b2 : W0.cell? ⟨C, 2, none⟩ = some (.int .i64 0) := hR2.cell 2; have b3 : W0.cell? ⟨C, 3, none⟩ = some (.slice none 0 0) := hR2.cell 3; have b4 : W0.cell? ⟨C, 4, none⟩ = some (.string ⟨#[]⟩) := hR2.cell 4; have b5 : W0.cell? ⟨C, 5, none⟩ = some (.int .i64 0) := hR2.cell 5; have b6 : W0.cell? ⟨C, 6, none⟩ = some (.int .i64 0) := hR2.cell 6; have b7 : W0.cell? ⟨C, 7, none⟩ = some (.int .i64 0) := hR2.cell 7; have f0 : W0.frozen? ⟨C, 0, none⟩ = false := hR2.frozen 0; have f1 : W0.frozen? ⟨C, 1, none⟩ = false := hR2.frozen 1; have f2 : W0.frozen? ⟨C, 2, none⟩ = false := hR2.frozen 2; have f3 : W0.frozen? ⟨C, 3, none⟩ = false := hR2.frozen 3; have f4 : W0.frozen? ⟨C, 4, none⟩ = false := hR2.frozen 4; have f5 : W0.frozen? ⟨C, 5, none⟩ = false := hR2.frozen 5; have f6 : W0.frozen? ⟨C, 6, none⟩ = false := hR2.frozen 6; have f7 : W0.frozen? ⟨C, 7, none⟩ = false := hR2.frozen 7; skip
  clear hR1 hR2
  have nBC : ¬ B = C := by obtain ⟨u, v⟩ := HBC.out; omega
  have nCB : ¬ C = B := fun h => nBC h.symm
  go_region_held3 (fun w' => w'.cell? ⟨B, 0, none⟩ = some (.int .i64 x.depth) ∧ w'.cell? ⟨B, 1, none⟩ = some (.string x.name) ∧ w'.cell? ⟨B, 2, none⟩ = some (.int .i64 x.kind) ∧ w'.cell? ⟨B, 3, none⟩ = some (.slice h.aA x.m h.cA) ∧ w'.cell? ⟨B, 4, none⟩ = some (.string x.data) ∧ w'.cell? ⟨B, 5, none⟩ = some (.int .i64 x.major) ∧ w'.cell? ⟨B, 6, none⟩ = some (.int .i64 x.minor) ∧ w'.cell? ⟨B, 7, none⟩ = some (.int .i64 x.cls)) (go_keep) (first | (refine step_append_any (by rfl) _ _ 40 (by rfl) W0.drew.heap.size 58 i0 _ 2 32 Tryz.underlying40 hi hz0 hz1 hz2 rfl (by decide) _ 0 [] (by rfl) (World.ownsRow_made W0.drew #[] 0 (Nat.le_refl _) (Nat.zero_le _) rfl) h.aA x.m h.cA (cellsA x.A x.m) (by rfl) (cellsA_len x.A x.m) (HC.out _ (HF.out.drew.alloc _)) (cellsA_one x.A x.m) (by unfold maxLen; omega) (by omega) (by simp) ?_; intro v' w1 hown hgrow hat; have hG : Fr (fun _ => False) W0.drew w1 := fr_grow ((Fr.refl _ _).alloc _) hgrow (fun g hg => by simp [Value.ownBlock] at hg; simp; omega); try rw [Nat.zero_add, List.nil_append] at hown; obtain ⟨aN, cN, rfl, hc1, hA1⟩ := own_attrs hown; have HB1 := Lib.hid (fun b o (_ : 0 < x.m) (h : aN = some ⟨b, o, none⟩) => own_block_ge hown b (by rw [h]; rfl)); have HA1 := Lib.hid hA1; have HC1 := Lib.hid hc1; have HG := Lib.hid ((Fr.refl _ W0).drew.then hG); clear hown hgrow hat; obtain ⟨r1, r2⟩ := HS.out w1 ((Fr.refl _ W0).drew.then hG); clear a0 a1 a2 a3 a4 a5 a6 a7 b0 b1 b2 b3 b4 b5 b6 b7 f0 f1 f2 f3 f4 f5 f6 f7;  have a0 : w1.cell? ⟨B, 0, none⟩ = some (.int .i64 x.depth) := r1.cell 0; have a1 : w1.cell? ⟨B, 1, none⟩ = some (.string x.name) := r1.cell 1; have a2 : w1.cell? ⟨B, 2, none⟩ = some (.int .i64 x.kind) := r1.cell 2; have a3 : w1.cell? ⟨B, 3, none⟩ = some (.slice h.aA x.m h.cA) := r1.cell 3; have a4 : w1.cell? ⟨B, 4, none⟩ = some (.string x.data) := r1.cell 4; have a5 : w1.cell? ⟨B, 5, none⟩ = some (.int .i64 x.major) := r1.cell 5; have a6 : w1.cell? ⟨B, 6, none⟩ = some (.int .i64 x.minor) := r1.cell 6; have a7 : w1.cell? ⟨B, 7, none⟩ = some (.int .i64 x.cls) := r1.cell 7; have b0 : w1.cell? ⟨C, 0, none⟩ = some (.int .i64 0) := r2.cell 0; have b1 : w1.cell? ⟨C, 1, none⟩ = some (.string ⟨#[]⟩) := r2.cell 1; have b2 : w1.cell? ⟨C, 2, none⟩ = some (.int .i64 0) := r2.cell 2; have b3 : w1.cell? ⟨C, 3, none⟩ = some (.slice none 0 0) := r2.cell 3; have b4 : w1.cell? ⟨C, 4, none⟩ = some (.string ⟨#[]⟩) := r2.cell 4; have b5 : w1.cell? ⟨C, 5, none⟩ = some (.int .i64 0) := r2.cell 5; have b6 : w1.cell? ⟨C, 6, none⟩ = some (.int .i64 0) := r2.cell 6; have b7 : w1.cell? ⟨C, 7, none⟩ = some (.int .i64 0) := r2.cell 7; have f0 : w1.frozen? ⟨C, 0, none⟩ = false := r2.frozen 0; have f1 : w1.frozen? ⟨C, 1, none⟩ = false := r2.frozen 1; have f2 : w1.frozen? ⟨C, 2, none⟩ = false := r2.frozen 2; have f3 : w1.frozen? ⟨C, 3, none⟩ = false := r2.frozen 3; have f4 : w1.frozen? ⟨C, 4, none⟩ = false := r2.frozen 4; have f5 : w1.frozen? ⟨C, 5, none⟩ = false := r2.frozen 5; have f6 : w1.frozen? ⟨C, 6, none⟩ = false := r2.frozen 6; have f7 : w1.frozen? ⟨C, 7, none⟩ = false := r2.frozen 7; have HR2 := Lib.hid r2; clear hA1 hc1 hG r1 r2))
  go_wp2_with fail
  have hFs : Fr (fun b => b = C) w1 ((((((((w1.setCell ⟨C, 0, none⟩ (.int .i64 x.depth)).setCell ⟨C, 1, none⟩ (.string x.name)).setCell ⟨C, 2, none⟩ (.int .i64 x.kind)).setCell ⟨C, 3, none⟩ (.slice aN x.m cN)).setCell ⟨C, 4, none⟩ (.string x.data)).setCell ⟨C, 5, none⟩ (.int .i64 x.major)).setCell ⟨C, 6, none⟩ (.int .i64 x.minor)).setCell ⟨C, 7, none⟩ (.int .i64 x.cls)) := (Fr.setCell (Fr.setCell (Fr.setCell (Fr.setCell (Fr.setCell (Fr.setCell (Fr.setCell (Fr.setCell (Fr.refl (fun b => b = C) w1) (a := ⟨C, 0, none⟩) (fun _ => rfl) (.int .i64 x.depth)) (a := ⟨C, 1, none⟩) (fun _ => rfl) (.string x.name)) (a := ⟨C, 2, none⟩) (fun _ => rfl) (.int .i64 x.kind)) (a := ⟨C, 3, none⟩) (fun _ => rfl) (.slice aN x.m cN)) (a := ⟨C, 4, none⟩) (fun _ => rfl) (.string x.data)) (a := ⟨C, 5, none⟩) (fun _ => rfl) (.int .i64 x.major)) (a := ⟨C, 6, none⟩) (fun _ => rfl) (.int .i64 x.minor)) (a := ⟨C, 7, none⟩) (fun _ => rfl) (.int .i64 x.cls))
  have hRs : RowB ((((((((w1.setCell ⟨C, 0, none⟩ (.int .i64 x.depth)).setCell ⟨C, 1, none⟩ (.string x.name)).setCell ⟨C, 2, none⟩ (.int .i64 x.kind)).setCell ⟨C, 3, none⟩ (.slice aN x.m cN)).setCell ⟨C, 4, none⟩ (.string x.data)).setCell ⟨C, 5, none⟩ (.int .i64 x.major)).setCell ⟨C, 6, none⟩ (.int .i64 x.minor)).setCell ⟨C, 7, none⟩ (.int .i64 x.cls)) C 106 [.int .i64 x.depth, .string x.name, .int .i64 x.kind, .slice aN x.m cN, .string x.data, .int .i64 x.major, .int .i64 x.minor, .int .i64 x.cls] := ((((((((HR2.out.set 0 (.int .i64 x.depth)).set 1 (.string x.name)).set 2 (.int .i64 x.kind)).set 3 (.slice aN x.m cN)).set 4 (.string x.data)).set 5 (.int .i64 x.major)).set 6 (.int .i64 x.minor)).set 7 (.int .i64 x.cls))
  clear a0 a1 a2 a3 a4 a5 a6 a7 b0 b1 b2 b3 b4 b5 b6 b7 f0 f1 f2 f3 f4 f5 f6 f7
  generalize ((((((((w1.setCell ⟨C, 0, none⟩ (.int .i64 x.depth)).setCell ⟨C, 1, none⟩ (.string x.name)).setCell ⟨C, 2, none⟩ (.int .i64 x.kind)).setCell ⟨C, 3, none⟩ (.slice aN x.m cN)).setCell ⟨C, 4, none⟩ (.string x.data)).setCell ⟨C, 5, none⟩ (.int .i64 x.major)).setCell ⟨C, 6, none⟩ (.int .i64 x.minor)).setCell ⟨C, 7, none⟩ (.int .i64 x.cls)) = W3 at *
  have s0 : W3.cell? ⟨C, 0, none⟩ = some (.int .i64 x.depth) := hRs.cell 0; have s1 : W3.cell? ⟨C, 1, none⟩ = some (.string x.name) := hRs.cell 1; have s2 : W3.cell? ⟨C, 2, none⟩ = some (.int .i64 x.kind) := hRs.cell 2; have s3 : W3.cell? ⟨C, 3, none⟩ = some (.slice aN x.m cN) := hRs.cell 3; have s4 : W3.cell? ⟨C, 4, none⟩ = some (.string x.data) := hRs.cell 4; have s5 : W3.cell? ⟨C, 5, none⟩ = some (.int .i64 x.major) := hRs.cell 5; have s6 : W3.cell? ⟨C, 6, none⟩ = some (.int .i64 x.minor) := hRs.cell 6; have s7 : W3.cell? ⟨C, 7, none⟩ = some (.int .i64 x.cls) := hRs.cell 7
  have HFs := Lib.hid hFs
  clear hFs hRs nBC nCB
  refine bodyPost_ret (v := .agg #[.int .i64 x.depth, .string x.name, .int .i64 x.kind, .slice aN x.m cN, .string x.data, .int .i64 x.major, .int .i64 x.minor, .int .i64 x.cls]) (by simp [results, Tryz.results61, go_sem, *]) rfl ⟨⟨aN, cN, none, 0⟩, rfl, ⟨HA1.out.keep HFs.out (fun b o hm h e => by have h1 : W0.heap.size ≤ b := HB1.out b o hm h; have e : b = C := e; have h2 := HZ.out; obtain ⟨hB, hC⟩ := HBC.out; omega), HC1.out⟩, (fun b o hm h => by have h1 : W0.heap.size ≤ b := HB1.out b o hm h; have h2 := HZ.out; omega), ?_⟩
  exact (HF.out.then HG.out).trans HFs.out (fun k hk e => by have e : k = C := e; obtain ⟨hB, hC⟩ := HBC.out; omega)
end Go.Proofs.YtogjfifpbplahaaGreatDoor

namespace Go.Proofs.YtogjfifpbplahaaGreatDoor
open Go.RowKit
open BR
set_option linter.unusedVariables false

theorem tr_info : (Tryz.prog.info? 106).map (fun i => (i.zero, i.size, i.bytes)) = some (some (.agg #[.int .i64 0, .string ⟨#[]⟩, .int .i64 0, .slice none 0 0, .string ⟨#[]⟩, .int .i64 0, .int .i64 0, .int .i64 0]), 8, 96) := by kernel_rfl
theorem cellsT_congr {N : Nat → BNode} {H H' : Nat → Hd} : ∀ n, (∀ i, i < n → H i = H' i) → cellsT N H n = cellsT N H' n
  | 0, _ => rfl
  | k + 1, h => by simp only [cellsT]; rw [cellsT_congr k (fun i hi => h i (by omega)), h k (by omega)]
/-- the first k nodes have been copied -/
def TrI (w wr : World) (v : Value) (N : Nat → BNode) (H : Nat → Hd) (k : Nat) : Prop :=
  wr.ownsRow w.heap.size 106 8 v k (cellsT N H k) ∧ ∀ i, i < k → NodeT wr (N i) (H i) ∧ ∀ b o, 0 < (N i).m → (H i).aA = some ⟨b, o, none⟩ → v.ownBlock ≠ some b
theorem TrI.start {w wr : World} {v : Value} {N : Nat → BNode} {H : Nat → Hd} (h : wr.ownsRow w.heap.size 106 8 v 0 []) : TrI w wr v N H 0 := ⟨h, fun i hi => by omega⟩
theorem TrI.fr {w wr w' : World} {v : Value} {N : Nat → BNode} {H : Nat → Hd} {k : Nat} (h : TrI w wr v N H k) (f : Fr (fun _ => False) wr w') : TrI w w' v N H k :=
  ⟨own_fr h.1 f (fun _ _ h => h), fun i hi => ⟨(h.2 i hi).1.fr f (fun _ _ h => h), (h.2 i hi).2⟩⟩
def putH (H : Nat → Hd) (k : Nat) (h : Hd) (i : Nat) : Hd := if i = k then h else H i
theorem trV_one (x : BNode) (h : Hd) : ∀ u ∈ trV x h, u.oneCell' = true := by
  intro u hu
  simp only [trV, List.mem_cons, List.not_mem_nil, or_false] at hu
  rcases hu with rfl | rfl | rfl | rfl | rfl | rfl | rfl | rfl <;> rfl
/-- one node more -/
theorem TrI.step {w w1 w2 w3 : World} {v v' : Value} {N : Nat → BNode} {H : Nat → Hd} {k : Nat} {h : Hd} (hI : TrI w w1 v N H k) (f : Fr (fun _ => False) w1 w2) (hN : NodeT w2 (N k) h)
    (hb : ∀ b o, 0 < (N k).m → h.aA = some ⟨b, o, none⟩ → w1.heap.size ≤ b) (hown : w3.ownsRow w.heap.size 106 8 v' (k + 1) (cellsT N H k ++ trV (N k) h)) (hg : w2.grownBy w3 v.ownBlock)
    (hat : v'.ownBlock = v.ownBlock ∨ v'.ownBlock = some w2.heap.size) : TrI w w3 v' N (putH H k h) (k + 1) := by
  have hown2 := own_fr hI.1 f (fun _ _ h => h)
  have key : ∀ (i : Nat) (x : BNode) (hd : Hd), NodeT w2 x hd → (∀ b o, 0 < x.m → hd.aA = some ⟨b, o, none⟩ → v.ownBlock ≠ some b) → NodeT w3 x hd ∧ ∀ b o, 0 < x.m → hd.aA = some ⟨b, o, none⟩ → v'.ownBlock ≠ some b := by
    intro i x hd hn hne
    refine ⟨⟨fun hm => ?_, hn.2⟩, fun b o hm e hv => ?_⟩
    · obtain ⟨b, o, h1, h2, h3⟩ := hn.1 hm
      have hb2 : w3.heap[b]? = w2.heap[b]? := hg.block b h2 (fun e => hne b o hm h1 e.symm)
      exact ⟨b, o, h1, Nat.lt_of_lt_of_le h2 hg.size, fun k hk => ⟨(World.cell?_of_block (a := ⟨b, _, none⟩) hb2).trans (h3 k hk).1, (World.cell?_of_block (a := ⟨b, _, none⟩) hb2).trans (h3 k hk).2⟩⟩
    · obtain ⟨b', o', h1, h2, _⟩ := hn.1 hm
      rw [e] at h1
      cases h1
      rcases hat with hat | hat
      · exact hne b o hm e (hat.symm.trans hv)
      · rw [hat] at hv
        have := Option.some.inj hv
        omega
  refine ⟨?_, fun i hi => ?_⟩
  · have e : cellsT N (putH H k h) (k + 1) = cellsT N H k ++ trV (N k) h := by
      simp only [cellsT]
      rw [cellsT_congr k (fun i hi => (show putH H k h i = H i by unfold putH; rw [if_neg (by omega)])), show putH H k h k = h by unfold putH; rw [if_pos rfl]]
    rw [e]; exact hown
  · by_cases e : i = k
    · subst e
      rw [show putH H i h i = h by unfold putH; rw [if_pos rfl]]
      exact key i (N i) h hN (fun b o hm e hv => by
        have h1 := hb b o hm e
        have h2 := (hI.1.lt b hv).2
        omega)
    · rw [show putH H k h i = H i by unfold putH; rw [if_neg e]]
      exact key i (N i) (H i) ((hI.2 i (by omega)).1.fr f (fun _ _ h => h)) (hI.2 i (by omega)).2
/-- a tree comes back -/
def RetT (n : Nat) (N : Nat → BNode) (w : World) (e : Ending) (w' : World) : Prop := ∃ a0 c H, e = .returned (.slice a0 n c) ∧ TreeAt w' a0 n N H ∧ Fr (fun _ => False) w w'
theorem TrI.done {w wr : World} {v : Value} {N : Nat → BNode} {H : Nat → Hd} {n : Nat} (h : TrI w wr v N H n) (f : Fr (fun _ => False) w wr) : RetT n N w (.returned v) wr := by
  obtain ⟨a0, c, rfl, _, ht⟩ := own_tree h.1 (fun i hi => (h.2 i hi).1)
  exact ⟨a0, c, H, rfl, ht, f⟩
/-- the cells of one node of a branch -/
structure BCells (w : World) (b o i : Nat) (x : BNode) (h : Hd) : Prop where
  c0 : w.cell? ⟨b, o + i * 10, none⟩ = some (.int .i64 x.depth)
  c1 : w.cell? ⟨b, o + i * 10 + 1, none⟩ = some (.string x.name)
  c2 : w.cell? ⟨b, o + i * 10 + 2, none⟩ = some (.int .i64 x.kind)
  c3 : w.cell? ⟨b, o + i * 10 + 3, none⟩ = some (.slice h.aA x.m h.cA)
  c4 : w.cell? ⟨b, o + i * 10 + 4, none⟩ = some (.string x.data)
  c5 : w.cell? ⟨b, o + i * 10 + 5, none⟩ = some (.int .i64 x.major)
  c6 : w.cell? ⟨b, o + i * 10 + 6, none⟩ = some (.int .i64 x.minor)
  c7 : w.cell? ⟨b, o + i * 10 + 7, none⟩ = some (.int .i64 x.cls)
  c8 : w.cell? ⟨b, o + i * 10 + 8, none⟩ = some (.bool x.opq)
  c9 : w.cell? ⟨b, o + i * 10 + 9, none⟩ = some (.slice h.aR x.r h.cR)
theorem BranchAt.get {w : World} {a0 : Option Addr} {n : Nat} {N : Nat → BNode} {H : Nat → Hd} (h : BranchAt w a0 n N H) (hn : 0 < n) :
    ∃ b o, a0 = some ⟨b, o, none⟩ ∧ b < w.heap.size ∧ ∀ (w' : World), Fr (fun _ => False) w w' → ∀ i, i < n → BCells w' b o i (N i) (H i) := by
  obtain ⟨b, o, h1, h2, h3⟩ := h.2 hn
  refine ⟨b, o, h1, h2, fun w' f i hi => ⟨?_, ?_, ?_, ?_, ?_, ?_, ?_, ?_, ?_, ?_⟩⟩
  · exact f.cell (p := ⟨b, o + i * 10, none⟩) h2 (fun h => h) (h3 i 0 _ hi rfl)
  · exact f.cell (p := ⟨b, o + i * 10 + 1, none⟩) h2 (fun h => h) (h3 i 1 _ hi rfl)
  · exact f.cell (p := ⟨b, o + i * 10 + 2, none⟩) h2 (fun h => h) (h3 i 2 _ hi rfl)
  · exact f.cell (p := ⟨b, o + i * 10 + 3, none⟩) h2 (fun h => h) (h3 i 3 _ hi rfl)
  · exact f.cell (p := ⟨b, o + i * 10 + 4, none⟩) h2 (fun h => h) (h3 i 4 _ hi rfl)
  · exact f.cell (p := ⟨b, o + i * 10 + 5, none⟩) h2 (fun h => h) (h3 i 5 _ hi rfl)
  · exact f.cell (p := ⟨b, o + i * 10 + 6, none⟩) h2 (fun h => h) (h3 i 6 _ hi rfl)
  · exact f.cell (p := ⟨b, o + i * 10 + 7, none⟩) h2 (fun h => h) (h3 i 7 _ hi rfl)
  · exact f.cell (p := ⟨b, o + i * 10 + 8, none⟩) h2 (fun h => h) (h3 i 8 _ hi rfl)
  · exact f.cell (p := ⟨b, o + i * 10 + 9, none⟩) h2 (fun h => h) (h3 i 9 _ hi rfl)
theorem BranchAt.zero {w : World} {a0 : Option Addr} {n : Nat} {N : Nat → BNode} {H : Nat → Hd} (h : BranchAt w a0 n N H) (hn : a0 = none) : n = 0 := by
  by_cases h0 : 0 < n
  · obtain ⟨b, o, h1, _⟩ := h.2 h0; rw [hn] at h1; cases h1
  · omega
set_option maxRecDepth 100000 in
set_option maxHeartbeats 4000000 in
theorem rTree_walk (n c : Nat) (a0 : Option Addr) (N : Nat → BNode) (H : Nat → Hd) (w : World) (hB : BranchAt w a0 n N H) (hn : n ≤ 1000) (hm : ∀ i, i < n → (N i).m ≤ 100) :
    Calls Tryz.prog 45 #[.slice a0 n c] w (RetT n N w) := by
  obtain ⟨i0, hi, hz0, hz1, hz2⟩ := info_parts tr_info
  have HB := Lib.hid hB
  have HM := Lib.hid hm
  have HI := Lib.hid (And.intro hi (And.intro hz0 (And.intro hz1 hz2)))
  clear hB hm hi hz0 hz1 hz2
  go_enter Tryz.func45, Tryz.ntmps45
  go_wp2_with fail
  go_loopw [3, 4] (fun v z wr => ∃ (k : Nat) (H' : Nat → Hd) (vv : Value), vv = v ∧ k ≤ n ∧ z = .int .i64 k ∧ Fr (fun _ => False) w wr ∧ Hid (TrI w wr vv N H' k)) (fun _ z _ => n - (intOf z).toNat)
  case atStart => exact ⟨0, H, _, rfl, by omega, rfl, Fr.refl _ _, Lib.hid (TrI.start (World.ownsRow_nil _ _ _ _))⟩
  case round =>
    obtain ⟨k, H', v, rfl, hk, rfl, hF, HT⟩ := hrel
    by_cases hlt : k < n
    · obtain ⟨b, o, rfl, hb, hc⟩ := HB.out.get (by omega)
      obtain ⟨c0, c1, c2, c3, c4, c5, c6, c7, c8, c9⟩ := hc wr hF k hlt
      have g1 : (0 : Int) ≤ (k : Int) := by omega
      have HF := Lib.hid hF
      have HC := Lib.hid (rnode_walk (N k) (H k) wr ((HB.out.1 k hlt).fr hF (fun _ _ h => h)) (HM.out k hlt))
      unfold brA at HC
      clear hF hc
      go_wp2_with (first | (go_at_call 61; go_must (refine HC.out.mono ?_; rintro e w1 ⟨hd, rfl, hN, hb1, hG⟩; have HN := Lib.hid hN; have HB1 := Lib.hid hb1; have HG := Lib.hid hG; have hs : ((w1.alloc (.cells #[.int .i64 (N k).depth, .string (N k).name, .int .i64 (N k).kind, .slice hd.aA (N k).m hd.cA, .string (N k).data, .int .i64 (N k).major, .int .i64 (N k).minor, .int .i64 (N k).cls] 106))).heap.size = w1.heap.size + 1 := alloc_size _ _; have hz : w.heap.size ≤ w1.heap.size := Nat.le_trans HF.out.size hG.size; clear hN hb1 hG)) | (at_builtin; go_must (refine wpList_append_any rfl _ _ 89 rfl w.heap.size 106 i0 _ 8 96 Tryz.underlying89 HI.out.1 HI.out.2.1 HI.out.2.2.1 HI.out.2.2.2 rfl (by decide) v k (cellsT N H' k) rfl ((HT.out.fr (HG.out.then ((Fr.refl _ _).alloc _))).1) (some ⟨w1.heap.size, 0, none⟩) 1 1 (trV (N k) hd) rfl (trV_len _ _) (fun _ => ⟨w1.heap.size, 0, rfl, fun j u hj => (RowB.new w1 106 (trV (N k) hd)).cell (0 + j) |>.trans (by rw [Nat.zero_add]; exact hj)⟩) (trV_one _ _) (by unfold maxLen; omega) (by omega) (by rw [alloc_size]; omega) ?_; intro v' w3 hown hgrow hat; have HT3 := Lib.hid (TrI.step HT.out (HG.out.then ((Fr.refl _ _).alloc _)) (HN.out.fr ((Fr.refl _ _).alloc _) (fun _ _ h => h)) HB1.out hown hgrow hat); have HF3 := Lib.hid (fr_grow (HF.out.then (HG.out.alloc _)) hgrow (fun g hg => own_block_ge HT.out.1 g hg)); clear hown hgrow hat)))
      go_roundw
      case rel => exact ⟨k + 1, _, _, rfl, by omega, by go_num, HF3.out, HT3⟩
      case measure => simp [intOf]; omega
    · obtain rfl : k = n := by omega
      have HF := Lib.hid hF
      clear hF
      go_wp2_with fail
      go_ret
      exact HT.out.done HF.out
set_option maxRecDepth 100000 in
set_option maxHeartbeats 4000000 in
theorem bTree_walk (n c : Nat) (a0 : Option Addr) (N : Nat → BNode) (H : Nat → Hd) (w : World) (hB : BranchAt w a0 n N H) (hn : n ≤ 1000) (hm : ∀ i, i < n → (N i).m ≤ 100) :
    Calls Tryz.prog 39 #[.slice a0 n c] w (RetT n N w) := by
  obtain ⟨i0, hi, hz0, hz1, hz2⟩ := info_parts tr_info
  have HB := Lib.hid hB
  have HM := Lib.hid hm
  have HI := Lib.hid (And.intro hi (And.intro hz0 (And.intro hz1 hz2)))
  clear hB hm hi hz0 hz1 hz2
  go_enter Tryz.func39, Tryz.ntmps39
  go_wp2_with (at_make; go_must (refine wpList_make_own _ rfl _ _ 89 rfl w.heap.size 106 i0 _ 8 Tryz.underlying89 HI.out.1 HI.out.2.1 HI.out.2.2.1 _ _ (n : Int) n rfl rfl rfl (by rw [HI.out.2.2.2]; omega) (by unfold maxLen; omega) (Nat.le_refl _) ?_; intro w0 hown0 hgrow0; have HO := Lib.hid hown0; have HF0 := Lib.hid (fr_grow (Fr.refl _ w) hgrow0 (fun g hg => by cases hg)); clear hown0 hgrow0))
  go_loopw [3, 11] (fun v z wr => ∃ (k : Nat) (H' : Nat → Hd) (vv : Value), vv = v ∧ k ≤ n ∧ z = .int .i64 k ∧ Fr (fun _ => False) w wr ∧ Hid (TrI w wr vv N H' k)) (fun _ z _ => n - (intOf z).toNat)
  case atStart => exact ⟨0, H, _, rfl, by omega, rfl, HF0.out, Lib.hid (TrI.start HO.out)⟩
  case round =>
    obtain ⟨k, H', v, rfl, hk, rfl, hF, HT⟩ := hrel
    by_cases hlt : k < n
    · obtain ⟨b, o, rfl, hb, hc⟩ := HB.out.get (by omega)
      obtain ⟨c0, c1, c2, c3, c4, c5, c6, c7, c8, c9⟩ := hc wr hF k hlt
      have g1 : (0 : Int) ≤ (k : Int) := by omega
      have HF := Lib.hid hF
      have HC := Lib.hid (plain_walk (N k) (H k) (wr.alloc (.cells #[.int .i64 (N k).depth, .string (N k).name, .int .i64 (N k).kind, .slice (H k).aA (N k).m (H k).cA, .string (N k).data, .int .i64 (N k).major, .int .i64 (N k).minor, .int .i64 (N k).cls, .bool (N k).opq, .slice (H k).aR (N k).r (H k).cR] 43)) ((HB.out.1 k hlt).fr (hF.alloc _) (fun _ _ h => h)) (HM.out k hlt))
      unfold brA at HC
      clear hF hc
      go_wp2_with (first | (go_at_call 52; go_must (refine HC.out.mono ?_; rintro e w1 ⟨hd, rfl, hN, hb1, hG⟩; have HN := Lib.hid hN; have HB1 := Lib.hid hb1; have HG := Lib.hid (((Fr.refl _ wr).alloc _).then hG); have HB1 := Lib.hid (fun b o hm h => Nat.le_trans (Nat.le_trans (Nat.le_succ _) (Nat.le_of_eq (alloc_size wr _).symm)) (HB1.out b o hm h)); have hs : ((w1.alloc (.cells #[.int .i64 (N k).depth, .string (N k).name, .int .i64 (N k).kind, .slice hd.aA (N k).m hd.cA, .string (N k).data, .int .i64 (N k).major, .int .i64 (N k).minor, .int .i64 (N k).cls] 106))).heap.size = w1.heap.size + 1 := alloc_size _ _; have hz : w.heap.size ≤ w1.heap.size := Nat.le_trans HF.out.size HG.out.size; clear hN hb1 hG)) | (at_builtin; go_must (refine wpList_append_any rfl _ _ 89 rfl w.heap.size 106 i0 _ 8 96 Tryz.underlying89 HI.out.1 HI.out.2.1 HI.out.2.2.1 HI.out.2.2.2 rfl (by decide) v k (cellsT N H' k) rfl ((HT.out.fr (HG.out.then ((Fr.refl _ _).alloc _))).1) (some ⟨w1.heap.size, 0, none⟩) 1 1 (trV (N k) hd) rfl (trV_len _ _) (fun _ => ⟨w1.heap.size, 0, rfl, fun j u hj => (RowB.new w1 106 (trV (N k) hd)).cell (0 + j) |>.trans (by rw [Nat.zero_add]; exact hj)⟩) (trV_one _ _) (by unfold maxLen; omega) (by omega) (by rw [alloc_size]; omega) ?_; intro v' w3 hown hgrow hat; have HT3 := Lib.hid (TrI.step HT.out (HG.out.then ((Fr.refl _ _).alloc _)) (HN.out.fr ((Fr.refl _ _).alloc _) (fun _ _ h => h)) HB1.out hown hgrow hat); have HF3 := Lib.hid (fr_grow (HF.out.then (HG.out.alloc _)) hgrow (fun g hg => own_block_ge HT.out.1 g hg)); clear hown hgrow hat)))
      go_roundw
      case rel => exact ⟨k + 1, _, _, rfl, by omega, by go_num, HF3.out, HT3⟩
      case measure => simp [intOf]; omega
    · obtain rfl : k = n := by omega
      have HF := Lib.hid hF
      clear hF
      go_wp2_with fail
      go_ret
      exact HT.out.done HF.out
end Go.Proofs.YtogjfifpbplahaaGreatDoor
