/- This text proves contracts of Total, and the law's body; no condition beyond those that each statement names. -/
import Derived.Test.YtogjfifpbplahaaGreatDoorJo
import Derived.Test.YtogjfifpbplahaaGreatDoorJd
namespace Go.Proofs.YtogjfifpbplahaaGreatDoor
open Go.RowKit
open BR
set_option linter.unusedVariables false

def totP (x y v : Int) : Prop := (1 ≤ x ∧ x ≤ 120) ∧ (1 ≤ y ∧ y ≤ x) ∧ (0 ≤ v ∧ v ≤ x)
def totG (x y v : Int) : Value := .tuple #[.int .i64 (2 * (2 * y + x + v)), .int .i64 0]
def totB : Value := .tuple #[.int .i64 0, .int .i64 7]
set_option maxRecDepth 100000 in
set_option maxHeartbeats 4000000 in
theorem total_bad (x y z u v : Int) (w : World) (h : ¬ totP x y v) : Calls Tryz.prog 10 #[.agg #[.int .i64 x, .int .i64 y, .int .i64 z, .int .i64 u, .int .i64 v]] w (Ret totB w) := by
  by_cases h0 : 1 ≤ x ∧ x ≤ 120
  · obtain ⟨a1, a2⟩ := h0
    by_cases h1 : 1 ≤ y ∧ y ≤ x
    · obtain ⟨b1, b2⟩ := h1
      have h3 : v < 0 ∨ x < v := by unfold totP at h; omega
      clear h
      rcases h3 with h3 | h3
      all_goals
        go_enter Tryz.func10, Tryz.ntmps10
        go_wp2
        exact bodyPost_ret (v := .tuple #[.int .i64 0, .int .i64 7]) (by simp [results, Tryz.results10, go_sem]) rfl ⟨rfl, (Fr.refl _ w).alloc _⟩
    · have h3 : y < 1 ∨ x < y := by omega
      clear h h1
      rcases h3 with h3 | h3
      all_goals
        go_enter Tryz.func10, Tryz.ntmps10
        go_wp2
        exact bodyPost_ret (v := .tuple #[.int .i64 0, .int .i64 7]) (by simp [results, Tryz.results10, go_sem]) rfl ⟨rfl, (Fr.refl _ w).alloc _⟩
  · have h3 : x < 1 ∨ 120 < x := by omega
    clear h h0
    rcases h3 with h3 | h3
    all_goals
      go_enter Tryz.func10, Tryz.ntmps10
      go_wp2
      exact bodyPost_ret (v := .tuple #[.int .i64 0, .int .i64 7]) (by simp [results, Tryz.results10, go_sem]) rfl ⟨rfl, (Fr.refl _ w).alloc _⟩
set_option maxRecDepth 100000 in
set_option maxHeartbeats 4000000 in
theorem rtotal_bad (x y z u v : Int) (w : World) (h : ¬ totP x y v) : Calls Tryz.prog 11 #[.agg #[.int .i64 x, .int .i64 y, .int .i64 z, .int .i64 u, .int .i64 v]] w (Ret totB w) := by
  by_cases h0 : 1 ≤ x ∧ x ≤ 120
  · obtain ⟨a1, a2⟩ := h0
    by_cases h1 : 1 ≤ y ∧ y ≤ x
    · obtain ⟨b1, b2⟩ := h1
      have h3 : v < 0 ∨ x < v := by unfold totP at h; omega
      clear h
      rcases h3 with h3 | h3
      · skip
        go_enter Tryz.func11, Tryz.ntmps11
        go_wp2
        exact bodyPost_ret (v := .tuple #[.int .i64 0, .int .i64 7]) (by simp [results, Tryz.results11, go_sem]) rfl ⟨rfl, (Fr.refl _ w).alloc _⟩
      · have e2 : decide (v ≤ x) = false := by simp; omega
        go_enter Tryz.func11, Tryz.ntmps11
        go_wp2
        exact bodyPost_ret (v := .tuple #[.int .i64 0, .int .i64 7]) (by simp [results, Tryz.results11, go_sem]) rfl ⟨rfl, (Fr.refl _ w).alloc _⟩
    · have h3 : y < 1 ∨ x < y := by omega
      clear h h1
      rcases h3 with h3 | h3
      all_goals
        go_enter Tryz.func11, Tryz.ntmps11
        go_wp2
        exact bodyPost_ret (v := .tuple #[.int .i64 0, .int .i64 7]) (by simp [results, Tryz.results11, go_sem]) rfl ⟨rfl, (Fr.refl _ w).alloc _⟩
  · have h3 : x < 1 ∨ 120 < x := by omega
    clear h h0
    rcases h3 with h3 | h3
    all_goals
      go_enter Tryz.func11, Tryz.ntmps11
      go_wp2
      exact bodyPost_ret (v := .tuple #[.int .i64 0, .int .i64 7]) (by simp [results, Tryz.results11, go_sem]) rfl ⟨rfl, (Fr.refl _ w).alloc _⟩
set_option maxRecDepth 100000 in
set_option maxHeartbeats 4000000 in
theorem rtotal_good (x y z u v : Int) (w : World) (h : totP x y v) : Calls Tryz.prog 11 #[.agg #[.int .i64 x, .int .i64 y, .int .i64 z, .int .i64 u, .int .i64 v]] w (Ret (totG x y v) w) := by
  obtain ⟨⟨a1, a2⟩, ⟨b1, b2⟩, c1, c2⟩ := h
  go_enter Tryz.func11, Tryz.ntmps11
  go_wp2
  exact bodyPost_ret (v := totG x y v) (by simp [results, Tryz.results11, go_sem, totG]; omega) rfl ⟨rfl, (Fr.refl _ w).alloc _⟩
/-- both Totals -/
theorem totals (x y z u v : Int) : ∃ p q : Int, (∀ w, Calls Tryz.prog 10 #[.agg #[.int .i64 x, .int .i64 y, .int .i64 z, .int .i64 u, .int .i64 v]] w (Ret (.tuple #[.int .i64 p, .int .i64 q]) w)) ∧
    (∀ w, Calls Tryz.prog 11 #[.agg #[.int .i64 x, .int .i64 y, .int .i64 z, .int .i64 u, .int .i64 v]] w (Ret (.tuple #[.int .i64 p, .int .i64 q]) w)) := by
  by_cases h : totP x y v
  · exact ⟨_, _, fun w => total_good x y z u v w h.1 h.2.1 h.2.2, fun w => rtotal_good x y z u v w h⟩
  · exact ⟨_, _, fun w => total_bad x y z u v w h, fun w => rtotal_bad x y z u v w h⟩
end Go.Proofs.YtogjfifpbplahaaGreatDoor

namespace Go.Proofs.YtogjfifpbplahaaGreatDoor
open Go.RowKit
open BR
set_option linter.unusedVariables false

def LgP (m : Nat) (A : Nat → BAttr) : Prop := m ≤ 10 ∧ ∀ k, k < m → (A k).name.size ≤ 400 ∧ (A k).value.size ≤ 400
def SmP (x : BNode) : Prop := LgP x.m x.A ∧ x.name.size ≤ 500 ∧ x.data.size ≤ 500 ∧ x.r ≤ 12 ∧ ∀ k, k < x.r → (x.R k).size ≤ 500
def NearP (n : Nat) (N : Nat → BNode) : Prop := n ≤ 130 ∧ ∀ i, i < n → SmP (N i)
theorem SmP.fits {x : BNode} (h : SmP x) : Fits x :=
  ⟨⟨by have := h.2.1; omega, by have := h.2.2.1; omega, by have := h.1.1; omega, fun k hk => by have := h.1.2 k hk; omega⟩, by have := h.2.2.2.1; omega, fun k hk => by have := h.2.2.2.2 k hk; omega⟩
/-- yes or no comes back -/
def RetQ (p : Prop) (w : World) (e : Ending) (w' : World) : Prop := ∃ q : Bool, e = .returned (.bool q) ∧ (q = true ↔ ¬ p) ∧ Fr (fun _ => False) w w'
theorem RetQ.yes {p : Prop} {f : Nat} {args : Array Value} {w : World} (h : Calls Tryz.prog f args w (RetQ p w)) (hp : p) : Calls Tryz.prog f args w (Ret (.bool false) w) :=
  h.mono fun e w' ⟨q, he, hq, hF⟩ => by
    cases q with
    | true => exact absurd hp (hq.1 rfl)
    | false => exact ⟨he, hF⟩
theorem RetQ.no {p : Prop} {f : Nat} {args : Array Value} {w : World} (h : Calls Tryz.prog f args w (RetQ p w)) (hp : ¬ p) : Calls Tryz.prog f args w (Ret (.bool true) w) :=
  h.mono fun e w' ⟨q, he, hq, hF⟩ => by
    cases q with
    | false => have := hq.2 hp; cases this
    | true => exact ⟨he, hF⟩
set_option maxRecDepth 100000 in
set_option maxHeartbeats 4000000 in
theorem long_walk (m c : Nat) (a0 : Option Addr) (A : Nat → BAttr) (w : World) (hA : AttrsAt w a0 m A) :
    Calls Tryz.prog 12 #[.slice a0 m c] w (RetQ (LgP m A) w) := by
  by_cases h10 : 10 < m
  · have q0 : (10 : Int) < (m : Int) := by omega
    go_enter Tryz.func12, Tryz.ntmps12
    go_wp2_with fail
    go_ret
    exact ⟨true, rfl, ⟨fun _ h => by have := h.1; omega, fun _ => rfl⟩, Fr.refl _ _⟩
  · have HA := Lib.hid hA
    have q0 : ¬ (10 : Int) < (m : Int) := by omega
    clear hA
    go_enter Tryz.func12, Tryz.ntmps12
    go_wp2_with fail
    go_loopw [3] (fun i wr => ∃ k : Nat, k ≤ m ∧ i = .int .i64 k ∧ Fr (fun _ => False) w wr ∧ Hid (∀ j, j < k → (A j).name.size ≤ 400 ∧ (A j).value.size ≤ 400)) (fun i _ => m - (intOf i).toNat)
    case atStart => exact ⟨0, by omega, rfl, Fr.refl _ _, Lib.hid (fun j hj => by omega)⟩
    case round =>
      obtain ⟨k, hk, rfl, hF, HJ⟩ := hrel
      by_cases hlt : k < m
      · obtain ⟨b, o, rfl, hb, hc⟩ := HA.out (by omega)
        have c0 : wr.cell? ⟨b, o + k * 2, none⟩ = some (.string (A k).name) := hF.cell (p := ⟨b, o + k * 2, none⟩) hb (fun h => h) (hc k hlt).1
        have c1 : wr.cell? ⟨b, o + k * 2 + 1, none⟩ = some (.string (A k).value) := hF.cell (p := ⟨b, o + k * 2 + 1, none⟩) hb (fun h => h) (hc k hlt).2
        have g1 : (0 : Int) ≤ (k : Int) := by omega
        have g2 : (k : Int) < m := by omega
        have HF := Lib.hid hF
        clear hF hc
        by_cases h1 : 400 < (A k).name.size
        · have HB := Lib.hid (show ¬ LgP m A from fun h => by have := (h.2 k hlt).1; omega)
          have e1 : decide ((400 : Int) < ((A k).name.size : Int)) = true := by simp; omega
          clear h1
          go_wp2_with fail
          go_ret
          exact ⟨true, rfl, ⟨fun _ => HB.out, fun _ => rfl⟩, HF.out⟩
        · have e1 : decide ((400 : Int) < ((A k).name.size : Int)) = false := by simp; omega
          by_cases h2 : 400 < (A k).value.size
          · have HB := Lib.hid (show ¬ LgP m A from fun h => by have := (h.2 k hlt).2; omega)
            have e2 : decide ((400 : Int) < ((A k).value.size : Int)) = true := by simp; omega
            clear h1 h2
            go_wp2_with fail
            go_ret
            exact ⟨true, rfl, ⟨fun _ => HB.out, fun _ => rfl⟩, HF.out⟩
          · have e2 : decide ((400 : Int) < ((A k).value.size : Int)) = false := by simp; omega
            have HN := Lib.hid (show (A k).name.size ≤ 400 ∧ (A k).value.size ≤ 400 by omega)
            clear h1 h2
            go_wp2_with fail
            go_roundw
            case rel => exact ⟨k + 1, by omega, by go_num, HF.out, Lib.hid (fun j hj => by
              by_cases e : j = k
              · subst e; exact HN.out
              · exact HJ.out j (by omega))⟩
            case measure => simp [intOf]; omega
      · obtain rfl : k = m := by omega
        have HF := Lib.hid hF
        clear hF
        go_wp2_with fail
        go_ret
        exact ⟨false, rfl, ⟨(fun h => by cases h), fun h => absurd ⟨by omega, HJ.out⟩ h⟩, HF.out⟩
set_option maxRecDepth 100000 in
set_option maxHeartbeats 8000000 in
theorem far_walk (n c : Nat) (a0 : Option Addr) (N : Nat → BNode) (H : Nat → Hd) (w : World) (hB : BranchAt w a0 n N H) :
    Calls Tryz.prog 4 #[.slice a0 n c, .int .i64 130] w (RetQ (NearP n N) w) := by
  by_cases h10 : 130 < n
  · have q0 : (130 : Int) < (n : Int) := by omega
    go_enter Tryz.func4, Tryz.ntmps4
    go_wp2_with fail
    go_ret
    exact ⟨true, rfl, ⟨fun _ h => by have := h.1; omega, fun _ => rfl⟩, Fr.refl _ _⟩
  · have HB := Lib.hid hB
    have q0 : ¬ (130 : Int) < (n : Int) := by omega
    clear hB
    go_enter Tryz.func4, Tryz.ntmps4
    go_wp2_with fail
    go_loopw [5, 6] (fun i _ wr => ∃ k : Nat, k ≤ n ∧ i = .int .i64 k ∧ Fr (fun _ => False) w wr ∧ Hid (∀ j, j < k → SmP (N j))) (fun i _ _ => n - (intOf i).toNat)
    case atStart => exact ⟨0, by omega, rfl, Fr.refl _ _, Lib.hid (fun j hj => by omega)⟩
    case round =>
      obtain ⟨k, hk, rfl, hF, HJ⟩ := hrel
      by_cases hlt : k < n
      · obtain ⟨b, o, rfl, hb, hc⟩ := HB.out.get (by omega)
        obtain ⟨_, c1, _, c3, c4, _, _, _, _, c9⟩ := hc wr hF k hlt
        have CW := Lib.hid (fun (w' : World) (f : Fr (fun _ => False) w w') => hc w' f k hlt)
        have g1 : (0 : Int) ≤ (k : Int) := by omega
        have g2 : (k : Int) < n := by omega
        have HAT := Lib.hid ((HB.out.1 k hlt).fr hF (fun _ _ h => h))
        have HF := Lib.hid hF
        have CL := Lib.hid (long_walk (N k).m (H k).cA (H k).aA (N k).A wr HAT.out.1)
        clear hF hc
        by_cases hl : LgP (N k).m (N k).A
        · have CL0 := Lib.hid (RetQ.yes CL.out hl)
          have HLG := Lib.hid hl
          clear hl CL
          by_cases h1 : 500 < (N k).name.size
          · have HBD := Lib.hid (show ¬ NearP n N from fun h => by have := (h.2 k hlt).2.1; omega)
            have e1 : decide ((500 : Int) < ((N k).name.size : Int)) = true := by simp; omega
            clear h1
            go_wp2_with (go_at_call 12; go_must (refine CL0.out.mono ?_; rintro e w1 ⟨rfl, hG⟩; have HG := Lib.hid (HF.out.then hG); have d1 := (CW.out w1 HG.out).c1; clear hG))
            go_ret
            exact ⟨true, rfl, ⟨fun _ => HBD.out, fun _ => rfl⟩, HG.out⟩
          · have e1 : decide ((500 : Int) < ((N k).name.size : Int)) = false := by simp; omega
            by_cases h2 : 500 < (N k).data.size
            · have HBD := Lib.hid (show ¬ NearP n N from fun h => by have := (h.2 k hlt).2.2.1; omega)
              have e2 : decide ((500 : Int) < ((N k).data.size : Int)) = true := by simp; omega
              clear h1 h2
              go_wp2_with (go_at_call 12; go_must (refine CL0.out.mono ?_; rintro e w1 ⟨rfl, hG⟩; have HG := Lib.hid (HF.out.then hG); have d1 := (CW.out w1 HG.out).c1; have d4 := (CW.out w1 HG.out).c4; clear hG))
              go_ret
              exact ⟨true, rfl, ⟨fun _ => HBD.out, fun _ => rfl⟩, HG.out⟩
            · have e2 : decide ((500 : Int) < ((N k).data.size : Int)) = false := by simp; omega
              by_cases h3 : 12 < (N k).r
              · have HBD := Lib.hid (show ¬ NearP n N from fun h => by have := (h.2 k hlt).2.2.2.1; omega)
                have e3 : decide ((12 : Int) < ((N k).r : Int)) = true := by simp; omega
                clear h1 h2 h3
                go_wp2_with (go_at_call 12; go_must (refine CL0.out.mono ?_; rintro e w1 ⟨rfl, hG⟩; have HG := Lib.hid (HF.out.then hG); have d1 := (CW.out w1 HG.out).c1; have d4 := (CW.out w1 HG.out).c4; have d9 := (CW.out w1 HG.out).c9; clear hG))
                go_ret
                exact ⟨true, rfl, ⟨fun _ => HBD.out, fun _ => rfl⟩, HG.out⟩
              · have e3 : decide ((12 : Int) < ((N k).r : Int)) = false := by simp; omega
                have HSM := Lib.hid (show (N k).name.size ≤ 500 ∧ (N k).data.size ≤ 500 ∧ (N k).r ≤ 12 by omega)
                have hr12 : (N k).r ≤ 12 := by omega
                have HRS := Lib.hid (fun (w' : World) (f : Fr (fun _ => False) w w') => ((HB.out.1 k hlt).2.2.1.fr f (fun _ _ h => h)))
                clear h1 h2 h3
                go_wp2_with (go_at_call 12; go_must (refine CL0.out.mono ?_; rintro e w1 ⟨rfl, hG⟩; have HG := Lib.hid (HF.out.then hG); have d1 := (CW.out w1 HG.out).c1; have d4 := (CW.out w1 HG.out).c4; have d9 := (CW.out w1 HG.out).c9; clear hG))
                clear d1 d4 d9 e1 e2 e3 c1 c3 c4 c9
                go_loopw [6] (fun i w2 => ∃ q : Nat, q ≤ (N k).r ∧ i = .int .i64 q ∧ Fr (fun _ => False) w w2 ∧ Hid (∀ j, j < q → ((N k).R j).size ≤ 500)) (fun i _ => (N k).r - (intOf i).toNat)
                case atStart => exact ⟨0, by omega, rfl, HG.out, Lib.hid (fun j hj => by omega)⟩
                case round =>
                  obtain ⟨q, hq, rfl, hF2, HQ⟩ := hrel
                  have c9 := (CW.out _ hF2).c9
                  have HF2 := Lib.hid hF2
                  by_cases hqr : q < (N k).r
                  · obtain ⟨b2, o2, haR, hb2, hc2⟩ := HRS.out _ hF2 (by omega)
                    rw [haR] at c9
                    have t2 := hc2 q hqr
                    have g3 : (0 : Int) ≤ (q : Int) := by omega
                    have g4 : (q : Int) < (N k).r := by omega
                    clear hF2 haR hc2
                    by_cases h5 : 500 < ((N k).R q).size
                    · have HBD := Lib.hid (show ¬ NearP n N from fun h => by have := (h.2 k hlt).2.2.2.2 q hqr; omega)
                      have e1 : decide ((500 : Int) < (((N k).R q).size : Int)) = true := by simp; omega
                      clear h5
                      go_wp2_with fail
                      go_ret
                      exact ⟨true, rfl, ⟨fun _ => HBD.out, fun _ => rfl⟩, HF2.out⟩
                    · have HN := Lib.hid (show ((N k).R q).size ≤ 500 by omega)
                      have e1 : decide ((500 : Int) < (((N k).R q).size : Int)) = false := by simp; omega
                      clear h5
                      go_wp2_with fail
                      go_roundw
                      case rel => exact ⟨q + 1, by omega, by go_num, HF2.out, Lib.hid (fun j hj => by
                        by_cases e : j = q
                        · subst e; exact HN.out
                        · exact HQ.out j (by omega))⟩
                      case measure => simp [intOf]; omega
                  · have HN := Lib.hid (show SmP (N k) from ⟨HLG.out, HSM.out.1, HSM.out.2.1, HSM.out.2.2, fun j hj => HQ.out j (by omega)⟩)
                    have hqe : ¬ (q : Int) < ((N k).r : Int) := by omega
                    clear hF2 hqr
                    go_wp2_with fail
                    go_roundw
                    case rel => exact ⟨k + 1, by omega, by go_num, HF2.out, Lib.hid (fun j hj => by
                      by_cases e : j = k
                      · subst e; exact HN.out
                      · exact HJ.out j (by omega))⟩
                    case measure => simp [intOf]; omega
        · have HBD := Lib.hid (show ¬ NearP n N from fun h => hl (h.2 k hlt).1)
          have CL0 := Lib.hid (RetQ.no CL.out hl)
          clear hl CL
          go_wp2_with (go_at_call 12; go_must (refine CL0.out.mono ?_; rintro e w1 ⟨rfl, hG⟩; have HG := Lib.hid (HF.out.then hG); clear hG))
          go_ret
          exact ⟨true, rfl, ⟨fun _ => HBD.out, fun _ => rfl⟩, HG.out⟩
      · obtain rfl : k = n := by omega
        have HF := Lib.hid hF
        clear hF
        go_wp2_with fail
        go_ret
        exact ⟨false, rfl, ⟨(fun h => by cases h), fun h => absurd ⟨by omega, HJ.out⟩ h⟩, HF.out⟩
end Go.Proofs.YtogjfifpbplahaaGreatDoor

namespace Go.Proofs.YtogjfifpbplahaaGreatDoor
open Go.RowKit Go.Shelf
open BR CM
set_option linter.unusedVariables false

theorem bdV_shape (d e n c : Int) : ∃ b0 b1 b2 z : Int, bdV d e n c = .tuple #[.agg #[.int .i64 b0, .int .i64 b1, .int .i64 b2], .int .i64 z] := ⟨_, _, _, _, rfl⟩
theorem size_shape (n : Nat) (N : Nat → BNode) : ∃ u0 u1 u2 u3 u4 z : Int, (if branchE n N = 0 then sizeV n N else sizeB (branchE n N)) = .tuple #[.agg #[.int .i64 u0, .int .i64 u1, .int .i64 u2, .int .i64 u3, .int .i64 u4], .int .i64 z] := by
  by_cases h : branchE n N = 0
  · rw [if_pos h]; exact ⟨_, _, _, _, _, _, rfl⟩
  · rw [if_neg h]; exact ⟨_, _, _, _, _, _, rfl⟩
set_option maxRecDepth 100000 in
set_option maxHeartbeats 4000000 in
theorem bounds_far (n c : Nat) (a0 : Option Addr) (N : Nat → BNode) (H : Nat → Hd) (x0 x1 x2 x3 s0 s1 s2 s3 s4 : Int) (w : World) (hP : PTab w) (hB : BranchAt w a0 n N H) (hn : ¬ NearP n N) :
    Calls Tryz.prog 3 #[.agg #[Value.int .i64 x0, Value.int .i64 x1, Value.int .i64 x2, Value.int .i64 x3], .slice a0 n c, .agg #[Value.int .i64 s0, Value.int .i64 s1, Value.int .i64 s2, Value.int .i64 s3, Value.int .i64 s4]] w (Ret (.bool true) w) := by
  have HW := Lib.hid (fun (w0 : World) (hF : Fr (fun _ => False) w w0) => awake_walk w0 (hP.fr hF))
  have HFA := Lib.hid (fun (w0 : World) (hF : Fr (fun _ => False) w w0) => RetQ.no (far_walk n c a0 N H w0 (hB.fr hF (fun _ _ h => h))) hn)
  clear hP hn hB
  go_enter Tryz.func3, Tryz.ntmps3
  go_upto_region 1 with (fail)
  have hX : RowB ((w.alloc (Obj.cells #[Value.int .i64 x0, Value.int .i64 x1, Value.int .i64 x2, Value.int .i64 x3] 23)).alloc (Obj.cells #[Value.int .i64 s0, Value.int .i64 s1, Value.int .i64 s2, Value.int .i64 s3, Value.int .i64 s4] 26)) w.heap.size 23 [Value.int .i64 x0, Value.int .i64 x1, Value.int .i64 x2, Value.int .i64 x3] := (RowB.new w 23 [Value.int .i64 x0, Value.int .i64 x1, Value.int .i64 x2, Value.int .i64 x3]).fr ((Fr.refl (fun _ => False) _).alloc _) (fun h => h)
  have hS : RowB ((w.alloc (Obj.cells #[Value.int .i64 x0, Value.int .i64 x1, Value.int .i64 x2, Value.int .i64 x3] 23)).alloc (Obj.cells #[Value.int .i64 s0, Value.int .i64 s1, Value.int .i64 s2, Value.int .i64 s3, Value.int .i64 s4] 26)) (w.heap.size + 1) 26 [Value.int .i64 s0, Value.int .i64 s1, Value.int .i64 s2, Value.int .i64 s3, Value.int .i64 s4] := by
    have h := RowB.new (w.alloc (Obj.cells #[Value.int .i64 x0, Value.int .i64 x1, Value.int .i64 x2, Value.int .i64 x3] 23)) 26 [Value.int .i64 s0, Value.int .i64 s1, Value.int .i64 s2, Value.int .i64 s3, Value.int .i64 s4]
    rw [alloc_size] at h
    exact h
  have hF : Fr (fun _ => False) w ((w.alloc (Obj.cells #[Value.int .i64 x0, Value.int .i64 x1, Value.int .i64 x2, Value.int .i64 x3] 23)).alloc (Obj.cells #[Value.int .i64 s0, Value.int .i64 s1, Value.int .i64 s2, Value.int .i64 s3, Value.int .i64 s4] 26)) := ((Fr.refl (fun _ => False) w).alloc _).alloc _
  change Code.wp _ _ _ _ ((w.alloc (Obj.cells #[Value.int .i64 x0, Value.int .i64 x1, Value.int .i64 x2, Value.int .i64 x3] 23)).alloc (Obj.cells #[Value.int .i64 s0, Value.int .i64 s1, Value.int .i64 s2, Value.int .i64 s3, Value.int .i64 s4] 26))
  generalize (w.alloc (Obj.cells #[Value.int .i64 x0, Value.int .i64 x1, Value.int .i64 x2, Value.int .i64 x3] 23)).alloc (Obj.cells #[Value.int .i64 s0, Value.int .i64 s1, Value.int .i64 s2, Value.int .i64 s3, Value.int .i64 s4] 26) = W0 at *
  obtain ⟨BX, hBX⟩ : ∃ BX, BX = w.heap.size := ⟨_, rfl⟩
  obtain ⟨BS, hBS⟩ : ∃ BS, BS = w.heap.size + 1 := ⟨_, rfl⟩
  rw [← hBS] at hS ⊢
  rw [← hBX] at hX ⊢
  have HX0 := Lib.hid hX
  have HS0 := Lib.hid hS
  have HF0 := Lib.hid hF
  clear hX hS hF hBX hBS
  go_wp2_with (first
    | (go_at_call 4; go_must (refine (HFA.out _ HF0.out).mono ?_; rintro e w1 ⟨rfl, hF⟩; have HF1 := Lib.hid (HF0.out.then hF); clear hF))
    | (go_at_call 5; go_must (refine (HW.out _ HF1.out).mono ?_; rintro e w2 ⟨rfl, hF⟩; have HF2 := Lib.hid (HF1.out.then hF); clear hF)))
  go_ret
  exact ⟨rfl, HF2.out⟩
set_option maxRecDepth 100000 in
set_option maxHeartbeats 8000000 in
theorem bounds_near (n c : Nat) (a0 : Option Addr) (N : Nat → BNode) (H : Nat → Hd) (x0 x1 x2 x3 s0 s1 s2 s3 s4 : Int) (w : World) (hP : PTab w) (hB : BranchAt w a0 n N H) (hn : NearP n N) :
    Calls Tryz.prog 3 #[.agg #[Value.int .i64 x0, Value.int .i64 x1, Value.int .i64 x2, Value.int .i64 x3], .slice a0 n c, .agg #[Value.int .i64 s0, Value.int .i64 s1, Value.int .i64 s2, Value.int .i64 s3, Value.int .i64 s4]] w (Ret (.bool true) w) := by
  have h1000 : n ≤ 1000 := by have := hn.1; omega
  have hfit : ∀ j, j < n → Fits (N j) := fun j hj => (hn.2 j hj).fits
  obtain ⟨b0, b1, b2, bz, hbd⟩ := bdV_shape x0 x1 x2 x3
  obtain ⟨u0, u1, u2, u3, u4, uz, hsz⟩ := size_shape n N
  obtain ⟨tp, tq, hT, hRT⟩ := totals s0 s1 s2 s3 s4
  have C5 := Lib.hid (fun (w0 : World) (hF : Fr (fun _ => False) w w0) => awake_walk w0 (hP.fr hF))
  have C4 := Lib.hid (fun (w0 : World) (hF : Fr (fun _ => False) w w0) => RetQ.yes (far_walk n c a0 N H w0 (hB.fr hF (fun _ _ h => h))) hn)
  have C6 := Lib.hid (fun (w0 : World) => bound_walk x0 x1 x2 x3 w0)
  have C7 := Lib.hid (fun (w0 : World) => rbound_walk x0 x1 x2 x3 w0)
  have C8 := Lib.hid (fun (w0 : World) (hF : Fr (fun _ => False) w w0) => pSize_walk n c a0 N H w0 (hB.fr hF (fun _ _ h => h)) h1000 hfit)
  have C9 := Lib.hid (fun (w0 : World) (hF : Fr (fun _ => False) w w0) => rSize_walk n c a0 N H w0 (hB.fr hF (fun _ _ h => h)) h1000 hfit)
  have C10 := Lib.hid hT
  have C11 := Lib.hid hRT
  rw [hbd] at C6 C7
  rw [hsz] at C8 C9
  clear hbd hsz hT hRT hfit h1000 hP hB hn
  go_enter Tryz.func3, Tryz.ntmps3
  go_upto_region 1 with (fail)
  have hX : RowB ((w.alloc (Obj.cells #[Value.int .i64 x0, Value.int .i64 x1, Value.int .i64 x2, Value.int .i64 x3] 23)).alloc (Obj.cells #[Value.int .i64 s0, Value.int .i64 s1, Value.int .i64 s2, Value.int .i64 s3, Value.int .i64 s4] 26)) w.heap.size 23 [Value.int .i64 x0, Value.int .i64 x1, Value.int .i64 x2, Value.int .i64 x3] := (RowB.new w 23 [Value.int .i64 x0, Value.int .i64 x1, Value.int .i64 x2, Value.int .i64 x3]).fr ((Fr.refl (fun _ => False) _).alloc _) (fun h => h)
  have hS : RowB ((w.alloc (Obj.cells #[Value.int .i64 x0, Value.int .i64 x1, Value.int .i64 x2, Value.int .i64 x3] 23)).alloc (Obj.cells #[Value.int .i64 s0, Value.int .i64 s1, Value.int .i64 s2, Value.int .i64 s3, Value.int .i64 s4] 26)) (w.heap.size + 1) 26 [Value.int .i64 s0, Value.int .i64 s1, Value.int .i64 s2, Value.int .i64 s3, Value.int .i64 s4] := by
    have h := RowB.new (w.alloc (Obj.cells #[Value.int .i64 x0, Value.int .i64 x1, Value.int .i64 x2, Value.int .i64 x3] 23)) 26 [Value.int .i64 s0, Value.int .i64 s1, Value.int .i64 s2, Value.int .i64 s3, Value.int .i64 s4]
    rw [alloc_size] at h
    exact h
  have hF : Fr (fun _ => False) w ((w.alloc (Obj.cells #[Value.int .i64 x0, Value.int .i64 x1, Value.int .i64 x2, Value.int .i64 x3] 23)).alloc (Obj.cells #[Value.int .i64 s0, Value.int .i64 s1, Value.int .i64 s2, Value.int .i64 s3, Value.int .i64 s4] 26)) := ((Fr.refl (fun _ => False) w).alloc _).alloc _
  change Code.wp _ _ _ _ ((w.alloc (Obj.cells #[Value.int .i64 x0, Value.int .i64 x1, Value.int .i64 x2, Value.int .i64 x3] 23)).alloc (Obj.cells #[Value.int .i64 s0, Value.int .i64 s1, Value.int .i64 s2, Value.int .i64 s3, Value.int .i64 s4] 26))
  generalize (w.alloc (Obj.cells #[Value.int .i64 x0, Value.int .i64 x1, Value.int .i64 x2, Value.int .i64 x3] 23)).alloc (Obj.cells #[Value.int .i64 s0, Value.int .i64 s1, Value.int .i64 s2, Value.int .i64 s3, Value.int .i64 s4] 26) = W0 at *
  obtain ⟨BX, hBX⟩ : ∃ BX, BX = w.heap.size := ⟨_, rfl⟩
  obtain ⟨BS, hBS⟩ : ∃ BS, BS = w.heap.size + 1 := ⟨_, rfl⟩
  rw [← hBS] at hS ⊢
  rw [← hBX] at hX ⊢
  have HX0 := Lib.hid hX
  have HS0 := Lib.hid hS
  have HF0 := Lib.hid hF
  clear hX hS hF hBX hBS
  go_upto_region 4 with (first
    | (go_at_call 4; go_must (refine (C4.out _ HF0.out).mono ?_; rintro e w1 ⟨rfl, hF⟩; have HF1 := Lib.hid (HF0.out.then hF); have HX1 := Lib.hid (HX0.out.fr hF (fun h => h)); have HS1 := Lib.hid (HS0.out.fr hF (fun h => h)); have xa0 : w1.cell? ⟨BX, 0, none⟩ = some (.int .i64 x0) := (HX1.out).cell 0; have xa1 : w1.cell? ⟨BX, 1, none⟩ = some (.int .i64 x1) := (HX1.out).cell 1; have xa2 : w1.cell? ⟨BX, 2, none⟩ = some (.int .i64 x2) := (HX1.out).cell 2; have xa3 : w1.cell? ⟨BX, 3, none⟩ = some (.int .i64 x3) := (HX1.out).cell 3; clear hF))
    | (go_at_call 6; go_must (refine (C6.out _).mono ?_; rintro e w2 ⟨rfl, hF⟩; have HF2 := Lib.hid (HF1.out.then hF); have HX2 := Lib.hid (HX1.out.fr hF (fun h => h)); have HS2 := Lib.hid (HS1.out.fr hF (fun h => h)); clear hF)))
  have hFA : Fr (fun _ => False) w (w2.alloc (Obj.cells #[Value.int .i64 b0, Value.int .i64 b1, Value.int .i64 b2] 30)) := HF2.out.alloc _
  have hRA : RowB (w2.alloc (Obj.cells #[Value.int .i64 b0, Value.int .i64 b1, Value.int .i64 b2] 30)) w2.heap.size 30 [Value.int .i64 b0, Value.int .i64 b1, Value.int .i64 b2] := RowB.new w2 _ _
  have hGA : Fr (fun _ => False) w2 (w2.alloc (Obj.cells #[Value.int .i64 b0, Value.int .i64 b1, Value.int .i64 b2] 30)) := (Fr.refl _ _).alloc _
  change Code.wp _ _ _ _ (w2.alloc (Obj.cells #[Value.int .i64 b0, Value.int .i64 b1, Value.int .i64 b2] 30))
  generalize w2.alloc (Obj.cells #[Value.int .i64 b0, Value.int .i64 b1, Value.int .i64 b2] 30) = A2 at *
  generalize w2.heap.size = R2 at *
  have HFA2 := Lib.hid hFA
  have HR2 := Lib.hid hRA
  have HXA2 := Lib.hid (HX2.out.fr hGA (fun h => h))
  have HSA2 := Lib.hid (HS2.out.fr hGA (fun h => h))
  have HGA2 := Lib.hid hGA
  clear hFA hRA hGA
  have xb0 : A2.cell? ⟨BX, 0, none⟩ = some (.int .i64 x0) := HXA2.out.cell 0
  have xb1 : A2.cell? ⟨BX, 1, none⟩ = some (.int .i64 x1) := HXA2.out.cell 1
  have xb2 : A2.cell? ⟨BX, 2, none⟩ = some (.int .i64 x2) := HXA2.out.cell 2
  have xb3 : A2.cell? ⟨BX, 3, none⟩ = some (.int .i64 x3) := HXA2.out.cell 3
  go_upto_region 5 with (go_at_call 7; go_must (refine (C7.out _).mono ?_; rintro e w3 ⟨rfl, hF⟩; have HF3 := Lib.hid (HFA2.out.then hF); have HX3 := Lib.hid (HXA2.out.fr hF (fun h => h)); have HS3 := Lib.hid (HSA2.out.fr hF (fun h => h)); have HR23 := Lib.hid (HR2.out.fr hF (fun h => h)); clear hF))
  have hFA : Fr (fun _ => False) w (w3.alloc (Obj.cells #[Value.int .i64 b0, Value.int .i64 b1, Value.int .i64 b2] 30)) := HF3.out.alloc _
  have hRA : RowB (w3.alloc (Obj.cells #[Value.int .i64 b0, Value.int .i64 b1, Value.int .i64 b2] 30)) w3.heap.size 30 [Value.int .i64 b0, Value.int .i64 b1, Value.int .i64 b2] := RowB.new w3 _ _
  have hGA : Fr (fun _ => False) w3 (w3.alloc (Obj.cells #[Value.int .i64 b0, Value.int .i64 b1, Value.int .i64 b2] 30)) := (Fr.refl _ _).alloc _
  change Code.wp _ _ _ _ (w3.alloc (Obj.cells #[Value.int .i64 b0, Value.int .i64 b1, Value.int .i64 b2] 30))
  generalize w3.alloc (Obj.cells #[Value.int .i64 b0, Value.int .i64 b1, Value.int .i64 b2] 30) = A3 at *
  generalize w3.heap.size = R3 at *
  have HFA3 := Lib.hid hFA
  have HR3 := Lib.hid hRA
  have HXA3 := Lib.hid (HX3.out.fr hGA (fun h => h))
  have HSA3 := Lib.hid (HS3.out.fr hGA (fun h => h))
  have HGA3 := Lib.hid hGA
  clear hFA hRA hGA
  have HR2A3 := Lib.hid (HR23.out.fr HGA3.out (fun h => h))
  go_upto_region 6 with (go_at_call 8; go_must (refine (C8.out _ HFA3.out).mono ?_; rintro e w4 ⟨rfl, hF⟩; have HF4 := Lib.hid (HFA3.out.then hF); have HX4 := Lib.hid (HXA3.out.fr hF (fun h => h)); have HS4 := Lib.hid (HSA3.out.fr hF (fun h => h)); have HR24 := Lib.hid (HR2A3.out.fr hF (fun h => h)); have HR34 := Lib.hid (HR3.out.fr hF (fun h => h)); clear hF))
  have hFA : Fr (fun _ => False) w (w4.alloc (Obj.cells #[Value.int .i64 u0, Value.int .i64 u1, Value.int .i64 u2, Value.int .i64 u3, Value.int .i64 u4] 26)) := HF4.out.alloc _
  have hRA : RowB (w4.alloc (Obj.cells #[Value.int .i64 u0, Value.int .i64 u1, Value.int .i64 u2, Value.int .i64 u3, Value.int .i64 u4] 26)) w4.heap.size 26 [Value.int .i64 u0, Value.int .i64 u1, Value.int .i64 u2, Value.int .i64 u3, Value.int .i64 u4] := RowB.new w4 _ _
  have hGA : Fr (fun _ => False) w4 (w4.alloc (Obj.cells #[Value.int .i64 u0, Value.int .i64 u1, Value.int .i64 u2, Value.int .i64 u3, Value.int .i64 u4] 26)) := (Fr.refl _ _).alloc _
  change Code.wp _ _ _ _ (w4.alloc (Obj.cells #[Value.int .i64 u0, Value.int .i64 u1, Value.int .i64 u2, Value.int .i64 u3, Value.int .i64 u4] 26))
  generalize w4.alloc (Obj.cells #[Value.int .i64 u0, Value.int .i64 u1, Value.int .i64 u2, Value.int .i64 u3, Value.int .i64 u4] 26) = A4 at *
  generalize w4.heap.size = R4 at *
  have HFA4 := Lib.hid hFA
  have HR4 := Lib.hid hRA
  have HXA4 := Lib.hid (HX4.out.fr hGA (fun h => h))
  have HSA4 := Lib.hid (HS4.out.fr hGA (fun h => h))
  have HGA4 := Lib.hid hGA
  clear hFA hRA hGA
  have HR2A4 := Lib.hid (HR24.out.fr HGA4.out (fun h => h))
  have HR3A4 := Lib.hid (HR34.out.fr HGA4.out (fun h => h))
  go_upto_region 7 with (go_at_call 9; go_must (refine (C9.out _ HFA4.out).mono ?_; rintro e w5 ⟨rfl, hF⟩; have HF5 := Lib.hid (HFA4.out.then hF); have HX5 := Lib.hid (HXA4.out.fr hF (fun h => h)); have HS5 := Lib.hid (HSA4.out.fr hF (fun h => h)); have HR25 := Lib.hid (HR2A4.out.fr hF (fun h => h)); have HR35 := Lib.hid (HR3A4.out.fr hF (fun h => h)); have HR45 := Lib.hid (HR4.out.fr hF (fun h => h)); clear hF))
  have hFA : Fr (fun _ => False) w (w5.alloc (Obj.cells #[Value.int .i64 u0, Value.int .i64 u1, Value.int .i64 u2, Value.int .i64 u3, Value.int .i64 u4] 26)) := HF5.out.alloc _
  have hRA : RowB (w5.alloc (Obj.cells #[Value.int .i64 u0, Value.int .i64 u1, Value.int .i64 u2, Value.int .i64 u3, Value.int .i64 u4] 26)) w5.heap.size 26 [Value.int .i64 u0, Value.int .i64 u1, Value.int .i64 u2, Value.int .i64 u3, Value.int .i64 u4] := RowB.new w5 _ _
  have hGA : Fr (fun _ => False) w5 (w5.alloc (Obj.cells #[Value.int .i64 u0, Value.int .i64 u1, Value.int .i64 u2, Value.int .i64 u3, Value.int .i64 u4] 26)) := (Fr.refl _ _).alloc _
  change Code.wp _ _ _ _ (w5.alloc (Obj.cells #[Value.int .i64 u0, Value.int .i64 u1, Value.int .i64 u2, Value.int .i64 u3, Value.int .i64 u4] 26))
  generalize w5.alloc (Obj.cells #[Value.int .i64 u0, Value.int .i64 u1, Value.int .i64 u2, Value.int .i64 u3, Value.int .i64 u4] 26) = A5 at *
  generalize w5.heap.size = R5 at *
  have HFA5 := Lib.hid hFA
  have HR5 := Lib.hid hRA
  have HXA5 := Lib.hid (HX5.out.fr hGA (fun h => h))
  have HSA5 := Lib.hid (HS5.out.fr hGA (fun h => h))
  have HGA5 := Lib.hid hGA
  clear hFA hRA hGA
  have HR2A5 := Lib.hid (HR25.out.fr HGA5.out (fun h => h))
  have HR3A5 := Lib.hid (HR35.out.fr HGA5.out (fun h => h))
  have HR4A5 := Lib.hid (HR45.out.fr HGA5.out (fun h => h))
  have sa0 : A5.cell? ⟨BS, 0, none⟩ = some (.int .i64 s0) := HSA5.out.cell 0
  have sa1 : A5.cell? ⟨BS, 1, none⟩ = some (.int .i64 s1) := HSA5.out.cell 1
  have sa2 : A5.cell? ⟨BS, 2, none⟩ = some (.int .i64 s2) := HSA5.out.cell 2
  have sa3 : A5.cell? ⟨BS, 3, none⟩ = some (.int .i64 s3) := HSA5.out.cell 3
  have sa4 : A5.cell? ⟨BS, 4, none⟩ = some (.int .i64 s4) := HSA5.out.cell 4
  go_wp2_with (first
    | (go_at_call 10; go_must (refine (C10.out _).mono ?_; rintro e w6 ⟨rfl, hF⟩; have HF6 := Lib.hid (HFA5.out.then hF); have HS6 := Lib.hid (HSA5.out.fr hF (fun h => h)); have HR26 := Lib.hid (HR2A5.out.fr hF (fun h => h)); have HR36 := Lib.hid (HR3A5.out.fr hF (fun h => h)); have HR46 := Lib.hid (HR4A5.out.fr hF (fun h => h)); have HR56 := Lib.hid (HR5.out.fr hF (fun h => h)); have sb0 : w6.cell? ⟨BS, 0, none⟩ = some (.int .i64 s0) := (HS6.out).cell 0; have sb1 : w6.cell? ⟨BS, 1, none⟩ = some (.int .i64 s1) := (HS6.out).cell 1; have sb2 : w6.cell? ⟨BS, 2, none⟩ = some (.int .i64 s2) := (HS6.out).cell 2; have sb3 : w6.cell? ⟨BS, 3, none⟩ = some (.int .i64 s3) := (HS6.out).cell 3; have sb4 : w6.cell? ⟨BS, 4, none⟩ = some (.int .i64 s4) := (HS6.out).cell 4; clear hF))
    | (go_at_call 11; go_must (refine (C11.out _).mono ?_; rintro e w7 ⟨rfl, hF⟩; have HF7 := Lib.hid (HF6.out.then hF); have HR27 := Lib.hid (HR26.out.fr hF (fun h => h)); have HR37 := Lib.hid (HR36.out.fr hF (fun h => h)); have HR47 := Lib.hid (HR46.out.fr hF (fun h => h)); have HR57 := Lib.hid (HR56.out.fr hF (fun h => h)); have ra0 : w7.cell? ⟨R2, 0, none⟩ = some (.int .i64 b0) := (HR27.out).cell 0; have ra1 : w7.cell? ⟨R2, 1, none⟩ = some (.int .i64 b1) := (HR27.out).cell 1; have ra2 : w7.cell? ⟨R2, 2, none⟩ = some (.int .i64 b2) := (HR27.out).cell 2; have rb0 : w7.cell? ⟨R3, 0, none⟩ = some (.int .i64 b0) := (HR37.out).cell 0; have rb1 : w7.cell? ⟨R3, 1, none⟩ = some (.int .i64 b1) := (HR37.out).cell 1; have rb2 : w7.cell? ⟨R3, 2, none⟩ = some (.int .i64 b2) := (HR37.out).cell 2; have rc0 : w7.cell? ⟨R4, 0, none⟩ = some (.int .i64 u0) := (HR47.out).cell 0; have rc1 : w7.cell? ⟨R4, 1, none⟩ = some (.int .i64 u1) := (HR47.out).cell 1; have rc2 : w7.cell? ⟨R4, 2, none⟩ = some (.int .i64 u2) := (HR47.out).cell 2; have rc3 : w7.cell? ⟨R4, 3, none⟩ = some (.int .i64 u3) := (HR47.out).cell 3; have rc4 : w7.cell? ⟨R4, 4, none⟩ = some (.int .i64 u4) := (HR47.out).cell 4; have rd0 : w7.cell? ⟨R5, 0, none⟩ = some (.int .i64 u0) := (HR57.out).cell 0; have rd1 : w7.cell? ⟨R5, 1, none⟩ = some (.int .i64 u1) := (HR57.out).cell 1; have rd2 : w7.cell? ⟨R5, 2, none⟩ = some (.int .i64 u2) := (HR57.out).cell 2; have rd3 : w7.cell? ⟨R5, 3, none⟩ = some (.int .i64 u3) := (HR57.out).cell 3; have rd4 : w7.cell? ⟨R5, 4, none⟩ = some (.int .i64 u4) := (HR57.out).cell 4; clear hF))
    | (go_at_call 5; go_must (refine (C5.out _ HF7.out).mono ?_; rintro e w8 ⟨rfl, hF⟩; have HF8 := Lib.hid (HF7.out.then hF); clear hF)))
  go_ret
  exact ⟨rfl, HF8.out⟩
theorem bounds_walk (n c : Nat) (a0 : Option Addr) (N : Nat → BNode) (H : Nat → Hd) (x0 x1 x2 x3 s0 s1 s2 s3 s4 : Int) (w : World) (hP : PTab w) (hB : BranchAt w a0 n N H) :
    Calls Tryz.prog 3 #[.agg #[Value.int .i64 x0, Value.int .i64 x1, Value.int .i64 x2, Value.int .i64 x3], .slice a0 n c, .agg #[Value.int .i64 s0, Value.int .i64 s1, Value.int .i64 s2, Value.int .i64 s3, Value.int .i64 s4]] w (Ret (.bool true) w) := by
  by_cases h : NearP n N
  · exact bounds_near n c a0 N H x0 x1 x2 x3 s0 s1 s2 s3 s4 w hP hB h
  · exact bounds_far n c a0 N H x0 x1 x2 x3 s0 s1 s2 s3 s4 w hP hB h
end Go.Proofs.YtogjfifpbplahaaGreatDoor
