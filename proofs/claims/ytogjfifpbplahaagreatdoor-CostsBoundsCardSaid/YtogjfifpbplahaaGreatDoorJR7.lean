/- The reference's check of a class, and of a tree, walked. -/
import Derived.Test.YtogjfifpbplahaaGreatDoorJg
import Derived.Test.YtogjfifpbplahaaGreatDoorJR4
import Derived.Deep.RegionHeld3
namespace Go.Proofs.YtogjfifpbplahaaGreatDoor
open Go.RowKit
open BR
open Go.Op (bytesLess)
set_option linter.unusedVariables false

theorem classE_bd {N : Nat → BNode} {i : Nat} (h : classE N i = 0) : 0 ≤ (N i).cls ∧ (N i).cls ≤ mostC N i + 1 := by
  unfold classE at h
  by_cases e : (N i).cls < 0 ∨ mostC N i + 1 < (N i).cls ∨ (0 < (N i).cls ∧ ∃ k, k < i ∧ (N k).cls = (N i).cls ∧ ¬ likeP (N k) (N i))
  · rw [if_pos e] at h; omega
  · constructor
    · exact Int.not_lt.1 (fun h => e (Or.inl h))
    · exact Int.not_lt.1 (fun h => e (Or.inr (Or.inl h)))
theorem mostC_bd {N : Nat → BNode} : ∀ k, (∀ j, j < k → classE N j = 0) → 0 ≤ mostC N k ∧ mostC N k ≤ k
  | 0, _ => by simp [mostC]
  | k + 1, h => by
    have h1 := mostC_bd k (fun j hj => h j (by omega))
    have h2 := classE_bd (h k (by omega))
    simp only [mostC]
    omega
theorem classE_like {N : Nat → BNode} {i k : Nat} (hk : k < i) (h0 : 0 < (N i).cls) (h1 : (N k).cls = (N i).cls) (h2 : ¬ likeP (N k) (N i)) : classE N i = 6 := by
  unfold classE; rw [if_pos (Or.inr (Or.inr ⟨h0, k, hk, h1, h2⟩))]
theorem classE_rest {N : Nat → BNode} {i : Nat} (h : ∀ k, k < i → ¬ (0 < (N i).cls ∧ (N k).cls = (N i).cls ∧ ¬ likeP (N k) (N i))) : classE N i = if (N i).cls < 0 ∨ mostC N i + 1 < (N i).cls then 6 else 0 := by
  unfold classE
  by_cases e : (N i).cls < 0 ∨ mostC N i + 1 < (N i).cls
  · rw [if_pos e, if_pos (by rcases e with e | e; exact Or.inl e; exact Or.inr (Or.inl e))]
  · rw [if_neg e, if_neg]
    rintro (h1 | h1 | ⟨h0, k, hk, h1, h2⟩)
    · exact e (Or.inl h1)
    · exact e (Or.inr h1)
    · exact h k hk ⟨h0, h1, h2⟩
set_option maxRecDepth 100000 in
set_option maxHeartbeats 4000000 in
theorem rclass_walk (n c i : Nat) (a0 : Option Addr) (N : Nat → BNode) (H : Nat → Hd) (w : World) (hT : TreeAt w a0 n N H) (hn : n ≤ 1000) (hi : i < n) (hm : ∀ j, j ≤ i → (N j).m ≤ 100) (hp : ∀ j, j < i → classE N j = 0) :
    Calls Tryz.prog 59 #[.slice a0 n c, .int .i64 i] w (Ret (.int .i64 (classE N i)) w) := by
  obtain ⟨b, o, rfl, hb, hc⟩ := hT.get (by omega)
  have HNT := Lib.hid hT.1
  clear hT
  have HC := Lib.hid hc
  have HM := Lib.hid hm
  have HP := Lib.hid hp
  clear hc hm hp
  have g1 : (0 : Int) ≤ (i : Int) := by omega
  have g2 : (i : Int) < n := by omega
  go_enter Tryz.func59, Tryz.ntmps59
  go_wp2_with fail
  go_loopw [5, 6] (fun t z wr => ∃ k : Nat, k ≤ i ∧ z = .int .i64 k ∧ t = .int .i64 (mostC N k) ∧ Fr (fun _ => False) w wr ∧ Hid (∀ j, j < k → ¬ (0 < (N i).cls ∧ (N j).cls = (N i).cls ∧ ¬ likeP (N j) (N i)))) (fun _ z _ => i - (intOf z).toNat)
  case atStart => exact ⟨0, by omega, rfl, rfl, Fr.refl _ _, Lib.hid (fun j hj => by omega)⟩
  case round =>
    obtain ⟨k, hk, rfl, rfl, hF, HJ⟩ := hrel
    obtain ⟨q1, q2⟩ := mostC_bd k (fun j hj => HP.out j (by omega))
    by_cases hlt : k < i
    · have g3 : (0 : Int) ≤ (k : Int) := by omega
      have g4 : (k : Int) < n := by omega
      obtain ⟨q3, q4⟩ := classE_bd (HP.out k hlt)
      obtain ⟨c0, c1, c2, c3, c4, c5, c6, c7⟩ := HC.out wr hF k (by omega)
      obtain ⟨d0, d1, d2, d3, d4, d5, d6, d7⟩ := HC.out wr hF i hi
      have HF := Lib.hid hF
      have HL := Lib.hid (fun (w0 : World) (hG : Fr (fun _ => False) wr w0) (q : Bool) hq => rlike_walk (N k) (N i) (H k) (H i) w0 ((HNT.out k (by omega)).fr (hF.then hG) (fun _ _ h => h)) ((HNT.out i hi).fr (hF.then hG) (fun _ _ h => h)) (HM.out k (by omega)) (HM.out i (by omega)) q hq)
      clear hF
      have HMX := Lib.hid (show mostC N (k + 1) = max (mostC N k) (N k).cls from rfl)
      have HV := Lib.hid (fun h0 h1 h2 => classE_like (N := N) (i := i) hlt h0 h1 h2)
      have HL2 := Lib.hid (fun (w0 : World) (hG : Fr (fun _ => False) wr w0) => (HC.out w0 (HF.out.then hG) k (by omega)))
      have HL3 := Lib.hid (fun (w0 : World) (hG : Fr (fun _ => False) wr w0) => (HC.out w0 (HF.out.then hG) i hi))
      generalize mostC N k = T at *
      generalize H k = hk' at *
      generalize H i = hi' at *
      obtain ⟨x, hx⟩ : ∃ x, x = N k := ⟨_, rfl⟩
      obtain ⟨y, hy⟩ : ∃ y, y = N i := ⟨_, rfl⟩
      rw [← hx] at c0 c1 c2 c3 c4 c5 c6 c7 HL HL2 HMX HV q3 q4
      rw [← hy] at d0 d1 d2 d3 d4 d5 d6 d7 HL HL3 HV
      have HX := Lib.hid hx
      have HY := Lib.hid hy
      clear hx hy
      by_cases h0 : 0 < y.cls
      · by_cases h1 : x.cls = y.cls
        · have e1 : (x.cls == y.cls) = true := by simpa using h1
          by_cases h2 : likeP x y
          · have HK := Lib.hid (show ¬ (0 < (N i).cls ∧ (N k).cls = (N i).cls ∧ ¬ likeP (N k) (N i)) by rw [← HX.out, ← HY.out]; exact fun h => h.2.2 h2)
            have HL := Lib.hid (fun w0 hG => HL.out w0 hG true ⟨fun _ => h2, fun _ => rfl⟩)
            unfold trA at HL
            clear h1 h2
            go_wp2_with fail
            all_goals
              go_region_held3 (fun w' => w'.cell? ⟨b, o + k * 8, none⟩ = some (.int .i64 x.depth) ∧ w'.cell? ⟨b, o + k * 8 + 1, none⟩ = some (.string x.name) ∧ w'.cell? ⟨b, o + k * 8 + 2, none⟩ = some (.int .i64 x.kind) ∧ w'.cell? ⟨b, o + k * 8 + 3, none⟩ = some (.slice hk'.aA x.m hk'.cA) ∧ w'.cell? ⟨b, o + k * 8 + 4, none⟩ = some (.string x.data) ∧ w'.cell? ⟨b, o + k * 8 + 5, none⟩ = some (.int .i64 x.major) ∧ w'.cell? ⟨b, o + k * 8 + 6, none⟩ = some (.int .i64 x.minor) ∧ w'.cell? ⟨b, o + k * 8 + 7, none⟩ = some (.int .i64 x.cls) ∧ w'.cell? ⟨b, o + i * 8, none⟩ = some (.int .i64 y.depth) ∧ w'.cell? ⟨b, o + i * 8 + 1, none⟩ = some (.string y.name) ∧ w'.cell? ⟨b, o + i * 8 + 2, none⟩ = some (.int .i64 y.kind) ∧ w'.cell? ⟨b, o + i * 8 + 3, none⟩ = some (.slice hi'.aA y.m hi'.cA) ∧ w'.cell? ⟨b, o + i * 8 + 4, none⟩ = some (.string y.data) ∧ w'.cell? ⟨b, o + i * 8 + 5, none⟩ = some (.int .i64 y.major) ∧ w'.cell? ⟨b, o + i * 8 + 6, none⟩ = some (.int .i64 y.minor) ∧ w'.cell? ⟨b, o + i * 8 + 7, none⟩ = some (.int .i64 y.cls)) (go_keep) (first | (go_at_call 79; go_must (refine (HL.out wr.drew (Fr.refl _ _).drew).mono ?_; rintro e w1 ⟨rfl, hG⟩; have HG := Lib.hid (HF.out.then ((Fr.refl _ wr).drew.then hG)); obtain ⟨y0, y1, y2, y3, y4, y5, y6, y7⟩ := HL2.out w1 ((Fr.refl _ wr).drew.then hG); obtain ⟨z0, z1, z2, z3, z4, z5, z6, z7⟩ := HL3.out w1 ((Fr.refl _ wr).drew.then hG); clear hG)))
              go_wp2_with fail
              go_roundw
              case rel => exact ⟨k + 1, by omega, by go_num, by (rw [HMX.out]) <;> (congr 1; omega), HG.out, Lib.hid (fun j hj => by
                by_cases e : j = k
                · subst e; exact HK.out
                · exact HJ.out j (by omega))⟩
              case measure => simp [intOf]; omega
          · have HE := Lib.hid (HV.out h0 h1 h2)
            have HL := Lib.hid (fun w0 hG => HL.out w0 hG false ⟨(fun h => by cases h), fun h => absurd h h2⟩)
            unfold trA at HL
            clear h1 h2
            go_wp2_with fail
            all_goals
              go_region_held3 (fun w' => w'.cell? ⟨b, o + k * 8, none⟩ = some (.int .i64 x.depth) ∧ w'.cell? ⟨b, o + k * 8 + 1, none⟩ = some (.string x.name) ∧ w'.cell? ⟨b, o + k * 8 + 2, none⟩ = some (.int .i64 x.kind) ∧ w'.cell? ⟨b, o + k * 8 + 3, none⟩ = some (.slice hk'.aA x.m hk'.cA) ∧ w'.cell? ⟨b, o + k * 8 + 4, none⟩ = some (.string x.data) ∧ w'.cell? ⟨b, o + k * 8 + 5, none⟩ = some (.int .i64 x.major) ∧ w'.cell? ⟨b, o + k * 8 + 6, none⟩ = some (.int .i64 x.minor) ∧ w'.cell? ⟨b, o + k * 8 + 7, none⟩ = some (.int .i64 x.cls) ∧ w'.cell? ⟨b, o + i * 8, none⟩ = some (.int .i64 y.depth) ∧ w'.cell? ⟨b, o + i * 8 + 1, none⟩ = some (.string y.name) ∧ w'.cell? ⟨b, o + i * 8 + 2, none⟩ = some (.int .i64 y.kind) ∧ w'.cell? ⟨b, o + i * 8 + 3, none⟩ = some (.slice hi'.aA y.m hi'.cA) ∧ w'.cell? ⟨b, o + i * 8 + 4, none⟩ = some (.string y.data) ∧ w'.cell? ⟨b, o + i * 8 + 5, none⟩ = some (.int .i64 y.major) ∧ w'.cell? ⟨b, o + i * 8 + 6, none⟩ = some (.int .i64 y.minor) ∧ w'.cell? ⟨b, o + i * 8 + 7, none⟩ = some (.int .i64 y.cls)) (go_keep) (first | (go_at_call 79; go_must (refine (HL.out wr.drew (Fr.refl _ _).drew).mono ?_; rintro e w1 ⟨rfl, hG⟩; have HG := Lib.hid (HF.out.then ((Fr.refl _ wr).drew.then hG)); obtain ⟨y0, y1, y2, y3, y4, y5, y6, y7⟩ := HL2.out w1 ((Fr.refl _ wr).drew.then hG); obtain ⟨z0, z1, z2, z3, z4, z5, z6, z7⟩ := HL3.out w1 ((Fr.refl _ wr).drew.then hG); clear hG)))
              go_wp2_with fail
              go_ret
              exact ⟨by rw [HE.out] <;> rfl, HG.out⟩
        · have e1 : (x.cls == y.cls) = false := by simpa using h1
          have HK := Lib.hid (show ¬ (0 < (N i).cls ∧ (N k).cls = (N i).cls ∧ ¬ likeP (N k) (N i)) by rw [← HX.out, ← HY.out]; exact fun h => h1 h.2.1)
          clear h1
          go_wp2_with fail
          all_goals
            go_quiet (fail)
            go_wp2_with fail
            go_roundw
            case rel => exact ⟨k + 1, by omega, by go_num, by (rw [HMX.out]) <;> (congr 1; omega), HF.out.drewN _, Lib.hid (fun j hj => by
              by_cases e : j = k
              · subst e; exact HK.out
              · exact HJ.out j (by omega))⟩
            case measure => simp [intOf]; omega
      · have HK := Lib.hid (show ¬ (0 < (N i).cls ∧ (N k).cls = (N i).cls ∧ ¬ likeP (N k) (N i)) by rw [← HX.out, ← HY.out]; exact fun h => h0 h.1)
        have e0 : decide (0 < y.cls) = false := by simpa using h0
        go_wp2_with fail
        all_goals
          go_quiet (fail)
          go_wp2_with fail
          go_roundw
          case rel => exact ⟨k + 1, by omega, by go_num, by (rw [HMX.out]) <;> (congr 1; omega), HF.out.drewN _, Lib.hid (fun j hj => by
            by_cases e : j = k
            · subst e; exact HK.out
            · exact HJ.out j (by omega))⟩
          case measure => simp [intOf]; omega
    · obtain rfl : k = i := by omega
      have HR := Lib.hid (classE_rest HJ.out)
      have d7 := (HC.out wr hF k hi).c7
      have HF := Lib.hid hF
      clear hF
      generalize mostC N k = T at *
      by_cases h0 : (N k).cls < 0
      · have HE := Lib.hid (HR.out.trans (if_pos (Or.inl h0)))
        generalize (N k).cls = z at *
        go_wp2_with fail
        go_ret
        exact ⟨by rw [HE.out] <;> rfl, HF.out⟩
      · by_cases h1 : T + 1 < (N k).cls
        · have HE := Lib.hid (HR.out.trans (if_pos (Or.inr h1)))
          generalize (N k).cls = z at *
          go_wp2_with fail
          go_ret
          exact ⟨by rw [HE.out] <;> rfl, HF.out⟩
        · have HE := Lib.hid (HR.out.trans (if_neg (fun h => by rcases h with h | h; exact h0 h; exact h1 h)))
          generalize (N k).cls = z at *
          go_wp2_with fail
          go_ret
          exact ⟨by rw [HE.out] <;> rfl, HF.out⟩
end Go.Proofs.YtogjfifpbplahaaGreatDoor
