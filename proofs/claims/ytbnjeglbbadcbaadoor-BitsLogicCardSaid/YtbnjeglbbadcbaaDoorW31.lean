/- The law BitsLogic, walked: maps of different numbers of bits; both cases. -/
import Derived.Test.YtbnjeglbbadcbaaDoorW28
namespace Go.Proofs.YtbnjeglbbadcbaaDoor
open Go.RowKit
open BM
set_option linter.unusedVariables false

theorem sameF (a b : Nat) (l k : List Bool) (w : World) (ha : IsMap w a l) (hb : IsMap w b k) (h : l.length ≠ k.length) :
    Calls Tryd.prog 22 #[.pointer (some ⟨a, 0, none⟩), .pointer (some ⟨b, 0, none⟩)] w fun e w' => e = .returned (.bool false) ∧ ∃ q, w' = w.drewN q := by
  have := same_walk a b l k w ha hb
  rw [decide_eq_false (fun e => h (by rw [e]))] at this
  exact this
set_option maxRecDepth 100000 in
set_option maxHeartbeats 2000000 in
theorem logic_ne (n0 n1 : Nat) (a0 b0 : Option Addr) (bl cl bc cc : Nat) (M N : Nat) (X Y : List Bool) (w : World) (HT : Hid (Tab w)) (hX : X.length = M) (hY : Y.length = N) (hM6 : M ≤ 600) (hN6 : N ≤ 600) (hne : M ≠ N)
    (HMX : Hid (∀ w0, Fr (fun _ => False) w w0 → Calls Tryd.prog 11 #[.int .u16 n0, .slice a0 bl bc] w0 (Got w0 X)))
    (HMY : Hid (∀ w0, Fr (fun _ => False) w w0 → Calls Tryd.prog 11 #[.int .u16 n1, .slice b0 cl cc] w0 (Got w0 Y))) :
    Calls Tryd.prog 5 #[.agg #[.int .u16 n0, .int .u16 n1], .slice a0 bl bc, .slice b0 cl cc] w fun e w' => e = .returned (.bool true) ∧ Fr (fun _ => False) w w' := by
  have LX := Lib.hid hX
  have LY := Lib.hid hY
  have LXY := Lib.hid (show X.length ≠ Y.length by rw [hX, hY]; exact hne)
  have HNE := Lib.hid hne
  have hM4 : M ≤ 4096 := by omega
  have hN4 : N ≤ 4096 := by omega
  have t1 : ((M : Int) == (N : Int)) = false := by simp; omega
  obtain ⟨d, hstr⟩ : ∃ d, ((strOf (bytesN X)).toList == (strOf (bytesN Y)).toList) = d := ⟨_, rfl⟩
  clear hX hY hne
  have HCX := Lib.hid (fun (w0 : World) (b c : Nat) (h : RowB w0 b 5 (bvs (bytesN X))) => convm w0 b c M X LX.out h)
  have HCY := Lib.hid (fun (w0 : World) (b c : Nat) (h : RowB w0 b 5 (bvs (bytesN Y))) => convm w0 b c N Y LY.out h)
  have HBX := Lib.hid (fun (w0 : World) (b c : Nat) (hb : BoolS w0 b X) => rbytesm b c M X w0 hb LX.out hM4)
  have HBY := Lib.hid (fun (w0 : World) (b c : Nat) (hb : BoolS w0 b Y) => rbytesm b c N Y w0 hb LY.out hN4)
  have T1 : Hid True := Lib.hid trivial
  have T2 : Hid True := Lib.hid trivial
  have T3 : Hid True := Lib.hid trivial
  have T4 : Hid True := Lib.hid trivial
  have T5 : Hid True := Lib.hid trivial
  have T6 : Hid True := Lib.hid trivial
  have T7 : Hid True := Lib.hid trivial
  have T8 : Hid True := Lib.hid trivial
  have T9 : Hid True := Lib.hid trivial
  have T10 : Hid True := Lib.hid trivial
  have T11 : Hid True := Lib.hid trivial
  have T12 : Hid True := Lib.hid trivial
  go_enter Tryd.func5, Tryd.ntmps5
  go_upto_region 11 with (first
    | (go_at_call 11; have tok := T1.out; go_must (refine (HMX.out _ ((Fr.refl _ _).alloc _)).mono ?_; rintro e w1 ⟨mX, aX, cX, rfl, hM, hB, -, -, hF⟩; have HMX1 := Lib.hid hM; have HLX1 := Lib.hid hB; have HF1 : Hid (Fr (fun _ => False) w w1) := Lib.hid (((Fr.refl _ w).alloc _).trans hF (fun _ _ h => h)); have c2 : w1.cell? ⟨w.heap.size, 1, none⟩ = some (.int .u16 n1) := ((RowB.new w 45 [.int .u16 n0, .int .u16 n1]).fr hF (fun h => h)).cell 1; rw [LX.out]; clear hM hB hF); clear T1)
    | (go_at_call 11; have tok := T2.out; go_must (refine (HMY.out _ (by exact HF1.out)).mono ?_; rintro e w2 ⟨mY, aY, cY, rfl, hM, hB, -, -, hF⟩; have HMY2 := Lib.hid hM; have HLY2 := Lib.hid hB; have HF2 : Hid (Fr (fun _ => False) w1 w2) := Lib.hid ⟨hF.1, hF.2, hF.3, hF.4, hF.5⟩; rw [LY.out]; clear hM hB hF); clear T2)
    | (go_at_call 23; have tok := T3.out; go_must (refine (and_ne _ _ X Y _ (by have h := (IsMap.fr HMX1.out HF2.out (fun h => h)); exact h) (by have h := HMY2.out; exact h) LXY.out).mono ?_; rintro e w3 ⟨rfl, hF⟩; have HF3 : Hid (Fr (fun _ => False) w2 w3) := Lib.hid ⟨hF.1, hF.2, hF.3, hF.4, hF.5⟩; clear hF); clear T3)
    | (go_at_call 24; have tok := T4.out; go_must (refine (or_ne _ _ X Y _ (by have h := (IsMap.fr (IsMap.fr HMX1.out HF2.out (fun h => h)) HF3.out (fun h => h)); exact h) (by have h := (IsMap.fr HMY2.out HF3.out (fun h => h)); exact h) LXY.out).mono ?_; rintro e w4 ⟨rfl, hF⟩; have HF4 : Hid (Fr (fun _ => False) w3 w4) := Lib.hid ⟨hF.1, hF.2, hF.3, hF.4, hF.5⟩; clear hF); clear T4)
    | (go_at_call 25; have tok := T5.out; go_must (refine (xor_ne _ _ X Y _ (by have h := (IsMap.fr (IsMap.fr (IsMap.fr HMX1.out HF2.out (fun h => h)) HF3.out (fun h => h)) HF4.out (fun h => h)); exact h) (by have h := (IsMap.fr (IsMap.fr HMY2.out HF3.out (fun h => h)) HF4.out (fun h => h)); exact h) LXY.out).mono ?_; rintro e w5 ⟨rfl, hF⟩; have HF5 : Hid (Fr (fun _ => False) w4 w5) := Lib.hid ⟨hF.1, hF.2, hF.3, hF.4, hF.5⟩; clear hF); clear T5)
    | (go_at_call 26; have tok := T6.out; go_must (refine (rand_ne _ _ M N _ _ _ HNE.out).mono ?_; rintro e w' ⟨rfl, rfl⟩); clear T6)
    | (go_at_call 27; have tok := T7.out; go_must (refine (ror_ne _ _ M N _ _ _ HNE.out).mono ?_; rintro e w' ⟨rfl, rfl⟩); clear T7)
    | (go_at_call 28; have tok := T8.out; go_must (refine (rxor_ne _ _ M N _ _ _ HNE.out).mono ?_; rintro e w' ⟨rfl, rfl⟩); clear T8))
  go_cut [111] (fun c wx => c = .bool false ∧ Fr (fun _ => False) w5 wx)
  case first =>
    cases d
    · skip
      refine wp_region_noPanic ?_
      refine wp_region_held_drew (S := fun _ => True) (by kernel_rfl) trivial (fun hS => ?_)
      refine held_take (i := 0) (v := ?vd00) rfl (by kernel_rfl) (by kernel_rfl) (by kernel_rfl) (fun _ _ _ h => h) (by rfl) ?hd00 hS ?rd00
      case hd00 => intro w0 hS0; first | (go_simp; done) | (go_simp; with_reducible rfl)
      try simp only [Act.put, List.setIfInBounds_toArray, List.set_cons_zero, List.set_cons_succ]
      refine held_take (i := 1) (v := ?vd01) rfl (by kernel_rfl) (by kernel_rfl) (by kernel_rfl) (fun _ _ _ h => h) (by rfl) ?hd01 hS ?rd01
      case hd01 => intro w0 hS0; first | (go_simp; done) | (go_simp; with_reducible rfl)
      try simp only [Act.put, List.setIfInBounds_toArray, List.set_cons_zero, List.set_cons_succ]
      refine held_take (i := 2) (v := ?vd02) rfl (by kernel_rfl) (by kernel_rfl) (by kernel_rfl) (fun _ _ _ h => h) (by rfl) ?hd02 hS ?rd02
      case hd02 => intro w0 hS0; first | (go_simp; done) | (go_simp; with_reducible rfl)
      try simp only [Act.put, List.setIfInBounds_toArray, List.set_cons_zero, List.set_cons_succ]
      refine held_take (i := 3) (v := ?vd03) rfl (by kernel_rfl) (by kernel_rfl) (by kernel_rfl) (fun _ _ _ h => h) (by rfl) ?hd03 hS ?rd03
      case hd03 => intro w0 hS0; first | (go_simp; done) | (go_simp; with_reducible rfl)
      try simp only [Act.put, List.setIfInBounds_toArray, List.set_cons_zero, List.set_cons_succ]
      refine held_take (i := 4) (v := ?vd04) rfl (by kernel_rfl) (by kernel_rfl) (by kernel_rfl) (fun _ _ _ h => h) (by rfl) ?hd04 hS ?rd04
      case hd04 => intro w0 hS0; first | (go_simp; done) | (go_simp; with_reducible rfl)
      try simp only [Act.put, List.setIfInBounds_toArray, List.set_cons_zero, List.set_cons_succ]
      refine held_take (i := 5) (v := ?vd05) rfl (by kernel_rfl) (by kernel_rfl) (by kernel_rfl) (fun _ _ _ h => h) (by rfl) ?hd05 hS ?rd05
      case hd05 => intro w0 hS0; first | (go_simp; done) | (go_simp; with_reducible rfl)
      try simp only [Act.put, List.setIfInBounds_toArray, List.set_cons_zero, List.set_cons_succ]
      refine held_take (i := 6) (v := ?vd06) rfl (by kernel_rfl) (by kernel_rfl) (by kernel_rfl) (fun _ _ _ h => h) (by rfl) ?hd06 hS ?rd06
      case hd06 => intro w0 hS0; first | (go_simp; done) | (go_simp; with_reducible rfl)
      try simp only [Act.put, List.setIfInBounds_toArray, List.set_cons_zero, List.set_cons_succ]
      refine held_take (i := 7) (v := ?vd07) rfl (by kernel_rfl) (by kernel_rfl) (by kernel_rfl) (fun _ _ _ h => h) (by rfl) ?hd07 hS ?rd07
      case hd07 => intro w0 hS0; first | (go_simp; done) | (go_simp; with_reducible rfl)
      try simp only [Act.put, List.setIfInBounds_toArray, List.set_cons_zero, List.set_cons_succ]
      refine held_take (i := 8) (v := ?vd08) rfl (by kernel_rfl) (by kernel_rfl) (by kernel_rfl) (fun _ _ _ h => h) (by rfl) ?hd08 hS ?rd08
      case hd08 => intro w0 hS0; first | (go_simp; done) | (go_simp; with_reducible rfl)
      try simp only [Act.put, List.setIfInBounds_toArray, List.set_cons_zero, List.set_cons_succ]
      refine held_take (i := 9) (v := ?vd09) rfl (by kernel_rfl) (by kernel_rfl) (by kernel_rfl) (fun _ _ _ h => h) (by rfl) ?hd09 hS ?rd09
      case hd09 => intro w0 hS0; first | (go_simp; done) | (go_simp; with_reducible rfl)
      try simp only [Act.put, List.setIfInBounds_toArray, List.set_cons_zero, List.set_cons_succ]
      refine held_take (i := 10) (v := ?vd010) rfl (by kernel_rfl) (by kernel_rfl) (by kernel_rfl) (fun _ _ _ h => h) (by rfl) ?hd010 hS ?rd010
      case hd010 => intro w0 hS0; first | (go_simp; done) | (go_simp; with_reducible rfl)
      try simp only [Act.put, List.setIfInBounds_toArray, List.set_cons_zero, List.set_cons_succ]
      refine held_take (i := 11) (v := ?vd011) rfl (by kernel_rfl) (by kernel_rfl) (by kernel_rfl) (fun _ _ _ h => h) (by rfl) ?hd011 hS ?rd011
      case hd011 => intro w0 hS0; first | (go_simp; done) | (go_simp; with_reducible rfl)
      try simp only [Act.put, List.setIfInBounds_toArray, List.set_cons_zero, List.set_cons_succ]
      refine held_take (i := 12) (v := ?vd012) rfl (by kernel_rfl) (by kernel_rfl) (by kernel_rfl) (fun _ _ _ h => h) (by rfl) ?hd012 hS ?rd012
      case hd012 => intro w0 hS0; first | (go_simp; done) | (go_simp; with_reducible rfl)
      try simp only [Act.put, List.setIfInBounds_toArray, List.set_cons_zero, List.set_cons_succ]
      refine held_take (i := 13) (v := ?vd013) rfl (by kernel_rfl) (by kernel_rfl) (by kernel_rfl) (fun _ _ _ h => h) (by rfl) ?hd013 hS ?rd013
      case hd013 => intro w0 hS0; first | (go_simp; done) | (go_simp; with_reducible rfl)
      try simp only [Act.put, List.setIfInBounds_toArray, List.set_cons_zero, List.set_cons_succ]
      refine held_take (i := 14) (v := ?vd014) rfl (by kernel_rfl) (by kernel_rfl) (by kernel_rfl) (fun _ _ _ h => h) (by rfl) ?hd014 hS ?rd014
      case hd014 => intro w0 hS0; first | (go_simp; done) | (go_simp; with_reducible rfl)
      try simp only [Act.put, List.setIfInBounds_toArray, List.set_cons_zero, List.set_cons_succ]
      refine held_take (i := 15) (v := ?vd015) rfl (by kernel_rfl) (by kernel_rfl) (by kernel_rfl) (fun _ _ _ h => h) (by rfl) ?hd015 hS ?rd015
      case hd015 => intro w0 hS0; first | (go_simp; done) | (go_simp; with_reducible rfl)
      try simp only [Act.put, List.setIfInBounds_toArray, List.set_cons_zero, List.set_cons_succ]
      refine held_take (i := 17) (v := ?vd016) rfl (by kernel_rfl) (by kernel_rfl) (by kernel_rfl) (fun _ _ _ h => h) (by rfl) ?hd016 hS ?rd016
      case hd016 => intro w0 hS0; first | (go_simp; done) | (go_simp; with_reducible rfl)
      try simp only [Act.put, List.setIfInBounds_toArray, List.set_cons_zero, List.set_cons_succ]
      refine held_take (i := 20) (v := ?vd017) rfl (by kernel_rfl) (by kernel_rfl) (by kernel_rfl) (fun _ _ _ h => h) (by rfl) ?hd017 hS ?rd017
      case hd017 => intro w0 hS0; first | (go_simp; done) | (go_simp; with_reducible rfl)
      try simp only [Act.put, List.setIfInBounds_toArray, List.set_cons_zero, List.set_cons_succ]
      refine held_step (i := 16) rfl (by kernel_rfl) (by rfl) (fun K hK => ?_)
      go_simp
      go_at_call 22; have tok := T9.out; go_must (refine (sameF _ _ X Y _ (by have h := (IsMap.fr (IsMap.fr (IsMap.fr (IsMap.fr HMX1.out HF2.out (fun h => h)) HF3.out (fun h => h)) HF4.out (fun h => h)) HF5.out (fun h => h)); exact h) (by have h := (IsMap.fr (IsMap.fr (IsMap.fr HMY2.out HF3.out (fun h => h)) HF4.out (fun h => h)) HF5.out (fun h => h)); exact h) LXY.out).mono ?_; rintro e w' ⟨rfl, q, rfl⟩); clear T9
      go_wp2_with fail
      refine hK.out _ _ trivial ?_
      clear hK K
      try simp only [Act.put, List.setIfInBounds_toArray, List.set_cons_zero, List.set_cons_succ]
      refine held_step (i := 18) rfl (by kernel_rfl) (by rfl) (fun K hK => ?_)
      go_simp
      go_at_call 29; have tok := T10.out; go_must (refine (HBX.out _ _ _ (by have h := (BoolS.fr (BoolS.fr (BoolS.fr (BoolS.fr HLX1.out HF2.out (fun h => h)) HF3.out (fun h => h)) HF4.out (fun h => h)) HF5.out (fun h => h)); exact h)).mono ?_; rintro e w6 ⟨sX, rfl, hM, hF⟩; have HSX := Lib.hid hM; have HF6 : Hid (Fr (fun _ => False) w5 w6) := Lib.hid ⟨hF.1, hF.2, hF.3, hF.4, hF.5⟩; clear hM hF); clear T10
      go_wp2_with fail
      refine hK.out _ _ trivial ?_
      clear hK K
      try simp only [Act.put, List.setIfInBounds_toArray, List.set_cons_zero, List.set_cons_succ]
      refine held_mono (S' := fun w' => RowB w' sX 5 (bvs (bytesN X))) (fun _ _ => trivial) _ _ _ _ ?_
      clear hS; have hS := HSX.out
      refine held_take (i := 19) (v := ?vd018) rfl (by kernel_rfl) (by kernel_rfl) (by kernel_rfl) (fun _ _ _ h => h) (by rfl) ?hd018 hS ?rd018
      case hd018 => intro w0 hS0; have cv := HCX.out w0 sX ((M + 7) / 8) hS0; first | (go_simp; done) | (go_simp; with_reducible rfl)
      try simp only [Act.put, List.setIfInBounds_toArray, List.set_cons_zero, List.set_cons_succ]
      refine held_step (i := 21) rfl (by kernel_rfl) (by rfl) (fun K hK => ?_)
      go_simp
      go_at_call 29; have tok := T11.out; go_must (refine (HBY.out _ _ _ (by have h := (BoolS.fr (BoolS.fr (BoolS.fr (BoolS.fr HLY2.out HF3.out (fun h => h)) HF4.out (fun h => h)) HF5.out (fun h => h)) HF6.out (fun h => h)); exact h)).mono ?_; rintro e w7 ⟨sY, rfl, hM, hF⟩; have HSX2 := Lib.hid (HSX.out.fr hF (fun h => h)); have HSY := Lib.hid hM; have HF7 : Hid (Fr (fun _ => False) w6 w7) := Lib.hid ⟨hF.1, hF.2, hF.3, hF.4, hF.5⟩; clear hM hF); clear T11
      go_wp2_with fail
      refine hK.out _ _ HSX2.out ?_
      clear hK K
      try simp only [Act.put, List.setIfInBounds_toArray, List.set_cons_zero, List.set_cons_succ]
      refine held_mono (S' := fun w' => RowB w' sX 5 (bvs (bytesN X)) ∧ RowB w' sY 5 (bvs (bytesN Y))) (fun _ h => h.1) _ _ _ _ ?_
      clear hS; have hS := (⟨HSX2.out, HSY.out⟩ : RowB _ sX 5 (bvs (bytesN X)) ∧ RowB _ sY 5 (bvs (bytesN Y)))
      refine held_take (i := 22) (v := ?vd019) rfl (by kernel_rfl) (by kernel_rfl) (by kernel_rfl) (fun _ _ _ h => h) (by rfl) ?hd019 hS ?rd019
      case hd019 => intro w0 hS0; have cv := HCY.out w0 sY ((N + 7) / 8) hS0.2; first | (go_simp; done) | (go_simp; with_reducible rfl)
      try simp only [Act.put, List.setIfInBounds_toArray, List.set_cons_zero, List.set_cons_succ]
      refine held_take (i := 23) (v := ?vd020) rfl (by kernel_rfl) (by kernel_rfl) (by kernel_rfl) (fun _ _ _ h => h) (by rfl) ?hd020 hS ?rd020
      case hd020 => intro w0 hS0; first | (go_simp; done) | (go_simp; with_reducible rfl)
      try simp only [Act.put, List.setIfInBounds_toArray, List.set_cons_zero, List.set_cons_succ]
      refine held_take (i := 24) (v := ?vd021) rfl (by kernel_rfl) (by kernel_rfl) (by kernel_rfl) (fun _ _ _ h => h) (by rfl) ?hd021 hS ?rd021
      case hd021 => intro w0 hS0; first | (go_simp; done) | (go_simp; with_reducible rfl)
      try simp only [Act.put, List.setIfInBounds_toArray, List.set_cons_zero, List.set_cons_succ]
      refine held_skip (i := 25) rfl (by kernel_rfl) (by kernel_rfl) (by kernel_rfl) (fun _ _ _ h => h) (by rfl) hS ?rd022
      try simp only [Act.put, List.setIfInBounds_toArray, List.set_cons_zero, List.set_cons_succ]
      refine held_skip (i := 26) rfl (by kernel_rfl) (by kernel_rfl) (by kernel_rfl) (fun _ _ _ h => h) (by rfl) hS ?rd023
      try simp only [Act.put, List.setIfInBounds_toArray, List.set_cons_zero, List.set_cons_succ]
      refine held_skip (i := 27) rfl (by kernel_rfl) (by kernel_rfl) (by kernel_rfl) (fun _ _ _ h => h) (by rfl) hS ?rd024
      try simp only [Act.put, List.setIfInBounds_toArray, List.set_cons_zero, List.set_cons_succ]
      refine held_skip (i := 28) rfl (by kernel_rfl) (by kernel_rfl) (by kernel_rfl) (fun _ _ _ h => h) (by rfl) hS ?rd025
      try simp only [Act.put, List.setIfInBounds_toArray, List.set_cons_zero, List.set_cons_succ]
      refine held_skip (i := 29) rfl (by kernel_rfl) (by kernel_rfl) (by kernel_rfl) (fun _ _ _ h => h) (by rfl) hS ?rd026
      try simp only [Act.put, List.setIfInBounds_toArray, List.set_cons_zero, List.set_cons_succ]
      refine held_take (i := 30) (v := ?vd027) rfl (by kernel_rfl) (by kernel_rfl) (by kernel_rfl) (fun _ _ _ h => h) (by rfl) ?hd027 hS ?rd027
      case hd027 => intro w0 hS0; first | (go_simp; done) | (go_simp; with_reducible rfl)
      try simp only [Act.put, List.setIfInBounds_toArray, List.set_cons_zero, List.set_cons_succ]
      refine held_take (i := 31) (v := ?vd028) rfl (by kernel_rfl) (by kernel_rfl) (by kernel_rfl) (fun _ _ _ h => h) (by rfl) ?hd028 hS ?rd028
      case hd028 => intro w0 hS0; first | (go_simp; done) | (go_simp; with_reducible rfl)
      try simp only [Act.put, List.setIfInBounds_toArray, List.set_cons_zero, List.set_cons_succ]
      refine held_take (i := 32) (v := ?vd029) rfl (by kernel_rfl) (by kernel_rfl) (by kernel_rfl) (fun _ _ _ h => h) (by rfl) ?hd029 hS ?rd029
      case hd029 => intro w0 hS0; first | (go_simp; done) | (go_simp; with_reducible rfl)
      try simp only [Act.put, List.setIfInBounds_toArray, List.set_cons_zero, List.set_cons_succ]
      refine held_done (by kernel_rfl) ?_
      refine NoPanic.normal ?_
      go_wp2_with fail
      go_meet
      exact ⟨rfl, HF6.out.trans HF7.out (fun _ _ h => h)⟩
    · skip
      refine wp_region_noPanic ?_
      refine wp_region_held_drew (S := fun _ => True) (by kernel_rfl) trivial (fun hS => ?_)
      refine held_take (i := 0) (v := ?vd10) rfl (by kernel_rfl) (by kernel_rfl) (by kernel_rfl) (fun _ _ _ h => h) (by rfl) ?hd10 hS ?rd10
      case hd10 => intro w0 hS0; first | (go_simp; done) | (go_simp; with_reducible rfl)
      try simp only [Act.put, List.setIfInBounds_toArray, List.set_cons_zero, List.set_cons_succ]
      refine held_take (i := 1) (v := ?vd11) rfl (by kernel_rfl) (by kernel_rfl) (by kernel_rfl) (fun _ _ _ h => h) (by rfl) ?hd11 hS ?rd11
      case hd11 => intro w0 hS0; first | (go_simp; done) | (go_simp; with_reducible rfl)
      try simp only [Act.put, List.setIfInBounds_toArray, List.set_cons_zero, List.set_cons_succ]
      refine held_take (i := 2) (v := ?vd12) rfl (by kernel_rfl) (by kernel_rfl) (by kernel_rfl) (fun _ _ _ h => h) (by rfl) ?hd12 hS ?rd12
      case hd12 => intro w0 hS0; first | (go_simp; done) | (go_simp; with_reducible rfl)
      try simp only [Act.put, List.setIfInBounds_toArray, List.set_cons_zero, List.set_cons_succ]
      refine held_take (i := 3) (v := ?vd13) rfl (by kernel_rfl) (by kernel_rfl) (by kernel_rfl) (fun _ _ _ h => h) (by rfl) ?hd13 hS ?rd13
      case hd13 => intro w0 hS0; first | (go_simp; done) | (go_simp; with_reducible rfl)
      try simp only [Act.put, List.setIfInBounds_toArray, List.set_cons_zero, List.set_cons_succ]
      refine held_take (i := 4) (v := ?vd14) rfl (by kernel_rfl) (by kernel_rfl) (by kernel_rfl) (fun _ _ _ h => h) (by rfl) ?hd14 hS ?rd14
      case hd14 => intro w0 hS0; first | (go_simp; done) | (go_simp; with_reducible rfl)
      try simp only [Act.put, List.setIfInBounds_toArray, List.set_cons_zero, List.set_cons_succ]
      refine held_take (i := 5) (v := ?vd15) rfl (by kernel_rfl) (by kernel_rfl) (by kernel_rfl) (fun _ _ _ h => h) (by rfl) ?hd15 hS ?rd15
      case hd15 => intro w0 hS0; first | (go_simp; done) | (go_simp; with_reducible rfl)
      try simp only [Act.put, List.setIfInBounds_toArray, List.set_cons_zero, List.set_cons_succ]
      refine held_take (i := 6) (v := ?vd16) rfl (by kernel_rfl) (by kernel_rfl) (by kernel_rfl) (fun _ _ _ h => h) (by rfl) ?hd16 hS ?rd16
      case hd16 => intro w0 hS0; first | (go_simp; done) | (go_simp; with_reducible rfl)
      try simp only [Act.put, List.setIfInBounds_toArray, List.set_cons_zero, List.set_cons_succ]
      refine held_take (i := 7) (v := ?vd17) rfl (by kernel_rfl) (by kernel_rfl) (by kernel_rfl) (fun _ _ _ h => h) (by rfl) ?hd17 hS ?rd17
      case hd17 => intro w0 hS0; first | (go_simp; done) | (go_simp; with_reducible rfl)
      try simp only [Act.put, List.setIfInBounds_toArray, List.set_cons_zero, List.set_cons_succ]
      refine held_take (i := 8) (v := ?vd18) rfl (by kernel_rfl) (by kernel_rfl) (by kernel_rfl) (fun _ _ _ h => h) (by rfl) ?hd18 hS ?rd18
      case hd18 => intro w0 hS0; first | (go_simp; done) | (go_simp; with_reducible rfl)
      try simp only [Act.put, List.setIfInBounds_toArray, List.set_cons_zero, List.set_cons_succ]
      refine held_take (i := 9) (v := ?vd19) rfl (by kernel_rfl) (by kernel_rfl) (by kernel_rfl) (fun _ _ _ h => h) (by rfl) ?hd19 hS ?rd19
      case hd19 => intro w0 hS0; first | (go_simp; done) | (go_simp; with_reducible rfl)
      try simp only [Act.put, List.setIfInBounds_toArray, List.set_cons_zero, List.set_cons_succ]
      refine held_take (i := 10) (v := ?vd110) rfl (by kernel_rfl) (by kernel_rfl) (by kernel_rfl) (fun _ _ _ h => h) (by rfl) ?hd110 hS ?rd110
      case hd110 => intro w0 hS0; first | (go_simp; done) | (go_simp; with_reducible rfl)
      try simp only [Act.put, List.setIfInBounds_toArray, List.set_cons_zero, List.set_cons_succ]
      refine held_take (i := 11) (v := ?vd111) rfl (by kernel_rfl) (by kernel_rfl) (by kernel_rfl) (fun _ _ _ h => h) (by rfl) ?hd111 hS ?rd111
      case hd111 => intro w0 hS0; first | (go_simp; done) | (go_simp; with_reducible rfl)
      try simp only [Act.put, List.setIfInBounds_toArray, List.set_cons_zero, List.set_cons_succ]
      refine held_take (i := 12) (v := ?vd112) rfl (by kernel_rfl) (by kernel_rfl) (by kernel_rfl) (fun _ _ _ h => h) (by rfl) ?hd112 hS ?rd112
      case hd112 => intro w0 hS0; first | (go_simp; done) | (go_simp; with_reducible rfl)
      try simp only [Act.put, List.setIfInBounds_toArray, List.set_cons_zero, List.set_cons_succ]
      refine held_take (i := 13) (v := ?vd113) rfl (by kernel_rfl) (by kernel_rfl) (by kernel_rfl) (fun _ _ _ h => h) (by rfl) ?hd113 hS ?rd113
      case hd113 => intro w0 hS0; first | (go_simp; done) | (go_simp; with_reducible rfl)
      try simp only [Act.put, List.setIfInBounds_toArray, List.set_cons_zero, List.set_cons_succ]
      refine held_take (i := 14) (v := ?vd114) rfl (by kernel_rfl) (by kernel_rfl) (by kernel_rfl) (fun _ _ _ h => h) (by rfl) ?hd114 hS ?rd114
      case hd114 => intro w0 hS0; first | (go_simp; done) | (go_simp; with_reducible rfl)
      try simp only [Act.put, List.setIfInBounds_toArray, List.set_cons_zero, List.set_cons_succ]
      refine held_take (i := 15) (v := ?vd115) rfl (by kernel_rfl) (by kernel_rfl) (by kernel_rfl) (fun _ _ _ h => h) (by rfl) ?hd115 hS ?rd115
      case hd115 => intro w0 hS0; first | (go_simp; done) | (go_simp; with_reducible rfl)
      try simp only [Act.put, List.setIfInBounds_toArray, List.set_cons_zero, List.set_cons_succ]
      refine held_take (i := 17) (v := ?vd116) rfl (by kernel_rfl) (by kernel_rfl) (by kernel_rfl) (fun _ _ _ h => h) (by rfl) ?hd116 hS ?rd116
      case hd116 => intro w0 hS0; first | (go_simp; done) | (go_simp; with_reducible rfl)
      try simp only [Act.put, List.setIfInBounds_toArray, List.set_cons_zero, List.set_cons_succ]
      refine held_take (i := 20) (v := ?vd117) rfl (by kernel_rfl) (by kernel_rfl) (by kernel_rfl) (fun _ _ _ h => h) (by rfl) ?hd117 hS ?rd117
      case hd117 => intro w0 hS0; first | (go_simp; done) | (go_simp; with_reducible rfl)
      try simp only [Act.put, List.setIfInBounds_toArray, List.set_cons_zero, List.set_cons_succ]
      refine held_step (i := 16) rfl (by kernel_rfl) (by rfl) (fun K hK => ?_)
      go_simp
      go_at_call 22; have tok := T9.out; go_must (refine (sameF _ _ X Y _ (by have h := (IsMap.fr (IsMap.fr (IsMap.fr (IsMap.fr HMX1.out HF2.out (fun h => h)) HF3.out (fun h => h)) HF4.out (fun h => h)) HF5.out (fun h => h)); exact h) (by have h := (IsMap.fr (IsMap.fr (IsMap.fr HMY2.out HF3.out (fun h => h)) HF4.out (fun h => h)) HF5.out (fun h => h)); exact h) LXY.out).mono ?_; rintro e w' ⟨rfl, q, rfl⟩); clear T9
      go_wp2_with fail
      refine hK.out _ _ trivial ?_
      clear hK K
      try simp only [Act.put, List.setIfInBounds_toArray, List.set_cons_zero, List.set_cons_succ]
      refine held_step (i := 18) rfl (by kernel_rfl) (by rfl) (fun K hK => ?_)
      go_simp
      go_at_call 29; have tok := T10.out; go_must (refine (HBX.out _ _ _ (by have h := (BoolS.fr (BoolS.fr (BoolS.fr (BoolS.fr HLX1.out HF2.out (fun h => h)) HF3.out (fun h => h)) HF4.out (fun h => h)) HF5.out (fun h => h)); exact h)).mono ?_; rintro e w6 ⟨sX, rfl, hM, hF⟩; have HSX := Lib.hid hM; have HF6 : Hid (Fr (fun _ => False) w5 w6) := Lib.hid ⟨hF.1, hF.2, hF.3, hF.4, hF.5⟩; clear hM hF); clear T10
      go_wp2_with fail
      refine hK.out _ _ trivial ?_
      clear hK K
      try simp only [Act.put, List.setIfInBounds_toArray, List.set_cons_zero, List.set_cons_succ]
      refine held_mono (S' := fun w' => RowB w' sX 5 (bvs (bytesN X))) (fun _ _ => trivial) _ _ _ _ ?_
      clear hS; have hS := HSX.out
      refine held_take (i := 19) (v := ?vd118) rfl (by kernel_rfl) (by kernel_rfl) (by kernel_rfl) (fun _ _ _ h => h) (by rfl) ?hd118 hS ?rd118
      case hd118 => intro w0 hS0; have cv := HCX.out w0 sX ((M + 7) / 8) hS0; first | (go_simp; done) | (go_simp; with_reducible rfl)
      try simp only [Act.put, List.setIfInBounds_toArray, List.set_cons_zero, List.set_cons_succ]
      refine held_step (i := 21) rfl (by kernel_rfl) (by rfl) (fun K hK => ?_)
      go_simp
      go_at_call 29; have tok := T11.out; go_must (refine (HBY.out _ _ _ (by have h := (BoolS.fr (BoolS.fr (BoolS.fr (BoolS.fr HLY2.out HF3.out (fun h => h)) HF4.out (fun h => h)) HF5.out (fun h => h)) HF6.out (fun h => h)); exact h)).mono ?_; rintro e w7 ⟨sY, rfl, hM, hF⟩; have HSX2 := Lib.hid (HSX.out.fr hF (fun h => h)); have HSY := Lib.hid hM; have HF7 : Hid (Fr (fun _ => False) w6 w7) := Lib.hid ⟨hF.1, hF.2, hF.3, hF.4, hF.5⟩; clear hM hF); clear T11
      go_wp2_with fail
      refine hK.out _ _ HSX2.out ?_
      clear hK K
      try simp only [Act.put, List.setIfInBounds_toArray, List.set_cons_zero, List.set_cons_succ]
      refine held_mono (S' := fun w' => RowB w' sX 5 (bvs (bytesN X)) ∧ RowB w' sY 5 (bvs (bytesN Y))) (fun _ h => h.1) _ _ _ _ ?_
      clear hS; have hS := (⟨HSX2.out, HSY.out⟩ : RowB _ sX 5 (bvs (bytesN X)) ∧ RowB _ sY 5 (bvs (bytesN Y)))
      refine held_take (i := 22) (v := ?vd119) rfl (by kernel_rfl) (by kernel_rfl) (by kernel_rfl) (fun _ _ _ h => h) (by rfl) ?hd119 hS ?rd119
      case hd119 => intro w0 hS0; have cv := HCY.out w0 sY ((N + 7) / 8) hS0.2; first | (go_simp; done) | (go_simp; with_reducible rfl)
      try simp only [Act.put, List.setIfInBounds_toArray, List.set_cons_zero, List.set_cons_succ]
      refine held_take (i := 23) (v := ?vd120) rfl (by kernel_rfl) (by kernel_rfl) (by kernel_rfl) (fun _ _ _ h => h) (by rfl) ?hd120 hS ?rd120
      case hd120 => intro w0 hS0; first | (go_simp; done) | (go_simp; with_reducible rfl)
      try simp only [Act.put, List.setIfInBounds_toArray, List.set_cons_zero, List.set_cons_succ]
      refine held_take (i := 24) (v := ?vd121) rfl (by kernel_rfl) (by kernel_rfl) (by kernel_rfl) (fun _ _ _ h => h) (by rfl) ?hd121 hS ?rd121
      case hd121 => intro w0 hS0; first | (go_simp; done) | (go_simp; with_reducible rfl)
      try simp only [Act.put, List.setIfInBounds_toArray, List.set_cons_zero, List.set_cons_succ]
      refine held_take (i := 25) (v := ?vd122) rfl (by kernel_rfl) (by kernel_rfl) (by kernel_rfl) (fun _ _ _ h => h) (by rfl) ?hd122 hS ?rd122
      case hd122 => intro w0 hS0; first | (go_simp; done) | (go_simp; with_reducible rfl)
      try simp only [Act.put, List.setIfInBounds_toArray, List.set_cons_zero, List.set_cons_succ]
      refine held_take (i := 26) (v := ?vd123) rfl (by kernel_rfl) (by kernel_rfl) (by kernel_rfl) (fun _ _ _ h => h) (by rfl) ?hd123 hS ?rd123
      case hd123 => intro w0 hS0; first | (go_simp; done) | (go_simp; with_reducible rfl)
      try simp only [Act.put, List.setIfInBounds_toArray, List.set_cons_zero, List.set_cons_succ]
      refine held_take (i := 27) (v := ?vd124) rfl (by kernel_rfl) (by kernel_rfl) (by kernel_rfl) (fun _ _ _ h => h) (by rfl) ?hd124 hS ?rd124
      case hd124 => intro w0 hS0; first | (go_simp; done) | (go_simp; with_reducible rfl)
      try simp only [Act.put, List.setIfInBounds_toArray, List.set_cons_zero, List.set_cons_succ]
      refine held_take (i := 28) (v := ?vd125) rfl (by kernel_rfl) (by kernel_rfl) (by kernel_rfl) (fun _ _ _ h => h) (by rfl) ?hd125 hS ?rd125
      case hd125 => intro w0 hS0; first | (go_simp; done) | (go_simp; with_reducible rfl)
      try simp only [Act.put, List.setIfInBounds_toArray, List.set_cons_zero, List.set_cons_succ]
      refine held_take (i := 29) (v := ?vd126) rfl (by kernel_rfl) (by kernel_rfl) (by kernel_rfl) (fun _ _ _ h => h) (by rfl) ?hd126 hS ?rd126
      case hd126 => intro w0 hS0; first | (go_simp; done) | (go_simp; with_reducible rfl)
      try simp only [Act.put, List.setIfInBounds_toArray, List.set_cons_zero, List.set_cons_succ]
      refine held_take (i := 30) (v := ?vd127) rfl (by kernel_rfl) (by kernel_rfl) (by kernel_rfl) (fun _ _ _ h => h) (by rfl) ?hd127 hS ?rd127
      case hd127 => intro w0 hS0; first | (go_simp; done) | (go_simp; with_reducible rfl)
      try simp only [Act.put, List.setIfInBounds_toArray, List.set_cons_zero, List.set_cons_succ]
      refine held_take (i := 31) (v := ?vd128) rfl (by kernel_rfl) (by kernel_rfl) (by kernel_rfl) (fun _ _ _ h => h) (by rfl) ?hd128 hS ?rd128
      case hd128 => intro w0 hS0; first | (go_simp; done) | (go_simp; with_reducible rfl)
      try simp only [Act.put, List.setIfInBounds_toArray, List.set_cons_zero, List.set_cons_succ]
      refine held_take (i := 32) (v := ?vd129) rfl (by kernel_rfl) (by kernel_rfl) (by kernel_rfl) (fun _ _ _ h => h) (by rfl) ?hd129 hS ?rd129
      case hd129 => intro w0 hS0; first | (go_simp; done) | (go_simp; with_reducible rfl)
      try simp only [Act.put, List.setIfInBounds_toArray, List.set_cons_zero, List.set_cons_succ]
      refine held_done (by kernel_rfl) ?_
      refine NoPanic.normal ?_
      go_wp2_with fail
      go_meet
      exact ⟨rfl, HF6.out.trans HF7.out (fun _ _ h => h)⟩
  case rest =>
    obtain ⟨rfl, hFc⟩ := hcut
    have HF6 := Lib.hid hFc
    clear hFc
    go_wp2_with (first
      | (go_at_call 15; have tok := T12.out; go_must (refine (awake_walk _ (by have h := (Tab.fr (Tab.fr (Tab.fr (Tab.fr (Tab.fr (Tab.fr HT.out HF1.out (fun h => h)) HF2.out (fun h => h)) HF3.out (fun h => h)) HF4.out (fun h => h)) HF5.out (fun h => h)) HF6.out (fun h => h)); exact h)).mono ?_; rintro e w8 ⟨rfl, hF⟩; have HF8 : Hid (Fr (fun _ => False) wc w8) := Lib.hid ⟨hF.1, hF.2, hF.3, hF.4, hF.5⟩; clear hF); clear T12))
    go_ret
    exact ⟨rfl, ((((((HF1.out.trans HF2.out (fun _ _ h => h)).trans HF3.out (fun _ _ h => h)).trans HF4.out (fun _ _ h => h)).trans HF5.out (fun _ _ h => h)).trans HF6.out (fun _ _ h => h)).trans HF8.out (fun _ _ h => h))⟩
end Go.Proofs.YtbnjeglbbadcbaaDoor
