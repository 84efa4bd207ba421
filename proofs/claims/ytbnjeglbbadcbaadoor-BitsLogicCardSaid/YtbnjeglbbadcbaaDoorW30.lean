/- The law BitsPlays, walked. -/
import Derived.Test.YtbnjeglbbadcbaaDoorW29
namespace Go.Proofs.YtbnjeglbbadcbaaDoor
open Go.RowKit
open BM
set_option linter.unusedVariables false

theorem plays_many (n : Nat) (a0 s0 : Option Addr) (bl bc sl sc : Nat) (w : World) (hT : Tab w) (h : 100 < sl) :
    Calls Tryd.prog 9 #[.int .u16 n, .slice a0 bl bc, .slice s0 sl sc] w fun e w' => e = .returned (.bool true) ∧ Fr (fun _ => False) w w' := by
  have h1 : (100 : Int) < (sl : Int) := by omega
  have HT := Lib.hid hT
  clear hT h
  go_enter Tryd.func9, Tryd.ntmps9
  go_wp2_with (first
    | (go_at_call 15; go_must (refine (awake_walk _ HT.out).mono ?_; rintro e w2 ⟨rfl, hF2⟩; have HF2 := Lib.hid hF2; clear hF2)))
  go_ret
  exact ⟨rfl, HF2.out⟩
set_option maxRecDepth 100000 in
set_option maxHeartbeats 2000000 in
theorem plays_core (n : Nat) (a0 : Option Addr) (bl bc sl sc b o N : Nat) (fq : Nat → Nat) (fI fJ : Nat → Int) (fV : Nat → Bool) (X0 : List Bool) (w : World) (HT : Hid (Tab w)) (hX : X0.length = N) (hN6 : N ≤ 600) (hs : sl ≤ 100)
    (hb : b < w.heap.size)
    (HC : Hid (∀ i : Nat, i < sl → fq i < 256 ∧ fJ i ≤ 9223372036854775807 ∧ w.cell? ⟨b, o + i * 4, none⟩ = some (.int .u8 (fq i)) ∧ w.cell? ⟨b, o + i * 4 + 1, none⟩ = some (.int .i64 (fI i)) ∧ w.cell? ⟨b, o + i * 4 + 2, none⟩ = some (.int .i64 (fJ i)) ∧ w.cell? ⟨b, o + i * 4 + 3, none⟩ = some (.bool (fV i))))
    (HMX : Hid (Calls Tryd.prog 11 #[.int .u16 n, .slice a0 bl bc] w (Got w X0))) :
    Calls Tryd.prog 9 #[.int .u16 n, .slice a0 bl bc, .slice (some ⟨b, o, none⟩) sl sc] w fun e w' => e = .returned (.bool true) ∧ Fr (fun _ => False) w w' := by
  have LX := Lib.hid hX
  have h1 : ((sl : Nat) : Int) ≤ 100 := by omega
  clear hX
  go_enter Tryd.func9, Tryd.ntmps9
  go_wp2_with (first
    | (go_at_call 11; go_must (refine (HMX.out).mono ?_; rintro e w1 ⟨m1, a1, c1, rfl, hM, hB, hm, -, hF⟩; rw [LX.out]; have HM1 := Lib.hid hM; have HB1 := Lib.hid hB; have HF1 := Lib.hid hF; have Hm1 := Lib.hid hm; clear hM hB hF hm)))
  clear HMX
  go_loopw [7, 8, 9] (fun v7 v8 i wr => ∃ (k m a c : Nat) (X : List Bool), k ≤ sl ∧ i = .int .i64 k ∧ v7 = .pointer (some ⟨m, 0, none⟩) ∧ v8 = .slice (some ⟨a, 0, none⟩) N c ∧ X.length = N ∧ IsMap wr m X ∧ BoolS wr a X ∧ w.heap.size ≤ m ∧ Fr (fun _ => False) w wr) (fun _ _ i _ => (sl - intOf i).toNat)
  case atStart => exact ⟨0, m1, a1, c1, X0, by omega, rfl, rfl, rfl, LX.out, HM1.out, HB1.out, Hm1.out, HF1.out⟩
  case round =>
    obtain ⟨k, m, a, c, X, hk, rfl, rfl, rfl, hX, hM, hB, hm, hF⟩ := hrel
    have HLX := Lib.hid hX
    have HM := Lib.hid hM
    have HB := Lib.hid hB
    have Hm := Lib.hid hm
    have HF := Lib.hid hF
    have HTr := Lib.hid (HT.out.fr hF (fun h => h))
    by_cases hlt : k < sl
    · obtain ⟨hq, hJ, e0, e1, e2, e3⟩ := HC.out k (by omega)
      have hfb := hF.block b hb (fun h => h)
      have f0 := (World.cell?_of_block (a := ⟨b, o + k * 4, none⟩) hfb).trans e0
      have f1 := (World.cell?_of_block (a := ⟨b, o + k * 4 + 1, none⟩) hfb).trans e1
      have f2 := (World.cell?_of_block (a := ⟨b, o + k * 4 + 2, none⟩) hfb).trans e2
      have f3 := (World.cell?_of_block (a := ⟨b, o + k * 4 + 3, none⟩) hfb).trans e3
      clear e0 e1 e2 e3 hfb hX hM hB hm hF
      have HD := Lib.hid (fun (w0 : World) (hT : Tab w0) (hm : IsMap w0 m X) (ha : BoolS w0 a X) => do_walk m a c _ X (fI k) (fJ k) (fV k) w0 hT hm ha (by rw [HLX.out]; omega) hq hJ)
      rw [HLX.out] at HD
      generalize fq k = q at *
      generalize fI k = I at *
      generalize fJ k = J at *
      generalize fV k = V at *
      go_wp2_with (first
        | (go_at_call 37; go_must (refine (HD.out _ (by exact HTr.out) (by exact HM.out) (by exact HB.out)).mono ?_; rintro e w2 ⟨m', a', c', Y, rfl, hYN, hM2, hB2, hmm, hF2⟩; have HYN := Lib.hid hYN; have HM2 := Lib.hid hM2; have HB2 := Lib.hid hB2; have Hmm := Lib.hid hmm; have HF2 : Hid (Fr (fun k => k = m) wr w2) := Lib.hid ⟨hF2.1, hF2.2, hF2.3, hF2.4, hF2.5⟩; clear hYN hM2 hB2 hmm hF2))
        | (go_at_call 18; go_must (refine (lsamet m' a' N c' Y Y _ (by exact HM2.out) (by exact HB2.out) HYN.out rfl).mono ?_; rintro e w3 ⟨rfl, hF3⟩; have HF3 : Hid (Fr (fun _ => False) w2 w3) := Lib.hid ⟨hF3.1, hF3.2, hF3.3, hF3.4, hF3.5⟩; clear hF3)))
      go_roundw
      case rel =>
        refine ⟨k + 1, m', a', c', Y, by omega, by go_num, rfl, rfl, HYN.out, HM2.out.fr HF3.out (fun h => h), HB2.out.fr HF3.out (fun h => h), ?_, ?_⟩
        · rcases Hmm.out with h | h
          · rw [h]; exact Hm.out
          · exact Nat.le_trans HF.out.size h
        · exact (HF.out.trans HF2.out (fun x hx e => by have := Hm.out; omega)).trans HF3.out (fun _ _ h => h)
      case measure => simp [intOf]; omega
    · clear hX hM hB hm hF
      go_wp2_with (first
        | (go_at_call 15; go_must (refine (awake_walk _ (by exact HTr.out)).mono ?_; rintro e w2 ⟨rfl, hF2⟩; have HF2 : Hid (Fr (fun _ => False) wr w2) := Lib.hid ⟨hF2.1, hF2.2, hF2.3, hF2.4, hF2.5⟩; clear hF2)))
      go_ret
      exact ⟨rfl, HF.out.trans HF2.out (fun _ _ h => h)⟩
end Go.Proofs.YtbnjeglbbadcbaaDoor
