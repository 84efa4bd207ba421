/- The law BitsKnown, walked. -/
import Derived.Test.YtbnjeglbbadcbaaDoorW22
import Derived.Test.YtbnjeglbbadcbaaDoorW21
namespace Go.Proofs.YtbnjeglbbadcbaaDoor
open Go.RowKit
open BM
set_option linter.unusedVariables false

theorem kn_next : NextV exL true 8 0 4 := by
  unfold NextV
  rw [if_pos (by rw [exL_length]; decide)]
  refine ⟨10, ⟨by decide, by decide, ?_, fun h => by rw [exL_length] at h; omega⟩, ?_⟩
  · have : ∀ q, q < 10 → 8 ≤ q → bt exL q = !true := by decide
    exact fun q h1 h2 => this q h2 h1
  · rw [if_neg (by rw [exL_length]; decide)]; exact ⟨rfl, rfl⟩
theorem kn_last1 : LastV exL true 5 2 0 := by
  unfold LastV
  rw [if_pos (by rw [exL_length]; decide)]
  refine Or.inl ⟨2, ⟨by decide, by decide, ?_⟩, rfl, rfl⟩
  have : ∀ q, q < 5 → 2 < q → bt exL q = !true := by decide
  exact fun q h1 h2 => this q h2 h1
theorem kn_last2 : LastV exL true 1 0 4 := by
  unfold LastV
  rw [if_pos (by rw [exL_length]; decide)]
  refine Or.inr ⟨?_, rfl, rfl⟩
  have : ∀ q, q < 1 → bt exL q = !true := by decide
  exact this
def kL2 : List Bool := turnL exL 0
def kL3 : List Bool := fillL kL2 0 3 false
theorem kL2_length : kL2.length = 10 := by decide
theorem kL3_length : kL3.length = 10 := by decide
theorem kL3_bytes : bytesN kL3 = [224, 0] := by decide

set_option maxRecDepth 100000 in
set_option maxHeartbeats 1000000 in
theorem known_core (w : World) (L L2 L3 : List Bool) (HT : Hid (Tab w))
    (H0 : Hid (∀ w0 : World, Calls Tryd.prog 34 #[] w0 fun e w' => ∃ b, e = .returned (.pointer (some ⟨b, 0, none⟩)) ∧ IsMap w' b L ∧ w0.heap.size ≤ b ∧ Fr (fun _ => False) w0 w'))
    (H1 : Hid (∀ (w0 : World) (b : Nat), IsMap w0 b L → Tab w0 → Calls Tryd.prog 14 #[.pointer (some ⟨b, 0, none⟩), .int .i64 2, .int .i64 4] w0 fun e w' => e = .returned (.tuple #[.int .i64 2, .int .i64 0]) ∧ ∃ q, w' = w0.drewN q))
    (H2 : Hid (∀ (w0 : World) (b : Nat), IsMap w0 b L → Tab w0 → Calls Tryd.prog 14 #[.pointer (some ⟨b, 0, none⟩), .int .i64 5, .int .i64 6] w0 fun e w' => e = .returned (.tuple #[.int .i64 0, .int .i64 7]) ∧ ∃ q, w' = w0.drewN q))
    (H3 : Hid (∀ (w0 : World) (b : Nat), IsMap w0 b L → Tab w0 → Calls Tryd.prog 30 #[.pointer (some ⟨b, 0, none⟩), .int .i64 8, .bool true] w0 fun e w' => e = .returned (.tuple #[.int .i64 0, .int .i64 4]) ∧ ∃ q, w' = w0.drewN q))
    (H4 : Hid (∀ (w0 : World) (b : Nat), IsMap w0 b L → Tab w0 → Calls Tryd.prog 32 #[.pointer (some ⟨b, 0, none⟩), .int .i64 5, .bool true] w0 fun e w' => e = .returned (.tuple #[.int .i64 2, .int .i64 0]) ∧ ∃ q, w' = w0.drewN q))
    (H5 : Hid (∀ (w0 : World) (b : Nat), IsMap w0 b L → Tab w0 → Calls Tryd.prog 32 #[.pointer (some ⟨b, 0, none⟩), .int .i64 1, .bool true] w0 fun e w' => e = .returned (.tuple #[.int .i64 0, .int .i64 4]) ∧ ∃ q, w' = w0.drewN q))
    (H6 : Hid (∀ (w0 : World) (b : Nat), IsMap w0 b L → Tab w0 → Calls Tryd.prog 12 #[.pointer (some ⟨b, 0, none⟩), .int .i64 0, .int .i64 3, .bool true] w0 fun e w' => e = .returned (.tuple #[.int .i64 5, .int .i64 0]) ∧ ∃ q, w' = w0.drewN q))
    (HA : Hid (∀ (w0 : World) (b c : Nat), Arg w0 (some ⟨b, 0, none⟩) [230, 4] → Calls Tryd.prog 19 #[.int .i64 10, .slice (some ⟨b, 0, none⟩) 2 c] w0 fun e w' => e = .returned (.tuple #[.pointer none, .int .i64 6]) ∧ Fr (fun _ => False) w0 w'))
    (HB : Hid (∀ (w0 : World) (b c : Nat), Arg w0 (some ⟨b, 0, none⟩) [230] → Calls Tryd.prog 19 #[.int .i64 10, .slice (some ⟨b, 0, none⟩) 1 c] w0 fun e w' => e = .returned (.tuple #[.pointer none, .int .i64 6]) ∧ Fr (fun _ => False) w0 w'))
    (HC : Hid (∀ (w0 : World) (b : Nat), IsMap w0 b L → Calls Tryd.prog 35 #[.pointer (some ⟨b, 0, none⟩), .int .i64 0] w0 fun e w' => e = .returned (.int .i64 0) ∧ IsMap w' b L2 ∧ Fr (fun k => k = b) w0 w'))
    (HD : Hid (∀ (w0 : World) (b : Nat), IsMap w0 b L2 → Calls Tryd.prog 36 #[.pointer (some ⟨b, 0, none⟩), .int .i64 0, .int .i64 3, .bool false] w0 fun e w' => e = .returned (.int .i64 0) ∧ IsMap w' b L3 ∧ Fr (fun k => k = b) w0 w'))
    (HE : Hid (∀ (w0 : World) (b : Nat), IsMap w0 b L3 → Calls Tryd.prog 21 #[.pointer (some ⟨b, 0, none⟩)] w0 fun e w' => e = .returned (.slice (some ⟨w0.heap.size, 0, none⟩) 2 2) ∧ (convert 23 9 (.slice (some ⟨w0.heap.size, 0, none⟩) 2 2)).run Tryd.prog w' = .ok (.string ⟨#[224, 0]⟩) w' ∧ Fr (fun _ => False) w0 w')) :
    Calls Tryd.prog 8 #[] w fun e w' => e = .returned (.bool true) ∧ Fr (fun _ => False) w w' := by
  have T1 : Hid True := Lib.hid trivial
  have T2 : Hid True := Lib.hid trivial
  have T3 : Hid True := Lib.hid trivial
  have T4 : Hid True := Lib.hid trivial
  have T5 : Hid True := Lib.hid trivial
  have T6 : Hid True := Lib.hid trivial
  have T7 : Hid True := Lib.hid trivial
  have T8 : Hid True := Lib.hid trivial
  go_enter Tryd.func8, Tryd.ntmps8
  go_wp2_with (first
    | (go_at_call 34; go_must (refine (H0.out _).mono ?_; rintro e w1 ⟨b, rfl, hM, hb, hF⟩; have HM := Lib.hid hM; have Hb := Lib.hid hb; have HF := Lib.hid hF; have HT1 := Lib.hid (HT.out.fr hF (fun h => h)); clear hM hF hb))
    | (go_at_call 14; have tok := T1.out; go_must (refine (H1.out _ b (by exact HM.out) (by exact HT1.out)).mono ?_; rintro e w' ⟨rfl, q, rfl⟩); clear T1)
    | (go_at_call 14; have tok := T2.out; go_must (refine (H2.out _ b (by exact HM.out) (by exact HT1.out)).mono ?_; rintro e w' ⟨rfl, q, rfl⟩); clear T2)
    | (go_at_call 30; have tok := T3.out; go_must (refine (H3.out _ b (by exact HM.out) (by exact HT1.out)).mono ?_; rintro e w' ⟨rfl, q, rfl⟩); clear T3)
    | (go_at_call 32; have tok := T4.out; go_must (refine (H4.out _ b (by exact HM.out) (by exact HT1.out)).mono ?_; rintro e w' ⟨rfl, q, rfl⟩); clear T4)
    | (go_at_call 32; have tok := T5.out; go_must (refine (H5.out _ b (by exact HM.out) (by exact HT1.out)).mono ?_; rintro e w' ⟨rfl, q, rfl⟩); clear T5)
    | (go_at_call 12; have tok := T6.out; go_must (refine (H6.out _ b (by exact HM.out) (by exact HT1.out)).mono ?_; rintro e w' ⟨rfl, q, rfl⟩); clear T6)
    | (go_at_call 19; have tok := T7.out; go_must (refine (HA.out _ _ _ (RowB.new _ 5 (bvs [230, 4])).arg).mono ?_; rintro e w2 ⟨rfl, hF⟩; have HF2 : Hid (Fr (fun _ => False) w1 w2) := Lib.hid ((((Fr.refl _ w1).drewN _).alloc _).trans hF (fun _ _ h => h)); clear hF); clear T7)
    | (go_at_call 19; have tok := T8.out; go_must (refine (HB.out _ _ _ (RowB.new _ 5 (bvs [230])).arg).mono ?_; rintro e w3 ⟨rfl, hF⟩; have HF3 : Hid (Fr (fun _ => False) w2 w3) := Lib.hid (((Fr.refl _ w2).alloc _).trans hF (fun _ _ h => h)); clear hF); clear T8)
    | (go_at_call 35; go_must (refine (HC.out _ b (by have h := (HM.out.fr HF2.out (fun h => h)).fr HF3.out (fun h => h); exact h)).mono ?_; rintro e w4 ⟨rfl, hM, hF⟩; have HM4 := Lib.hid hM; have HF4 := Lib.hid hF; clear hM hF))
    | (go_at_call 36; go_must (refine (HD.out _ b (by exact HM4.out)).mono ?_; rintro e w5 ⟨rfl, hM, hF⟩; have HM5 := Lib.hid hM; have HF5 := Lib.hid hF; clear hM hF))
    | (go_at_call 21; go_must (refine (HE.out _ b (by exact HM5.out)).mono ?_; rintro e w6 ⟨rfl, cv, hF⟩; have HF6 := Lib.hid hF; clear hF))
    | (go_at_call 15; go_must (refine (awake_walk _ (by
        have hb0 : ¬ (0 = b) := by have := HT.out.lt; have := Hb.out; omega
        have h := ((((HT1.out.fr HF2.out (fun h => h)).fr HF3.out (fun h => h)).fr HF4.out hb0).fr HF5.out hb0).fr HF6.out (fun h => h); exact h)).mono ?_; rintro e w7 ⟨rfl, hF⟩; have HF7 := Lib.hid hF; clear hF)))
  go_ret
  exact ⟨rfl, (((((HF.out.trans HF2.out (fun _ _ h => h)).trans HF3.out (fun _ _ h => h)).trans HF4.out (fun k hk e => by have := Hb.out; omega)).trans HF5.out (fun k hk e => by have := Hb.out; omega)).trans HF6.out (fun _ _ h => h)).trans HF7.out (fun _ _ h => h)⟩

theorem loadE_a : loadE 10 [230, 4] = 6 := by
  unfold loadE
  rw [if_pos (by decide), if_neg (by decide)]
theorem loadE_b : loadE 10 [230] = 6 := by
  unfold loadE
  rw [if_pos (by decide), if_neg (by decide)]
/-- **BitsKnown** -/
theorem known_walk (w : World) (hT : Tab w) : Calls Tryd.prog 8 #[] w fun e w' => e = .returned (.bool true) ∧ Fr (fun _ => False) w w' := by
  refine known_core w exL kL2 kL3 (Lib.hid hT) (Lib.hid ex_walk) (Lib.hid ?_) (Lib.hid ?_) (Lib.hid ?_) (Lib.hid ?_) (Lib.hid ?_) (Lib.hid ?_) (Lib.hid ?_) (Lib.hid ?_) (Lib.hid ?_) (Lib.hid ?_) (Lib.hid ?_)
  · intro w0 b hm _
    have := count_walk b exL 2 4 w0 hm
    rw [show countV exL 2 4 = 2 by decide, show inE exL.length 2 4 = 0 by rw [exL_length]; decide] at this
    exact this
  · intro w0 b hm _
    have := count_walk b exL 5 6 w0 hm
    rw [show countV exL 5 6 = 0 by decide, show inE exL.length 5 6 = 7 by rw [exL_length]; decide] at this
    exact this
  · intro w0 b hm hT
    refine (next_walk b exL 8 true w0 hm hT).mono ?_
    rintro e w' ⟨a, c, rfl, hn, hq⟩
    obtain ⟨rfl, rfl⟩ := hn.uniq kn_next
    exact ⟨rfl, hq⟩
  · intro w0 b hm _
    refine (last_walk b exL 5 true w0 hm).mono ?_
    rintro e w' ⟨a, c, rfl, hn, hq⟩
    obtain ⟨rfl, rfl⟩ := hn.uniq kn_last1
    exact ⟨rfl, hq⟩
  · intro w0 b hm _
    refine (last_walk b exL 1 true w0 hm).mono ?_
    rintro e w' ⟨a, c, rfl, hn, hq⟩
    obtain ⟨rfl, rfl⟩ := hn.uniq kn_last2
    exact ⟨rfl, hq⟩
  · intro w0 b hm hT
    refine (run_walk b exL 0 3 true w0 hm hT (by decide)).mono ?_
    rintro e w' ⟨a, c, rfl, hn, hq⟩
    obtain ⟨rfl, rfl⟩ := hn.uniq ex_run3
    exact ⟨rfl, hq⟩
  · intro w0 b c hA
    refine (load_walk 10 (some ⟨b, 0, none⟩) [230, 4] c w0 hA (by decide) (fun h => by cases h)).mono ?_
    rintro e w' ⟨hF, h⟩
    rw [loadE_a, if_neg (by decide)] at h
    exact ⟨h, hF⟩
  · intro w0 b c hA
    refine (load_walk 10 (some ⟨b, 0, none⟩) [230] c w0 hA (by decide) (fun h => by cases h)).mono ?_
    rintro e w' ⟨hF, h⟩
    rw [loadE_b, if_neg (by decide)] at h
    exact ⟨h, hF⟩
  · intro w0 b hm
    have := turn_walk b exL 0 w0 hm
    rw [show bitE exL.length 0 = 0 by rw [exL_length]; decide] at this
    exact this
  · intro w0 b hm
    have := fill_walk b kL2 0 3 false w0 hm
    rw [show inE kL2.length 0 3 = 0 by rw [kL2_length]; decide] at this
    exact this
  · intro w0 b hm
    refine (bytes_walk b kL3 w0 hm).mono ?_
    rintro e w' ⟨rfl, hR, hF⟩
    have hc := conv_bytesN w' w0.heap.size 2 kL3 hR
    rw [kL3_length, kL3_bytes] at hc
    rw [kL3_length]
    exact ⟨rfl, hc, hF⟩
end Go.Proofs.YtbnjeglbbadcbaaDoor
