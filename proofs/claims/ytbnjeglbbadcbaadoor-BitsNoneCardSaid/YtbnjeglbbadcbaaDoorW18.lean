/- The law's own helpers: same, made, example, awake. -/
import Derived.Test.YtbnjeglbbadcbaaDoorW17
namespace Go.Proofs.YtbnjeglbbadcbaaDoor
open Go.RowKit
open BM
set_option linter.unusedVariables false

theorem bytesN_inj {l k : List Bool} (h : l.length = k.length) (e : bytesN l = bytesN k) : l = k := by
  apply ext_bt h
  intro p hp
  have h1 : p / 8 < (bytesN l).length := by rw [bytesN_length]; omega
  have h2 : p / 8 < (bytesN k).length := by rw [bytesN_length]; omega
  have h3 : (bytesN l)[p / 8] = (bytesN k)[p / 8] := by simp only [e]
  simp only [bytesN, List.getElem_map, List.getElem_range] at h3
  have h4 := congrArg (fun x => x.testBit (p % 8)) h3
  simp only [byteN_testBit] at h4
  rw [show 8 * (p / 8) + p % 8 = p by omega] at h4
  have : p % 8 < 8 := by omega
  simpa [this] using h4

set_option maxRecDepth 100000 in
theorem same_nil (a0 : Option Addr) (n c : Nat) (w : World) :
    Calls Tryd.prog 18 #[.pointer none, .slice a0 n c] w fun e w' => e = .returned (.bool false) ∧ Fr (fun _ => False) w w' := by
  go_enter Tryd.func18, Tryd.ntmps18
  go_wp2_with fail
  go_quiet (fail)
  go_wp2
  go_ret
  exact ⟨rfl, (Fr.refl _ w).drewN _⟩
set_option maxRecDepth 100000 in
theorem lsame_ne (b n : Nat) (a0 : Option Addr) (m c : Nat) (w : World) (h : n ≠ m) (h65 : w.cell? ⟨b, 65, none⟩ = some (.bool true)) (h64 : w.cell? ⟨b, 64, none⟩ = some (.int .i64 n)) :
    Calls Tryd.prog 18 #[.pointer (some ⟨b, 0, none⟩), .slice a0 m c] w fun e w' => e = .returned (.bool false) ∧ Fr (fun _ => False) w w' := by
  have t1 : ((n : Int) == (m : Int)) = false := by simp; omega
  clear h
  go_enter Tryd.func18, Tryd.ntmps18
  go_wp2_with fail
  go_quiet ((go_at_call 13; exact Calls.quiet_of_same ((len_walk b n _ (by exact h65) (by exact h64)).mono fun _ _ h => ⟨h.1, h.2.symm⟩)))
  go_wp2
  go_ret
  exact ⟨rfl, (Fr.refl _ w).drewN _⟩
theorem conv_bytesN (w : World) (b c : Nat) (l : List Bool) (h : RowB w b 5 (bvs (bytesN l))) : (convert 23 9 (.slice (some ⟨b, 0, none⟩) ((l.length + 7) / 8) c)).run Tryd.prog w = .ok (.string (strOf (bytesN l))) w := by
  have := convert_bytes b c (bytesN l) [] w (by rw [List.append_nil]; exact h)
  rw [bytesN_length] at this
  exact this
set_option maxRecDepth 100000 in
set_option maxHeartbeats 1000000 in
theorem lsame_eq (b a c : Nat) (l k : List Bool) (w : World) (hm : IsMap w b l) (hk : BoolS w a k) (h : l.length = k.length) :
    Calls Tryd.prog 18 #[.pointer (some ⟨b, 0, none⟩), .slice (some ⟨a, 0, none⟩) k.length c] w fun e w' => e = .returned (.bool (decide (bytesN l = bytesN k))) ∧ Fr (fun _ => False) w w' := by
  have h65 := hm.1.made
  have h64 := hm.1.len
  have hl := hm.2
  have t1 : ((l.length : Int) == (k.length : Int)) = true := by simp [h]
  have HE := Lib.hid (strOf_eq (bytesN l) (bytesN k) (bytesN_lt l) (bytesN_lt k))
  have HM := Lib.hid hm
  have HK := Lib.hid hk
  have HH := Lib.hid h
  clear hm hk h
  go_enter Tryd.func18, Tryd.ntmps18
  go_wp2_with fail
  go_region_with (first
    | (go_at_call 13; refine (len_walk b l.length _ (by exact h65) (by exact h64)).mono ?_; rintro e w' ⟨rfl, rfl⟩)
    | (go_at_call 21; go_must (refine (bytes_walk b l _ (by exact HM.out)).mono ?_; rintro e w1 ⟨rfl, hR, hF⟩; have HR := Lib.hid hR; have HF := Lib.hid (((Fr.refl (fun _ => False) w).drew).trans hF (fun _ _ h => h)); have cv : (convert 23 9 (.slice (some ⟨w.heap.size, 0, none⟩) ((l.length + 7) / 8) ((l.length + 7) / 8))).run Tryd.prog w1 = .ok (.string (strOf (bytesN l))) w1 := conv_bytesN w1 _ _ l hR; clear hR hF))
    | (go_at_call 29; go_must (refine (rbytes_walk a c k _ _ (HK.out.fr HF.out (fun h => h)).choose_spec (by rw [← HH.out]; exact hl)).mono ?_; rintro e w2 ⟨rfl, hR2, hF2⟩; have HF2 := Lib.hid (HF.out.trans hF2 (fun _ _ h => h)); have cv2 : (convert 23 9 (.slice (some ⟨w1.heap.size, 0, none⟩) ((k.length + 7) / 8) ((k.length + 7) / 8))).run Tryd.prog w2 = .ok (.string (strOf (bytesN k))) w2 := conv_bytesN w2 _ _ k hR2; have cv1 : (convert 23 9 (.slice (some ⟨w.heap.size, 0, none⟩) ((l.length + 7) / 8) ((l.length + 7) / 8))).run Tryd.prog w2 = .ok (.string (strOf (bytesN l))) w2 := conv_bytesN w2 _ _ l (HR.out.fr hF2 (fun h => h)); clear hR2 hF2)))
  all_goals go_wp2
  all_goals go_ret
  all_goals exact ⟨ret_bool HE.out, HF2.out⟩

theorem lsame_walk (b a c : Nat) (l k : List Bool) (w : World) (hm : IsMap w b l) (hk : BoolS w a k) :
    Calls Tryd.prog 18 #[.pointer (some ⟨b, 0, none⟩), .slice (some ⟨a, 0, none⟩) k.length c] w fun e w' => e = .returned (.bool (decide (l = k))) ∧ Fr (fun _ => False) w w' := by
  by_cases h : l.length = k.length
  · have e : decide (l = k) = decide (bytesN l = bytesN k) := by
      by_cases e : l = k
      · subst e; simp
      · have : ¬ bytesN l = bytesN k := fun h2 => e (bytesN_inj h h2)
        simp [e, this]
    rw [e]
    exact lsame_eq b a c l k w hm hk h
  · have : ¬ l = k := fun e => h (by rw [e])
    simp only [this, decide_false]
    exact lsame_ne b l.length _ k.length c w h hm.1.made hm.1.len
end Go.Proofs.YtbnjeglbbadcbaaDoor
