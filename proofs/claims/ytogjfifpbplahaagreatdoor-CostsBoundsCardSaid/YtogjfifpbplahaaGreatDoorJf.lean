/- This text proves contracts of the reference's attributes; no condition beyond those that each statement names. -/
import Derived.Test.YtogjfifpbplahaaGreatDoorJe
import Derived.Deep.Cut
namespace Go.Proofs.YtogjfifpbplahaaGreatDoor
open Go.RowKit
open BR
set_option linter.unusedVariables false

theorem any_at {p : UInt8 → Bool} {s : ByteArray} {k : Nat} (h : k < s.size) (hb : p (s[k]'h) = true) : s.toList.any p = true := by
  rw [List.any_eq_true, toList_data]
  exact ⟨s[k], by rw [← Array.mem_def]; exact Array.getElem_mem h, hb⟩
theorem any_no {p : UInt8 → Bool} {s : ByteArray} (h : ∀ j, (hj : j < s.size) → p (s[j]'hj) = false) : s.toList.any p = false := by
  rw [Bool.eq_false_iff, ne_eq, List.any_eq_true, toList_data]
  rintro ⟨c, hc, h2⟩
  obtain ⟨i, hi, rfl⟩ := List.getElem_of_mem hc
  have h3 := h i (by simpa using hi)
  have h4 : p (s[i]'(by simpa using hi)) = true := h2
  rw [h3] at h4
  cases h4
theorem keyE_bad {s : ByteArray} (h : s.toList.any badK = true) : keyE s = 6 := by unfold keyE; rw [if_pos (Or.inr h)]
theorem keyE_nil {s : ByteArray} (h : s.toList.isEmpty = true) : keyE s = 6 := by unfold keyE; rw [if_pos (Or.inl (List.isEmpty_iff.1 h))]
theorem keyE_long {s : ByteArray} (h : s.toList.isEmpty = false) (hb : s.toList.any badK = false) (hl : 40 < s.size) : keyE s = 3 := by
  unfold keyE; rw [if_neg (by rintro (e | e); (rw [e] at h; cases h); (rw [e] at hb; cases hb)), if_pos hl]
theorem keyE_ok {s : ByteArray} (h : s.toList.isEmpty = false) (hb : s.toList.any badK = false) (hl : ¬ 40 < s.size) : keyE s = 0 := by
  unfold keyE; rw [if_neg (by rintro (e | e); (rw [e] at h; cases h); (rw [e] at hb; cases hb)), if_neg hl]
theorem badK_true {c : UInt8} (h : (c.toNat : Int) < 33 ∨ 126 < (c.toNat : Int)) : badK c = true := by unfold badK; simp; omega
theorem badK_false {c : UInt8} (h : 33 ≤ (c.toNat : Int)) (h' : (c.toNat : Int) ≤ 126) : badK c = false := by unfold badK; simp; omega
theorem badP_true {c : UInt8} (h : (c.toNat : Int) < 33 ∨ 126 < (c.toNat : Int) ∨ (c.toNat : Int) = 47) : badP c = true := by unfold badP; simp; omega
theorem badP_false {c : UInt8} (h : 33 ≤ (c.toNat : Int)) (h' : (c.toNat : Int) ≤ 126) (h2 : (c.toNat : Int) ≠ 47) : badP c = false := by unfold badP; simp; omega
theorem Ret.same {v : Value} {w : World} (e : Ending) (h : e = .returned v) : Ret v w e w := ⟨h, Fr.refl _ _⟩

set_option maxHeartbeats 1000000 in
theorem rkey_walk (s : ByteArray) (w : World) (hs : s.size ≤ 1000) : Calls Tryz.prog 92 #[.string s] w (Ret (.int .i64 (keyE s)) w) := by
  go_enter Tryz.func92, Tryz.ntmps92
  go_wp2_with fail
  go_loop [3] (fun i => ∃ k : Nat, k ≤ s.size ∧ i = .int .i64 k ∧ Hid (∀ j, j < k → ∀ h : j < s.size, badK (s[j]'h) = false)) (fun i => s.size - (intOf i).toNat)
  case atStart => exact ⟨0, by omega, rfl, Lib.hid (fun j hj => by omega)⟩
  case round =>
    obtain ⟨k, hk, rfl, HJ⟩ := hrel
    by_cases hlt : k < s.size
    · have g1 : (0 : Int) ≤ (k : Int) := by omega
      by_cases h1 : ((s[k]'hlt).toNat : Int) < 33
      · have HE := Lib.hid (keyE_bad (any_at hlt (badK_true (Or.inl h1))))
        go_wp2_with fail
        go_ret
        exact Ret.same _ (by rw [HE.out] <;> rfl)
      · by_cases h2 : 126 < ((s[k]'hlt).toNat : Int)
        · have HE := Lib.hid (keyE_bad (any_at hlt (badK_true (Or.inr h2))))
          go_wp2_with fail
          go_ret
          exact Ret.same _ (by rw [HE.out] <;> rfl)
        · have HB := Lib.hid (badK_false (by omega) (by omega : ((s[k]'hlt).toNat : Int) ≤ 126))
          go_wp2_with fail
          go_round
          case rel => exact ⟨k + 1, by omega, by go_num, Lib.hid (fun j hj h => by
            by_cases e : j = k
            · subst e; exact HB.out
            · exact HJ.out j (by omega) h)⟩
          case measure => simp [intOf]; omega
    · obtain rfl : k = s.size := by omega
      have HB := Lib.hid (any_no (fun j hj => HJ.out j hj hj))
      cases h0 : s.toList.isEmpty
      · by_cases h1 : 40 < s.size
        · have HE := Lib.hid (keyE_long h0 HB.out h1)
          go_wp2_with fail
          go_ret
          exact Ret.same _ (by rw [HE.out] <;> rfl)
        · have HE := Lib.hid (keyE_ok h0 HB.out h1)
          go_wp2_with fail
          go_ret
          exact Ret.same _ (by rw [HE.out] <;> rfl)
      · have HE := Lib.hid (keyE_nil h0)
        go_wp2_with fail
        go_ret
        exact Ret.same _ (by rw [HE.out] <;> rfl)

theorem nameE_nil {s : ByteArray} (h : s.toList.isEmpty = true) : nameE s = 6 := by unfold nameE; rw [if_pos (Or.inl (List.isEmpty_iff.1 h))]
theorem nameE_dot {s : ByteArray} (h : s.toList = [46]) : nameE s = 6 := by unfold nameE; rw [if_pos (Or.inr (Or.inl h))]
theorem nameE_dots {s : ByteArray} (h : s.toList = [46, 46]) : nameE s = 6 := by unfold nameE; rw [if_pos (Or.inr (Or.inr (Or.inl h)))]
theorem nameE_bad {s : ByteArray} (h : s.toList.any badP = true) : nameE s = 6 := by unfold nameE; rw [if_pos (Or.inr (Or.inr (Or.inr h)))]
theorem nameE_rest {s : ByteArray} (h0 : s.toList.isEmpty = false) (h1 : s.toList ≠ [46]) (h2 : s.toList ≠ [46, 46]) (h3 : s.toList.any badP = false) : nameE s = if 24 < s.size then 3 else 0 := by
  unfold nameE
  rw [if_neg]
  rintro (e | e | e | e)
  · rw [e] at h0; cases h0
  · exact h1 e
  · exact h2 e
  · rw [e] at h3; cases h3
theorem ne_beq {a b : List UInt8} (h : a ≠ b) : (a == b) = false := by simpa using h
theorem eq_beq {a b : List UInt8} (h : a = b) : (a == b) = true := by simpa using h
set_option maxHeartbeats 2000000 in
theorem rname_walk (s : ByteArray) (w : World) (hs : s.size ≤ 1000) : Calls Tryz.prog 76 #[.string s] w (Ret (.int .i64 (nameE s)) w) := by
  cases h0 : s.toList.isEmpty
  · by_cases h1 : s.toList = [46]
    · have HE := Lib.hid (nameE_dot h1)
      have q1 := eq_beq h1
      clear h1
      go_enter Tryz.func76, Tryz.ntmps76
      go_wp2_with fail
      go_ret
      exact Ret.same _ (by rw [HE.out] <;> rfl)
    · have q1 := ne_beq h1
      by_cases h2 : s.toList = [46, 46]
      · have HE := Lib.hid (nameE_dots h2)
        have q2 := eq_beq h2
        clear h1 h2
        go_enter Tryz.func76, Tryz.ntmps76
        go_wp2_with fail
        go_ret
        exact Ret.same _ (by rw [HE.out] <;> rfl)
      · have q2 := ne_beq h2
        have HR := Lib.hid (fun h3 => nameE_rest h0 h1 h2 h3)
        clear h1 h2
        go_enter Tryz.func76, Tryz.ntmps76
        go_wp2_with fail
        clear q1 q2 h0
        go_loop [3] (fun i => ∃ k : Nat, k ≤ s.size ∧ i = .int .i64 k ∧ Hid (∀ j, j < k → ∀ h : j < s.size, badP (s[j]'h) = false)) (fun i => s.size - (intOf i).toNat)
        case atStart => exact ⟨0, by omega, rfl, Lib.hid (fun j hj => by omega)⟩
        case round =>
          obtain ⟨k, hk, rfl, HJ⟩ := hrel
          by_cases hlt : k < s.size
          · have g1 : (0 : Int) ≤ (k : Int) := by omega
            by_cases h1 : ((s[k]'hlt).toNat : Int) < 33
            · have HE := Lib.hid (nameE_bad (any_at hlt (badP_true (Or.inl h1))))
              go_wp2_with fail
              go_ret
              exact Ret.same _ (by rw [HE.out] <;> rfl)
            · by_cases h2 : 126 < ((s[k]'hlt).toNat : Int)
              · have HE := Lib.hid (nameE_bad (any_at hlt (badP_true (Or.inr (Or.inl h2)))))
                go_wp2_with fail
                go_ret
                exact Ret.same _ (by rw [HE.out] <;> rfl)
              · by_cases h3 : ((s[k]'hlt).toNat : Int) = 47
                · have HE := Lib.hid (nameE_bad (any_at hlt (badP_true (Or.inr (Or.inr h3)))))
                  have q3 : (((s[k]'hlt).toNat : Int) == 47) = true := by simpa using h3
                  clear h3
                  go_wp2_with fail
                  go_ret
                  exact Ret.same _ (by rw [HE.out] <;> rfl)
                · have HB := Lib.hid (badP_false (by omega) (by omega : ((s[k]'hlt).toNat : Int) ≤ 126) h3)
                  have q3 : (((s[k]'hlt).toNat : Int) == 47) = false := by simpa using h3
                  clear h3
                  go_wp2_with fail
                  go_round
                  case rel => exact ⟨k + 1, by omega, by go_num, Lib.hid (fun j hj h => by
                    by_cases e : j = k
                    · subst e; exact HB.out
                    · exact HJ.out j (by omega) h)⟩
                  case measure => simp [intOf]; omega
          · obtain rfl : k = s.size := by omega
            have HE := Lib.hid (HR.out (any_no (fun j hj => HJ.out j hj hj)))
            by_cases h1 : 24 < s.size
            · have HE := Lib.hid (HE.out.trans (if_pos h1))
              go_wp2_with fail
              go_ret
              exact Ret.same _ (by rw [HE.out] <;> rfl)
            · have HE := Lib.hid (HE.out.trans (if_neg h1))
              go_wp2_with fail
              go_ret
              exact Ret.same _ (by rw [HE.out] <;> rfl)
  · have HE := Lib.hid (nameE_nil h0)
    go_enter Tryz.func76, Tryz.ntmps76
    go_wp2_with fail
    go_ret
    exact Ret.same _ (by rw [HE.out] <;> rfl)

/-- the first name that is none -/
theorem rpath_walk (r c : Nat) (a0 : Option Addr) (R : Nat → ByteArray) (w : World) (hR : StrsAt w a0 r R) (hs : ∀ k, k < r → (R k).size ≤ 1000) (hr : r ≤ 100) :
    Calls Tryz.prog 62 #[.slice a0 r c] w (Ret (.int .i64 (pathE r R)) w) := by
  by_cases h8 : 8 < r
  · have HE := Lib.hid (show pathE r R = 3 by unfold pathE; rw [if_pos h8])
    go_enter Tryz.func62, Tryz.ntmps62
    go_wp2_with fail
    go_ret
    exact Ret.same _ (by rw [HE.out] <;> rfl)
  · have HP := Lib.hid (show pathE r R = firstE (fun k => nameE (R k)) r by unfold pathE; rw [if_neg h8])
    have HS := Lib.hid hs
    have HA := Lib.hid hR
    clear hs hR
    go_enter Tryz.func62, Tryz.ntmps62
    go_wp2_with fail
    go_loopw [3] (fun i wr => ∃ k : Nat, k ≤ r ∧ i = .int .i64 k ∧ Fr (fun _ => False) w wr ∧ Hid (∀ j, j < k → nameE (R j) = 0)) (fun i _ => r - (intOf i).toNat)
    case atStart => exact ⟨0, by omega, rfl, Fr.refl _ _, Lib.hid (fun j hj => by omega)⟩
    case round =>
      obtain ⟨k, hk, rfl, hF, HJ⟩ := hrel
      by_cases hlt : k < r
      · obtain ⟨b, o, rfl, hb, hc⟩ := HA.out (by omega)
        have c0 : wr.cell? ⟨b, o + k, none⟩ = some (.string (R k)) := hF.cell (p := ⟨b, o + k, none⟩) hb (fun h => h) (hc k hlt)
        have g1 : (0 : Int) ≤ (k : Int) := by omega
        have HF := Lib.hid hF
        have HN := Lib.hid (rname_walk (R k) wr (HS.out k hlt))
        clear hF hc
        by_cases he : nameE (R k) = 0
        · rw [he] at HN
          have HZ := Lib.hid he
          clear he
          go_wp2_with (go_at_call 76; go_must (refine HN.out.mono ?_; rintro e w1 ⟨rfl, hF⟩; have HF1 := Lib.hid (HF.out.then hF); clear hF))
          go_roundw
          case rel => exact ⟨k + 1, by omega, by go_num, HF1.out, Lib.hid (fun j hj => by
            by_cases e : j = k
            · subst e; exact HZ.out
            · exact HJ.out j (by omega))⟩
          case measure => simp [intOf]; omega
        · have HE := Lib.hid (HP.out.trans (firstE_hit (f := fun k => nameE (R k)) HJ.out he hlt))
          have q0 : (nameE (R k) != 0) = true := by simpa using he
          generalize nameE (R k) = E at *
          clear he
          go_wp2_with (go_at_call 76; go_must (refine HN.out.mono ?_; rintro e w1 ⟨rfl, hF⟩; have HF1 := Lib.hid (HF.out.then hF); clear hF))
          go_ret
          exact ⟨by rw [HE.out] <;> rfl, HF1.out⟩
      · obtain rfl : k = r := by omega
        have HE := Lib.hid (HP.out.trans (firstE_all HJ.out))
        have HF := Lib.hid hF
        clear hF
        go_wp2_with fail
        go_ret
        exact ⟨by rw [HE.out] <;> rfl, HF.out⟩
end Go.Proofs.YtogjfifpbplahaaGreatDoor

namespace Go.Proofs.YtogjfifpbplahaaGreatDoor
open Go.RowKit
open BR
open Go.Op (bytesLess)
set_option linter.unusedVariables false

def atV (x : BAttr) : Value := .agg #[.string x.name, .string x.value]
set_option maxHeartbeats 1000000 in
theorem ralone_walk (x : BAttr) (w : World) (h1 : x.name.size ≤ 1000) (h2 : x.value.size ≤ 1000) : Calls Tryz.prog 77 #[atV x] w (Ret (.int .i64 (aloneE x)) w) := by
  have HK := Lib.hid (fun w0 => rkey_walk x.name w0 h1)
  unfold atV
  by_cases hk : keyE x.name = 0
  · rw [hk] at HK
    by_cases hl : 200 < x.value.size
    · have HE := Lib.hid (show aloneE x = 3 by unfold aloneE; rw [if_neg (by simpa using hk), if_pos hl])
      clear hk
      go_enter Tryz.func77, Tryz.ntmps77
      go_wp2_with (go_at_call 92; go_must (refine (HK.out _).mono ?_; rintro e w1 ⟨rfl, hF⟩; have HF1 := Lib.hid (((Fr.refl (fun _ => False) w).alloc _).then hF); have c1 : w1.cell? ⟨w.heap.size, 1, none⟩ = some (.string x.value) := (RowB.fr (vs := [.string x.name, .string x.value]) (RowB.new w 58 [.string x.name, .string x.value]) hF (fun h => h)).cell 1; clear hF))
      go_ret
      exact ⟨by rw [HE.out] <;> rfl, HF1.out⟩
    · have HE := Lib.hid (show aloneE x = 0 by unfold aloneE; rw [if_neg (by simpa using hk), if_neg hl])
      clear hk
      go_enter Tryz.func77, Tryz.ntmps77
      go_wp2_with (go_at_call 92; go_must (refine (HK.out _).mono ?_; rintro e w1 ⟨rfl, hF⟩; have HF1 := Lib.hid (((Fr.refl (fun _ => False) w).alloc _).then hF); have c1 : w1.cell? ⟨w.heap.size, 1, none⟩ = some (.string x.value) := (RowB.fr (vs := [.string x.name, .string x.value]) (RowB.new w 58 [.string x.name, .string x.value]) hF (fun h => h)).cell 1; clear hF))
      go_ret
      exact ⟨by rw [HE.out] <;> rfl, HF1.out⟩
  · have HE := Lib.hid (show aloneE x = keyE x.name by unfold aloneE; rw [if_pos hk])
    have q0 : (keyE x.name == 0) = false := by simpa using hk
    generalize keyE x.name = E at *
    clear hk
    go_enter Tryz.func77, Tryz.ntmps77
    go_wp2_with (go_at_call 92; go_must (refine (HK.out _).mono ?_; rintro e w1 ⟨rfl, hF⟩; have HF1 := Lib.hid (((Fr.refl (fun _ => False) w).alloc _).then hF); clear hF))
    go_ret
    exact ⟨by rw [HE.out] <;> rfl, HF1.out⟩
theorem sizeF_le {A : Nat → BAttr} {m : Nat} (h : ∀ k, k < m → (A k).name.size ≤ 1000 ∧ (A k).value.size ≤ 1000) : ∀ k, k ≤ m → sizeF A k ≤ 2002 * k
  | 0, _ => by simp [sizeF]
  | k + 1, hk => by
    have h1 := sizeF_le h k (by omega)
    have h2 := h k (by omega)
    simp only [sizeF]
    omega
set_option maxHeartbeats 1000000 in
theorem rsize_walk (m c : Nat) (a0 : Option Addr) (A : Nat → BAttr) (w : World) (hA : AttrsAt w a0 m A) (hs : ∀ k, k < m → (A k).name.size ≤ 1000 ∧ (A k).value.size ≤ 1000) (hm : m ≤ 100) :
    Calls Tryz.prog 93 #[.slice a0 m c] w (Ret (.int .i64 (sizeF A m)) w) := by
  have HS := Lib.hid hs
  have HA := Lib.hid hA
  clear hs hA
  go_enter Tryz.func93, Tryz.ntmps93
  go_wp2_with fail
  go_loopw [3, 4] (fun t i wr => ∃ k : Nat, k ≤ m ∧ i = .int .i64 k ∧ t = .int .i64 (sizeF A k) ∧ Fr (fun _ => False) w wr) (fun _ i _ => m - (intOf i).toNat)
  case atStart => exact ⟨0, by omega, rfl, rfl, Fr.refl _ _⟩
  case round =>
    obtain ⟨k, hk, rfl, rfl, hF⟩ := hrel
    by_cases hlt : k < m
    · obtain ⟨b, o, rfl, hb, hc⟩ := HA.out (by omega)
      have c0 : wr.cell? ⟨b, o + k * 2, none⟩ = some (.string (A k).name) := hF.cell (p := ⟨b, o + k * 2, none⟩) hb (fun h => h) (hc k hlt).1
      have c1 : wr.cell? ⟨b, o + k * 2 + 1, none⟩ = some (.string (A k).value) := hF.cell (p := ⟨b, o + k * 2 + 1, none⟩) hb (fun h => h) (hc k hlt).2
      have g1 : (0 : Int) ≤ (k : Int) := by omega
      have g2 : (k : Int) < m := by omega
      have h1 := sizeF_le HS.out k hk
      obtain ⟨h2, h3⟩ := HS.out k hlt
      have HF := Lib.hid hF
      clear hF hc
      have HT := Lib.hid (show sizeF A (k + 1) = sizeF A k + (2 + (A k).name.size + (A k).value.size) from rfl)
      generalize sizeF A k = T at *
      generalize (A k).name = s at *
      generalize (A k).value = v at *
      have z1 : IntKind.i64.wrap ((T : Int) + 2) = (T : Int) + 2 := IntWalk.i64_in _ (by omega)
      have z2 : IntKind.i64.wrap ((T : Int) + 2 + s.size) = (T : Int) + 2 + s.size := IntWalk.i64_in _ (by omega)
      have z3 : IntKind.i64.wrap ((T : Int) + 2 + s.size + v.size) = (T : Int) + 2 + s.size + v.size := IntWalk.i64_in _ (by omega)
      go_wp2_with fail
      go_quiet (fail)
      clear z1 z2 z3
      go_wp2_with fail
      go_roundw
      case rel => exact ⟨k + 1, by omega, by go_num, by rw [HT.out]; go_num, HF.out.drewN _⟩
      case measure => simp [intOf]; omega
    · obtain rfl : k = m := by omega
      have HF := Lib.hid hF
      clear hF
      go_wp2_with fail
      go_ret
      exact ⟨rfl, HF.out⟩
set_option maxHeartbeats 1000000 in
theorem rfull_walk (m c : Nat) (a0 : Option Addr) (A : Nat → BAttr) (w : World) (hA : AttrsAt w a0 m A) (hs : ∀ k, k < m → (A k).name.size ≤ 1000 ∧ (A k).value.size ≤ 1000) (hm : m ≤ 6) (q : Bool) (hq : decide (288 < sizeF A m) = q) :
    Calls Tryz.prog 78 #[.slice a0 m c] w (Ret (.bool q) w) := by
  have HC := Lib.hid (fun w0 hF => rsize_walk m c a0 A w0 (hA.fr (w := w) hF (fun _ _ h => h)) hs (by omega))
  have hz := sizeF_le hs m (Nat.le_refl _)
  clear hA hs
  have HQ := Lib.hid hq
  clear hq
  generalize sizeF A m = T at *
  go_enter Tryz.func78, Tryz.ntmps78
  go_wp2_with (go_at_call 93; go_must (refine (HC.out _ (Fr.refl _ _)).mono ?_; rintro e w1 ⟨rfl, hF⟩; have HF1 := Lib.hid hF; clear hF))
  go_ret
  exact ⟨ret_bool (by rw [← HQ.out, Bool.eq_iff_iff]; simp; try omega), HF1.out⟩
theorem attrE_long {m : Nat} {A : Nat → BAttr} (h : 6 < m) : attrE m A = 3 := by unfold attrE; rw [if_pos h]
theorem attrE_alone {m j : Nat} {A : Nat → BAttr} (h : ¬ 6 < m) (hj : ∀ i, i < j → aloneE (A i) = 0) (he : aloneE (A j) ≠ 0) (hlt : j < m) : attrE m A = aloneE (A j) := by
  have := firstE_hit (f := fun k => aloneE (A k)) hj he hlt
  unfold attrE; rw [if_neg h, if_pos (by rw [this]; exact he), this]
theorem attrE_twice {m : Nat} {A : Nat → BAttr} (h : ¬ 6 < m) (hj : ∀ i, i < m → aloneE (A i) = 0) (he : hasEq A m) : attrE m A = 8 := by
  unfold attrE; rw [if_neg h, if_neg (by rw [firstE_all hj]; simp), if_pos he]
theorem attrE_order {m : Nat} {A : Nat → BAttr} (h : ¬ 6 < m) (hj : ∀ i, i < m → aloneE (A i) = 0) (he : ¬ hasEq A m) (hg : hasGt A m) : attrE m A = 6 := by
  unfold attrE; rw [if_neg h, if_neg (by rw [firstE_all hj]; simp), if_neg he, if_pos hg]
theorem attrE_size {m : Nat} {A : Nat → BAttr} (h : ¬ 6 < m) (hj : ∀ i, i < m → aloneE (A i) = 0) (he : ¬ hasEq A m) (hg : ¬ hasGt A m) : attrE m A = if 288 < sizeF A m then 5 else 0 := by
  unfold attrE; rw [if_neg h, if_neg (by rw [firstE_all hj]; simp), if_neg he, if_neg hg]
theorem not_hasEq {m : Nat} {A : Nat → BAttr} (h : ∀ i, i < m → ∀ k, k < i → (A k).name.toList ≠ (A i).name.toList) : ¬ hasEq A m := fun ⟨i, hi, k, hk, e⟩ => h i hi k hk e
set_option maxHeartbeats 4000000 in
theorem rattrs_walk (m c : Nat) (a0 : Option Addr) (A : Nat → BAttr) (w : World) (hA : AttrsAt w a0 m A) (hs : ∀ k, k < m → (A k).name.size ≤ 1000 ∧ (A k).value.size ≤ 1000) (hm : m ≤ 100) :
    Calls Tryz.prog 58 #[.slice a0 m c] w (Ret (.int .i64 (attrE m A)) w) := by
  by_cases h6 : 6 < m
  · have HE := Lib.hid (attrE_long (A := A) h6)
    go_enter Tryz.func58, Tryz.ntmps58
    go_wp2_with fail
    go_ret
    exact Ret.same _ (by rw [HE.out] <;> rfl)
  · have HS := Lib.hid hs
    have HA := Lib.hid hA
    clear hs hA
    go_enter Tryz.func58, Tryz.ntmps58
    go_wp2_with fail
    go_loopw [3] (fun i wr => ∃ k : Nat, k ≤ m ∧ i = .int .i64 k ∧ Fr (fun _ => False) w wr ∧ Hid (∀ j, j < k → aloneE (A j) = 0)) (fun i _ => m - (intOf i).toNat)
    case atStart => exact ⟨0, by omega, rfl, Fr.refl _ _, Lib.hid (fun j hj => by omega)⟩
    case round =>
      obtain ⟨k, hk, rfl, hF, HJ⟩ := hrel
      by_cases hlt : k < m
      · obtain ⟨b, o, rfl, hb, hc⟩ := HA.out (by omega)
        have c0 : wr.cell? ⟨b, o + k * 2, none⟩ = some (.string (A k).name) := hF.cell (p := ⟨b, o + k * 2, none⟩) hb (fun h => h) (hc k hlt).1
        have c1 : wr.cell? ⟨b, o + k * 2 + 1, none⟩ = some (.string (A k).value) := hF.cell (p := ⟨b, o + k * 2 + 1, none⟩) hb (fun h => h) (hc k hlt).2
        have g1 : (0 : Int) ≤ (k : Int) := by omega
        have HF := Lib.hid hF
        have HN := Lib.hid (ralone_walk (A k) wr (HS.out k hlt).1 (HS.out k hlt).2)
        unfold atV at HN
        clear hF hc
        by_cases he : aloneE (A k) = 0
        · rw [he] at HN
          have HZ := Lib.hid he
          clear he
          go_wp2_with (go_at_call 77; go_must (refine HN.out.mono ?_; rintro e w1 ⟨rfl, hF⟩; have HF1 := Lib.hid (HF.out.then hF); clear hF))
          go_roundw
          case rel => exact ⟨k + 1, by omega, by go_num, HF1.out, Lib.hid (fun j hj => by
            by_cases e : j = k
            · subst e; exact HZ.out
            · exact HJ.out j (by omega))⟩
          case measure => simp [intOf]; omega
        · have HE := Lib.hid (attrE_alone h6 HJ.out he hlt)
          have q0 : (aloneE (A k) != 0) = true := by simpa using he
          generalize aloneE (A k) = E at *
          clear he
          go_wp2_with (go_at_call 77; go_must (refine HN.out.mono ?_; rintro e w1 ⟨rfl, hF⟩; have HF1 := Lib.hid (HF.out.then hF); clear hF))
          go_ret
          exact ⟨by rw [HE.out] <;> rfl, HF1.out⟩
      · obtain rfl : k = m := by omega
        have HF := Lib.hid hF
        clear hF
        go_wp2_with fail
        go_loopw [5, 6] (fun i _ wr => ∃ p : Nat, p ≤ k ∧ i = .int .i64 p ∧ Fr (fun _ => False) w wr ∧ Hid (∀ i, i < p → ∀ j, j < i → (A j).name.toList ≠ (A i).name.toList)) (fun i _ _ => k - (intOf i).toNat)
        case atStart => exact ⟨0, by omega, rfl, HF.out, Lib.hid (fun j hj => by omega)⟩
        case round =>
          obtain ⟨p, hp, rfl, hF, HP⟩ := hrel
          obtain ⟨wo, rfl⟩ : ∃ wo : World, wo = wr := ⟨_, rfl⟩
          have HF2 := Lib.hid hF
          clear hF
          by_cases hlt : p < k
          · have g1 : (0 : Int) ≤ (p : Int) := by omega
            have g2 : (p : Int) < k := by omega
            go_wp2_with fail
            go_loopw [6] (fun i wr => ∃ q : Nat, q ≤ p ∧ i = .int .i64 q ∧ Fr (fun _ => False) w wr ∧ Hid (∀ j, j < q → (A j).name.toList ≠ (A p).name.toList)) (fun i _ => p - (intOf i).toNat)
            case atStart => exact ⟨0, by omega, rfl, HF2.out, Lib.hid (fun j hj => by omega)⟩
            case round =>
              obtain ⟨q, hq, rfl, hF, HQ⟩ := hrel
              by_cases hlt2 : q < p
              · obtain ⟨b, o, rfl, hb, hc⟩ := HA.out (by omega)
                have c0 : wr.cell? ⟨b, o + q * 2, none⟩ = some (.string (A q).name) := hF.cell (p := ⟨b, o + q * 2, none⟩) hb (fun h => h) (hc q (by omega)).1
                have c1 : wr.cell? ⟨b, o + p * 2, none⟩ = some (.string (A p).name) := hF.cell (p := ⟨b, o + p * 2, none⟩) hb (fun h => h) (hc p (by omega)).1
                have g3 : (0 : Int) ≤ (q : Int) := by omega
                have g4 : (q : Int) < k := by omega
                have HF3 := Lib.hid hF
                clear hF hc
                by_cases he : (A q).name.toList = (A p).name.toList
                · have HE := Lib.hid (attrE_twice h6 HJ.out ⟨p, hlt, q, hlt2, he⟩)
                  have e1 := eq_beq he
                  clear he
                  go_wp2_with fail
                  go_quiet (fail)
                  go_wp2_with fail
                  go_ret
                  exact ⟨by rw [HE.out] <;> rfl, HF3.out.drewN _⟩
                · have HN := Lib.hid he
                  have e1 := ne_beq he
                  clear he
                  go_wp2_with fail
                  go_quiet (fail)
                  go_wp2_with fail
                  go_roundw
                  case rel => exact ⟨q + 1, by omega, by go_num, HF3.out.drewN _, Lib.hid (fun j hj => by
                    by_cases e : j = q
                    · subst e; exact HN.out
                    · exact HQ.out j (by omega))⟩
                  case measure => simp [intOf]; omega
              · obtain rfl : q = p := by omega
                have HF3 := Lib.hid hF
                clear hF
                go_wp2_with fail
                go_roundw
                case rel => exact ⟨q + 1, by omega, by go_num, HF3.out, Lib.hid (fun i hi j hj => by
                  by_cases e : i = q
                  · subst e; exact HQ.out j hj
                  · exact HP.out i (by omega) j hj)⟩
                case measure => simp [intOf]; omega
          · obtain rfl : p = k := by omega
            have HNE := Lib.hid (not_hasEq HP.out)
            go_wp2_with fail
            go_loopw [7] (fun i wr => ∃ q : Nat, 1 ≤ q ∧ (q ≤ p ∨ q = 1) ∧ i = .int .i64 q ∧ Fr (fun _ => False) w wr ∧ Hid (∀ j, 1 ≤ j → j < q → bytesLess (A j).name.toList (A (j - 1)).name.toList = false)) (fun i _ => p - (intOf i).toNat)
            case atStart => exact ⟨1, by omega, by omega, rfl, HF2.out, Lib.hid (fun j hj => by omega)⟩
            case round =>
              obtain ⟨q, hq1, hq, rfl, hF, HQ⟩ := hrel
              by_cases hlt2 : q < p
              · obtain ⟨b, o, rfl, hb, hc⟩ := HA.out (by omega)
                have c0 : wr.cell? ⟨b, o + q * 2, none⟩ = some (.string (A q).name) := hF.cell (p := ⟨b, o + q * 2, none⟩) hb (fun h => h) (hc q (by omega)).1
                have c1 : wr.cell? ⟨b, o + (q - 1) * 2, none⟩ = some (.string (A (q - 1)).name) := hF.cell (p := ⟨b, o + (q - 1) * 2, none⟩) hb (fun h => h) (hc (q - 1) (by omega)).1
                have g3 : (0 : Int) ≤ (q : Int) := by omega
                have g4 : (q : Int) < p := by omega
                have z1 : IntKind.i64.wrap ((q : Int) - 1) = ((q - 1 : Nat) : Int) := by rw [IntWalk.i64_in _ (by omega)]; omega
                have z2 : (0 : Int) ≤ ((q - 1 : Nat) : Int) := by omega
                have z3 : ((q - 1 : Nat) : Int) < p := by omega
                have HF3 := Lib.hid hF
                clear hF hc
                cases he : bytesLess (A q).name.toList (A (q - 1)).name.toList
                · have HN := Lib.hid he
                  go_wp2_with fail
                  go_quiet (fail)
                  clear z1
                  go_wp2_with fail
                  go_roundw
                  case rel => exact ⟨q + 1, by omega, by omega, by go_num, HF3.out.drewN _, Lib.hid (fun j hj1 hj => by
                    by_cases e : j = q
                    · subst e; exact HN.out
                    · exact HQ.out j hj1 (by omega))⟩
                  case measure => simp [intOf]; omega
                · have HE := Lib.hid (attrE_order h6 HJ.out HNE.out (gt_adj hq1 hlt2 he))
                  go_wp2_with fail
                  go_quiet (fail)
                  clear z1
                  go_wp2_with fail
                  go_ret
                  exact ⟨by rw [HE.out] <;> rfl, HF3.out.drewN _⟩
              · have HE := Lib.hid (attrE_size h6 HJ.out HNE.out (gt_of_adj HNE.out (fun i h1 h2 => HQ.out i h1 (by omega))))
                have HF3 := Lib.hid hF
                have HC := Lib.hid (fun qq hq => rfull_walk p c a0 A wr (HA.out.fr hF (fun _ _ h => h)) HS.out (by omega) qq hq)
                clear hF
                by_cases hz : 288 < sizeF A p
                · have HE := Lib.hid (HE.out.trans (if_pos hz))
                  have HC := Lib.hid (HC.out true (by simpa using hz))
                  clear hz
                  go_wp2_with (go_at_call 78; go_must (refine HC.out.mono ?_; rintro e w1 ⟨rfl, hF⟩; have HF4 := Lib.hid (HF3.out.then hF); clear hF))
                  go_ret
                  exact ⟨by rw [HE.out] <;> rfl, HF4.out⟩
                · have HE := Lib.hid (HE.out.trans (if_neg hz))
                  have HC := Lib.hid (HC.out false (by simpa using hz))
                  clear hz
                  go_wp2_with (go_at_call 78; go_must (refine HC.out.mono ?_; rintro e w1 ⟨rfl, hF⟩; have HF4 := Lib.hid (HF3.out.then hF); clear hF))
                  go_ret
                  exact ⟨by rw [HE.out] <;> rfl, HF4.out⟩
end Go.Proofs.YtogjfifpbplahaaGreatDoor

namespace Go.Proofs.YtogjfifpbplahaaGreatDoor
open Go.RowKit
open BR
open Go.Op (bytesLess)
set_option linter.unusedVariables false

set_option maxHeartbeats 2000000 in
theorem rsameA_walk (m c m' c' : Nat) (a0 a0' : Option Addr) (A A' : Nat → BAttr) (w : World) (hA : AttrsAt w a0 m A) (hA' : AttrsAt w a0' m' A') (hm : m ≤ 100) (hm' : m' ≤ 100) (q : Bool) (hq : q = true ↔ sameA m A m' A') :
    Calls Tryz.prog 94 #[.slice a0 m c, .slice a0' m' c'] w (Ret (.bool q) w) := by
  have HQ := Lib.hid hq
  have HA := Lib.hid hA
  have HA' := Lib.hid hA'
  clear hq hA hA'
  by_cases h0 : m = m'
  · subst h0
    go_enter Tryz.func94, Tryz.ntmps94
    go_wp2_with fail
    go_loopw [5] (fun i wr => ∃ k : Nat, k ≤ m ∧ i = .int .i64 k ∧ Fr (fun _ => False) w wr ∧ Hid (∀ j, j < k → (A j).name.toList = (A' j).name.toList ∧ (A j).value.toList = (A' j).value.toList)) (fun i _ => m - (intOf i).toNat)
    case atStart => exact ⟨0, by omega, rfl, Fr.refl _ _, Lib.hid (fun j hj => by omega)⟩
    case round =>
      obtain ⟨k, hk, rfl, hF, HJ⟩ := hrel
      by_cases hlt : k < m
      · obtain ⟨b, o, rfl, hb, hc⟩ := HA.out (by omega)
        obtain ⟨b', o', rfl, hb', hc'⟩ := HA'.out (by omega)
        have c0 : wr.cell? ⟨b, o + k * 2, none⟩ = some (.string (A k).name) := hF.cell (p := ⟨b, o + k * 2, none⟩) hb (fun h => h) (hc k hlt).1
        have c1 : wr.cell? ⟨b, o + k * 2 + 1, none⟩ = some (.string (A k).value) := hF.cell (p := ⟨b, o + k * 2 + 1, none⟩) hb (fun h => h) (hc k hlt).2
        have c2 : wr.cell? ⟨b', o' + k * 2, none⟩ = some (.string (A' k).name) := hF.cell (p := ⟨b', o' + k * 2, none⟩) hb' (fun h => h) (hc' k hlt).1
        have c3 : wr.cell? ⟨b', o' + k * 2 + 1, none⟩ = some (.string (A' k).value) := hF.cell (p := ⟨b', o' + k * 2 + 1, none⟩) hb' (fun h => h) (hc' k hlt).2
        have g1 : (0 : Int) ≤ (k : Int) := by omega
        have g2 : (k : Int) < m := by omega
        have HF := Lib.hid hF
        clear hF hc hc'
        by_cases he : (A k).name.toList = (A' k).name.toList
        · have e1 := eq_beq he
          by_cases he2 : (A k).value.toList = (A' k).value.toList
          · have HN := Lib.hid (And.intro he he2)
            have e2 := eq_beq he2
            clear he he2
            go_wp2_with fail
            go_quiet (fail)
            go_wp2_with fail
            go_roundw
            case rel => exact ⟨k + 1, by omega, by go_num, HF.out.drewN _, Lib.hid (fun j hj => by
              by_cases e : j = k
              · subst e; exact HN.out
              · exact HJ.out j (by omega))⟩
            case measure => simp [intOf]; omega
          · have HE := Lib.hid (show q = false by
              cases q with
              | false => rfl
              | true => exact absurd ((HQ.out.1 rfl).2 k hlt).2 he2)
            have e2 := ne_beq he2
            clear he he2
            go_wp2_with fail
            go_quiet (fail)
            go_wp2_with fail
            go_ret
            exact ⟨by rw [HE.out] <;> rfl, HF.out.drewN _⟩
        · have HE := Lib.hid (show q = false by
            cases q with
            | false => rfl
            | true => exact absurd ((HQ.out.1 rfl).2 k hlt).1 he)
          have e1 := ne_beq he
          clear he
          go_wp2_with fail
          go_quiet (fail)
          go_wp2_with fail
          go_ret
          exact ⟨by rw [HE.out] <;> rfl, HF.out.drewN _⟩
      · obtain rfl : k = m := by omega
        have HE := Lib.hid (HQ.out.2 ⟨rfl, HJ.out⟩)
        have HF := Lib.hid hF
        clear hF
        go_wp2_with fail
        go_ret
        exact ⟨by rw [HE.out] <;> rfl, HF.out⟩
  · have HE := Lib.hid (show q = false by
      cases q with
      | false => rfl
      | true => exact absurd (HQ.out.1 rfl).1 h0)
    have e1 : ((m : Int) != (m' : Int)) = true := by simp; omega
    clear h0
    go_enter Tryz.func94, Tryz.ntmps94
    go_wp2_with fail
    go_ret
    exact ⟨by rw [HE.out] <;> rfl, Fr.refl _ _⟩
def trA (x : BNode) (h : Hd) : Value := .agg #[.int .i64 x.depth, .string x.name, .int .i64 x.kind, .slice h.aA x.m h.cA, .string x.data, .int .i64 x.major, .int .i64 x.minor, .int .i64 x.cls]
set_option maxRecDepth 100000 in
set_option maxHeartbeats 4000000 in
theorem rlike_walk (x y : BNode) (h g : Hd) (w : World) (hx : NodeT w x h) (hy : NodeT w y g) (hm : x.m ≤ 100) (hm' : y.m ≤ 100) (q : Bool) (hq : q = true ↔ likeP x y) :
    Calls Tryz.prog 79 #[trA x h, trA y g] w (Ret (.bool q) w) := by
  have HQ := Lib.hid hq
  have HS := Lib.hid (fun (w0 : World) (hF : Fr (fun _ => False) w w0) => rsameA_walk x.m h.cA y.m g.cA h.aA g.aA x.A y.A w0 (hx.1.fr hF (fun _ _ h => h)) (hy.1.fr hF (fun _ _ h => h)) hm hm')
  clear hq hx hy
  have HR1 := Lib.hid (RowB.new w 106 (trV x h))
  have HR2 := Lib.hid (RowB.new (w.alloc (.cells #[.int .i64 x.depth, .string x.name, .int .i64 x.kind, .slice h.aA x.m h.cA, .string x.data, .int .i64 x.major, .int .i64 x.minor, .int .i64 x.cls] 106)) 106 (trV y g))
  rw [alloc_size] at HR2
  unfold trA
  by_cases hK : x.kind = y.kind
  · have HK := Lib.hid hK
    have eK : (x.kind == y.kind) = true := by simpa using hK
    clear hK
    by_cases hA : sameA x.m x.A y.m y.A
    · have HA := Lib.hid hA
      have HC := Lib.hid (HS.out ((w.alloc (.cells #[.int .i64 x.depth, .string x.name, .int .i64 x.kind, .slice h.aA x.m h.cA, .string x.data, .int .i64 x.major, .int .i64 x.minor, .int .i64 x.cls] 106)).alloc (.cells #[.int .i64 y.depth, .string y.name, .int .i64 y.kind, .slice g.aA y.m g.cA, .string y.data, .int .i64 y.major, .int .i64 y.minor, .int .i64 y.cls] 106)) (((Fr.refl _ w).alloc _).alloc _) true ⟨fun _ => hA, fun _ => rfl⟩)
      clear hA
      by_cases hD : x.data.toList = y.data.toList
      · have HD := Lib.hid hD
        have eD : (x.data.toList == y.data.toList) = true := by simpa using hD
        clear hD
        by_cases hM : x.major = y.major
        · have HM := Lib.hid hM
          have eM : (x.major == y.major) = true := by simpa using hM
          clear hM
          by_cases hN : x.minor = y.minor
          · have HN := Lib.hid hN
            have eN : (x.minor == y.minor) = true := by simpa using hN
            clear hN
            have HE := Lib.hid (HQ.out.2 ⟨HK.out, HD.out, HM.out, HN.out, HA.out⟩)
            go_enter Tryz.func79, Tryz.ntmps79
            go_wp2_with (go_at_call 94; go_must (refine HC.out.mono ?_; rintro e w1 ⟨rfl, hF⟩; have HF1 := Lib.hid ((((Fr.refl (fun _ => False) w).alloc _).alloc _).then hF); have hR1 := (HR1.out.fr ((Fr.refl (fun _ => False) _).alloc _) (fun h => h)).fr hF (fun h => h); have hR2 := HR2.out.fr hF (fun h => h); have c4 := hR1.cell 4; have d4 := hR2.cell 4; have c5 := hR1.cell 5; have d5 := hR2.cell 5; have c6 := hR1.cell 6; have d6 := hR2.cell 6; simp only [trV] at c4 d4 c5 d5 c6 d6; clear hF hR1 hR2))
            go_ret
            exact ⟨by rw [HE.out] <;> rfl, HF1.out⟩
          · have HE := Lib.hid (show q = false by cases q with | false => rfl | true => exact absurd (by have h := HQ.out.1 rfl; exact h.2.2.2.1) hN)
            have eN : (x.minor == y.minor) = false := by simpa using hN
            clear hN
            go_enter Tryz.func79, Tryz.ntmps79
            go_wp2_with (go_at_call 94; go_must (refine HC.out.mono ?_; rintro e w1 ⟨rfl, hF⟩; have HF1 := Lib.hid ((((Fr.refl (fun _ => False) w).alloc _).alloc _).then hF); have hR1 := (HR1.out.fr ((Fr.refl (fun _ => False) _).alloc _) (fun h => h)).fr hF (fun h => h); have hR2 := HR2.out.fr hF (fun h => h); have c4 := hR1.cell 4; have d4 := hR2.cell 4; have c5 := hR1.cell 5; have d5 := hR2.cell 5; have c6 := hR1.cell 6; have d6 := hR2.cell 6; simp only [trV] at c4 d4 c5 d5 c6 d6; clear hF hR1 hR2))
            go_ret
            exact ⟨by rw [HE.out] <;> rfl, HF1.out⟩
        · have HE := Lib.hid (show q = false by cases q with | false => rfl | true => exact absurd (by have h := HQ.out.1 rfl; exact h.2.2.1) hM)
          have eM : (x.major == y.major) = false := by simpa using hM
          clear hM
          go_enter Tryz.func79, Tryz.ntmps79
          go_wp2_with (go_at_call 94; go_must (refine HC.out.mono ?_; rintro e w1 ⟨rfl, hF⟩; have HF1 := Lib.hid ((((Fr.refl (fun _ => False) w).alloc _).alloc _).then hF); have hR1 := (HR1.out.fr ((Fr.refl (fun _ => False) _).alloc _) (fun h => h)).fr hF (fun h => h); have hR2 := HR2.out.fr hF (fun h => h); have c4 := hR1.cell 4; have d4 := hR2.cell 4; have c5 := hR1.cell 5; have d5 := hR2.cell 5; have c6 := hR1.cell 6; have d6 := hR2.cell 6; simp only [trV] at c4 d4 c5 d5 c6 d6; clear hF hR1 hR2))
          go_ret
          exact ⟨by rw [HE.out] <;> rfl, HF1.out⟩
      · have HE := Lib.hid (show q = false by cases q with | false => rfl | true => exact absurd (by have h := HQ.out.1 rfl; exact h.2.1) hD)
        have eD : (x.data.toList == y.data.toList) = false := by simpa using hD
        clear hD
        go_enter Tryz.func79, Tryz.ntmps79
        go_wp2_with (go_at_call 94; go_must (refine HC.out.mono ?_; rintro e w1 ⟨rfl, hF⟩; have HF1 := Lib.hid ((((Fr.refl (fun _ => False) w).alloc _).alloc _).then hF); have hR1 := (HR1.out.fr ((Fr.refl (fun _ => False) _).alloc _) (fun h => h)).fr hF (fun h => h); have hR2 := HR2.out.fr hF (fun h => h); have c4 := hR1.cell 4; have d4 := hR2.cell 4; have c5 := hR1.cell 5; have d5 := hR2.cell 5; have c6 := hR1.cell 6; have d6 := hR2.cell 6; simp only [trV] at c4 d4 c5 d5 c6 d6; clear hF hR1 hR2))
        go_ret
        exact ⟨by rw [HE.out] <;> rfl, HF1.out⟩
    · have HE := Lib.hid (show q = false by cases q with | false => rfl | true => exact absurd (by have h := HQ.out.1 rfl; exact h.2.2.2.2) hA)
      have HC := Lib.hid (HS.out ((w.alloc (.cells #[.int .i64 x.depth, .string x.name, .int .i64 x.kind, .slice h.aA x.m h.cA, .string x.data, .int .i64 x.major, .int .i64 x.minor, .int .i64 x.cls] 106)).alloc (.cells #[.int .i64 y.depth, .string y.name, .int .i64 y.kind, .slice g.aA y.m g.cA, .string y.data, .int .i64 y.major, .int .i64 y.minor, .int .i64 y.cls] 106)) (((Fr.refl _ w).alloc _).alloc _) false ⟨(fun h => by cases h), fun h => absurd h hA⟩)
      clear hA
      go_enter Tryz.func79, Tryz.ntmps79
      go_wp2_with (go_at_call 94; go_must (refine HC.out.mono ?_; rintro e w1 ⟨rfl, hF⟩; have HF1 := Lib.hid ((((Fr.refl (fun _ => False) w).alloc _).alloc _).then hF); have hR1 := (HR1.out.fr ((Fr.refl (fun _ => False) _).alloc _) (fun h => h)).fr hF (fun h => h); have hR2 := HR2.out.fr hF (fun h => h); have c4 := hR1.cell 4; have d4 := hR2.cell 4; have c5 := hR1.cell 5; have d5 := hR2.cell 5; have c6 := hR1.cell 6; have d6 := hR2.cell 6; simp only [trV] at c4 d4 c5 d5 c6 d6; clear hF hR1 hR2))
      go_ret
      exact ⟨by rw [HE.out] <;> rfl, HF1.out⟩
  · have HE := Lib.hid (show q = false by cases q with | false => rfl | true => exact absurd (by have h := HQ.out.1 rfl; exact h.1) hK)
    have eK : (x.kind == y.kind) = false := by simpa using hK
    clear hK
    go_enter Tryz.func79, Tryz.ntmps79
    go_wp2_with fail
    go_ret
    exact ⟨by rw [HE.out] <;> rfl, ((Fr.refl (fun _ => False) w).alloc _).alloc _⟩

end Go.Proofs.YtogjfifpbplahaaGreatDoor
