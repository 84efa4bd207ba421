/- The law BitsSearch, walked. -/
import Derived.Test.YtbnjeglbbadcbaaDoorW22
import Derived.Test.YtbnjeglbbadcbaaDoorW21
namespace Go.Proofs.YtbnjeglbbadcbaaDoor
open Go.RowKit
open BM
set_option linter.unusedVariables false

/-- what one round of the search meets -/
inductive Sea (X : List Bool) (v : Bool) (F : Int) : Prop
  | out (h : ¬ (0 ≤ F ∧ F ≤ X.length)) (hn : NextV X v F 0 7)
  | hit (f p : Nat) (hF : F = f) (h1 : f ≤ p) (h2 : p < X.length) (hn : NextV X v F p 0) (hl : LastV X v ((p + 1 : Nat) : Int) p 0) (hg : bt X p = v) (hc : cntR X f (p - f) = if v then 0 else p - f)
  | miss (f : Nat) (hF : F = f) (h1 : f ≤ X.length) (hn : NextV X v F 0 4) (hc : cntR X f (X.length - f) = if v then 0 else X.length - f)
theorem cnt_of_next {X : List Bool} {v : Bool} {f p : Nat} (h : IsNext X v f p) : cntR X f (p - f) = if v then 0 else p - f := by
  have h1 := h.ge
  cases v
  · exact cnt_all (fun j hj => by have := h.none (f + j) (by omega) (by omega); simpa using this)
  · exact cnt_none (fun j hj => by have := h.none (f + j) (by omega) (by omega); simpa using this)
theorem next_ex (X : List Bool) (v : Bool) (f : Nat) (hf : f ≤ X.length) : ∃ p, IsNext X v f p := by
  obtain ⟨d, hd⟩ : ∃ d, X.length = f + d := ⟨X.length - f, by omega⟩
  induction d generalizing f with
  | zero => exact ⟨f, Nat.le_refl _, by omega, fun q h1 h2 => by omega, fun h => by omega⟩
  | succ d ih =>
    by_cases hb : bt X f = v
    · exact ⟨f, Nat.le_refl _, by omega, fun q h1 h2 => by omega, fun _ => hb⟩
    · obtain ⟨p, hp⟩ := ih (f + 1) (by omega) (by omega)
      refine ⟨p, by have := hp.ge; omega, hp.le, fun q h1 h2 => ?_, hp.has⟩
      by_cases e : q = f
      · subst e
        have hb2 : bt X q ≠ v := hb
        revert hb2
        cases bt X q <;> cases v <;> decide
      · exact hp.none q (by omega) h2
theorem sea (X : List Bool) (v : Bool) (F : Int) : Sea X v F := by
  by_cases h : 0 ≤ F ∧ F ≤ X.length
  · obtain ⟨f, rfl⟩ := Int.eq_ofNat_of_zero_le h.1
    obtain ⟨p, hp⟩ := next_ex X v f (by omega)
    have hc := cnt_of_next hp
    by_cases hl : p < X.length
    · refine .hit f p rfl hp.ge hl ?_ ?_ (hp.has hl) hc
      · unfold NextV
        rw [if_pos h]
        exact ⟨p, by rw [Int.toNat_natCast]; exact hp, by rw [if_pos hl]; exact ⟨rfl, rfl⟩⟩
      · unfold LastV
        rw [if_pos (by omega)]
        exact Or.inl ⟨p, ⟨by rw [Int.toNat_natCast]; omega, hp.has hl, fun q h1 h2 => by rw [Int.toNat_natCast] at h2; omega⟩, rfl, rfl⟩
    · obtain rfl : p = X.length := by have := hp.le; omega
      refine .miss f rfl hp.ge ?_ hc
      unfold NextV
      rw [if_pos h]
      exact ⟨X.length, by rw [Int.toNat_natCast]; exact hp, by rw [if_neg hl]; exact ⟨rfl, rfl⟩⟩
  · refine .out h ?_
    unfold NextV
    rw [if_neg h]
    exact ⟨rfl, rfl⟩
theorem nextm (b : Nat) (X : List Bool) (F : Int) (v : Bool) (a c : Int) (w : World) (hm : IsMap w b X) (hT : Tab w) (hn : NextV X v F a c) :
    Calls Tryd.prog 30 #[.pointer (some ⟨b, 0, none⟩), .int .i64 F, .bool v] w fun e w' => e = .returned (.tuple #[.int .i64 a, .int .i64 c]) ∧ ∃ q, w' = w.drewN q := by
  refine (next_walk b X F v w hm hT).mono ?_
  rintro e w' ⟨a', c', rfl, hn', hq⟩
  obtain ⟨rfl, rfl⟩ := hn'.uniq hn
  exact ⟨rfl, hq⟩
theorem lastm (b : Nat) (X : List Bool) (F : Int) (v : Bool) (a c : Int) (w : World) (hm : IsMap w b X) (hn : LastV X v F a c) :
    Calls Tryd.prog 32 #[.pointer (some ⟨b, 0, none⟩), .int .i64 F, .bool v] w fun e w' => e = .returned (.tuple #[.int .i64 a, .int .i64 c]) ∧ ∃ q, w' = w.drewN q := by
  refine (last_walk b X F v w hm).mono ?_
  rintro e w' ⟨a', c', rfl, hn', hq⟩
  obtain ⟨rfl, rfl⟩ := hn'.uniq hn
  exact ⟨rfl, hq⟩
theorem getm (b p : Nat) (X : List Bool) (v : Bool) (w : World) (hm : IsMap w b X) (h : p < X.length) (hv : bt X p = v) :
    Calls Tryd.prog 31 #[.pointer (some ⟨b, 0, none⟩), .int .i64 p] w fun e w' => e = .returned (.tuple #[.bool v, .int .i64 0]) ∧ w = w' := by
  have := get_walk b X p w hm
  rw [show getV X (p : Int) = v by unfold getV; rw [if_pos (by omega), Int.toNat_natCast, hv], show bitE X.length (p : Int) = 0 by unfold bitE; rw [if_pos (by omega)]] at this
  exact this

set_option maxRecDepth 100000 in
set_option maxHeartbeats 4000000 in
theorem search_core (n : Nat) (a0 : Option Addr) (bl bc N : Nat) (F : Int) (X : List Bool) (w : World) (HT : Hid (Tab w)) (hX : X.length = N) (hN6 : N ≤ 600) (hF1 : -9223372036854775808 ≤ F) (hF2 : F ≤ 9223372036854775807)
    (HMX : Hid (Calls Tryd.prog 11 #[.int .u16 n, .slice a0 bl bc] w (Got w X))) :
    Calls Tryd.prog 6 #[.int .u16 n, .slice a0 bl bc, .int .i64 F] w fun e w' => e = .returned (.bool true) ∧ Fr (fun _ => False) w w' := by
  have HS0 := Lib.hid (sea X false F)
  have HS1 := Lib.hid (sea X true F)
  have LX := Lib.hid hX
  have hNI : (N : Int) ≤ 600 := by omega
  clear hX
  go_enter Tryd.func6, Tryd.ntmps6
  go_wp2_with (first
    | (go_at_call 11; go_must (refine (HMX.out).mono ?_; rintro e w1 ⟨b, a, c, rfl, hM1, -, -, -, hF1⟩; have HM := Lib.hid hM1; have HF := Lib.hid hF1; have HT1 := Lib.hid (HT.out.fr hF1 (fun h => h)); clear hM1 hF1)))
  clear HMX
  go_loopw [9] (fun i wr => ∃ k : Nat, k ≤ 2 ∧ i = .int .i64 k ∧ ∃ q, wr = w1.drewN q) (fun i _ => (2 - intOf i).toNat)
  case atStart => exact ⟨0, by omega, rfl, 0, rfl⟩
  case round =>
    obtain ⟨k, hk, rfl, q2, rfl⟩ := hrel
    obtain rfl | rfl | rfl : k = 0 ∨ k = 1 ∨ k = 2 := by omega
    · have k1 := HS0.out
      rcases k1 with ⟨ho, hn⟩ | ⟨f, p, hF0, h1, h2, hn, hl, hg, hc⟩ | ⟨f, hF0, h1, hn, hc⟩
      · have HN := Lib.hid hn
        have ho2 : F < 0 ∨ (N : Int) < F := by have := LX.out; omega
        clear hn ho
        rcases ho2 with ho2 | ho2
        all_goals
          go_wp2_with (first
            | (go_at_call 13; go_must (refine (lenm _ N X _ (by exact HM.out) LX.out).mono ?_; rintro e w' ⟨rfl, rfl⟩))
            | (go_at_call 30; go_must (refine (nextm b X F false 0 7 _ (by exact HM.out) (by exact HT1.out) HN.out).mono ?_; rintro e w' ⟨rfl, q, rfl⟩)))
          go_roundw
          case rel => exact ⟨1, by omega, by go_num, _, rfl⟩
          case measure => simp [intOf]
      · subst hF0
        have HN := Lib.hid hn
        have HL := Lib.hid hl
        have HG := Lib.hid hg
        have hpN : (p : Int) < (N : Int) := by have := LX.out; omega
        have hfp : (f : Int) ≤ (p : Int) := by omega
        have HC := Lib.hid (fun (w0 : World) (hm : IsMap w0 b X) => countN b f (p - f) X w0 hm (by omega))
        rw [hc] at HC
        simp only [Bool.false_eq_true, if_false] at HC
        have hsub : (p : Int) - (f : Int) = ((p - f : Nat) : Int) := by omega
        have HP := Lib.hid h2
        clear hn hl hg hc h1 h2
        have hdp : ((p - f : Nat) : Int) ≤ (p : Int) := by omega
        have hd0 : (0 : Int) ≤ ((p - f : Nat) : Int) := by omega
        generalize p - f = d at *
        go_wp2_with (first
          | (go_at_call 13; go_must (refine (lenm _ N X _ (by exact HM.out) LX.out).mono ?_; rintro e w' ⟨rfl, rfl⟩))
          | (go_at_call 30; go_must (refine (nextm b X f false p 0 _ (by exact HM.out) (by exact HT1.out) HN.out).mono ?_; rintro e w' ⟨rfl, q, rfl⟩))
          | (go_at_call 14; go_must (refine (HC.out _ (by exact HM.out)).mono ?_; rintro e w' ⟨rfl, q, rfl⟩))
          | (go_at_call 31; go_must (refine (getm b p X false _ (by exact HM.out) HP.out HG.out).mono ?_; rintro e w' ⟨rfl, rfl⟩))
          | (go_at_call 32; go_must (refine (lastm b X ((p + 1 : Nat) : Int) false p 0 _ (by exact HM.out) HL.out).mono ?_; rintro e w' ⟨rfl, q, rfl⟩)))
        go_roundw
        case rel => exact ⟨1, by omega, by go_num, _, rfl⟩
        case measure => simp [intOf]
      · subst hF0
        have HN := Lib.hid hn
        have hfN : (f : Int) ≤ (N : Int) := by have := LX.out; omega
        have HC := Lib.hid (fun (w0 : World) (hm : IsMap w0 b X) => countN b f (X.length - f) X w0 hm (by omega))
        rw [hc] at HC
        simp only [Bool.false_eq_true, if_false, LX.out] at HC
        have hsub : (N : Int) - (f : Int) = ((N - f : Nat) : Int) := by omega
        clear hn hc h1
        have hdp : ((N - f : Nat) : Int) ≤ (N : Int) := by omega
        have hd0 : (0 : Int) ≤ ((N - f : Nat) : Int) := by omega
        generalize N - f = d at *
        go_wp2_with (first
          | (go_at_call 13; go_must (refine (lenm _ N X _ (by exact HM.out) LX.out).mono ?_; rintro e w' ⟨rfl, rfl⟩))
          | (go_at_call 30; go_must (refine (nextm b X f false 0 4 _ (by exact HM.out) (by exact HT1.out) HN.out).mono ?_; rintro e w' ⟨rfl, q, rfl⟩))
          | (go_at_call 14; go_must (refine (HC.out _ (by exact HM.out)).mono ?_; rintro e w' ⟨rfl, q, rfl⟩)))
        go_roundw
        case rel => exact ⟨1, by omega, by go_num, _, rfl⟩
        case measure => simp [intOf]
    · have k1 := HS1.out
      rcases k1 with ⟨ho, hn⟩ | ⟨f, p, hF0, h1, h2, hn, hl, hg, hc⟩ | ⟨f, hF0, h1, hn, hc⟩
      · have HN := Lib.hid hn
        have ho2 : F < 0 ∨ (N : Int) < F := by have := LX.out; omega
        clear hn ho
        rcases ho2 with ho2 | ho2
        all_goals
          go_wp2_with (first
            | (go_at_call 13; go_must (refine (lenm _ N X _ (by exact HM.out) LX.out).mono ?_; rintro e w' ⟨rfl, rfl⟩))
            | (go_at_call 30; go_must (refine (nextm b X F true 0 7 _ (by exact HM.out) (by exact HT1.out) HN.out).mono ?_; rintro e w' ⟨rfl, q, rfl⟩)))
          go_roundw
          case rel => exact ⟨2, by omega, by go_num, _, rfl⟩
          case measure => simp [intOf]
      · subst hF0
        have HN := Lib.hid hn
        have HL := Lib.hid hl
        have HG := Lib.hid hg
        have hpN : (p : Int) < (N : Int) := by have := LX.out; omega
        have hfp : (f : Int) ≤ (p : Int) := by omega
        have HC := Lib.hid (fun (w0 : World) (hm : IsMap w0 b X) => countN b f (p - f) X w0 hm (by omega))
        rw [hc] at HC
        simp only [if_true] at HC
        have hsub : (p : Int) - (f : Int) = ((p - f : Nat) : Int) := by omega
        have HP := Lib.hid h2
        clear hn hl hg hc h1 h2
        have hdp : ((p - f : Nat) : Int) ≤ (p : Int) := by omega
        have hd0 : (0 : Int) ≤ ((p - f : Nat) : Int) := by omega
        generalize p - f = d at *
        go_wp2_with (first
          | (go_at_call 13; go_must (refine (lenm _ N X _ (by exact HM.out) LX.out).mono ?_; rintro e w' ⟨rfl, rfl⟩))
          | (go_at_call 30; go_must (refine (nextm b X f true p 0 _ (by exact HM.out) (by exact HT1.out) HN.out).mono ?_; rintro e w' ⟨rfl, q, rfl⟩))
          | (go_at_call 14; go_must (refine (HC.out _ (by exact HM.out)).mono ?_; rintro e w' ⟨rfl, q, rfl⟩))
          | (go_at_call 31; go_must (refine (getm b p X true _ (by exact HM.out) HP.out HG.out).mono ?_; rintro e w' ⟨rfl, rfl⟩))
          | (go_at_call 32; go_must (refine (lastm b X ((p + 1 : Nat) : Int) true p 0 _ (by exact HM.out) HL.out).mono ?_; rintro e w' ⟨rfl, q, rfl⟩)))
        go_roundw
        case rel => exact ⟨2, by omega, by go_num, _, rfl⟩
        case measure => simp [intOf]
      · subst hF0
        have HN := Lib.hid hn
        have hfN : (f : Int) ≤ (N : Int) := by have := LX.out; omega
        have HC := Lib.hid (fun (w0 : World) (hm : IsMap w0 b X) => countN b f (X.length - f) X w0 hm (by omega))
        rw [hc] at HC
        simp only [if_true, LX.out] at HC
        have hsub : (N : Int) - (f : Int) = ((N - f : Nat) : Int) := by omega
        clear hn hc h1
        have hdp : ((N - f : Nat) : Int) ≤ (N : Int) := by omega
        have hd0 : (0 : Int) ≤ ((N - f : Nat) : Int) := by omega
        generalize N - f = d at *
        go_wp2_with (first
          | (go_at_call 13; go_must (refine (lenm _ N X _ (by exact HM.out) LX.out).mono ?_; rintro e w' ⟨rfl, rfl⟩))
          | (go_at_call 30; go_must (refine (nextm b X f true 0 4 _ (by exact HM.out) (by exact HT1.out) HN.out).mono ?_; rintro e w' ⟨rfl, q, rfl⟩))
          | (go_at_call 14; go_must (refine (HC.out _ (by exact HM.out)).mono ?_; rintro e w' ⟨rfl, q, rfl⟩)))
        go_roundw
        case rel => exact ⟨2, by omega, by go_num, _, rfl⟩
        case measure => simp [intOf]
    · go_wp2_with (first
        | (go_at_call 15; go_must (refine (awake_walk _ (by exact HT1.out)).mono ?_; rintro e w2 ⟨rfl, hF2⟩; have HF2 := Lib.hid hF2.of_drewN; clear hF2)))
      go_ret
      exact ⟨rfl, HF.out.trans HF2.out (fun _ _ h => h)⟩
/-- **BitsSearch** -/
theorem search_walk (n : Nat) (a0 : Option Addr) (bs : List Nat) (bc : Nat) (F : Int) (w : World) (hT : Tab w) (hn : n < 65536) (hF : -9223372036854775808 ≤ F ∧ F ≤ 9223372036854775807) (hA : ArgW w a0 bs) (h1 : bs.length ≤ 9223372036854775807) :
    Calls Tryd.prog 6 #[.int .u16 n, .slice a0 bs.length bc, .int .i64 F] w fun e w' => e = .returned (.bool true) ∧ Fr (fun _ => False) w w' :=
  search_core n a0 bs.length bc (n % 601) F (madeL n bs) w (Lib.hid hT) (madeL_length n bs) (by omega) hF.1 hF.2 (Lib.hid (madeW n bc a0 bs w hn hA h1))
end Go.Proofs.YtbnjeglbbadcbaaDoor
