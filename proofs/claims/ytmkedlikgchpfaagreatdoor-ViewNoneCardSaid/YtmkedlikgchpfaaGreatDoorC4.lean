/- The law's looks at how large lowers and a path are: wide, far: they say yes or no. -/
import Derived.Test.YtmkedlikgchpfaaGreatDoorB0
namespace Go.Proofs.YtmkedlikgchpfaaGreatDoor
open Go.RowKit
set_option linter.unusedVariables false
/-- a node of a tree, as the look sees it: its string fields, the slice of its attributes -/
structure VN where
  depth : Int
  name : ByteArray
  kind : Int
  aA : Option Addr
  m : Nat
  cA : Nat
  data : ByteArray
  major : Int
  minor : Int
  cls : Int
def VN.V (x : VN) : List Value := [.int .i64 x.depth, .string x.name, .int .i64 x.kind, .slice x.aA x.m x.cA, .string x.data, .int .i64 x.major, .int .i64 x.minor, .int .i64 x.cls]
/-- the slice holds r rows of strings, k in each -/
def StrsAt (w : World) (a0 : Option Addr) (r : Nat) : Prop := ∀ j, j < r → ∃ b o s, a0 = some ⟨b, o, none⟩ ∧ b < w.heap.size ∧ w.cell? ⟨b, o + j, none⟩ = some (.string s)
def AttrsAt (w : World) (a0 : Option Addr) (m : Nat) : Prop := ∀ j, j < m → ∃ b o s t, a0 = some ⟨b, o, none⟩ ∧ b < w.heap.size ∧ w.cell? ⟨b, o + j * 2, none⟩ = some (.string s) ∧ w.cell? ⟨b, o + j * 2 + 1, none⟩ = some (.string t)
def TreeAt (w : World) (a0 : Option Addr) (n : Nat) : Prop := ∀ i, i < n → ∃ b o, ∃ x : VN, a0 = some ⟨b, o, none⟩ ∧ b < w.heap.size ∧ (∀ j v, x.V[j]? = some v → w.cell? ⟨b, o + i * 8 + j, none⟩ = some v) ∧ AttrsAt w x.aA x.m
def LowersAt (w : World) (a0 : Option Addr) (n : Nat) : Prop := ∀ i, i < n → ∃ b o x k c, a0 = some ⟨b, o, none⟩ ∧ b < w.heap.size ∧ w.cell? ⟨b, o + i, none⟩ = some (.slice x k c) ∧ TreeAt w x k
section
variable {w w' : World}
theorem StrsAt.fr {a0 : Option Addr} {r : Nat} (h : StrsAt w a0 r) (f : Fr (fun _ => False) w w') : StrsAt w' a0 r := fun j hj => by
  obtain ⟨b, o, s, h1, h2, h3⟩ := h j hj
  exact ⟨b, o, s, h1, Nat.lt_of_lt_of_le h2 f.size, f.cell h2 (fun h => h) h3⟩
theorem AttrsAt.fr {a0 : Option Addr} {r : Nat} (h : AttrsAt w a0 r) (f : Fr (fun _ => False) w w') : AttrsAt w' a0 r := fun j hj => by
  obtain ⟨b, o, s, t, h1, h2, h3, h4⟩ := h j hj
  exact ⟨b, o, s, t, h1, Nat.lt_of_lt_of_le h2 f.size, f.cell h2 (fun h => h) h3, f.cell h2 (fun h => h) h4⟩
theorem TreeAt.fr {a0 : Option Addr} {r : Nat} (h : TreeAt w a0 r) (f : Fr (fun _ => False) w w') : TreeAt w' a0 r := fun j hj => by
  obtain ⟨b, o, x, h1, h2, h3, h4⟩ := h j hj
  exact ⟨b, o, x, h1, Nat.lt_of_lt_of_le h2 f.size, fun i v hv => f.cell h2 (fun h => h) (h3 i v hv), h4.fr f⟩
theorem LowersAt.fr {a0 : Option Addr} {r : Nat} (h : LowersAt w a0 r) (f : Fr (fun _ => False) w w') : LowersAt w' a0 r := fun j hj => by
  obtain ⟨b, o, x, k, c, h1, h2, h3, h4⟩ := h j hj
  exact ⟨b, o, x, k, c, h1, Nat.lt_of_lt_of_le h2 f.size, f.cell h2 (fun h => h) h3, h4.fr f⟩
end
/-- yes or no comes back -/
def RetB (w : World) (e : Ending) (w' : World) : Prop := ∃ q : Bool, e = .returned (.bool q) ∧ Fr (fun _ => False) w w'
set_option maxRecDepth 100000 in
set_option maxHeartbeats 8000000 in
theorem wide_walk (n c : Nat) (a0 : Option Addr) (w : World) (hT : TreeAt w a0 n) : Calls Tryz.prog 14 #[.slice a0 n c] w (RetB w) := by
  by_cases h10 : 40 < n
  · have q0 : (40 : Int) < (n : Int) := by omega
    go_enter Tryz.func14, Tryz.ntmps14
    go_wp2_with fail
    go_ret
    exact ⟨true, rfl, Fr.refl _ _⟩
  · have HT := Lib.hid hT
    have q0 : ¬ (40 : Int) < (n : Int) := by omega
    clear hT
    go_enter Tryz.func14, Tryz.ntmps14
    go_wp2_with fail
    go_loopw [3, 4] (fun i _ wr => ∃ k : Nat, k ≤ n ∧ i = .int .i64 k ∧ Fr (fun _ => False) w wr) (fun i _ _ => n - (intOf i).toNat)
    case atStart => exact ⟨0, by omega, rfl, Fr.refl _ _⟩
    case round =>
      obtain ⟨k, hk, rfl, hF⟩ := hrel
      by_cases hlt : k < n
      · obtain ⟨b, o, x, rfl, hb, hc, hA⟩ := (HT.out.fr hF) k hlt
        have c1 := hc 1 _ rfl
        have c3 := hc 3 _ rfl
        have c4 := hc 4 _ rfl
        have g1 : (0 : Int) ≤ (k : Int) := by omega
        have g2 : (k : Int) < n := by omega
        have HA := Lib.hid hA
        have HC := Lib.hid (hc 3 _ rfl)
        have HF := Lib.hid hF
        have HB := Lib.hid hb
        clear hF hc hA hb
        by_cases h1 : 50 < x.name.size
        · have e1 : decide ((50 : Int) < (x.name.size : Int)) = true := by simp; omega
          clear h1
          go_wp2_with fail
          go_ret
          exact ⟨true, rfl, HF.out⟩
        · have e1 : decide ((50 : Int) < (x.name.size : Int)) = false := by simp; omega
          by_cases h2 : 400 < x.data.size
          · have e2 : decide ((400 : Int) < (x.data.size : Int)) = true := by simp; omega
            clear h1 h2
            go_wp2_with fail
            go_ret
            exact ⟨true, rfl, HF.out⟩
          · have e2 : decide ((400 : Int) < (x.data.size : Int)) = false := by simp; omega
            by_cases h3 : 8 < x.m
            · have e3 : decide ((8 : Int) < (x.m : Int)) = true := by simp; omega
              clear h1 h2 h3
              go_wp2_with fail
              go_ret
              exact ⟨true, rfl, HF.out⟩
            · have e3 : decide ((8 : Int) < (x.m : Int)) = false := by simp; omega
              have HM8 := Lib.hid (show x.m ≤ 8 by omega)
              clear h1 h2 h3
              go_wp2_with fail
              clear c1 c3 c4 e1 e2 e3
              go_loopw [4] (fun i w2 => ∃ q : Nat, q ≤ x.m ∧ i = .int .i64 q ∧ Fr (fun _ => False) w w2 ∧ w2.cell? ⟨b, o + k * 8 + 3, none⟩ = some (.slice x.aA x.m x.cA) ∧ Hid (AttrsAt w2 x.aA x.m)) (fun i _ => x.m - (intOf i).toNat)
              case atStart => exact ⟨0, by omega, rfl, HF.out, HC.out, HA⟩
              case round =>
                obtain ⟨q, hq, rfl, hF2, c3, HA2⟩ := hrel
                have HF2 := Lib.hid hF2
                have hm8 := HM8.out
                clear hF2
                by_cases hqr : q < x.m
                · obtain ⟨b2, o2, s, t, haA, hb2, t1, t2⟩ := HA2.out q hqr
                  have HC3 := Lib.hid c3
                  rw [haA] at c3
                  have HAA := Lib.hid haA
                  have g3 : (0 : Int) ≤ (q : Int) := by omega
                  have g4 : (q : Int) < x.m := by omega
                  clear haA hb2
                  by_cases h5 : 300 < s.size
                  · have e1 : decide ((300 : Int) < (s.size : Int)) = true := by simp; omega
                    clear h5
                    go_wp2_with fail
                    go_ret
                    exact ⟨true, rfl, HF2.out⟩
                  · have e1 : decide ((300 : Int) < (s.size : Int)) = false := by simp; omega
                    by_cases h6 : 300 < t.size
                    · have e2 : decide ((300 : Int) < (t.size : Int)) = true := by simp; omega
                      clear h5 h6
                      go_wp2_with fail
                      go_ret
                      exact ⟨true, rfl, HF2.out⟩
                    · have e2 : decide ((300 : Int) < (t.size : Int)) = false := by simp; omega
                      clear h5 h6
                      go_wp2_with fail
                      go_roundw
                      case rel => exact ⟨q + 1, by omega, by go_num, HF2.out, HC3.out, HA2⟩
                      case measure => simp [intOf]; omega
                · have hqe : ¬ (q : Int) < (x.m : Int) := by omega
                  clear hqr
                  go_wp2_with fail
                  go_roundw
                  case rel => exact ⟨k + 1, by omega, by go_num, HF2.out⟩
                  case measure => simp [intOf]; omega
      · obtain rfl : k = n := by omega
        have HF := Lib.hid hF
        clear hF
        go_wp2_with fail
        go_ret
        exact ⟨false, rfl, HF.out⟩
set_option maxRecDepth 100000 in
set_option maxHeartbeats 8000000 in
theorem far_walk (n c r d : Nat) (a0 a1 : Option Addr) (w : World) (hL : LowersAt w a0 n) (hP : StrsAt w a1 r) : Calls Tryz.prog 4 #[.slice a0 n c, .slice a1 r d] w (RetB w) := by
  by_cases h6 : 6 < n
  · have e1 : decide ((6 : Int) < (n : Int)) = true := by simp; omega
    go_enter Tryz.func4, Tryz.ntmps4
    go_wp2_with fail
    go_ret
    exact ⟨true, rfl, Fr.refl _ _⟩
  · have e1 : decide ((6 : Int) < (n : Int)) = false := by simp; omega
    by_cases h20 : 20 < r
    · have e2 : decide ((20 : Int) < (r : Int)) = true := by simp; omega
      go_enter Tryz.func4, Tryz.ntmps4
      go_wp2_with fail
      go_ret
      exact ⟨true, rfl, Fr.refl _ _⟩
    · have e2 : decide ((20 : Int) < (r : Int)) = false := by simp; omega
      have HL := Lib.hid hL
      have HP := Lib.hid hP
      have hr20 : r ≤ 20 := by omega
      have hn6 : n ≤ 6 := by omega
      clear hL hP h6 h20
      go_enter Tryz.func4, Tryz.ntmps4
      go_wp2_with fail
      clear e1 e2
      go_loopw [5] (fun i wr => ∃ k : Nat, k ≤ r ∧ i = .int .i64 k ∧ Fr (fun _ => False) w wr) (fun i _ => r - (intOf i).toNat)
      case atStart => exact ⟨0, by omega, rfl, Fr.refl _ _⟩
      case round =>
        obtain ⟨k, hk, rfl, hF⟩ := hrel
        by_cases hlt : k < r
        · obtain ⟨b, o, s, rfl, hb, c1⟩ := (HP.out.fr hF) k hlt
          have g1 : (0 : Int) ≤ (k : Int) := by omega
          have g2 : (k : Int) < r := by omega
          have HF := Lib.hid hF
          clear hF hb
          by_cases h1 : 100 < s.size
          · have e1 : decide ((100 : Int) < (s.size : Int)) = true := by simp; omega
            clear h1
            go_wp2_with fail
            go_ret
            exact ⟨true, rfl, HF.out⟩
          · have e1 : decide ((100 : Int) < (s.size : Int)) = false := by simp; omega
            clear h1
            go_wp2_with fail
            go_roundw
            case rel => exact ⟨k + 1, by omega, by go_num, HF.out⟩
            case measure => simp [intOf]; omega
        · have hke : ¬ (k : Int) < (r : Int) := by omega
          have HF := Lib.hid hF
          clear hF hlt
          go_wp2_with fail
          go_loopw [6] (fun i wr => ∃ k : Nat, k ≤ n ∧ i = .int .i64 k ∧ Fr (fun _ => False) w wr) (fun i _ => n - (intOf i).toNat)
          case atStart => exact ⟨0, by omega, rfl, HF.out⟩
          case round =>
            obtain ⟨q, hq, rfl, hF⟩ := hrel
            by_cases hlt : q < n
            · obtain ⟨b, o, x, m, cx, rfl, hb, c1, hT⟩ := (HL.out.fr hF) q hlt
              have g1 : (0 : Int) ≤ (q : Int) := by omega
              have g2 : (q : Int) < n := by omega
              have CL := Lib.hid (wide_walk m cx x _ hT)
              have HF := Lib.hid hF
              clear hF hb hT
              go_wp2_with (go_at_call 14; go_must (refine CL.out.mono ?_; rintro e w1 ⟨p, rfl, hG⟩; have HG := Lib.hid (HF.out.then hG); clear hG; cases p))
              all_goals first | (go_ret; exact ⟨true, rfl, HG.out⟩) | skip
              go_roundw
              case rel => exact ⟨q + 1, by omega, by go_num, HG.out⟩
              case measure => simp [intOf]; omega
            · have hke : ¬ (q : Int) < (n : Int) := by omega
              have HF := Lib.hid hF
              clear hF hlt
              go_wp2_with fail
              go_ret
              exact ⟨false, rfl, HF.out⟩
end Go.Proofs.YtmkedlikgchpfaaGreatDoor
