/- This text proves contracts of the reference's check of branches, its directories and their entries; no condition beyond those that each statement names. -/
import Derived.Test.YtogjfifpbplahaaGreatDoorJR11
namespace Go.Proofs.YtogjfifpbplahaaGreatDoor
open Go.RowKit
open BR
set_option linter.unusedVariables false

/-- what the walks ask of a node's sizes -/
def Fits (x : BNode) : Prop := Fine x ∧ x.r ≤ 100 ∧ ∀ k, k < x.r → (x.R k).size ≤ 1000
theorem treeE_zero {n : Nat} {N : Nat → BNode} (h : treeE n N = 0) : 0 < n ∧ n ≤ 120 ∧ ∀ j, j < n → nodeE N j = 0 := by
  unfold treeE at h
  by_cases h0 : n = 0
  · rw [if_pos h0] at h; omega
  · rw [if_neg h0] at h
    by_cases h1 : 120 < n
    · rw [if_pos h1] at h; omega
    · rw [if_neg h1] at h
      by_cases h2 : firstE (nodeE N) n = 0
      · exact ⟨by omega, by omega, firstE_none h2⟩
      · rw [if_pos h2] at h; exact absurd h h2
theorem treeE_deep {n : Nat} {N : Nat → BNode} (h : treeE n N = 0) : Deep N n := fun j hj => (nodeE_parts ((treeE_zero h).2.2 j hj)).1
theorem branchE_tree {n : Nat} {N : Nat → BNode} (h : treeE n N ≠ 0) : branchE n N = treeE n N := by unfold branchE; rw [if_pos h]
theorem branchE_marks {n : Nat} {N : Nat → BNode} (h : treeE n N = 0) : branchE n N = firstE (markE N) n := by unfold branchE; rw [if_neg (by simpa using h)]
theorem branchE_zero {n : Nat} {N : Nat → BNode} (h : branchE n N = 0) : treeE n N = 0 := by
  by_cases e : treeE n N = 0
  · exact e
  · rw [branchE_tree e] at h; exact h
set_option maxRecDepth 100000 in
set_option maxHeartbeats 4000000 in
theorem rbranch_walk (n c : Nat) (a0 : Option Addr) (N : Nat → BNode) (H : Nat → Hd) (w : World) (hB : BranchAt w a0 n N H) (hn : n ≤ 1000) (hs : ∀ j, j < n → Fits (N j)) :
    Calls Tryz.prog 32 #[.slice a0 n c] w (RetI (branchE n N) w) := by
  have HB := Lib.hid hB
  have HS := Lib.hid hs
  have CT := Lib.hid (rTree_walk n c a0 N H w hB hn (fun j hj => (hs j hj).1.2.2.1))
  clear hB hs
  by_cases ht : treeE n N = 0
  · have HD := Lib.hid (treeE_deep ht)
    have HM := Lib.hid (branchE_marks ht)
    have HT0 := Lib.hid ht
    clear ht
    go_enter Tryz.func32, Tryz.ntmps32
    go_wp2_with (first
      | (go_at_call 45; go_must (refine CT.out.mono ?_; rintro e w1 ⟨a1, c1, H1, rfl, hT, hG⟩; have HT := Lib.hid hT; have HF1 := Lib.hid hG; clear hT hG))
      | (go_at_call 44; go_must (refine (rtree_walk n c1 a1 N H1 w1 HT.out hn (fun j hj => (HS.out j hj).1)).mono ?_; rintro e w2 ⟨ix, rfl, hG⟩; rw [HT0.out]; have HF2 := Lib.hid (HF1.out.then hG); clear hG)))
    go_loopw [5, 6] (fun _ z wr => ∃ k : Nat, k ≤ n ∧ z = .int .i64 k ∧ Fr (fun _ => False) w wr ∧ Hid (∀ j, j < k → markE N j = 0)) (fun _ z _ => n - (intOf z).toNat)
    case atStart => exact ⟨0, by omega, rfl, HF2.out, Lib.hid (fun j hj => by omega)⟩
    case round =>
      obtain ⟨k, hk, rfl, hF, HJ⟩ := hrel
      by_cases hlt : k < n
      · have g1 : (0 : Int) ≤ (k : Int) := by omega
        have g2 : (k : Int) < n := by omega
        have CM := Lib.hid (rmarks_walk n c k a0 N H wr (HB.out.fr hF (fun _ _ h => h)) hn hlt HD.out (fun j hj => ⟨(HS.out j hj).1.2.2.1, (HS.out j hj).2⟩))
        have HF := Lib.hid hF
        clear hF
        by_cases he : markE N k = 0
        · have HZ := Lib.hid he
          rw [he] at CM
          clear he
          go_wp2_with (go_at_call 46; go_must (refine CM.out.mono ?_; rintro e w3 ⟨rfl, hG⟩; have HF3 := Lib.hid (HF.out.then hG); clear hG))
          go_roundw
          case rel => exact ⟨k + 1, by omega, by go_num, HF3.out, Lib.hid (fun j hj => by
            by_cases e : j = k
            · subst e; exact HZ.out
            · exact HJ.out j (by omega))⟩
          case measure => simp [intOf]; omega
        · have HE := Lib.hid (HM.out.trans (firstE_hit (f := markE N) HJ.out he hlt))
          have q0 : (markE N k != 0) = true := by simpa using he
          generalize markE N k = E at *
          clear he
          go_wp2_with (go_at_call 46; go_must (refine CM.out.mono ?_; rintro e w3 ⟨rfl, hG⟩; have HF3 := Lib.hid (HF.out.then hG); clear hG))
          go_ret2
          exact ⟨k, by rw [HE.out] <;> rfl, HF3.out⟩
      · obtain rfl : k = n := by omega
        have HE := Lib.hid (HM.out.trans (firstE_all HJ.out))
        have HF := Lib.hid hF
        clear hF
        go_wp2_with fail
        go_ret2
        exact ⟨0, by rw [HE.out] <;> rfl, HF.out⟩
  · have HE := Lib.hid (branchE_tree ht)
    have q0 : (treeE n N != 0) = true := by simpa using ht
    have CC := Lib.hid (fun c1 a1 H1 w1 hT => rtree_walk n c1 a1 N H1 w1 hT hn (fun j hj => (HS.out j hj).1))
    generalize treeE n N = E at *
    clear ht
    go_enter Tryz.func32, Tryz.ntmps32
    go_wp2_with (first
      | (go_at_call 45; go_must (refine CT.out.mono ?_; rintro e w1 ⟨a1, c1, H1, rfl, hT, hG⟩; have HT := Lib.hid hT; have HF1 := Lib.hid hG; clear hT hG))
      | (go_at_call 44; go_must (refine (CC.out c1 a1 H1 w1 HT.out).mono ?_; rintro e w2 ⟨ix, rfl, hG⟩; have HF2 := Lib.hid (HF1.out.then hG); clear hG)))
    go_ret2
    exact ⟨ix, by rw [HE.out] <;> rfl, HF2.out⟩
set_option maxRecDepth 100000 in
set_option maxHeartbeats 4000000 in
theorem rknown_walk (n c d : Nat) (a0 : Option Addr) (N : Nat → BNode) (H : Nat → Hd) (w : World) (hB : BranchAt w a0 n N H) (hn : n ≤ 1000) (hs : ∀ j, j < n → Fits (N j)) (hE : branchE n N = 0) (hd : d < n) :
    Calls Tryz.prog 33 #[.slice a0 n c, .int .i64 d] w (Ret (.int .i64 0) w) := by
  have CB := Lib.hid (rbranch_walk n c a0 N H w hB hn hs)
  rw [hE] at CB
  clear hB hs hE
  have g1 : ¬ (d : Int) < 0 := by omega
  have g2 : ¬ (n : Int) ≤ (d : Int) := by omega
  go_enter Tryz.func33, Tryz.ntmps33
  go_wp2_with (go_at_call 32; go_must (refine CB.out.mono ?_; rintro e w1 ⟨ix, rfl, hG⟩; have HF1 := Lib.hid hG; clear hG))
  go_ret
  exact ⟨rfl, HF1.out⟩
end Go.Proofs.YtogjfifpbplahaaGreatDoor

namespace Go.Proofs.YtogjfifpbplahaaGreatDoor
open Go.RowKit
open BR
set_option linter.unusedVariables false

theorem int_info : (Tryz.prog.info? 3).map (fun i => (i.zero, i.size, i.bytes)) = some (some (.int .i64 0), 1, 8) := by kernel_rfl
/-- numbers come back, and an error -/
def RetD (l : List Int) (E : Int) (w : World) (e : Ending) (w' : World) : Prop := ∃ v, e = .returned (.tuple #[v, .int .i64 E]) ∧ w'.ownsRow w.heap.size 3 1 v l.length (l.map (Value.int .i64)) ∧ Fr (fun _ => False) w w'
theorem dirsL_len (N : Nat → BNode) : ∀ k, (dirsL N k).length ≤ k
  | 0 => Nat.le_refl _
  | k + 1 => by
    have := dirsL_len N k
    simp only [dirsL]
    split
    · simp; omega
    · omega
theorem own_ints {w : World} {base : Nat} {e : TypeId} {v : Value} {l : List Int} (h : w.ownsRow base e 1 v l.length (l.map (Value.int .i64))) : ∃ a0 c, v = .slice a0 l.length c ∧ l.length ≤ c ∧ (0 < l.length → ∃ g, a0 = some ⟨g, 0, none⟩ ∧ base ≤ g ∧ g < w.heap.size ∧ ∀ j, j < l.length → w.cell? ⟨g, j, none⟩ = some (.int .i64 (l.getD j 0))) := by
  obtain ⟨a0, c, rfl, hc, hr⟩ := own_slice h
  refine ⟨a0, c, rfl, hc, fun hm => ?_⟩
  obtain ⟨g, rfl, hb, hlt, hj⟩ := hr hm
  exact ⟨g, rfl, hb, hlt, fun j hj2 => hj j _ (by simp [List.getD, hj2])⟩
set_option maxRecDepth 100000 in
set_option maxHeartbeats 4000000 in
theorem rdirs_walk (n c : Nat) (a0 : Option Addr) (N : Nat → BNode) (H : Nat → Hd) (w : World) (hB : BranchAt w a0 n N H) (hn : n ≤ 1000) (hs : ∀ j, j < n → Fits (N j)) (hE : branchE n N = 0) :
    Calls Tryz.prog 20 #[.slice a0 n c] w (RetD (dirsL N n) 0 w) := by
  obtain ⟨i0, hinf, hz0, hz1, hz2⟩ := info_parts int_info
  have HI := Lib.hid (And.intro hinf (And.intro hz0 (And.intro hz1 hz2)))
  have HB := Lib.hid hB
  have CB := Lib.hid (rbranch_walk n c a0 N H w hB hn hs)
  rw [hE] at CB
  clear hB hs hE hinf hz0 hz1 hz2
  go_enter Tryz.func20, Tryz.ntmps20
  go_wp2_with (go_at_call 32; go_must (refine CB.out.mono ?_; rintro e w1 ⟨ix, rfl, hG⟩; have HF1 := Lib.hid hG; clear hG))
  go_loopw [6, 7] (fun v z wr => ∃ (k : Nat) (vv : Value), vv = v ∧ k ≤ n ∧ z = .int .i64 k ∧ Fr (fun _ => False) w wr ∧ Hid (wr.ownsRow w.heap.size 3 1 vv (dirsL N k).length ((dirsL N k).map (Value.int .i64)))) (fun _ z _ => n - (intOf z).toNat)
  case atStart => exact ⟨0, _, rfl, by omega, rfl, HF1.out, Lib.hid (World.ownsRow_nil _ _ _ _)⟩
  case round =>
    obtain ⟨k, v, rfl, hk, rfl, hF, HO⟩ := hrel
    by_cases hlt : k < n
    · obtain ⟨b, o, rfl, hb, hc⟩ := HB.out.get (by omega)
      have c2 := (hc wr hF k hlt).c2
      have g1 : (0 : Int) ≤ (k : Int) := by omega
      have g2 : (k : Int) < n := by omega
      have HF := Lib.hid hF
      clear hF hc
      by_cases he : (N k).kind = 1
      · have HL := Lib.hid (show dirsL N (k + 1) = dirsL N k ++ [(k : Int)] by simp only [dirsL]; rw [if_pos he])
        have e1 : ((N k).kind == 1) = true := by simpa using he
        have hlen := dirsL_len N k
        clear he
        generalize dirsL N k = L at *
        go_wp2_with (at_builtin; go_must (refine wpList_append_any rfl _ _ 53 rfl w.heap.size 3 i0 _ 1 8 Tryz.underlying53 HI.out.1 HI.out.2.1 HI.out.2.2.1 HI.out.2.2.2 rfl (by decide) v L.length (L.map (Value.int .i64)) rfl (own_fr HO.out ((Fr.refl (fun _ => False) _).alloc _) (fun _ _ h => h)) (some ⟨wr.heap.size, 0, none⟩) 1 1 [.int .i64 (k : Int)] rfl rfl (fun _ => ⟨wr.heap.size, 0, rfl, fun j u hj => ((RowB.new wr 3 [.int .i64 (k : Int)]).cell (0 + j)).trans (by rw [Nat.zero_add]; exact hj)⟩) (fun u hu => by rw [List.mem_singleton.1 hu]; rfl) (by unfold maxLen; omega) (by omega) (by have := HF.out.size; rw [alloc_size]; omega) ?_; intro v' w3 hown hgrow hat; have HO3 := Lib.hid hown; have HF3 := Lib.hid (fr_grow (HF.out.alloc _) hgrow (fun g hg => own_block_ge HO.out g hg)); clear hown hgrow hat))
        go_roundw
        case rel => exact ⟨k + 1, _, rfl, by omega, by go_num, HF3.out, Lib.hid (by have h := HO3.out; rw [HL.out]; simpa using h)⟩
        case measure => simp [intOf]; omega
      · have HL := Lib.hid (show dirsL N (k + 1) = dirsL N k by simp only [dirsL]; rw [if_neg he])
        have e1 : ((N k).kind == 1) = false := by simpa using he
        clear he
        go_wp2_with fail
        go_roundw
        case rel => exact ⟨k + 1, _, rfl, by omega, by go_num, HF.out, by rw [HL.out]; exact HO⟩
        case measure => simp [intOf]; omega
    · obtain rfl : k = n := by omega
      have HF := Lib.hid hF
      clear hF
      go_wp2_with fail
      go_ret2
      exact ⟨v, rfl, HO.out, HF.out⟩
set_option maxRecDepth 100000 in
set_option maxHeartbeats 4000000 in
theorem rdirs_bad (n c : Nat) (a0 : Option Addr) (N : Nat → BNode) (H : Nat → Hd) (w : World) (hB : BranchAt w a0 n N H) (hn : n ≤ 1000) (hs : ∀ j, j < n → Fits (N j)) (hE : branchE n N ≠ 0) :
    Calls Tryz.prog 20 #[.slice a0 n c] w (Ret (.tuple #[.slice none 0 0, .int .i64 (branchE n N)]) w) := by
  have CB := Lib.hid (rbranch_walk n c a0 N H w hB hn hs)
  have q0 : (branchE n N != 0) = true := by simpa using hE
  generalize branchE n N = E at *
  clear hB hs hE
  go_enter Tryz.func20, Tryz.ntmps20
  go_wp2_with (go_at_call 32; go_must (refine CB.out.mono ?_; rintro e w1 ⟨ix, rfl, hG⟩; have HF1 := Lib.hid hG; clear hG))
  go_ret2
  exact ⟨rfl, HF1.out⟩
theorem par_lt (N : Nat → BNode) (i : Nat) : parF N i < i := by
  rcases lastAt_cases N ((N i).depth - 1) i with h | ⟨p, h1, h2⟩
  · unfold parF; omega
  · unfold parF; omega
theorem kidsN_low (N : Nat → BNode) (d : Nat) : ∀ k, k ≤ d + 1 → kidsN N d k = 0
  | 0, _ => rfl
  | k + 1, h => by
    have h1 := kidsN_low N d k (by omega)
    have h2 := par_lt N k
    simp only [kidsN]
    rw [h1, if_neg (by omega)]
theorem kidsN_le (N : Nat → BNode) (d : Int) : ∀ k, kidsN N d k ≤ k
  | 0 => Nat.le_refl _
  | k + 1 => by
    have := kidsN_le N d k
    simp only [kidsN]
    split <;> omega
/-- so many numbers come back -/
def RetK (m : Nat) (w : World) (e : Ending) (w' : World) : Prop := ∃ a0 c, e = .returned (.tuple #[.slice a0 m c, .int .i64 0]) ∧ Fr (fun _ => False) w w'
set_option maxRecDepth 100000 in
set_option maxHeartbeats 4000000 in
theorem rkids_walk (n c d : Nat) (a0 : Option Addr) (N : Nat → BNode) (H : Nat → Hd) (w : World) (hB : BranchAt w a0 n N H) (hn : n ≤ 1000) (hs : ∀ j, j < n → Fits (N j)) (hE : branchE n N = 0) (hd : d < n) (hk : (N d).kind = 1) :
    Calls Tryz.prog 21 #[.slice a0 n c, .int .i64 d] w (RetK (kidsN N d n) w) := by
  obtain ⟨i0, hinf, hz0, hz1, hz2⟩ := info_parts int_info
  have HI := Lib.hid (And.intro hinf (And.intro hz0 (And.intro hz1 hz2)))
  have HB := Lib.hid hB
  have HD := Lib.hid (treeE_deep (branchE_zero hE))
  have CB := Lib.hid (rknown_walk n c d a0 N H w hB hn hs hE hd)
  obtain ⟨b, o, rfl, hb, hc⟩ := hB.get (by omega)
  have HC := Lib.hid (fun w0 (hG : Fr (fun _ => False) w w0) => (hc w0 hG d hd).c2)
  rw [hk] at HC
  clear hB hs hE hinf hz0 hz1 hz2 hc hk
  have g1 : (0 : Int) ≤ (d : Int) := by omega
  have g2 : (d : Int) < n := by omega
  go_enter Tryz.func21, Tryz.ntmps21
  go_wp2_with (go_at_call 33; go_must (refine CB.out.mono ?_; rintro e w1 ⟨rfl, hG⟩; have HF1 := Lib.hid hG; have k2 := HC.out w1 hG; clear hG))
  go_loopw [7, 8] (fun v z wr => ∃ (k : Nat) (vv : Value) (xs : List Value), vv = v ∧ d + 1 ≤ k ∧ k ≤ n ∧ z = .int .i64 k ∧ Fr (fun _ => False) w wr ∧ Hid (wr.ownsRow w.heap.size 3 1 vv (kidsN N d k) xs)) (fun _ z _ => n - (intOf z).toNat)
  case atStart => exact ⟨d + 1, _, [], rfl, by omega, by omega, by go_num, HF1.out, Lib.hid (by rw [kidsN_low N d (d + 1) (by omega)]; exact World.ownsRow_nil _ _ _ _)⟩
  case round =>
    obtain ⟨k, v, xs, rfl, hk1, hk, rfl, hF, HO⟩ := hrel
    by_cases hlt : k < n
    · have g3 : (0 : Int) ≤ (k : Int) := by omega
      have g4 : (k : Int) < n := by omega
      have CA := Lib.hid (rabove_walk n c k _ N H wr (HB.out.fr hF (fun _ _ h => h)) hn hlt HD.out)
      have HF := Lib.hid hF
      have hle := kidsN_le N d k
      have HL := Lib.hid (show kidsN N d (k + 1) = kidsN N d k + (if parF N k = d then 1 else 0) from rfl)
      clear hF
      generalize kidsN N d k = K at *
      by_cases he : parF N k = d
      · have HL2 := Lib.hid (show kidsN N d (k + 1) = K + 1 by rw [HL.out, if_pos he])
        rw [he] at CA
        clear he
        go_wp2_with (first
          | (go_at_call 34; go_must (refine CA.out.mono ?_; rintro e w2 ⟨rfl, hG⟩; have HG := Lib.hid hG; clear hG))
          | (at_builtin; go_must (refine wpList_append_any rfl _ _ 53 rfl w.heap.size 3 i0 _ 1 8 Tryz.underlying53 HI.out.1 HI.out.2.1 HI.out.2.2.1 HI.out.2.2.2 rfl (by decide) v K xs rfl (own_fr HO.out (HG.out.then ((Fr.refl (fun _ => False) _).alloc _)) (fun _ _ h => h)) (some ⟨w2.heap.size, 0, none⟩) 1 1 [.int .i64 (k : Int)] rfl rfl (fun _ => ⟨w2.heap.size, 0, rfl, fun j u hj => ((RowB.new w2 3 [.int .i64 (k : Int)]).cell (0 + j)).trans (by rw [Nat.zero_add]; exact hj)⟩) (fun u hu => by rw [List.mem_singleton.1 hu]; rfl) (by unfold maxLen; omega) (by omega) (by have := HF.out.size; have := HG.out.size; rw [alloc_size]; omega) ?_; intro v' w3 hown hgrow hat; have HO3 := Lib.hid hown; have HF3 := Lib.hid (fr_grow (HF.out.then (HG.out.alloc _)) hgrow (fun g hg => own_block_ge HO.out g hg)); clear hown hgrow hat)))
        go_roundw
        case rel => exact ⟨k + 1, _, _, rfl, by omega, by omega, by go_num, HF3.out, Lib.hid (by rw [HL2.out]; exact HO3.out)⟩
        case measure => simp [intOf]; omega
      · have HL2 := Lib.hid (show kidsN N d (k + 1) = K by rw [HL.out, if_neg he]; rfl)
        have e1 : (parF N k == (d : Int)) = false := by simpa using he
        generalize parF N k = P at *
        clear he
        go_wp2_with (go_at_call 34; go_must (refine CA.out.mono ?_; rintro e w2 ⟨rfl, hG⟩; have HG := Lib.hid hG; clear hG))
        go_roundw
        case rel => exact ⟨k + 1, _, _, rfl, by omega, by omega, by go_num, HF.out.then HG.out, Lib.hid (by rw [HL2.out]; exact own_fr HO.out HG.out (fun _ _ h => h))⟩
        case measure => simp [intOf]; omega
    · obtain rfl : k = n := by omega
      have HF := Lib.hid hF
      clear hF
      obtain ⟨a1, c1, rfl, _, _⟩ := own_slice HO.out
      go_wp2_with fail
      go_ret2
      exact ⟨a1, c1, rfl, HF.out⟩
end Go.Proofs.YtogjfifpbplahaaGreatDoor
