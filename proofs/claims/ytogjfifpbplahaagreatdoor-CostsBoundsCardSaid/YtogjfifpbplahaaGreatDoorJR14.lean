/- The reference's size of a branch, walked. -/
import Derived.Test.YtogjfifpbplahaaGreatDoorJj
import Derived.RegionTactic
import Derived.ChangeAlike
import Derived.BigRegion
namespace Go.Proofs.YtogjfifpbplahaaGreatDoor
open Go.RowKit
open BR
set_option linter.unusedVariables false

def sizeV (n : Nat) (N : Nat → BNode) : Value := .tuple #[.agg #[.int .i64 n, .int .i64 (dirsL N n).length, .int .i64 (widthM n N (dirsL N n) (dirsL N n).length), .int .i64 (depthM N n), .int .i64 (mostC N n)], .int .i64 0]
def sizeB (E : Int) : Value := .tuple #[.agg #[.int .i64 0, .int .i64 0, .int .i64 0, .int .i64 0, .int .i64 0], .int .i64 E]
/-- the row of the size -/
def szR (n l w d c : Int) : List Value := [.int .i64 n, .int .i64 l, .int .i64 w, .int .i64 d, .int .i64 c]
theorem widthM_le (n : Nat) (N : Nat → BNode) (l : List Int) : ∀ k, widthM n N l k ≤ n
  | 0 => Nat.zero_le _
  | k + 1 => by
    have h1 := widthM_le n N l k
    have h2 := kidsN_le N (l.getD k 0) n
    simp only [widthM]
    omega
theorem dirsL_at (N : Nat → BNode) : ∀ k j, j < (dirsL N k).length → ∃ d : Nat, (dirsL N k).getD j 0 = d ∧ d < k ∧ (N d).kind = 1
  | 0, j, h => by simp [dirsL] at h
  | k + 1, j, h => by
    by_cases hk : (N k).kind = 1
    · have e : dirsL N (k + 1) = dirsL N k ++ [(k : Int)] := by simp only [dirsL]; rw [if_pos hk]
      rw [e] at h ⊢
      by_cases hj : j < (dirsL N k).length
      · obtain ⟨d, h1, h2, h3⟩ := dirsL_at N k j hj
        refine ⟨d, ?_, by omega, h3⟩
        rw [← h1, List.getD_eq_getElem?_getD, List.getD_eq_getElem?_getD, List.getElem?_append_left hj]
      · have : j = (dirsL N k).length := by simp at h; omega
        refine ⟨k, ?_, by omega, hk⟩
        rw [List.getD_eq_getElem?_getD, List.getElem?_append_right (by omega), this]
        simp
    · have e : dirsL N (k + 1) = dirsL N k := by simp only [dirsL]; rw [if_neg hk]
      rw [e] at h ⊢
      obtain ⟨d, h1, h2, h3⟩ := dirsL_at N k j h
      exact ⟨d, h1, by omega, h3⟩
set_option maxRecDepth 100000 in
set_option maxHeartbeats 4000000 in
theorem rsize_bad (n c : Nat) (a0 : Option Addr) (N : Nat → BNode) (H : Nat → Hd) (w : World) (hB : BranchAt w a0 n N H) (hn : n ≤ 1000) (hs : ∀ j, j < n → Fits (N j)) (hE : branchE n N ≠ 0) :
    Calls Tryz.prog 9 #[.slice a0 n c] w (Ret (sizeB (branchE n N)) w) := by
  have CD := Lib.hid (fun (w0 : World) (hG : Fr (fun _ => False) w w0) => rdirs_bad n c a0 N H w0 (hB.fr hG (fun _ _ h => h)) hn hs hE)
  have HR := Lib.hid (fun w0 (hG : Fr (fun _ => False) (w.alloc (.cells #[.int .i64 0, .int .i64 0, .int .i64 0, .int .i64 0, .int .i64 0] 26)) w0) => RowB.fr (vs := szR 0 0 0 0 0) (RowB.new w 26 (szR 0 0 0 0 0)) hG (fun h => h))
  have q0 : (branchE n N != 0) = true := by simpa using hE
  unfold sizeB
  generalize branchE n N = E at *
  clear hB hs hE
  go_enter Tryz.func9, Tryz.ntmps9
  go_wp2_with (go_at_call 20; go_must (refine (CD.out _ ((Fr.refl _ w).alloc _)).mono ?_; rintro e w1 ⟨rfl, hG⟩; have HF1 := Lib.hid hG; have hr := HR.out w1 hG; have r0 : w1.cell? ⟨w.heap.size, 0, none⟩ = some (.int .i64 0) := hr.cell 0; have r1 : w1.cell? ⟨w.heap.size, 1, none⟩ = some (.int .i64 0) := hr.cell 1; have r2 : w1.cell? ⟨w.heap.size, 2, none⟩ = some (.int .i64 0) := hr.cell 2; have r3 : w1.cell? ⟨w.heap.size, 3, none⟩ = some (.int .i64 0) := hr.cell 3; have r4 : w1.cell? ⟨w.heap.size, 4, none⟩ = some (.int .i64 0) := hr.cell 4; have f0 := hr.frozen 0; have f1 := hr.frozen 1; have f2 := hr.frozen 2; have f3 := hr.frozen 3; have f4 := hr.frozen 4; clear hG hr))
  refine bodyPost_ret (v := .tuple #[.agg #[.int .i64 0, .int .i64 0, .int .i64 0, .int .i64 0, .int .i64 0], .int .i64 E]) (by simp [results, Tryz.results9, go_sem, *]) rfl ⟨rfl, ?_⟩
  have h1 : Fr (fun b => b = w.heap.size) w1 (((((w1.setCell ⟨w.heap.size, 0, none⟩ (.int .i64 0)).setCell ⟨w.heap.size, 1, none⟩ (.int .i64 0)).setCell ⟨w.heap.size, 2, none⟩ (.int .i64 0)).setCell ⟨w.heap.size, 3, none⟩ (.int .i64 0)).setCell ⟨w.heap.size, 4, none⟩ (.int .i64 0)) :=
    Fr.setCell (Fr.setCell (Fr.setCell (Fr.setCell (Fr.setCell (Fr.refl (fun b => b = w.heap.size) w1) (a := ⟨w.heap.size, 0, none⟩) (fun _ => rfl) _) (a := ⟨w.heap.size, 1, none⟩) (fun _ => rfl) _) (a := ⟨w.heap.size, 2, none⟩) (fun _ => rfl) _) (a := ⟨w.heap.size, 3, none⟩) (fun _ => rfl) _) (a := ⟨w.heap.size, 4, none⟩) (fun _ => rfl) _
  exact (((Fr.refl (fun _ => False) w).alloc _).then HF1.out).trans h1 (fun k hk e => by have e : k = w.heap.size := e; omega)
theorem frS {w w1 w2 : World} {B : Nat} (h : Fr (fun _ => False) w w1) (k : Fr (fun b => b = B) w1 w2) (hB : w.heap.size ≤ B) : Fr (fun _ => False) w w2 := h.trans k (fun i hi e => by have e : i = B := e; omega)
theorem depthM_bd {N : Nat → BNode} {n : Nat} (h : Deep N n) : ∀ k, k ≤ n → 0 ≤ depthM N k ∧ depthM N k ≤ 8
  | 0, _ => by simp [depthM]
  | k + 1, hk => by
    have h1 := depthM_bd h k (by omega)
    have h2 := deep_bd h (show k < n by omega)
    simp only [depthM]
    omega
set_option maxRecDepth 100000 in
set_option maxHeartbeats 8000000 in
theorem rsize_ok (n c : Nat) (a0 : Option Addr) (N : Nat → BNode) (H : Nat → Hd) (w : World) (hB : BranchAt w a0 n N H) (hn : n ≤ 1000) (hs : ∀ j, j < n → Fits (N j)) (hE : branchE n N = 0) :
    Calls Tryz.prog 9 #[.slice a0 n c] w (Ret (sizeV n N) w) := by
  have HB := Lib.hid hB
  have CD := Lib.hid (fun (w0 : World) (hG : Fr (fun _ => False) w w0) => rdirs_walk n c a0 N H w0 (hB.fr hG (fun _ _ h => h)) hn hs hE)
  have CK := Lib.hid (fun (d : Nat) (hd : d < n) (hk : (N d).kind = 1) (w0 : World) (hG : Fr (fun _ => False) w w0) => rkids_walk n c d a0 N H w0 (hB.fr hG (fun _ _ h => h)) hn hs hE hd hk)
  have HD := Lib.hid (treeE_deep (branchE_zero hE))
  have HCL := Lib.hid (fun k (hk : k ≤ n) => mostC_bd (N := N) k (fun j hj => (nodeE_parts ((treeE_zero (branchE_zero hE)).2.2 j (by omega))).2.2.2.2))
  have HCB := Lib.hid (fun k (hk : k < n) => classE_bd (N := N) ((nodeE_parts ((treeE_zero (branchE_zero hE)).2.2 k hk)).2.2.2.2))
  have HR := Lib.hid (fun w0 (hG : Fr (fun _ => False) (w.alloc (.cells #[.int .i64 0, .int .i64 0, .int .i64 0, .int .i64 0, .int .i64 0] 26)) w0) => RowB.fr (vs := szR 0 0 0 0 0) (RowB.new w 26 (szR 0 0 0 0 0)) hG (fun h => h))
  have HAT := Lib.hid (fun j h => dirsL_at N n j h)
  have hlen := dirsL_len N n
  have HV := Lib.hid (show sizeV n N = .tuple #[.agg #[.int .i64 n, .int .i64 (dirsL N n).length, .int .i64 (widthM n N (dirsL N n) (dirsL N n).length), .int .i64 (depthM N n), .int .i64 (mostC N n)], .int .i64 0] from rfl)
  clear hB hs hE
  generalize dirsL N n = L at *
  go_enter Tryz.func9, Tryz.ntmps9
  go_wp2_with (go_at_call 20; go_must (refine (CD.out _ ((Fr.refl _ w).alloc _)).mono ?_; rintro e w1 ⟨v, rfl, hown, hG⟩; obtain ⟨a1, c1, rfl, hc1, hr1⟩ := own_ints hown; have HA1 := Lib.hid hr1; have HF1 := Lib.hid hG; clear hown hr1 hG))
  have hG2 : Fr (fun _ => False) w (w1.alloc (Obj.cells #[Value.int .i64 n, Value.int .i64 L.length, Value.int .i64 0, Value.int .i64 0, Value.int .i64 0] 26)) := (((Fr.refl _ w).alloc _).then HF1.out).alloc _
  have hR2 : RowB (w1.alloc (Obj.cells #[Value.int .i64 n, Value.int .i64 L.length, Value.int .i64 0, Value.int .i64 0, Value.int .i64 0] 26)) w1.heap.size 26 (szR n L.length 0 0 0) := RowB.new w1 _ _
  have hP2 : RowB (w1.alloc (Obj.cells #[Value.int .i64 n, Value.int .i64 L.length, Value.int .i64 0, Value.int .i64 0, Value.int .i64 0] 26)) w.heap.size 26 (szR 0 0 0 0 0) := (HR.out w1 HF1.out).fr ((Fr.refl (fun _ => False) _).alloc _) (fun h => h)
  have hA2 : Fr (fun _ => False) w1 (w1.alloc (Obj.cells #[Value.int .i64 n, Value.int .i64 L.length, Value.int .i64 0, Value.int .i64 0, Value.int .i64 0] 26)) := (Fr.refl _ _).alloc _
  have hzz : w.heap.size < w1.heap.size := by have := HF1.out.size; rw [alloc_size] at this; omega
  generalize w1.alloc (Obj.cells #[Value.int .i64 n, Value.int .i64 L.length, Value.int .i64 0, Value.int .i64 0, Value.int .i64 0] 26) = W2 at *
  obtain ⟨B, hB⟩ : ∃ B, B = w1.heap.size := ⟨_, rfl⟩
  rw [← hB] at hR2 hzz ⊢
  have HBZ := Lib.hid hB
  have HG2 := Lib.hid hG2
  have HR2 := Lib.hid hR2
  have HP2 := Lib.hid hP2
  have HA2 := Lib.hid hA2
  clear hB hG2 hR2 hP2 hA2
  go_loopw [7, 8, 9] (fun z _ _ wr => ∃ k : Nat, k ≤ L.length ∧ z = .int .i64 k ∧ Fr (fun b => b = B) W2 wr ∧ Hid (RowB wr B 26 (szR n L.length (widthM n N L k) 0 0))) (fun z _ _ _ => L.length - (intOf z).toNat)
  case atStart => exact ⟨0, by omega, rfl, Fr.refl _ _, HR2⟩
  case round =>
    obtain ⟨k, hk, rfl, hF, HRw⟩ := hrel
    have hFw := frS HG2.out hF (by omega)
    by_cases hlt : k < L.length
    · have g1 : (0 : Int) ≤ (k : Int) := by omega
      have g2 : (k : Int) < L.length := by omega
      obtain ⟨d, hd1, hd2, hd3⟩ := HAT.out k hlt
      obtain ⟨g, rfl, hgb, hgl, hgc⟩ := HA1.out (by omega)
      have cg : wr.cell? ⟨g, k, none⟩ = some (.int .i64 d) := by
        rw [← hd1]
        exact hF.cell (p := ⟨g, k, none⟩) (Nat.lt_of_lt_of_le hgl HA2.out.size) (fun e => by have e : g = B := e; have := HBZ.out; omega) (HA2.out.cell (p := ⟨g, k, none⟩) hgl (fun h => h) (hgc k hlt))
      have CC := Lib.hid (CK.out d hd2 hd3 wr hFw)
      have hle := widthM_le n N L k
      have hle2 := kidsN_le N d n
      have HL := Lib.hid (show widthM n N L (k + 1) = max (widthM n N L k) (kidsN N d n) by simp only [widthM]; rw [hd1])
      have HF := Lib.hid hF
      clear hd1 hd2 hd3 hgb hgl hgc hF hFw
      generalize widthM n N L k = T at *
      generalize kidsN N d n = K at *
      have arms : True := trivial
      by_cases hm : K ≤ T
      all_goals
        go_wp2_with (go_at_call 21; go_must (refine CC.out.mono ?_; rintro e w3 ⟨a3, c3, rfl, hG⟩; have HG := Lib.hid hG; have hr := HRw.out.fr hG (fun h => h); have r2 : w3.cell? ⟨B, 2, none⟩ = some (.int .i64 T) := hr.cell 2; have f2 := hr.frozen 2; have HR3 := Lib.hid hr; clear hG hr))
        go_roundw
        case rel => exact ⟨k + 1, by omega, by go_num, Fr.setCell (HF.out.trans HG.out (fun _ _ h => h.elim)) (a := ⟨B, 2, none⟩) (fun _ => rfl) _, Lib.hid (by
          rw [HL.out]
          first
            | (have h := HR3.out.set 2 (.int .i64 (max (T : Int) (K : Int))); rw [show ((max T K : Nat) : Int) = max (T : Int) (K : Int) by omega]; exact h)
            | (have h := HR3.out.set 2 (.int .i64 ((max T K : Nat) : Int)); rw [show ((max T K : Nat) : Int) = T by omega] at h ⊢; exact h)
            | (have h := HR3.out.set 2 (.int .i64 ((max T K : Nat) : Int)); rw [show ((max T K : Nat) : Int) = K by omega] at h ⊢; exact h)
            | fail)⟩
        case measure => simp [intOf]; omega
    · obtain rfl : k = L.length := by omega
      have HF := Lib.hid hF
      have HFw := Lib.hid hFw
      clear hF hFw
      generalize (widthM n N L L.length) = Wd at *
      go_wp2_with fail
      go_loopw [10] (fun z wr => ∃ k : Nat, k ≤ n ∧ z = .int .i64 k ∧ Fr (fun b => b = B) W2 wr ∧ Hid (RowB wr B 26 (szR n L.length Wd (depthM N k) (mostC N k)))) (fun z _ => n - (intOf z).toNat)
      case atStart => exact ⟨0, by omega, rfl, HF.out, HRw⟩
      case round =>
        obtain ⟨k, hk, rfl, hF, HRk⟩ := hrel
        have hFw := frS HG2.out hF (by omega)
        by_cases hlt : k < n
        · have g1 : (0 : Int) ≤ (k : Int) := by omega
          have g2 : (k : Int) < n := by omega
          obtain ⟨b, o, rfl, hb, hc⟩ := HB.out.get (by omega)
          have c0 := (hc wr hFw k hlt).c0
          have c7 := (hc wr hFw k hlt).c7
          have hbB : ¬ B = b := by omega
          have hbB2 : ¬ b = B := by omega
          obtain ⟨p1, p2⟩ := deep_bd HD.out hlt
          obtain ⟨p3, p4⟩ := depthM_bd HD.out k hk
          obtain ⟨p5, p6⟩ := HCL.out k hk
          obtain ⟨p7, p8⟩ := HCB.out k hlt
          have r3 : wr.cell? ⟨B, 3, none⟩ = some (.int .i64 (depthM N k)) := HRk.out.cell 3
          have r4 : wr.cell? ⟨B, 4, none⟩ = some (.int .i64 (mostC N k)) := HRk.out.cell 4
          have f3 := HRk.out.frozen 3
          have f4 := HRk.out.frozen 4
          have HL1 := Lib.hid (show depthM N (k + 1) = max (depthM N k) (N k).depth from rfl)
          have HL2 := Lib.hid (show mostC N (k + 1) = max (mostC N k) (N k).cls from rfl)
          have HF := Lib.hid hF
          clear hF hFw hc hb
          generalize depthM N k = D at *
          generalize mostC N k = C at *
          generalize (N k).depth = x at *
          generalize (N k).cls = y at *
          obtain ⟨m1, hm1⟩ : ∃ m1, max D x = m1 := ⟨_, rfl⟩
          obtain ⟨m2, hm2⟩ : ∃ m2, max C y = m2 := ⟨_, rfl⟩
          rw [hm1] at HL1
          rw [hm2] at HL2
          have HRn : Hid (∀ wq : World, wq.heap = ((wr.setCell ⟨B, 3, none⟩ (.int .i64 m1)).setCell ⟨B, 4, none⟩ (.int .i64 m2)).heap → RowB wq B 26 (szR n L.length Wd m1 m2)) := Lib.hid (fun wq hq => (show RowB ((wr.setCell ⟨B, 3, none⟩ (.int .i64 m1)).setCell ⟨B, 4, none⟩ (.int .i64 m2)) B 26 (szR n L.length Wd m1 m2) from (HRk.out.set 3 (.int .i64 m1)).set 4 (.int .i64 m2)).of_block (by rw [hq]))
          by_cases hx : x ≤ D
          · obtain rfl : m1 = D := by omega
            by_cases hy : y ≤ C
            · obtain rfl : m2 = C := by omega
              go_wp2_with fail
              go_region
              go_wp2_with fail
              go_region
              go_wp2_with fail
              go_roundw
              case rel => exact ⟨k + 1, by omega, by go_num, (by have hX := Fr.setCell (Fr.setCell HF.out (a := ⟨B, 3, none⟩) (fun _ => rfl) (.int .i64 m1)) (a := ⟨B, 4, none⟩) (fun _ => rfl) (.int .i64 m2); exact ⟨hX.os, hX.tape, hX.output, hX.size, hX.block⟩), Lib.hid (by rw [HL1.out, HL2.out]; exact HRn.out _ rfl)⟩
              case measure => simp [intOf]; omega
            · obtain rfl : m2 = y := by omega
              go_wp2_with fail
              go_region
              go_wp2_with fail
              go_region
              go_wp2_with fail
              go_roundw
              case rel => exact ⟨k + 1, by omega, by go_num, (by have hX := Fr.setCell (Fr.setCell HF.out (a := ⟨B, 3, none⟩) (fun _ => rfl) (.int .i64 m1)) (a := ⟨B, 4, none⟩) (fun _ => rfl) (.int .i64 m2); exact ⟨hX.os, hX.tape, hX.output, hX.size, hX.block⟩), Lib.hid (by rw [HL1.out, HL2.out]; exact HRn.out _ rfl)⟩
              case measure => simp [intOf]; omega
          · obtain rfl : m1 = x := by omega
            by_cases hy : y ≤ C
            · obtain rfl : m2 = C := by omega
              go_wp2_with fail
              go_region
              go_wp2_with fail
              go_region
              go_wp2_with fail
              go_roundw
              case rel => exact ⟨k + 1, by omega, by go_num, (by have hX := Fr.setCell (Fr.setCell HF.out (a := ⟨B, 3, none⟩) (fun _ => rfl) (.int .i64 m1)) (a := ⟨B, 4, none⟩) (fun _ => rfl) (.int .i64 m2); exact ⟨hX.os, hX.tape, hX.output, hX.size, hX.block⟩), Lib.hid (by rw [HL1.out, HL2.out]; exact HRn.out _ rfl)⟩
              case measure => simp [intOf]; omega
            · obtain rfl : m2 = y := by omega
              go_wp2_with fail
              go_region
              go_wp2_with fail
              go_region
              go_wp2_with fail
              go_roundw
              case rel => exact ⟨k + 1, by omega, by go_num, (by have hX := Fr.setCell (Fr.setCell HF.out (a := ⟨B, 3, none⟩) (fun _ => rfl) (.int .i64 m1)) (a := ⟨B, 4, none⟩) (fun _ => rfl) (.int .i64 m2); exact ⟨hX.os, hX.tape, hX.output, hX.size, hX.block⟩), Lib.hid (by rw [HL1.out, HL2.out]; exact HRn.out _ rfl)⟩
              case measure => simp [intOf]; omega
        · obtain rfl : k = n := by omega
          have hr := HRk.out
          have r0 : wr.cell? ⟨B, 0, none⟩ = some (.int .i64 k) := hr.cell 0
          have r1 : wr.cell? ⟨B, 1, none⟩ = some (.int .i64 L.length) := hr.cell 1
          have r2 : wr.cell? ⟨B, 2, none⟩ = some (.int .i64 Wd) := hr.cell 2
          have r3 : wr.cell? ⟨B, 3, none⟩ = some (.int .i64 (depthM N k)) := hr.cell 3
          have r4 : wr.cell? ⟨B, 4, none⟩ = some (.int .i64 (mostC N k)) := hr.cell 4
          have hp := HP2.out.fr hF (fun e => by have e : w.heap.size = B := e; omega)
          have s0 : wr.cell? ⟨w.heap.size, 0, none⟩ = some (.int .i64 0) := hp.cell 0
          have s1 : wr.cell? ⟨w.heap.size, 1, none⟩ = some (.int .i64 0) := hp.cell 1
          have s2 : wr.cell? ⟨w.heap.size, 2, none⟩ = some (.int .i64 0) := hp.cell 2
          have s3 : wr.cell? ⟨w.heap.size, 3, none⟩ = some (.int .i64 0) := hp.cell 3
          have s4 : wr.cell? ⟨w.heap.size, 4, none⟩ = some (.int .i64 0) := hp.cell 4
          have f0 := hp.frozen 0
          have f1 := hp.frozen 1
          have f2 := hp.frozen 2
          have f3 := hp.frozen 3
          have f4 := hp.frozen 4
          have HFw := Lib.hid hFw
          clear hr hp hF hFw
          generalize depthM N k = D at *
          generalize mostC N k = C at *
          go_wp2_with fail
          refine bodyPost_ret (v := .tuple #[.agg #[.int .i64 k, .int .i64 L.length, .int .i64 Wd, .int .i64 D, .int .i64 C], .int .i64 0]) (by simp [results, Tryz.results9, go_sem, *]) rfl ⟨by rw [HV.out], ?_⟩
          exact HFw.out.trans (Fr.setCell (Fr.setCell (Fr.setCell (Fr.setCell (Fr.setCell (Fr.refl (fun b => b = w.heap.size) wr) (a := ⟨w.heap.size, 0, none⟩) (fun _ => rfl) _) (a := ⟨w.heap.size, 1, none⟩) (fun _ => rfl) _) (a := ⟨w.heap.size, 2, none⟩) (fun _ => rfl) _) (a := ⟨w.heap.size, 3, none⟩) (fun _ => rfl) _) (a := ⟨w.heap.size, 4, none⟩) (fun _ => rfl) _) (fun k hk e => by have e : k = w.heap.size := e; omega)
theorem rSize_walk (n c : Nat) (a0 : Option Addr) (N : Nat → BNode) (H : Nat → Hd) (w : World) (hB : BranchAt w a0 n N H) (hn : n ≤ 1000) (hs : ∀ j, j < n → Fits (N j)) :
    Calls Tryz.prog 9 #[.slice a0 n c] w (Ret (if branchE n N = 0 then sizeV n N else sizeB (branchE n N)) w) := by
  by_cases h : branchE n N = 0
  · rw [if_pos h]; exact rsize_ok n c a0 N H w hB hn hs h
  · rw [if_neg h]; exact rsize_bad n c a0 N H w hB hn hs h
end Go.Proofs.YtogjfifpbplahaaGreatDoor
