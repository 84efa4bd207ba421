/- The law CostsLists, walked. -/
import Derived.Test.YtogjfifpbplahaaDoorA2
namespace Go.Proofs.YtogjfifpbplahaaDoor
open Go.RowKit Go.Shelf
open CM
set_option linter.unusedVariables false

theorem checkV_shape (n : Nat) (U : Nat → Nat → Int) (d c : Int) : ∃ x y z : Int, checkV n U d c = .tuple #[.int .i64 x, .int .i64 y, .int .i64 z] := by
  unfold checkV
  split
  · exact ⟨_, _, _, rfl⟩
  · split <;> exact ⟨_, _, _, rfl⟩
theorem sumV_shape (n : Nat) (U : Nat → Nat → Int) : ∃ s0 s1 s2 s3 s4 s5 s6 s7 e : Int, sumV n U = .tuple #[.agg #[.int .i64 s0, .int .i64 s1, .int .i64 s2, .int .i64 s3, .int .i64 s4, .int .i64 s5, .int .i64 s6, .int .i64 s7], .int .i64 e] := by
  by_cases h : listE n U = 0
  · exact ⟨_, _, _, _, _, _, _, _, _, sumV_ok h⟩
  · exact ⟨_, _, _, _, _, _, _, _, _, sumV_bad h⟩

set_option maxRecDepth 100000 in
set_option maxHeartbeats 4000000 in
theorem lists_far (n c : Nat) (a0 : Option Addr) (dd cc : Int) (w : World) (hP : PTab w) (hn : 100 < n) :
    Calls Tryd.prog 3 #[.slice a0 n c, .int .i64 dd, .int .i64 cc] w (Ret (.bool true) w) := by
  have HW := Lib.hid (awake_walk w hP)
  have hn' : (100 : Int) < (n : Int) := by omega
  clear hP hn
  go_enter Tryd.func3, Tryd.ntmps3
  go_wp2_with (go_at_call 5; go_must (refine HW.out.mono ?_; rintro e w1 ⟨rfl, hF⟩; have HF := Lib.hid hF; clear hF))
  go_ret
  exact ⟨rfl, HF.out⟩
set_option maxRecDepth 100000 in
set_option maxHeartbeats 4000000 in
theorem lists_near (n c : Nat) (a0 : Option Addr) (U : Nat → Nat → Int) (dd cc : Int) (w : World) (hP : PTab w) (hnc : n ≤ c) (hU : Uses w a0 n U) (hn : n ≤ 100) :
    Calls Tryd.prog 3 #[.slice a0 n c, .int .i64 dd, .int .i64 cc] w (Ret (.bool true) w) := by
  have HP := Lib.hid hP
  have HU := Lib.hid hU
  have hn' : ¬ (100 : Int) < (n : Int) := by omega
  obtain ⟨x, y, z, hck⟩ := checkV_shape n U dd cc
  obtain ⟨s0, s1, s2, s3, s4, s5, s6, s7, se, hsv⟩ := sumV_shape n U
  obtain ⟨p, pe, hpv⟩ : ∃ p pe : Int, peakV n U = .tuple #[.int .i64 p, .int .i64 pe] := ⟨_, _, rfl⟩
  obtain ⟨T, te, htv⟩ : ∃ (T : ByteArray) (te : Int), textV n U = .tuple #[.string T, .int .i64 te] := ⟨_, _, rfl⟩
  have C6 := Lib.hid (fun (w0 : World) (hF : Fr (fun _ => False) w w0) => ccheck_walk n c a0 U dd cc w0 (hU.fr hF (fun _ _ h => h)))
  have C7 := Lib.hid (fun (w0 : World) (hF : Fr (fun _ => False) w w0) => rcheck_walk n c a0 U dd cc w0 (hU.fr hF (fun _ _ h => h)))
  have C8 := Lib.hid (fun (w0 : World) (hF : Fr (fun _ => False) w w0) => sum_walk n c a0 U w0 (hU.fr hF (fun _ _ h => h)))
  have C9 := Lib.hid (fun (w0 : World) (hF : Fr (fun _ => False) w w0) => rsum_walk n c a0 U w0 (hU.fr hF (fun _ _ h => h)))
  have C10 := Lib.hid (fun (w0 : World) (hF : Fr (fun _ => False) w w0) => peak_walk n c a0 U w0 (hU.fr hF (fun _ _ h => h)))
  have C11 := Lib.hid (fun (w0 : World) (hF : Fr (fun _ => False) w w0) => rpeak_walk n c a0 U w0 hnc (hU.fr hF (fun _ _ h => h)))
  have C12 := Lib.hid (fun (w0 : World) (hF : Fr (fun _ => False) w w0) => text_walk n c a0 U w0 (hP.fr hF) (hU.fr hF (fun _ _ h => h)))
  have C13 := Lib.hid (fun (w0 : World) (hF : Fr (fun _ => False) w w0) => rtext_walk n c a0 U w0 (hU.fr hF (fun _ _ h => h)))
  have C5 := Lib.hid (fun (w0 : World) (hF : Fr (fun _ => False) w w0) => awake_walk w0 (hP.fr hF))
  rw [hck] at C6 C7
  rw [hsv] at C8 C9
  rw [hpv] at C10 C11
  rw [htv] at C12 C13
  clear hck hsv hpv htv hP hU hn hnc
  go_enter Tryd.func3, Tryd.ntmps3
  go_upto_region 6 with (first
    | (go_at_call 6; go_must (refine (C6.out _ (Fr.refl _ _)).mono ?_; rintro e w3 ⟨rfl, hF⟩; have HF3 := Lib.hid hF; clear hF))
    | (go_at_call 7; go_must (refine (C7.out _ HF3.out).mono ?_; rintro e w4 ⟨rfl, hF⟩; have HF4 := Lib.hid (HF3.out.then hF); clear hF))
    | (go_at_call 8; go_must (refine (C8.out _ HF4.out).mono ?_; rintro e w5 ⟨rfl, hF⟩; have HF5 := Lib.hid (HF4.out.then hF); clear hF)))
  have hX : Fr (fun _ => False) w (w5.alloc (Obj.cells #[Value.int .i64 s0, Value.int .i64 s1, Value.int .i64 s2, Value.int .i64 s3, Value.int .i64 s4, Value.int .i64 s5, Value.int .i64 s6, Value.int .i64 s7] 28)) := HF5.out.alloc _
  have hR : RowB (w5.alloc (Obj.cells #[Value.int .i64 s0, Value.int .i64 s1, Value.int .i64 s2, Value.int .i64 s3, Value.int .i64 s4, Value.int .i64 s5, Value.int .i64 s6, Value.int .i64 s7] 28)) w5.heap.size 28 [Value.int .i64 s0, Value.int .i64 s1, Value.int .i64 s2, Value.int .i64 s3, Value.int .i64 s4, Value.int .i64 s5, Value.int .i64 s6, Value.int .i64 s7] := RowB.new w5 _ _
  generalize w5.alloc (Obj.cells #[Value.int .i64 s0, Value.int .i64 s1, Value.int .i64 s2, Value.int .i64 s3, Value.int .i64 s4, Value.int .i64 s5, Value.int .i64 s6, Value.int .i64 s7] 28) = A5 at *
  generalize w5.heap.size = B5 at *
  have HX := Lib.hid hX
  have HR := Lib.hid hR
  clear hX hR
  go_upto_region 7 with (go_at_call 9; go_must (refine (C9.out _ HX.out).mono ?_; rintro e w6 ⟨rfl, hF⟩; have HF6 := Lib.hid (HX.out.then hF); have HR6 := Lib.hid (HR.out.fr hF (fun h => h)); clear hF))
  have hY : Fr (fun _ => False) w (w6.alloc (Obj.cells #[Value.int .i64 s0, Value.int .i64 s1, Value.int .i64 s2, Value.int .i64 s3, Value.int .i64 s4, Value.int .i64 s5, Value.int .i64 s6, Value.int .i64 s7] 28)) := HF6.out.alloc _
  have hR : RowB (w6.alloc (Obj.cells #[Value.int .i64 s0, Value.int .i64 s1, Value.int .i64 s2, Value.int .i64 s3, Value.int .i64 s4, Value.int .i64 s5, Value.int .i64 s6, Value.int .i64 s7] 28)) B5 28 [Value.int .i64 s0, Value.int .i64 s1, Value.int .i64 s2, Value.int .i64 s3, Value.int .i64 s4, Value.int .i64 s5, Value.int .i64 s6, Value.int .i64 s7] := HR6.out.fr ((Fr.refl (fun _ => False) w6).alloc _) (fun h => h)
  have hQ : RowB (w6.alloc (Obj.cells #[Value.int .i64 s0, Value.int .i64 s1, Value.int .i64 s2, Value.int .i64 s3, Value.int .i64 s4, Value.int .i64 s5, Value.int .i64 s6, Value.int .i64 s7] 28)) w6.heap.size 28 [Value.int .i64 s0, Value.int .i64 s1, Value.int .i64 s2, Value.int .i64 s3, Value.int .i64 s4, Value.int .i64 s5, Value.int .i64 s6, Value.int .i64 s7] := RowB.new w6 _ _
  generalize w6.alloc (Obj.cells #[Value.int .i64 s0, Value.int .i64 s1, Value.int .i64 s2, Value.int .i64 s3, Value.int .i64 s4, Value.int .i64 s5, Value.int .i64 s6, Value.int .i64 s7] 28) = A6 at *
  generalize w6.heap.size = B6 at *
  have HY := Lib.hid hY
  have a0 : A6.cell? ⟨B5, 0, none⟩ = some (.int .i64 s0) := hR.cell 0
  have b0 : A6.cell? ⟨B6, 0, none⟩ = some (.int .i64 s0) := hQ.cell 0
  have a1 : A6.cell? ⟨B5, 1, none⟩ = some (.int .i64 s1) := hR.cell 1
  have b1 : A6.cell? ⟨B6, 1, none⟩ = some (.int .i64 s1) := hQ.cell 1
  have a2 : A6.cell? ⟨B5, 2, none⟩ = some (.int .i64 s2) := hR.cell 2
  have b2 : A6.cell? ⟨B6, 2, none⟩ = some (.int .i64 s2) := hQ.cell 2
  have a3 : A6.cell? ⟨B5, 3, none⟩ = some (.int .i64 s3) := hR.cell 3
  have b3 : A6.cell? ⟨B6, 3, none⟩ = some (.int .i64 s3) := hQ.cell 3
  have a4 : A6.cell? ⟨B5, 4, none⟩ = some (.int .i64 s4) := hR.cell 4
  have b4 : A6.cell? ⟨B6, 4, none⟩ = some (.int .i64 s4) := hQ.cell 4
  have a5 : A6.cell? ⟨B5, 5, none⟩ = some (.int .i64 s5) := hR.cell 5
  have b5 : A6.cell? ⟨B6, 5, none⟩ = some (.int .i64 s5) := hQ.cell 5
  have a6 : A6.cell? ⟨B5, 6, none⟩ = some (.int .i64 s6) := hR.cell 6
  have b6 : A6.cell? ⟨B6, 6, none⟩ = some (.int .i64 s6) := hQ.cell 6
  have a7 : A6.cell? ⟨B5, 7, none⟩ = some (.int .i64 s7) := hR.cell 7
  have b7 : A6.cell? ⟨B6, 7, none⟩ = some (.int .i64 s7) := hQ.cell 7
  clear hY hR hQ
  go_wp2_with (first
    | (go_at_call 10; go_must (refine (C10.out _ HY.out).mono ?_; rintro e w7 ⟨rfl, hF⟩; have HF7 := Lib.hid (HY.out.then hF); clear hF))
    | (go_at_call 11; go_must (refine (C11.out _ HF7.out).mono ?_; rintro e w8 ⟨rfl, hF⟩; have HF8 := Lib.hid (HF7.out.then hF); clear hF))
    | (go_at_call 12; go_must (refine (C12.out _ HF8.out).mono ?_; rintro e w9 ⟨rfl, hF⟩; have HF9 := Lib.hid (HF8.out.then hF); clear hF))
    | (go_at_call 13; go_must (refine (C13.out _ HF9.out).mono ?_; rintro e w10 ⟨rfl, hF⟩; have HF10 := Lib.hid (HF9.out.then hF); clear hF))
    | (go_at_call 5; go_must (refine (C5.out _ HF10.out).mono ?_; rintro e w11 ⟨rfl, hF⟩; have HF11 := Lib.hid (HF10.out.then hF); clear hF)))
  go_ret
  exact ⟨rfl, HF11.out⟩
theorem lists_walk (n c : Nat) (a0 : Option Addr) (U : Nat → Nat → Int) (dd cc : Int) (w : World) (hP : PTab w) (hnc : n ≤ c) (hU : n ≤ 100 → Uses w a0 n U) :
    Calls Tryd.prog 3 #[.slice a0 n c, .int .i64 dd, .int .i64 cc] w (Ret (.bool true) w) := by
  by_cases h : 100 < n
  · exact lists_far n c a0 dd cc w hP h
  · exact lists_near n c a0 U dd cc w hP hnc (hU (by omega)) (by omega)
end Go.Proofs.YtogjfifpbplahaaDoor
