/- The law's awake, walked. -/
import Derived.Test.YtogjfifpbplahaaDoorT4
import Derived.Test.YtogjfifpbplahaaDoorC2
namespace Go.Proofs.YtogjfifpbplahaaDoor
open Go.RowKit Go.Shelf
open CM
set_option linter.unusedVariables false

/-- batches off a list of numbers -/
def UL (l : List Int) (i j : Nat) : Int := l.getD (i * 8 + j) 0
theorem uses_new (w : World) (B n : Nat) (l : List Int) (vs : Array Value) (hB : w.heap.size = B) (hl : l.length = n * 8) (hv : vs = (l.map (Value.int .i64)).toArray) : Uses (w.alloc (.cells vs 28)) (some ⟨B, 0, none⟩) n (UL l) := fun _ => by
  subst hB
  subst hv
  have h := RowB.new w 28 (l.map (Value.int .i64))
  refine ⟨w.heap.size, 0, rfl, h.lt, fun i j hi hj => ?_⟩
  rw [show 0 + i * 8 + j = i * 8 + j by omega, h.cell]
  unfold UL
  have hlt : i * 8 + j < l.length := by omega
  rw [List.getElem?_map, List.getElem?_eq_getElem hlt, List.getD_eq_getElem?_getD, List.getElem?_eq_getElem hlt]
  rfl
theorem chk1 (w : World) (B : Nat) (hB : w.heap.size = B) : Calls Tryd.prog 6 #[.slice (some ⟨B, 0, none⟩) 1 1, .int .i64 3, .int .i64 0] (w.alloc (.cells #[Value.int .i64 0, Value.int .i64 2, Value.int .i64 31, Value.int .i64 64, Value.int .i64 0, Value.int .i64 0, Value.int .i64 0, Value.int .i64 0] 28)) (Ret (.tuple #[.int .i64 (-1), .int .i64 0, .int .i64 0]) (w.alloc (.cells #[Value.int .i64 0, Value.int .i64 2, Value.int .i64 31, Value.int .i64 64, Value.int .i64 0, Value.int .i64 0, Value.int .i64 0, Value.int .i64 0] 28))) :=
  ccheck_walk 1 1 (some ⟨B, 0, none⟩) (UL [0, 2, 31, 64, 0, 0, 0, 0]) 3 0 _ (uses_new w B 1 [0, 2, 31, 64, 0, 0, 0, 0] _ hB rfl rfl)
theorem chk2 (w : World) (B : Nat) (hB : w.heap.size = B) : Calls Tryd.prog 6 #[.slice (some ⟨B, 0, none⟩) 1 1, .int .i64 3, .int .i64 0] (w.alloc (.cells #[Value.int .i64 0, Value.int .i64 2, Value.int .i64 31, Value.int .i64 63, Value.int .i64 0, Value.int .i64 0, Value.int .i64 0, Value.int .i64 0] 28)) (Ret (.tuple #[.int .i64 0, .int .i64 2, .int .i64 0]) (w.alloc (.cells #[Value.int .i64 0, Value.int .i64 2, Value.int .i64 31, Value.int .i64 63, Value.int .i64 0, Value.int .i64 0, Value.int .i64 0, Value.int .i64 0] 28))) :=
  ccheck_walk 1 1 (some ⟨B, 0, none⟩) (UL [0, 2, 31, 63, 0, 0, 0, 0]) 3 0 _ (uses_new w B 1 [0, 2, 31, 63, 0, 0, 0, 0] _ hB rfl rfl)
theorem peak3 (w : World) (B : Nat) (hB : w.heap.size = B) : Calls Tryd.prog 10 #[.slice (some ⟨B, 0, none⟩) 3 3] (w.alloc (.cells #[Value.int .i64 0, Value.int .i64 0, Value.int .i64 0, Value.int .i64 0, Value.int .i64 3, Value.int .i64 1, Value.int .i64 0, Value.int .i64 0, Value.int .i64 0, Value.int .i64 0, Value.int .i64 0, Value.int .i64 0, Value.int .i64 0, Value.int .i64 2, Value.int .i64 0, Value.int .i64 0, Value.int .i64 0, Value.int .i64 0, Value.int .i64 0, Value.int .i64 0, Value.int .i64 1, Value.int .i64 0, Value.int .i64 0, Value.int .i64 0] 28)) (Ret (.tuple #[.int .i64 2, .int .i64 0]) (w.alloc (.cells #[Value.int .i64 0, Value.int .i64 0, Value.int .i64 0, Value.int .i64 0, Value.int .i64 3, Value.int .i64 1, Value.int .i64 0, Value.int .i64 0, Value.int .i64 0, Value.int .i64 0, Value.int .i64 0, Value.int .i64 0, Value.int .i64 0, Value.int .i64 2, Value.int .i64 0, Value.int .i64 0, Value.int .i64 0, Value.int .i64 0, Value.int .i64 0, Value.int .i64 0, Value.int .i64 1, Value.int .i64 0, Value.int .i64 0, Value.int .i64 0] 28))) :=
  peak_walk 3 3 (some ⟨B, 0, none⟩) (UL [0, 0, 0, 0, 3, 1, 0, 0, 0, 0, 0, 0, 0, 2, 0, 0, 0, 0, 0, 0, 1, 0, 0, 0]) _ (uses_new w B 3 [0, 0, 0, 0, 3, 1, 0, 0, 0, 0, 0, 0, 0, 2, 0, 0, 0, 0, 0, 0, 1, 0, 0, 0] _ hB rfl rfl)
theorem text4_is : textV 1 (UL [(-1), 0, 5, 12, 0, 1, 2, 0]) = .tuple #[.string ⟨#[45, 49, 32, 48, 32, 53, 32, 49, 50, 32, 48, 32, 49, 32, 50, 32, 48, 10]⟩, .int .i64 0] := by
  have e0 : Lib.itoa 0 = [48] := itoa_one (by omega) (by omega)
  have e1 : Lib.itoa 1 = [49] := itoa_one (by omega) (by omega)
  have e2 : Lib.itoa 2 = [50] := itoa_one (by omega) (by omega)
  have e5 : Lib.itoa 5 = [53] := itoa_one (by omega) (by omega)
  have em : Lib.itoa (-1) = [45, 49] := by rw [itoa_neg (by omega) (by omega)]; exact congrArg _ e1
  have e12 : Lib.itoa 12 = [49, 50] := by
    rw [itoa_big (by omega)]
    have h1 : (12 : Int).tdiv 10 = 1 := rfl
    have h2 : (12 : Int).tmod 10 = 2 := rfl
    rw [h1, h2, e1]
    rfl
  have hl : listE 1 (UL [(-1), 0, 5, 12, 0, 1, 2, 0]) = 0 := rfl
  unfold textV
  rw [if_pos hl, hl]
  have : textB (UL [(-1), 0, 5, 12, 0, 1, 2, 0]) 1 = [45, 49, 32, 48, 32, 53, 32, 49, 50, 32, 48, 32, 49, 32, 50, 32, 48, 10] := by
    have h8 : all8 = [0, 1, 2, 3, 4, 5, 6, 7] := by decide
    show [] ++ rowT (UL [(-1), 0, 5, 12, 0, 1, 2, 0] 0) all8 ++ [10] = _
    rw [h8]
    show [] ++ ([] ++ Lib.itoa (-1) ++ ([32] ++ Lib.itoa 0 ++ ([32] ++ Lib.itoa 5 ++ ([32] ++ Lib.itoa 12 ++ ([32] ++ Lib.itoa 0 ++ ([32] ++ Lib.itoa 1 ++ ([32] ++ Lib.itoa 2 ++ ([32] ++ Lib.itoa 0 ++ [])))))))) ++ [10] = _
    rw [e0, e1, e2, e5, em, e12]
    rfl
  rw [this]
theorem text4 (w : World) (B : Nat) (hB : w.heap.size = B) (hP : PTab w) : Calls Tryd.prog 12 #[.slice (some ⟨B, 0, none⟩) 1 1] (w.alloc (.cells #[Value.int .i64 (-1), Value.int .i64 0, Value.int .i64 5, Value.int .i64 12, Value.int .i64 0, Value.int .i64 1, Value.int .i64 2, Value.int .i64 0] 28)) (Ret (.tuple #[.string ⟨#[45, 49, 32, 48, 32, 53, 32, 49, 50, 32, 48, 32, 49, 32, 50, 32, 48, 10]⟩, .int .i64 0]) (w.alloc (.cells #[Value.int .i64 (-1), Value.int .i64 0, Value.int .i64 5, Value.int .i64 12, Value.int .i64 0, Value.int .i64 1, Value.int .i64 2, Value.int .i64 0] 28))) := by
  have h := text_walk 1 1 (some ⟨B, 0, none⟩) (UL [(-1), 0, 5, 12, 0, 1, 2, 0]) (w.alloc (.cells #[Value.int .i64 (-1), Value.int .i64 0, Value.int .i64 5, Value.int .i64 12, Value.int .i64 0, Value.int .i64 1, Value.int .i64 2, Value.int .i64 0] 28)) (hP.fr ((Fr.refl _ w).alloc _)) (uses_new w B 1 [(-1), 0, 5, 12, 0, 1, 2, 0] _ hB rfl rfl)
  rw [text4_is] at h
  exact h
theorem bnd1 (w : World) : Calls Tryd.prog 14 #[.int .i64 0, .int .i64 2, .int .i64 3, .int .i64 0] w (Ret (.tuple #[.agg #[.int .i64 31, .int .i64 25, .int .i64 6], .int .i64 0]) w) := bound_walk 0 2 3 0 w
theorem bnd2 (w : World) : Calls Tryd.prog 14 #[.int .i64 (-1), .int .i64 0, .int .i64 3, .int .i64 2] w (Ret (.tuple #[.agg #[.int .i64 38, .int .i64 16, .int .i64 3], .int .i64 0]) w) := bound_walk (-1) 0 3 2 w
theorem bnd3 (w : World) : Calls Tryd.prog 14 #[.int .i64 4, .int .i64 0, .int .i64 3, .int .i64 0] w (Ret (.tuple #[.agg #[.int .i64 0, .int .i64 0, .int .i64 0], .int .i64 7]) w) := bound_walk 4 0 3 0 w
theorem tot1 (w : World) : Calls Tryd.prog 15 #[.agg #[.int .i64 10, .int .i64 3, .int .i64 0, .int .i64 0, .int .i64 1]] w (Ret (.tuple #[.int .i64 34, .int .i64 0]) w) := total_good 10 3 0 0 1 w (by omega) (by omega) (by omega)

set_option maxRecDepth 100000 in
set_option maxHeartbeats 4000000 in
theorem awake_walk (w : World) (hP : PTab w) : Calls Tryd.prog 5 #[] w (Ret (.bool true) w) := by
  have HP := Lib.hid hP
  clear hP
  go_enter Tryd.func5, Tryd.ntmps5
  go_upto_region 2 with (go_at_call 14; go_must (refine (bnd1 _).mono ?_; rintro e w1 ⟨rfl, hF⟩; have HF1 := Lib.hid hF; clear hF))
  have hG1 : Fr (fun _ => False) w (w1.alloc (Obj.cells #[Value.int .i64 31, Value.int .i64 25, Value.int .i64 6] 38)) := HF1.out.alloc _
  have hR1 : RowB (w1.alloc (Obj.cells #[Value.int .i64 31, Value.int .i64 25, Value.int .i64 6] 38)) w1.heap.size 38 [Value.int .i64 31, Value.int .i64 25, Value.int .i64 6] := RowB.new w1 _ _
  generalize w1.alloc (Obj.cells #[Value.int .i64 31, Value.int .i64 25, Value.int .i64 6] 38) = A1 at *
  generalize w1.heap.size = B1 at *
  have HG1 := Lib.hid hG1
  have HR1 := Lib.hid hR1
  clear hG1 hR1
  go_upto_region 3 with (go_at_call 14; go_must (refine (bnd2 _).mono ?_; rintro e w2 ⟨rfl, hF⟩; have HF2 := Lib.hid (HG1.out.then hF); have HR12 := Lib.hid (HR1.out.fr hF (fun h => h)); clear hF))
  have hG2 : Fr (fun _ => False) w (w2.alloc (Obj.cells #[Value.int .i64 38, Value.int .i64 16, Value.int .i64 3] 38)) := HF2.out.alloc _
  have hR2 : RowB (w2.alloc (Obj.cells #[Value.int .i64 38, Value.int .i64 16, Value.int .i64 3] 38)) w2.heap.size 38 [Value.int .i64 38, Value.int .i64 16, Value.int .i64 3] := RowB.new w2 _ _
  have hR22 : RowB (w2.alloc (Obj.cells #[Value.int .i64 38, Value.int .i64 16, Value.int .i64 3] 38)) B1 38 [Value.int .i64 31, Value.int .i64 25, Value.int .i64 6] := HR12.out.fr ((Fr.refl (fun _ => False) w2).alloc _) (fun h => h)
  have hlt2 : B1 < w2.heap.size := HR12.out.lt
  generalize w2.alloc (Obj.cells #[Value.int .i64 38, Value.int .i64 16, Value.int .i64 3] 38) = A2 at *
  generalize w2.heap.size = B2 at *
  have HG2 := Lib.hid hG2
  have HR2 := Lib.hid hR2
  have HR22 := Lib.hid hR22
  clear hG2 hR2 hR22
  go_upto_region 4 with (go_at_call 14; go_must (refine (bnd3 _).mono ?_; rintro e w3 ⟨rfl, hF⟩; have HF3 := Lib.hid (HG2.out.then hF); have HR13 := Lib.hid (HR22.out.fr hF (fun h => h)); have HR33 := Lib.hid (HR2.out.fr hF (fun h => h)); clear hF))
  go_upto_region 5 with (fail)
  have hG3 : Fr (fun _ => False) w ((w3.alloc (Obj.cells #[Value.int .i64 0, Value.int .i64 0, Value.int .i64 0] 38)).alloc (Obj.cells #[Value.int .i64 0, Value.int .i64 2, Value.int .i64 31, Value.int .i64 64, Value.int .i64 0, Value.int .i64 0, Value.int .i64 0, Value.int .i64 0] 28)) := (HF3.out.alloc _).alloc _
  have hq : Fr (fun _ => False) w3 ((w3.alloc (Obj.cells #[Value.int .i64 0, Value.int .i64 0, Value.int .i64 0] 38)).alloc (Obj.cells #[Value.int .i64 0, Value.int .i64 2, Value.int .i64 31, Value.int .i64 64, Value.int .i64 0, Value.int .i64 0, Value.int .i64 0, Value.int .i64 0] 28)) := ((Fr.refl (fun _ => False) w3).alloc _).alloc _
  have hRa3 : RowB ((w3.alloc (Obj.cells #[Value.int .i64 0, Value.int .i64 0, Value.int .i64 0] 38)).alloc (Obj.cells #[Value.int .i64 0, Value.int .i64 2, Value.int .i64 31, Value.int .i64 64, Value.int .i64 0, Value.int .i64 0, Value.int .i64 0, Value.int .i64 0] 28)) B1 38 [Value.int .i64 31, Value.int .i64 25, Value.int .i64 6] := HR13.out.fr hq (fun h => h)
  have hRb3 : RowB ((w3.alloc (Obj.cells #[Value.int .i64 0, Value.int .i64 0, Value.int .i64 0] 38)).alloc (Obj.cells #[Value.int .i64 0, Value.int .i64 2, Value.int .i64 31, Value.int .i64 64, Value.int .i64 0, Value.int .i64 0, Value.int .i64 0, Value.int .i64 0] 28)) B2 38 [Value.int .i64 38, Value.int .i64 16, Value.int .i64 3] := HR33.out.fr hq (fun h => h)
  have hRu3 : RowB ((w3.alloc (Obj.cells #[Value.int .i64 0, Value.int .i64 0, Value.int .i64 0] 38)).alloc (Obj.cells #[Value.int .i64 0, Value.int .i64 2, Value.int .i64 31, Value.int .i64 64, Value.int .i64 0, Value.int .i64 0, Value.int .i64 0, Value.int .i64 0] 28)) (w3.heap.size + 1) 28 [Value.int .i64 0, Value.int .i64 2, Value.int .i64 31, Value.int .i64 64, Value.int .i64 0, Value.int .i64 0, Value.int .i64 0, Value.int .i64 0] := by
    have := RowB.new (w3.alloc (Obj.cells #[Value.int .i64 0, Value.int .i64 0, Value.int .i64 0] 38)) 28 [Value.int .i64 0, Value.int .i64 2, Value.int .i64 31, Value.int .i64 64, Value.int .i64 0, Value.int .i64 0, Value.int .i64 0, Value.int .i64 0]
    rw [alloc_size] at this
    exact this
  have hlt3 : B2 < w3.heap.size := HR33.out.lt
  have hw3 : w.heap.size ≤ w3.heap.size := HF3.out.size
  generalize (w3.alloc (Obj.cells #[Value.int .i64 0, Value.int .i64 0, Value.int .i64 0] 38)).alloc (Obj.cells #[Value.int .i64 0, Value.int .i64 2, Value.int .i64 31, Value.int .i64 64, Value.int .i64 0, Value.int .i64 0, Value.int .i64 0, Value.int .i64 0] 28) = A3 at *
  obtain ⟨B7, hB7⟩ : ∃ B7, w3.heap.size + 1 = B7 := ⟨_, rfl⟩
  rw [hB7] at hRu3 ⊢
  have hw7 : w.heap.size < B7 := by omega
  have hb7 : B2 < B7 := by omega
  clear hB7
  have HG3 := Lib.hid hG3
  have HRa3 := Lib.hid hRa3
  have HRb3 := Lib.hid hRb3
  have HRu3 := Lib.hid hRu3
  have v0 : A3.cell? ⟨B7, 0, none⟩ = some (.int .i64 0) := HRu3.out.cell 0
  have v1 : A3.cell? ⟨B7, 1, none⟩ = some (.int .i64 2) := HRu3.out.cell 1
  have v2 : A3.cell? ⟨B7, 2, none⟩ = some (.int .i64 31) := HRu3.out.cell 2
  have v3 : A3.cell? ⟨B7, 3, none⟩ = some (.int .i64 64) := HRu3.out.cell 3
  have v4 : A3.cell? ⟨B7, 4, none⟩ = some (.int .i64 0) := HRu3.out.cell 4
  have v5 : A3.cell? ⟨B7, 5, none⟩ = some (.int .i64 0) := HRu3.out.cell 5
  have v6 : A3.cell? ⟨B7, 6, none⟩ = some (.int .i64 0) := HRu3.out.cell 6
  have v7 : A3.cell? ⟨B7, 7, none⟩ = some (.int .i64 0) := HRu3.out.cell 7
  clear hG3 hRa3 hRb3 hRu3 hq
  go_upto_region 6 with (go_at_call 6; go_must (refine (chk1 _ _ (by simp)).mono ?_; rintro e w5 ⟨rfl, hF⟩; have hG := ((Fr.refl (fun _ => False) A3).alloc _).then hF; have HG5 := Lib.hid (HG3.out.then hG); have HRa := Lib.hid (HRa3.out.fr hG (fun h => h)); have HRb := Lib.hid (HRb3.out.fr hG (fun h => h)); have HRu := Lib.hid (HRu3.out.fr hG (fun h => h)); clear hF hG))
  clear v0 v1 v2 v3 v4 v5 v6 v7
  have s3 : w5.cell? ⟨B7, 3, none⟩ = some (.int .i64 64) := HRu.out.cell 3
  have f3 := HRu.out.frozen 3
  go_upto_region 7 with (fail)
  have hG6 : Fr (fun x => x = B7) w (w5.setCell ⟨B7, 3, none⟩ (Value.int .i64 63)) := Fr.setCell (S := fun x => x = B7) HG5.out.up (a := ⟨B7, 3, none⟩) (fun _ => rfl) _
  have hq : Fr (fun x => x = B7) w5 (w5.setCell ⟨B7, 3, none⟩ (Value.int .i64 63)) := Fr.setCell (S := fun x => x = B7) (Fr.refl _ w5) (a := ⟨B7, 3, none⟩) (fun _ => rfl) _
  have hRa6 : RowB (w5.setCell ⟨B7, 3, none⟩ (Value.int .i64 63)) B1 38 [Value.int .i64 31, Value.int .i64 25, Value.int .i64 6] := HRa.out.fr hq (fun h => by have h : B1 = B7 := h; omega)
  have hRb6 : RowB (w5.setCell ⟨B7, 3, none⟩ (Value.int .i64 63)) B2 38 [Value.int .i64 38, Value.int .i64 16, Value.int .i64 3] := HRb.out.fr hq (fun h => by have h : B2 = B7 := h; omega)
  have hRu6 : RowB (w5.setCell ⟨B7, 3, none⟩ (Value.int .i64 63)) B7 28 [Value.int .i64 0, Value.int .i64 2, Value.int .i64 31, Value.int .i64 63, Value.int .i64 0, Value.int .i64 0, Value.int .i64 0, Value.int .i64 0] := HRu.out.set 3 (Value.int .i64 63)
  have hP6 : PTab (w5.setCell ⟨B7, 3, none⟩ (Value.int .i64 63)) := HP.out.of_block (hG6.block 0 HP.out.pos (fun h => by have h : 0 = B7 := h; omega))
  generalize w5.setCell ⟨B7, 3, none⟩ (Value.int .i64 63) = A6 at *
  have HG6 := Lib.hid hG6
  have HRa6 := Lib.hid hRa6
  have HRb6 := Lib.hid hRb6
  have HP6 := Lib.hid hP6
  have u0 : A6.cell? ⟨B7, 0, none⟩ = some (.int .i64 0) := hRu6.cell 0
  have u1 : A6.cell? ⟨B7, 1, none⟩ = some (.int .i64 2) := hRu6.cell 1
  have u2 : A6.cell? ⟨B7, 2, none⟩ = some (.int .i64 31) := hRu6.cell 2
  have u3 : A6.cell? ⟨B7, 3, none⟩ = some (.int .i64 63) := hRu6.cell 3
  have u4 : A6.cell? ⟨B7, 4, none⟩ = some (.int .i64 0) := hRu6.cell 4
  have u5 : A6.cell? ⟨B7, 5, none⟩ = some (.int .i64 0) := hRu6.cell 5
  have u6 : A6.cell? ⟨B7, 6, none⟩ = some (.int .i64 0) := hRu6.cell 6
  have u7 : A6.cell? ⟨B7, 7, none⟩ = some (.int .i64 0) := hRu6.cell 7
  clear hG6 hRa6 hRb6 hRu6 hq hP6 s3 f3
  go_upto_region 8 with (go_at_call 6; go_must (refine (chk2 _ _ (by simp)).mono ?_; rintro e w7 ⟨rfl, hF⟩; have hG := ((Fr.refl (fun _ => False) A6).alloc _).then hF; have HG7 := Lib.hid (HG6.out.trans hG (fun _ _ h => h.elim)); have HRa7 := Lib.hid (HRa6.out.fr hG (fun h => h)); have HRb7 := Lib.hid (HRb6.out.fr hG (fun h => h)); have HP7 := Lib.hid (HP6.out.fr hG); clear hF hG))
  clear u0 u1 u2 u3 u4 u5 u6 u7
  go_upto_region 9 with (go_at_call 10; go_must (refine (peak3 _ _ (by simp)).mono ?_; rintro e w8 ⟨rfl, hF⟩; have hG := ((Fr.refl (fun _ => False) w7).alloc _).then hF; have HG8 := Lib.hid (HG7.out.trans hG (fun _ _ h => h.elim)); have HRa8 := Lib.hid (HRa7.out.fr hG (fun h => h)); have HRb8 := Lib.hid (HRb7.out.fr hG (fun h => h)); have HP8 := Lib.hid (HP7.out.fr hG); clear hF hG))
  go_upto_region 10 with (go_at_call 12; go_must (refine (text4 _ _ (by simp) HP8.out).mono ?_; rintro e w9 ⟨rfl, hF⟩; have hG := ((Fr.refl (fun _ => False) w8).alloc _).then hF; have HG9 := Lib.hid (HG8.out.trans hG (fun _ _ h => h.elim)); have HRa9 := Lib.hid (HRa8.out.fr hG (fun h => h)); have HRb9 := Lib.hid (HRb8.out.fr hG (fun h => h)); clear hF hG))
  go_wp2_with (go_at_call 15; go_must (refine (tot1 _).mono ?_; rintro e w10 ⟨rfl, hG⟩; have HG10 := Lib.hid (HG9.out.trans hG (fun _ _ h => h.elim)); have HRa10 := Lib.hid (HRa9.out.fr hG (fun h => h)); have HRb10 := Lib.hid (HRb9.out.fr hG (fun h => h)); have a0 : w10.cell? ⟨B1, 0, none⟩ = some (.int .i64 31) := HRa10.out.cell 0; have a1 : w10.cell? ⟨B1, 1, none⟩ = some (.int .i64 25) := HRa10.out.cell 1; have a2 : w10.cell? ⟨B1, 2, none⟩ = some (.int .i64 6) := HRa10.out.cell 2; have b0 : w10.cell? ⟨B2, 0, none⟩ = some (.int .i64 38) := HRb10.out.cell 0; have b1 : w10.cell? ⟨B2, 1, none⟩ = some (.int .i64 16) := HRb10.out.cell 1; have b2 : w10.cell? ⟨B2, 2, none⟩ = some (.int .i64 3) := HRb10.out.cell 2; clear hG))
  go_ret
  exact ⟨rfl, HG10.out.mono (fun x hx h => by have h : x = B7 := h; omega)⟩
end Go.Proofs.YtogjfifpbplahaaDoor
