/- costs.Sum, walked. -/
import Derived.Test.YtogjfifpbplahaaDoorA1
import Derived.Shelf.RegionOpen
import Derived.Deep.Cut
namespace Go.Proofs.YtogjfifpbplahaaDoor
open Go.RowKit Go.Shelf
open CM
set_option linter.unusedVariables false
attribute [local go_sem] Oper.semAt_some

/-- eight numbers as cells -/
def rowZ (f : Nat → Int) : List Value := [.int .i64 (f 0), .int .i64 (f 1), .int .i64 (f 2), .int .i64 (f 3), .int .i64 (f 4), .int .i64 (f 5), .int .i64 (f 6), .int .i64 (f 7)]
def upZ (f : Nat → Int) (x : Nat) (v : Int) : Nat → Int := fun j => if j = x then v else f j
theorem rowZ_at (f : Nat → Int) (k : Nat) (hk : k < 8) : (rowZ f)[k]? = some (Value.int .i64 (f k)) := useV_at f k hk
theorem rowZ_set (f : Nat → Int) (x : Nat) (hx : x < 8) (v : Int) : (rowZ f).set x (.int .i64 v) = rowZ (upZ f x v) := by
  obtain rfl | rfl | rfl | rfl | rfl | rfl | rfl | rfl : x = 0 ∨ x = 1 ∨ x = 2 ∨ x = 3 ∨ x = 4 ∨ x = 5 ∨ x = 6 ∨ x = 7 := by omega
  all_goals rfl
theorem rowZ_congr {f g : Nat → Int} (h : ∀ j, j < 8 → f j = g j) : rowZ f = rowZ g := by
  unfold rowZ
  rw [h 0 (by omega), h 1 (by omega), h 2 (by omega), h 3 (by omega), h 4 (by omega), h 5 (by omega), h 6 (by omega), h 7 (by omega)]
/-- how often a field has come -/
def cntF (pre : List (Fin 8)) (j : Nat) : Nat := pre.countP (fun y => decide (y.val = j))
theorem cntF_snoc (pre : List (Fin 8)) (x : Fin 8) (j : Nat) : cntF (pre ++ [x]) j = cntF pre j + if x.val = j then 1 else 0 := by
  unfold cntF
  rw [List.countP_append]
  by_cases h : x.val = j <;> simp [h]
theorem cntF_le (pre : List (Fin 8)) (j : Nat) : cntF pre j ≤ pre.length := List.countP_le_length
theorem cntF_all (j : Nat) (hj : j < 8) : cntF all8 j = 1 := by
  obtain rfl | rfl | rfl | rfl | rfl | rfl | rfl | rfl : j = 0 ∨ j = 1 ∨ j = 2 ∨ j = 3 ∨ j = 4 ∨ j = 5 ∨ j = 6 ∨ j = 7 := by omega
  all_goals decide
def accF (U : Nat → Nat → Int) (k : Nat) (pre : List (Fin 8)) (j : Nat) : Int := sumF U j k + cntF pre j * U k j
theorem accF_nil (U : Nat → Nat → Int) (k : Nat) : rowZ (accF U k []) = rowZ (fun j => sumF U j k) := rowZ_congr (fun j _ => by simp [accF, cntF])
theorem accF_snoc (U : Nat → Nat → Int) (k : Nat) (pre : List (Fin 8)) (x : Fin 8) : rowZ (upZ (accF U k pre) x.val (accF U k pre x.val + U k x.val)) = rowZ (accF U k (pre ++ [x])) := by
  apply rowZ_congr
  intro j _
  unfold upZ accF
  rw [cntF_snoc]
  by_cases h : j = x.val
  · rw [if_pos h, h, if_pos rfl, Int.natCast_add, Int.add_mul]
    simp
    omega
  · rw [if_neg h, if_neg (fun e => h e.symm)]
    simp
theorem accF_all (U : Nat → Nat → Int) (k : Nat) : rowZ (accF U k all8) = rowZ (fun j => sumF U j (k + 1)) := rowZ_congr (fun j hj => by
  unfold accF
  rw [cntF_all j hj]
  simp [sumF])
theorem ok1_bd0 {u : Nat → Int} (h : ok1 u = true) (j : Nat) (h8 : j < 8) : -3 ≤ u j ∧ u j ≤ 1000000 := by
  by_cases h0 : j = 0
  · subst h0
    simp only [ok1, Bool.and_eq_true, Bool.or_eq_true, beq_iff_eq, decide_eq_true_eq] at h
    omega
  · have := ok1_bd h j (by omega) h8
    omega
theorem sumF_bd0 {U : Nat → Nat → Int} {j : Nat} : ∀ {n : Nat}, (∀ i, i < n → -3 ≤ U i j ∧ U i j ≤ 1000000) → -3 * n ≤ sumF U j n ∧ sumF U j n ≤ 1000000 * n
  | 0, _ => by simp [sumF]
  | n + 1, h => by
    have h1 := sumF_bd0 (n := n) (fun i hi => h i (by omega))
    have h2 := h n (by omega)
    simp only [sumF]
    omega
theorem accF_bd {U : Nat → Nat → Int} {n k : Nat} (h : okB U n = true) (hn : n ≤ 70) (hk : k < n) (pre : List (Fin 8)) (hp : pre.length < 8) (j : Nat) (h8 : j < 8) : -1000000000 ≤ accF U k pre j ∧ accF U k pre j ≤ 1000000000 := by
  have h1 := sumF_bd0 (U := U) (j := j) (n := k) (fun i hi => ok1_bd0 (okB_at h (by omega)) j h8)
  have h2 := ok1_bd0 (okB_at h hk) j h8
  have h3 := cntF_le pre j
  unfold accF
  have h4 : -3 * 8 ≤ (cntF pre j : Int) * U k j ∧ (cntF pre j : Int) * U k j ≤ 1000000 * 8 := by
    have : cntF pre j = 0 ∨ cntF pre j = 1 ∨ cntF pre j = 2 ∨ cntF pre j = 3 ∨ cntF pre j = 4 ∨ cntF pre j = 5 ∨ cntF pre j = 6 ∨ cntF pre j = 7 := by omega
    rcases this with e | e | e | e | e | e | e | e <;> rw [e] <;> omega
  omega

def outF (U : Nat → Nat → Int) (n : Nat) (pre : List (Fin 8)) (j : Nat) : Int := if cntF pre j = 0 then 0 else sumF U j n
theorem outF_snoc (U : Nat → Nat → Int) (n : Nat) (pre : List (Fin 8)) (x : Fin 8) : rowZ (upZ (outF U n pre) x.val (sumF U x.val n)) = rowZ (outF U n (pre ++ [x])) := by
  apply rowZ_congr
  intro j _
  unfold upZ outF
  rw [cntF_snoc]
  by_cases h : j = x.val
  · rw [if_pos h, h, if_pos rfl, if_neg (by omega)]
  · rw [if_neg h]
    have e : (if x.val = j then 1 else 0 : Nat) = 0 := if_neg (fun e => h e.symm)
    rw [e, Nat.add_zero]
theorem outF_all (U : Nat → Nat → Int) (n : Nat) : rowZ (outF U n all8) = rowZ (fun j => sumF U j n) := rowZ_congr (fun j hj => by
  unfold outF
  rw [cntF_all j hj]
  rfl)
theorem k56_set {W : World} {b x : Nat} {T : TypeId} {vs : List Value} (v : Value) (h : RowB W b T vs) (hT : T ≠ 56) : K56 W (W.setCell ⟨b, x, none⟩ v) := by
  refine ⟨by simp [World.setCell], fun k c f hk => ?_⟩
  by_cases e : k = b
  · subst e
    unfold RowB at h
    rw [h] at hk
    cases hk
    exact absurd rfl hT
  · rw [Below.heap_setCell _ _ _ _ e]; exact hk
theorem K56.drew {A B : World} (h : K56 A B) : K56 A B.drew := h

/-- the frame at the head of Sum's loop -/
def SmI (a0 : Option Addr) (n c R S : Nat) (U : Nat → Nat → Int) (W2 : World) (a : Act) (wr : World) : Prop :=
  ∃ (k : Nat) (ds : List Deferred) (u7 u22 u23 u24 u25 u34 : Value), k ≤ n ∧ Marks (S + 1) wr ds ∧ RowB wr S 51 (rowZ (fun j => sumF U j k)) ∧ Fr (fun x => x = S) W2 wr ∧
    a = { tmps := #[.slice a0 n c, undef, .pointer (some ⟨R, 0, none⟩), .int .i64 0, .int .i64 0, .pointer (some ⟨S, 0, none⟩), undef, u7, undef, undef, undef, undef, undef, .slice a0 n c, .int .i64 0, .int .i64 0, .bool false, undef, undef, .slice a0 n c, .int .i64 (n : Int), .int .i64 (k : Int), u22, u23, u24, u25, undef, undef, undef, undef, undef, undef, undef, undef, u34, undef, undef, undef, undef, undef, undef, undef, undef, undef, undef], defers := ds }
def SmM (n : Nat) (a : Act) (_ : World) : Nat := n - (intOf (a.tmps.getD 21 undef)).toNat

set_option maxRecDepth 100000 in
set_option maxHeartbeats 4000000 in
theorem sum_ok (n c b o : Nat) (a0 : Option Addr) (U : Nat → Nat → Int) (w : World) (hE : listE n U = 0) (hU : Hid (Uses w a0 n U)) (ha : 0 < n → a0 = some ⟨b, o, none⟩) (hb : 0 < n → b < w.heap.size) (hc : Hid (∀ i j, i < n → j < 8 → w.cell? ⟨b, o + i * 8 + j, none⟩ = some (.int .i64 (U i j)))) :
    Calls Tryd.prog 8 #[.slice a0 n c] w (Ret (sumV n U) w) := by
  have HL := Lib.hid (fun (w0 : World) (hF : Fr (fun _ => False) w w0) => check_walk n c a0 U w0 (hU.out.fr hF (fun _ _ h => h)))
  rw [hE] at HL
  rw [sumV_ok hE]
  obtain ⟨hn, hok⟩ := listE_ok hE
  have HOK := Lib.hid hok
  clear hE hok
  refine (callsIn_wide (n := 4)).1 ?_
  refine callsIn_of_wp_marks Tryd.func8 rfl trivial ?_ rfl
  simp only [Tryd.ntmps8, List.size_toArray, List.length_cons, List.length_nil, Nat.reduceAdd, Nat.reduceSub, Array.replicate_succ, Array.replicate_zero, List.push_toArray, List.append_toArray, List.nil_append, List.cons_append]
  refine wpIn_wide.2 ?_
  go_wp2_with (go_at_call 16; go_must (refine (HL.out _ ((Fr.refl _ _).alloc _)).mono ?_; rintro e w1 ⟨rfl, hF⟩; have HF1 := Lib.hid (((Fr.refl _ w).alloc _).then hF); have HR1 := Lib.hid ((RowB.new w 28 [.int .i64 0, .int .i64 0, .int .i64 0, .int .i64 0, .int .i64 0, .int .i64 0, .int .i64 0, .int .i64 0]).fr hF (fun h => h)); clear hF))
  have hF2 : Fr (fun _ => False) w (w1.alloc (Obj.cells #[Value.int .i64 0, Value.int .i64 0, Value.int .i64 0, Value.int .i64 0, Value.int .i64 0, Value.int .i64 0, Value.int .i64 0, Value.int .i64 0] 51)) := HF1.out.alloc _
  have hS2 : RowB (w1.alloc (Obj.cells #[Value.int .i64 0, Value.int .i64 0, Value.int .i64 0, Value.int .i64 0, Value.int .i64 0, Value.int .i64 0, Value.int .i64 0, Value.int .i64 0] 51)) w1.heap.size 51 (rowZ (fun j => sumF U j 0)) := RowB.new w1 51 _
  have hR2 : RowB (w1.alloc (Obj.cells #[Value.int .i64 0, Value.int .i64 0, Value.int .i64 0, Value.int .i64 0, Value.int .i64 0, Value.int .i64 0, Value.int .i64 0, Value.int .i64 0] 51)) w.heap.size 28 [.int .i64 0, .int .i64 0, .int .i64 0, .int .i64 0, .int .i64 0, .int .i64 0, .int .i64 0, .int .i64 0] := HR1.out.fr ((Fr.refl (fun _ => False) w1).alloc _) (fun h => h)
  have hRS : w.heap.size < w1.heap.size := HR1.out.lt
  generalize w1.alloc (Obj.cells #[Value.int .i64 0, Value.int .i64 0, Value.int .i64 0, Value.int .i64 0, Value.int .i64 0, Value.int .i64 0, Value.int .i64 0, Value.int .i64 0] 51) = W2 at *
  generalize w1.heap.size = S at *
  have HF2 := Lib.hid hF2
  have HR2 := Lib.hid hR2
  have HS2 := Lib.hid hS2
  have hF2s : w.heap.size ≤ W2.heap.size := hF2.size
  have hS2s : S < W2.heap.size := hS2.lt
  clear hF2 hS2 hR2 HR1 HF1
  obtain ⟨R, hRw⟩ : ∃ R, w.heap.size = R := ⟨_, rfl⟩
  rw [hRw] at HR2 hRS ⊢
  have HRw := Lib.hid hRw
  rw [hRw] at hF2s
  have HA := Lib.hid ha
  have HB := Lib.hid hb
  clear ha hb
  clear hRw
  refine wp_loop (SmI a0 n c R S U W2) (SmM n) ?_ ?_
  · exact ⟨0, [], _, _, _, _, _, _, by omega, trivial, HS2.out, Fr.refl _ _, rfl⟩
  · rintro a wr ⟨k, ds, u7, u22, u23, u24, u25, u34, hk, hM, hS, hF, rfl⟩
    have HM := Lib.hid hM
    have HS := Lib.hid hS
    clear hM hS
    by_cases hlt : k < n
    · have ha := HA.out (by omega)
      have hb : b < R := by have := HB.out (by omega); rw [HRw.out] at this; exact this
      clear HA HL hU
      subst ha
      have c0 : wr.cell? ⟨b, o + k * 8, none⟩ = some (.int .i64 (U k 0)) := hF.cell (w := W2) (p := ⟨b, o + k * 8, none⟩) (Nat.lt_of_lt_of_le hb hF2s) (fun h => by have h : b = S := h; omega) (HF2.out.cell (by rw [HRw.out]; exact hb) (fun h => h) (hc.out k 0 hlt (by omega)))
      have c1 : wr.cell? ⟨b, o + k * 8 + 1, none⟩ = some (.int .i64 (U k 1)) := hF.cell (w := W2) (p := ⟨b, o + k * 8 + 1, none⟩) (Nat.lt_of_lt_of_le hb hF2s) (fun h => by have h : b = S := h; omega) (HF2.out.cell (by rw [HRw.out]; exact hb) (fun h => h) (hc.out k 1 hlt (by omega)))
      have c2 : wr.cell? ⟨b, o + k * 8 + 2, none⟩ = some (.int .i64 (U k 2)) := hF.cell (w := W2) (p := ⟨b, o + k * 8 + 2, none⟩) (Nat.lt_of_lt_of_le hb hF2s) (fun h => by have h : b = S := h; omega) (HF2.out.cell (by rw [HRw.out]; exact hb) (fun h => h) (hc.out k 2 hlt (by omega)))
      have c3 : wr.cell? ⟨b, o + k * 8 + 3, none⟩ = some (.int .i64 (U k 3)) := hF.cell (w := W2) (p := ⟨b, o + k * 8 + 3, none⟩) (Nat.lt_of_lt_of_le hb hF2s) (fun h => by have h : b = S := h; omega) (HF2.out.cell (by rw [HRw.out]; exact hb) (fun h => h) (hc.out k 3 hlt (by omega)))
      have c4 : wr.cell? ⟨b, o + k * 8 + 4, none⟩ = some (.int .i64 (U k 4)) := hF.cell (w := W2) (p := ⟨b, o + k * 8 + 4, none⟩) (Nat.lt_of_lt_of_le hb hF2s) (fun h => by have h : b = S := h; omega) (HF2.out.cell (by rw [HRw.out]; exact hb) (fun h => h) (hc.out k 4 hlt (by omega)))
      have c5 : wr.cell? ⟨b, o + k * 8 + 5, none⟩ = some (.int .i64 (U k 5)) := hF.cell (w := W2) (p := ⟨b, o + k * 8 + 5, none⟩) (Nat.lt_of_lt_of_le hb hF2s) (fun h => by have h : b = S := h; omega) (HF2.out.cell (by rw [HRw.out]; exact hb) (fun h => h) (hc.out k 5 hlt (by omega)))
      have c6 : wr.cell? ⟨b, o + k * 8 + 6, none⟩ = some (.int .i64 (U k 6)) := hF.cell (w := W2) (p := ⟨b, o + k * 8 + 6, none⟩) (Nat.lt_of_lt_of_le hb hF2s) (fun h => by have h : b = S := h; omega) (HF2.out.cell (by rw [HRw.out]; exact hb) (fun h => h) (hc.out k 6 hlt (by omega)))
      have c7 : wr.cell? ⟨b, o + k * 8 + 7, none⟩ = some (.int .i64 (U k 7)) := hF.cell (w := W2) (p := ⟨b, o + k * 8 + 7, none⟩) (Nat.lt_of_lt_of_le hb hF2s) (fun h => by have h : b = S := h; omega) (HF2.out.cell (by rw [HRw.out]; exact hb) (fun h => h) (hc.out k 7 hlt (by omega)))
      have HF := Lib.hid hF
      have hz2 : W2.heap.size ≤ wr.heap.size := hF.size
      clear hF
      go_wp2_with (go_at_call 21; go_must (refine (fields_make _ _).mono ?_; rintro e w' ⟨rfl, rfl⟩))
      have hF1 : Fr (fun _ => False) wr ((wr.alloc (Obj.cells #[Value.int .i64 (U k 0), Value.int .i64 (U k 1), Value.int .i64 (U k 2), Value.int .i64 (U k 3), Value.int .i64 (U k 4), Value.int .i64 (U k 5), Value.int .i64 (U k 6), Value.int .i64 (U k 7)] 28)).alloc (Obj.cells #[Value.pointer (some ⟨wr.heap.size, 0, none⟩)] 55)) := ((Fr.refl _ wr).alloc _).alloc _
      have hX1 : RowB ((wr.alloc (Obj.cells #[Value.int .i64 (U k 0), Value.int .i64 (U k 1), Value.int .i64 (U k 2), Value.int .i64 (U k 3), Value.int .i64 (U k 4), Value.int .i64 (U k 5), Value.int .i64 (U k 6), Value.int .i64 (U k 7)] 28)).alloc (Obj.cells #[Value.pointer (some ⟨wr.heap.size, 0, none⟩)] 55)) wr.heap.size 28 (useV (U k)) := (RowB.new wr 28 (useV (U k))).fr ((Fr.refl (fun _ => False) _).alloc _) (fun h => h)
      have hP1 : RowB ((wr.alloc (Obj.cells #[Value.int .i64 (U k 0), Value.int .i64 (U k 1), Value.int .i64 (U k 2), Value.int .i64 (U k 3), Value.int .i64 (U k 4), Value.int .i64 (U k 5), Value.int .i64 (U k 6), Value.int .i64 (U k 7)] 28)).alloc (Obj.cells #[Value.pointer (some ⟨wr.heap.size, 0, none⟩)] 55)) (wr.heap.size + 1) 55 [Value.pointer (some ⟨wr.heap.size, 0, none⟩)] := by
        have := RowB.new (wr.alloc (Obj.cells #[Value.int .i64 (U k 0), Value.int .i64 (U k 1), Value.int .i64 (U k 2), Value.int .i64 (U k 3), Value.int .i64 (U k 4), Value.int .i64 (U k 5), Value.int .i64 (U k 6), Value.int .i64 (U k 7)] 28)) 55 [Value.pointer (some ⟨wr.heap.size, 0, none⟩)]
        rw [alloc_size] at this
        exact this
      generalize (wr.alloc (Obj.cells #[Value.int .i64 (U k 0), Value.int .i64 (U k 1), Value.int .i64 (U k 2), Value.int .i64 (U k 3), Value.int .i64 (U k 4), Value.int .i64 (U k 5), Value.int .i64 (U k 6), Value.int .i64 (U k 7)] 28)).alloc (Obj.cells #[Value.pointer (some ⟨wr.heap.size, 0, none⟩)] 55) = W3 at *
      clear c0 c1 c2 c3 c4 c5 c6 c7
      have HS3 := Lib.hid (HS.out.fr hF1 (fun h => h))
      have HM3 := Lib.hid (HM.out.fr hF1 (fun _ _ h _ => h))
      have HF3 := Lib.hid (HF.out.trans hF1 (fun _ _ h => h.elim))
      have hBz : S < wr.heap.size := by omega
      generalize wr.heap.size = B at *
      have HX1 := Lib.hid hX1
      have hsz3 : S < W3.heap.size := HS3.out.lt
      refine range_fields (B + 1) B rfl rfl hP1.lt (hP1.cell 0) (fun pre W => Fr (fun x => x = S) W3 W ∧ RowB W S 51 (rowZ (accF U k pre)))
        (fun c pre W => False)
        (OwnFrom.and (ownFrom_fr (Nat.le_refl _)) (fun pre W W' row hs hg hr => ownFrom_row (β := List (Fin 8)) hsz3 pre W W' row hs hg hr)) (fun c => fun _ _ _ _ h _ _ => h.elim)
        ⟨Fr.refl _ _, by rw [accF_nil]; exact HS3.out⟩ (fun x => { tmps := #[.slice (some ⟨b, o, none⟩) n c, undef, .pointer (some ⟨R, 0, none⟩), .int .i64 0, .int .i64 0, .pointer (some ⟨S, 0, none⟩), undef, .pointer (some ⟨B, 0, none⟩), .int .i64 (x.val : Int), .pointer (some ⟨B, x.val, none⟩), undef, undef, undef, .slice (some ⟨b, o, none⟩) n c, .int .i64 0, .int .i64 0, .bool false, undef, undef, .slice (some ⟨b, o, none⟩) n c, .int .i64 (n : Int), .int .i64 (k : Int), .bool true, .pointer (some ⟨b, o + k * 8, none⟩), .agg #[.int .i64 (U k 0), .int .i64 (U k 1), .int .i64 (U k 2), .int .i64 (U k 3), .int .i64 (U k 4), .int .i64 (U k 5), .int .i64 (U k 6), .int .i64 (U k 7)], .func (.func 32) #[] #[.pointer (some ⟨B + 1, 0, none⟩)], .int .i64 (x.val : Int), .pointer (some ⟨B, x.val, none⟩), undef, undef, undef, undef, undef, undef, u34, undef, undef, undef, undef, undef, undef, undef, undef, undef, undef], defers := [] }) ?assign ?body ?done ?stop
      case assign =>
        intro l x W K hK
        unfold enc8
        gi_wp2
        exact hK
      case body =>
        rintro l pre ⟨x, hxlt⟩ W ⟨hF4, hS4⟩ hlen
        have hcx : W.cell? ⟨B, x, none⟩ = some (.int .i64 (U k x)) := by rw [(HX1.out.fr hF4 (fun h => by have h : B = S := h; omega)).cell x]; exact useV_at (U k) x hxlt
        have hsx : W.cell? ⟨S, x, none⟩ = some (.int .i64 (accF U k pre x)) := by rw [hS4.cell x]; exact rowZ_at _ x hxlt
        have hfx := hS4.frozen x
        have g1 : (0 : Int) ≤ (x : Int) := by omega
        have g2 : (x : Int) < 8 := by omega
        have hbd := accF_bd HOK.out hn hlt pre hlen x hxlt
        have hb0 := ok1_bd0 (okB_at HOK.out hlt) x hxlt
        have HAD := Lib.hid (fun (w0 : World) (h1 : w0.cell? ⟨S, x, none⟩ = some (.int .i64 (accF U k pre x))) (h2 : w0.frozen? ⟨S, x, none⟩ = false) => add_walk S x (accF U k pre x) (U k x) (accF U k pre x + U k x) w0 h1 h2 (by omega) (by omega) rfl)
        have HF4 := Lib.hid hF4
        have HS4 := Lib.hid hS4
        clear hF4 hS4 hX1 hP1 hF1 hbd hb0
        have hmx : Tryd.prog.follows .mixedOrders = true := by kernel_rfl
        have hfn : Fence.wide.fn 22 := trivial
        gi_wp2_with fail
        gi_region_with_o (gi_at_call 22; refine (CallsIn.inRound l (callsIn_wide.2 (HAD.out _ (by exact hsx) (by exact hfx)))).mono ?_; rintro e w' ⟨rfl, rfl⟩)
        all_goals gi_wp2_with fail
        all_goals exact ⟨((KeepsOthers.setCell _ _ _).trans (KeepsOthers.drew _)).from _, (k56_set _ HS4.out (by decide)).drew, (Fr.setCell (S := fun y => y = S) HF4.out (a := ⟨S, x, none⟩) (fun _ => rfl) _).drew, by
          have h := HS4.out.set x (Value.int .i64 (accF U k pre x + U k x))
          rw [rowZ_set _ x hxlt, accF_snoc U k pre ⟨x, hxlt⟩] at h
          exact h.drew⟩
      case done =>
        rintro D W hD ⟨hF4, hS4⟩ hK
        rw [accF_all] at hS4
        have HS5 := Lib.hid hS4
        have HF5 := Lib.hid (HF3.out.trans hF4 (fun _ _ h => h))
        have hM4 : Marks (S + 1) W ds := HM3.out.fr hF4 (fun D h1 h2 _ => by have h2 : D = S := h2; omega)
        have HM4 := Lib.hid (show Marks (S + 1) W ({ target := .collected D, args := #[] } :: ds) from ⟨D, rfl, by omega, hK, fun d hd e => by
          subst e
          have := HM3.out.lt D hd
          omega, hM4⟩)
        clear hF4 hS4 hM4 hK
        go_wp2_with fail
        exact ⟨⟨k + 1, _, _, _, _, _, _, _, by omega, HM4.out, HS5.out, HF5.out, by rw [show ((k : Int) + 1) = ((k + 1 : Nat) : Int) by omega]⟩, by simp [SmM, intOf]; omega⟩
      case stop =>
        rintro D c pre W hD h hK
        exact h.elim
    · obtain rfl : n = k := by omega
      have hz2 : W2.heap.size ≤ wr.heap.size := hF.size
      have HF := Lib.hid hF
      clear hF
      go_wp2_with (go_at_call 21; go_must (refine (fields_make _ _).mono ?_; rintro e w' ⟨rfl, rfl⟩))
      have hF1 : Fr (fun _ => False) wr ((wr.alloc (Obj.cells #[Value.int .i64 0, Value.int .i64 0, Value.int .i64 0, Value.int .i64 0, Value.int .i64 0, Value.int .i64 0, Value.int .i64 0, Value.int .i64 0] 28)).alloc (Obj.cells #[Value.pointer (some ⟨wr.heap.size, 0, none⟩)] 55)) := ((Fr.refl _ wr).alloc _).alloc _
      have hX1 : RowB ((wr.alloc (Obj.cells #[Value.int .i64 0, Value.int .i64 0, Value.int .i64 0, Value.int .i64 0, Value.int .i64 0, Value.int .i64 0, Value.int .i64 0, Value.int .i64 0] 28)).alloc (Obj.cells #[Value.pointer (some ⟨wr.heap.size, 0, none⟩)] 55)) wr.heap.size 28 (rowZ (outF U n [])) := (RowB.new wr 28 (rowZ (outF U n []))).fr ((Fr.refl (fun _ => False) _).alloc _) (fun h => h)
      have hP1 : RowB ((wr.alloc (Obj.cells #[Value.int .i64 0, Value.int .i64 0, Value.int .i64 0, Value.int .i64 0, Value.int .i64 0, Value.int .i64 0, Value.int .i64 0, Value.int .i64 0] 28)).alloc (Obj.cells #[Value.pointer (some ⟨wr.heap.size, 0, none⟩)] 55)) (wr.heap.size + 1) 55 [Value.pointer (some ⟨wr.heap.size, 0, none⟩)] := by
        have := RowB.new (wr.alloc (Obj.cells #[Value.int .i64 0, Value.int .i64 0, Value.int .i64 0, Value.int .i64 0, Value.int .i64 0, Value.int .i64 0, Value.int .i64 0, Value.int .i64 0] 28)) 55 [Value.pointer (some ⟨wr.heap.size, 0, none⟩)]
        rw [alloc_size] at this
        exact this
      generalize (wr.alloc (Obj.cells #[Value.int .i64 0, Value.int .i64 0, Value.int .i64 0, Value.int .i64 0, Value.int .i64 0, Value.int .i64 0, Value.int .i64 0, Value.int .i64 0] 28)).alloc (Obj.cells #[Value.pointer (some ⟨wr.heap.size, 0, none⟩)] 55) = W3 at *
      have HS3 := Lib.hid (HS.out.fr hF1 (fun h => h))
      have HM3 := Lib.hid (HM.out.fr hF1 (fun _ _ h _ => h))
      have HF3 := Lib.hid (HF.out.trans hF1 (fun _ _ h => h.elim))
      have HR3 := Lib.hid ((HR2.out.fr HF.out (fun h => by have h : R = S := h; omega)).fr hF1 (fun h => h))
      have hBz : S < wr.heap.size := by omega
      generalize wr.heap.size = O at *
      have hsz3 : O < W3.heap.size := hX1.lt
      have HX1 := Lib.hid hX1
      refine range_fields (O + 1) O rfl rfl hP1.lt (hP1.cell 0) (fun pre W => Fr (fun x => x = O) W3 W ∧ RowB W O 28 (rowZ (outF U n pre)))
        (fun c pre W => False)
        (OwnFrom.and (ownFrom_fr (Nat.le_refl _)) (fun pre W W' row hs hg hr => ownFrom_row (β := List (Fin 8)) hsz3 pre W W' row hs hg hr)) (fun c => fun _ _ _ _ h _ _ => h.elim)
        ⟨Fr.refl _ _, HX1.out⟩ (fun x => { tmps := #[.slice a0 n c, undef, .pointer (some ⟨R, 0, none⟩), .int .i64 0, .int .i64 0, .pointer (some ⟨S, 0, none⟩), undef, u7, undef, undef, .pointer (some ⟨O, 0, none⟩), .int .i64 (x.val : Int), .pointer (some ⟨O, x.val, none⟩), .slice a0 n c, .int .i64 0, .int .i64 0, .bool false, undef, undef, .slice a0 n c, .int .i64 (n : Int), .int .i64 (n : Int), .bool false, u23, u24, u25, undef, undef, undef, undef, undef, undef, undef, undef, u34, .func (.func 32) #[] #[.pointer (some ⟨O + 1, 0, none⟩)], .int .i64 (x.val : Int), .pointer (some ⟨O, x.val, none⟩), undef, undef, undef, undef, undef, undef, undef], defers := [] }) ?assign ?body ?done ?stop
      case assign =>
        intro l x W K hK
        unfold enc8
        gi_wp2
        exact hK
      case body =>
        rintro l pre ⟨x, hxlt⟩ W ⟨hF4, hX4⟩ hlen
        have hsx : W.cell? ⟨S, x, none⟩ = some (.int .i64 (sumF U x n)) := by rw [(HS3.out.fr hF4 (fun h => by have h : S = O := h; omega)).cell x]; exact rowZ_at _ x hxlt
        have hox : W.cell? ⟨O, x, none⟩ = some (.int .i64 (outF U n pre x)) := by rw [hX4.cell x]; exact rowZ_at _ x hxlt
        have hfx := hX4.frozen x
        have g1 : (0 : Int) ≤ (x : Int) := by omega
        have g2 : (x : Int) < 8 := by omega
        have HF4 := Lib.hid hF4
        have HX4 := Lib.hid hX4
        clear hF4 hX4 hX1 hP1 hF1
        have hfn : Fence.wide.fn 23 := trivial
        gi_wp2_with (gi_at_call 23; refine (CallsIn.inRound l (callsIn_wide.2 (load_walk S x (sumF U x n) _ (by exact hsx)))).mono ?_; rintro e w' ⟨rfl, rfl⟩)
        exact ⟨(KeepsOthers.setCell _ _ _).from _, k56_set _ HX4.out (by decide), Fr.setCell (S := fun y => y = O) HF4.out (a := ⟨O, x, none⟩) (fun _ => rfl) _, by
          have h := HX4.out.set x (Value.int .i64 (sumF U x n))
          rw [rowZ_set _ x hxlt, outF_snoc U n pre ⟨x, hxlt⟩] at h
          exact h⟩
      case stop =>
        rintro D c pre W hD h hK
        exact h.elim
      case done =>
        rintro D W hD ⟨hF4, hX4⟩ hK
        rw [outF_all] at hX4
        have hM4 : Marks (S + 1) W ds := HM3.out.kept (fun D' h1 h2 hm => (hF4.block D' (Array.getElem?_eq_some_iff.1 h2).1 (fun hs => by
          have hs : D' = O := hs
          subst hs
          have := HX1.out
          unfold RowB at this
          rw [this] at h2
          cases h2)).trans h2)
        have HM4 := Lib.hid (show Marks (S + 1) W ({ target := .collected D, args := #[] } :: ds) from ⟨D, rfl, by omega, hK, fun d hd e => by
          subst e
          have := HM3.out.lt D hd
          omega, hM4⟩)
        have HR4 := Lib.hid (HR3.out.fr hF4 (fun h => by have h : R = O := h; omega))
        have o0 : W.cell? ⟨O, 0, none⟩ = some (.int .i64 (sumF U 0 n)) := hX4.cell 0
        have o1 : W.cell? ⟨O, 1, none⟩ = some (.int .i64 (sumF U 1 n)) := hX4.cell 1
        have o2 : W.cell? ⟨O, 2, none⟩ = some (.int .i64 (sumF U 2 n)) := hX4.cell 2
        have o3 : W.cell? ⟨O, 3, none⟩ = some (.int .i64 (sumF U 3 n)) := hX4.cell 3
        have o4 : W.cell? ⟨O, 4, none⟩ = some (.int .i64 (sumF U 4 n)) := hX4.cell 4
        have o5 : W.cell? ⟨O, 5, none⟩ = some (.int .i64 (sumF U 5 n)) := hX4.cell 5
        have o6 : W.cell? ⟨O, 6, none⟩ = some (.int .i64 (sumF U 6 n)) := hX4.cell 6
        have o7 : W.cell? ⟨O, 7, none⟩ = some (.int .i64 (sumF U 7 n)) := hX4.cell 7
        have of0 := hX4.frozen 0
        have r0 : W.cell? ⟨R, 0, none⟩ = some (.int .i64 0) := HR4.out.cell 0
        have z0 := HR4.out.frozen 0
        have r1 : W.cell? ⟨R, 1, none⟩ = some (.int .i64 0) := HR4.out.cell 1
        have z1 := HR4.out.frozen 1
        have r2 : W.cell? ⟨R, 2, none⟩ = some (.int .i64 0) := HR4.out.cell 2
        have z2 := HR4.out.frozen 2
        have r3 : W.cell? ⟨R, 3, none⟩ = some (.int .i64 0) := HR4.out.cell 3
        have z3 := HR4.out.frozen 3
        have r4 : W.cell? ⟨R, 4, none⟩ = some (.int .i64 0) := HR4.out.cell 4
        have z4 := HR4.out.frozen 4
        have r5 : W.cell? ⟨R, 5, none⟩ = some (.int .i64 0) := HR4.out.cell 5
        have z5 := HR4.out.frozen 5
        have r6 : W.cell? ⟨R, 6, none⟩ = some (.int .i64 0) := HR4.out.cell 6
        have z6 := HR4.out.frozen 6
        have r7 : W.cell? ⟨R, 7, none⟩ = some (.int .i64 0) := HR4.out.cell 7
        have z7 := HR4.out.frozen 7
        have hRO : ¬ R = O := by omega
        have hOR : ¬ O = R := by omega
        have HX4 := Lib.hid hX4
        have HF4 := Lib.hid hF4
        clear hF4 hX4 hM4 hK hX1 hP1 hF1
        go_wp2_with fail
        have hRes : RowB ((((((((((W.setCell ⟨O, 0, none⟩ (Value.int .i64 0)).setCell ⟨R, 0, none⟩ (Value.int .i64 0)).setCell ⟨R, 1, none⟩ (Value.int .i64 (sumF U 1 n))).setCell ⟨R, 2, none⟩ (Value.int .i64 (sumF U 2 n))).setCell ⟨R, 3, none⟩ (Value.int .i64 (sumF U 3 n))).setCell ⟨R, 4, none⟩ (Value.int .i64 (sumF U 4 n))).setCell ⟨R, 5, none⟩ (Value.int .i64 (sumF U 5 n))).setCell ⟨R, 6, none⟩ (Value.int .i64 (sumF U 6 n))).setCell ⟨R, 7, none⟩ (Value.int .i64 (sumF U 7 n)))) R 28 (sumCells U n) := (((((((((HR4.out.fr (Fr.setCell (S := fun x => x = O) (Fr.refl _ W) (a := ⟨O, 0, none⟩) (fun _ => rfl) (Value.int .i64 0)) (fun h => by have h : R = O := h; omega)).set 0 (Value.int .i64 0)).set 1 (Value.int .i64 (sumF U 1 n))).set 2 (Value.int .i64 (sumF U 2 n))).set 3 (Value.int .i64 (sumF U 3 n))).set 4 (Value.int .i64 (sumF U 4 n))).set 5 (Value.int .i64 (sumF U 5 n))).set 6 (Value.int .i64 (sumF U 6 n))).set 7 (Value.int .i64 (sumF U 7 n)))
        have hFr : Fr (fun x => x = R ∨ x = O) W ((((((((((W.setCell ⟨O, 0, none⟩ (Value.int .i64 0)).setCell ⟨R, 0, none⟩ (Value.int .i64 0)).setCell ⟨R, 1, none⟩ (Value.int .i64 (sumF U 1 n))).setCell ⟨R, 2, none⟩ (Value.int .i64 (sumF U 2 n))).setCell ⟨R, 3, none⟩ (Value.int .i64 (sumF U 3 n))).setCell ⟨R, 4, none⟩ (Value.int .i64 (sumF U 4 n))).setCell ⟨R, 5, none⟩ (Value.int .i64 (sumF U 5 n))).setCell ⟨R, 6, none⟩ (Value.int .i64 (sumF U 6 n))).setCell ⟨R, 7, none⟩ (Value.int .i64 (sumF U 7 n)))) := (Fr.setCell (S := fun x => x = R ∨ x = O) (Fr.setCell (S := fun x => x = R ∨ x = O) (Fr.setCell (S := fun x => x = R ∨ x = O) (Fr.setCell (S := fun x => x = R ∨ x = O) (Fr.setCell (S := fun x => x = R ∨ x = O) (Fr.setCell (S := fun x => x = R ∨ x = O) (Fr.setCell (S := fun x => x = R ∨ x = O) (Fr.setCell (S := fun x => x = R ∨ x = O) (Fr.setCell (S := fun x => x = R ∨ x = O) (Fr.refl _ W) (a := ⟨O, 0, none⟩) (fun _ => Or.inr rfl) (Value.int .i64 0)) (a := ⟨R, 0, none⟩) (fun _ => Or.inl rfl) _) (a := ⟨R, 1, none⟩) (fun _ => Or.inl rfl) _) (a := ⟨R, 2, none⟩) (fun _ => Or.inl rfl) _) (a := ⟨R, 3, none⟩) (fun _ => Or.inl rfl) _) (a := ⟨R, 4, none⟩) (fun _ => Or.inl rfl) _) (a := ⟨R, 5, none⟩) (fun _ => Or.inl rfl) _) (a := ⟨R, 6, none⟩) (fun _ => Or.inl rfl) _) (a := ⟨R, 7, none⟩) (fun _ => Or.inl rfl) _)
        have hM9 : Marks (S + 1) ((((((((((W.setCell ⟨O, 0, none⟩ (Value.int .i64 0)).setCell ⟨R, 0, none⟩ (Value.int .i64 0)).setCell ⟨R, 1, none⟩ (Value.int .i64 (sumF U 1 n))).setCell ⟨R, 2, none⟩ (Value.int .i64 (sumF U 2 n))).setCell ⟨R, 3, none⟩ (Value.int .i64 (sumF U 3 n))).setCell ⟨R, 4, none⟩ (Value.int .i64 (sumF U 4 n))).setCell ⟨R, 5, none⟩ (Value.int .i64 (sumF U 5 n))).setCell ⟨R, 6, none⟩ (Value.int .i64 (sumF U 6 n))).setCell ⟨R, 7, none⟩ (Value.int .i64 (sumF U 7 n)))) ({ target := .collected D, args := #[] } :: ds) := HM4.out.kept (fun D' h1 h2 hm => (hFr.block D' (Array.getElem?_eq_some_iff.1 h2).1 (fun hs => by
          rcases hs with hs | hs
          · omega
          · subst hs
            have := HX4.out
            unfold RowB at this
            rw [this] at h2
            cases h2)).trans h2)
        generalize (((((((((W.setCell ⟨O, 0, none⟩ (Value.int .i64 0)).setCell ⟨R, 0, none⟩ (Value.int .i64 0)).setCell ⟨R, 1, none⟩ (Value.int .i64 (sumF U 1 n))).setCell ⟨R, 2, none⟩ (Value.int .i64 (sumF U 2 n))).setCell ⟨R, 3, none⟩ (Value.int .i64 (sumF U 3 n))).setCell ⟨R, 4, none⟩ (Value.int .i64 (sumF U 4 n))).setCell ⟨R, 5, none⟩ (Value.int .i64 (sumF U 5 n))).setCell ⟨R, 6, none⟩ (Value.int .i64 (sumF U 6 n))).setCell ⟨R, 7, none⟩ (Value.int .i64 (sumF U 7 n))) = W9 at *
        have HRes := Lib.hid hRes
        have HFr := Lib.hid hFr
        refine leaves_marks _ _ hM9 (fun w' f => ?_)
        have hr9 := HRes.out.fr f (fun h => by omega)
        have k0 : w'.cell? ⟨R, 0, none⟩ = some (.int .i64 0) := hr9.cell 0
        have k1 : w'.cell? ⟨R, 1, none⟩ = some (.int .i64 (sumF U 1 n)) := hr9.cell 1
        have k2 : w'.cell? ⟨R, 2, none⟩ = some (.int .i64 (sumF U 2 n)) := hr9.cell 2
        have k3 : w'.cell? ⟨R, 3, none⟩ = some (.int .i64 (sumF U 3 n)) := hr9.cell 3
        have k4 : w'.cell? ⟨R, 4, none⟩ = some (.int .i64 (sumF U 4 n)) := hr9.cell 4
        have k5 : w'.cell? ⟨R, 5, none⟩ = some (.int .i64 (sumF U 5 n)) := hr9.cell 5
        have k6 : w'.cell? ⟨R, 6, none⟩ = some (.int .i64 (sumF U 6 n)) := hr9.cell 6
        have k7 : w'.cell? ⟨R, 7, none⟩ = some (.int .i64 (sumF U 7 n)) := hr9.cell 7
        refine ⟨.tuple #[.agg #[.int .i64 0, .int .i64 (sumF U 1 n), .int .i64 (sumF U 2 n), .int .i64 (sumF U 3 n), .int .i64 (sumF U 4 n), .int .i64 (sumF U 5 n), .int .i64 (sumF U 6 n), .int .i64 (sumF U 7 n)], .int .i64 0], by simp [results, Tryd.results8, go_sem, k0, k1, k2, k3, k4, k5, k6, k7], rfl, ?_⟩
        have q1 : Fr (fun x => R ≤ x) w W3 := (HF2.out.up (S := fun x => R ≤ x)).trans HF3.out (fun x _ h => by have h : x = S := h; omega)
        have q2 : Fr (fun x => R ≤ x) w W := q1.trans HF4.out (fun x _ h => by have h : x = O := h; omega)
        have q3 : Fr (fun x => R ≤ x) w W9 := q2.trans HFr.out (fun x _ h => by rcases h with h | h <;> omega)
        have q4 : Fr (fun x => R ≤ x) w w' := q3.trans f (fun x _ h => by have := h.1; omega)
        exact q4.mono (fun x hx h => by rw [HRw.out] at hx; omega)
set_option maxRecDepth 100000 in
set_option maxHeartbeats 1000000 in
theorem sum_bad (n c : Nat) (a0 : Option Addr) (U : Nat → Nat → Int) (w : World) (hE : listE n U ≠ 0) (h : Uses w a0 n U) :
    Calls Tryd.prog 8 #[.slice a0 n c] w (Ret (sumV n U) w) := by
  have HL := Lib.hid (fun (w0 : World) (hF : Fr (fun _ => False) w w0) => check_walk n c a0 U w0 (h.fr hF (fun _ _ h => h)))
  rw [sumV_bad hE]
  generalize listE n U = E at *
  have e1 : (E != 0) = true := by simp [hE]
  clear hE h
  go_enter Tryd.func8, Tryd.ntmps8
  go_upto_region 1 with (fail)
  have hR1 := RowB.new w 28 [.int .i64 0, .int .i64 0, .int .i64 0, .int .i64 0, .int .i64 0, .int .i64 0, .int .i64 0, .int .i64 0]
  have hF0 : Fr (fun _ => False) w (w.alloc (Obj.cells #[Value.int .i64 0, Value.int .i64 0, Value.int .i64 0, Value.int .i64 0, Value.int .i64 0, Value.int .i64 0, Value.int .i64 0, Value.int .i64 0] 28)) := (Fr.refl _ w).alloc _
  change RowB (w.alloc (Obj.cells #[Value.int .i64 0, Value.int .i64 0, Value.int .i64 0, Value.int .i64 0, Value.int .i64 0, Value.int .i64 0, Value.int .i64 0, Value.int .i64 0] 28)) _ _ _ at hR1
  generalize w.alloc (Obj.cells #[Value.int .i64 0, Value.int .i64 0, Value.int .i64 0, Value.int .i64 0, Value.int .i64 0, Value.int .i64 0, Value.int .i64 0, Value.int .i64 0] 28) = W0 at *
  have HR1 := Lib.hid hR1
  have HF0 := Lib.hid hF0
  clear hR1 hF0
  go_upto_region 3 with (go_at_call 16; go_must (refine (HL.out _ HF0.out).mono ?_; rintro e w1 ⟨rfl, hF⟩; have HR2 := Lib.hid (HR1.out.fr hF (fun h => h)); have HF1 : Hid (Fr (fun _ => False) w w1) := Lib.hid (HF0.out.then hF); clear hF))
  have v0 : w1.cell? ⟨w.heap.size, 0, none⟩ = some (.int .i64 0) := HR2.out.cell 0
  have v1 : w1.cell? ⟨w.heap.size, 1, none⟩ = some (.int .i64 0) := HR2.out.cell 1
  have v2 : w1.cell? ⟨w.heap.size, 2, none⟩ = some (.int .i64 0) := HR2.out.cell 2
  have v3 : w1.cell? ⟨w.heap.size, 3, none⟩ = some (.int .i64 0) := HR2.out.cell 3
  have v4 : w1.cell? ⟨w.heap.size, 4, none⟩ = some (.int .i64 0) := HR2.out.cell 4
  have v5 : w1.cell? ⟨w.heap.size, 5, none⟩ = some (.int .i64 0) := HR2.out.cell 5
  have v6 : w1.cell? ⟨w.heap.size, 6, none⟩ = some (.int .i64 0) := HR2.out.cell 6
  have v7 : w1.cell? ⟨w.heap.size, 7, none⟩ = some (.int .i64 0) := HR2.out.cell 7
  have z0 := HR2.out.frozen 0
  have z1 := HR2.out.frozen 1
  have z2 := HR2.out.frozen 2
  have z3 := HR2.out.frozen 3
  have z4 := HR2.out.frozen 4
  have z5 := HR2.out.frozen 5
  have z6 := HR2.out.frozen 6
  have z7 := HR2.out.frozen 7
  go_wp2_with fail
  have hRes : RowB (((((((((w1.setCell ⟨w.heap.size, 0, none⟩ (Value.int .i64 0)).setCell ⟨w.heap.size, 1, none⟩ (Value.int .i64 0)).setCell ⟨w.heap.size, 2, none⟩ (Value.int .i64 0)).setCell ⟨w.heap.size, 3, none⟩ (Value.int .i64 0)).setCell ⟨w.heap.size, 4, none⟩ (Value.int .i64 0)).setCell ⟨w.heap.size, 5, none⟩ (Value.int .i64 0)).setCell ⟨w.heap.size, 6, none⟩ (Value.int .i64 0)).setCell ⟨w.heap.size, 7, none⟩ (Value.int .i64 0))) w.heap.size 28 [.int .i64 0, .int .i64 0, .int .i64 0, .int .i64 0, .int .i64 0, .int .i64 0, .int .i64 0, .int .i64 0] := ((((((((HR2.out.set 0 (Value.int .i64 0)).set 1 (Value.int .i64 0)).set 2 (Value.int .i64 0)).set 3 (Value.int .i64 0)).set 4 (Value.int .i64 0)).set 5 (Value.int .i64 0)).set 6 (Value.int .i64 0)).set 7 (Value.int .i64 0))
  have hFr : Fr (fun x => x = w.heap.size) w (((((((((w1.setCell ⟨w.heap.size, 0, none⟩ (Value.int .i64 0)).setCell ⟨w.heap.size, 1, none⟩ (Value.int .i64 0)).setCell ⟨w.heap.size, 2, none⟩ (Value.int .i64 0)).setCell ⟨w.heap.size, 3, none⟩ (Value.int .i64 0)).setCell ⟨w.heap.size, 4, none⟩ (Value.int .i64 0)).setCell ⟨w.heap.size, 5, none⟩ (Value.int .i64 0)).setCell ⟨w.heap.size, 6, none⟩ (Value.int .i64 0)).setCell ⟨w.heap.size, 7, none⟩ (Value.int .i64 0))) := (Fr.setCell (S := fun x => x = w.heap.size) (Fr.setCell (S := fun x => x = w.heap.size) (Fr.setCell (S := fun x => x = w.heap.size) (Fr.setCell (S := fun x => x = w.heap.size) (Fr.setCell (S := fun x => x = w.heap.size) (Fr.setCell (S := fun x => x = w.heap.size) (Fr.setCell (S := fun x => x = w.heap.size) (Fr.setCell (S := fun x => x = w.heap.size) HF1.out.up (a := ⟨w.heap.size, 0, none⟩) (fun _ => rfl) _) (a := ⟨w.heap.size, 1, none⟩) (fun _ => rfl) _) (a := ⟨w.heap.size, 2, none⟩) (fun _ => rfl) _) (a := ⟨w.heap.size, 3, none⟩) (fun _ => rfl) _) (a := ⟨w.heap.size, 4, none⟩) (fun _ => rfl) _) (a := ⟨w.heap.size, 5, none⟩) (fun _ => rfl) _) (a := ⟨w.heap.size, 6, none⟩) (fun _ => rfl) _) (a := ⟨w.heap.size, 7, none⟩) (fun _ => rfl) _)
  generalize ((((((((w1.setCell ⟨w.heap.size, 0, none⟩ (Value.int .i64 0)).setCell ⟨w.heap.size, 1, none⟩ (Value.int .i64 0)).setCell ⟨w.heap.size, 2, none⟩ (Value.int .i64 0)).setCell ⟨w.heap.size, 3, none⟩ (Value.int .i64 0)).setCell ⟨w.heap.size, 4, none⟩ (Value.int .i64 0)).setCell ⟨w.heap.size, 5, none⟩ (Value.int .i64 0)).setCell ⟨w.heap.size, 6, none⟩ (Value.int .i64 0)).setCell ⟨w.heap.size, 7, none⟩ (Value.int .i64 0)) = W9 at *
  have k0 : W9.cell? ⟨w.heap.size, 0, none⟩ = some (.int .i64 0) := hRes.cell 0
  have k1 : W9.cell? ⟨w.heap.size, 1, none⟩ = some (.int .i64 0) := hRes.cell 1
  have k2 : W9.cell? ⟨w.heap.size, 2, none⟩ = some (.int .i64 0) := hRes.cell 2
  have k3 : W9.cell? ⟨w.heap.size, 3, none⟩ = some (.int .i64 0) := hRes.cell 3
  have k4 : W9.cell? ⟨w.heap.size, 4, none⟩ = some (.int .i64 0) := hRes.cell 4
  have k5 : W9.cell? ⟨w.heap.size, 5, none⟩ = some (.int .i64 0) := hRes.cell 5
  have k6 : W9.cell? ⟨w.heap.size, 6, none⟩ = some (.int .i64 0) := hRes.cell 6
  have k7 : W9.cell? ⟨w.heap.size, 7, none⟩ = some (.int .i64 0) := hRes.cell 7
  refine bodyPost_ret (v := .tuple #[.agg #[.int .i64 0, .int .i64 0, .int .i64 0, .int .i64 0, .int .i64 0, .int .i64 0, .int .i64 0, .int .i64 0], .int .i64 E]) (by simp [results, Tryd.results8, go_sem, k0, k1, k2, k3, k4, k5, k6, k7]) rfl ⟨rfl, hFr.mono (fun x hx h => by omega)⟩
/-- **Sum** -/
theorem sum_walk (n c : Nat) (a0 : Option Addr) (U : Nat → Nat → Int) (w : World) (h : Uses w a0 n U) :
    Calls Tryd.prog 8 #[.slice a0 n c] w (Ret (sumV n U) w) := by
  by_cases hE : listE n U = 0
  · by_cases h0 : n = 0
    · exact sum_ok n c 0 0 a0 U w hE (Lib.hid h) (fun h => by omega) (fun h => by omega) (Lib.hid (fun i j hi => by omega))
    · obtain ⟨b, o, rfl, hb, hc⟩ := h (by omega)
      exact sum_ok n c b o _ U w hE (Lib.hid h) (fun _ => rfl) (fun _ => hb) (Lib.hid hc)
  · exact sum_bad n c a0 U w hE h
end Go.Proofs.YtogjfifpbplahaaDoor
