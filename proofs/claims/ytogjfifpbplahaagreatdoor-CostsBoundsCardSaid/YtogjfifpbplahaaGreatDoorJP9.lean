/- The program's checker of trees, walked: class. -/
import Derived.Test.YtogjfifpbplahaaGreatDoorJP8
namespace Go.Proofs.YtogjfifpbplahaaGreatDoor
open Go.RowKit
open BR
set_option linter.unusedVariables false

section
variable {P : Program} {k : TypeId} {w : World} {b n : Nat} {z : Value} {f : Lit → Value}
theorem wp_look_at {o : Oper} {a : Act} {K : Act → World → Prop} {Q : Exit → Act → World → Prop}
    (m x : Operand) (t : TypeId) (hop : o.op = Op.lookup t m x false)
    (e : TypeId) (K0 : Maps.Keyed P k) (ht : P.underlying t = some (.map k e)) (hz : (zeroValue e).run P w = .ok z w) (hm : a.eval m = .map (some b)) (h : MapAt w P k b n z f)
    (key : Value) (kl : Lit) (hx : a.eval x = key) (hkey : keyOf P k key = some kl)
    (hK : K (a.put o.dst (f kl)) w) : Oper.wp P o a w K Q := by
  have hrun := h.look K0 ht hz hkey
  unfold Oper.wp
  simp [execOp, hop, hm, hx, hrun, Result.andThen]
  exact hK
theorem wp_put_at {o : Oper} {a : Act} {K : Act → World → Prop} {Q : Exit → Act → World → Prop}
    (m x v : Operand) (t : TypeId) (hop : o.op = Op.mapUpdate t m x v)
    (e : TypeId) (K0 : Maps.Keyed P k) (ht : P.underlying t = some (.map k e)) (hm : a.eval m = .map (some b)) (h : MapAt w P k b n z f) (hn : n < maxLen)
    (key val : Value) (kl : Lit) (hx : a.eval x = key) (hv : a.eval v = val) (hkey : keyOf P k key = some kl) (hk : WideAt.IsKeyLit kl)
    (hK : ∀ w', MapAt w' P k b (n + 1) z (updF f kl val) → w.grownBy w' (some b) → K (a.put o.dst undef) w') : Oper.wp P o a w K Q := by
  obtain ⟨w', hrun, r1, r2⟩ := h.put K0 ht hn (v := val) hkey hk
  unfold Oper.wp
  simp [execOp, hop, hm, hx, hv, hrun, Result.andThen]
  exact hK w' r1 r2
end
/-- a number as a key -/
def kI (z : Int) : Lit := .int .i64 z
def zeroTr : Value := .agg #[.int .i64 0, .string ⟨#[]⟩, .int .i64 0, .slice none 0 0, .string ⟨#[]⟩, .int .i64 0, .int .i64 0, .int .i64 0]
theorem zero_tr (w : World) : (zeroValue 106).run Tryz.prog w = .ok zeroTr w := by kernel_rfl
theorem zero_int (w : World) : (zeroValue 3).run Tryz.prog w = .ok (.int .i64 0) w := by kernel_rfl
theorem keyed_int : Maps.Keyed Tryz.prog 3 := Maps.int_keyed (q := .i64) Tryz.underlying3
theorem key_int {z : Int} (h : 0 ≤ z) (h2 : z ≤ 1000) : keyOf Tryz.prog 3 (.int .i64 z) = some (kI z) := Maps.keyOf_int_mk Tryz.underlying3 (by
  have e1 : IntKind.i64.min = -9223372036854775808 := rfl
  have e2 : IntKind.i64.max = 9223372036854775807 := rfl
  simp only [Lit.wf, Bool.and_eq_true, decide_eq_true_eq]; omega)
/-- the checker's maps and classes -/
structure ClassAt (w : World) (C m1 m2 n : Nat) (v : Value) (fl : Bool) (cl : Int) (f1 f2 : Lit → Value) : Prop where
  row : RowB w C 104 [v, .bool fl, .map (some m1), .map (some m2), .int .i64 cl]
  first : MapAt w Tryz.prog 3 m1 n zeroTr f1
  count : MapAt w Tryz.prog 3 m2 n (.int .i64 0) f2
  n1 : m1 ≠ C
  n2 : m2 ≠ C
  n3 : m1 ≠ m2
theorem ClassAt.fr {w w' : World} {C m1 m2 n : Nat} {v : Value} {fl : Bool} {cl : Int} {f1 f2 : Lit → Value} (h : ClassAt w C m1 m2 n v fl cl f1 f2) (g : Fr (fun _ => False) w w') : ClassAt w' C m1 m2 n v fl cl f1 f2 :=
  ⟨h.row.fr g (fun h => h), h.first.fr g (fun h => h), h.count.fr g (fun h => h), h.n1, h.n2, h.n3⟩
/-- what class leaves -/
def RetC (C m1 m2 : Nat) (E : Int) (K : World → Prop) (w : World) (e : Ending) (w' : World) : Prop := e = .returned (.int .i64 E) ∧ Fr (fun b => b = C ∨ b = m1 ∨ b = m2) w w' ∧ (E = 0 → K w')
set_option maxRecDepth 100000 in
set_option maxHeartbeats 4000000 in
theorem class_zero (C m1 m2 n : Nat) (v : Value) (fl : Bool) (cl : Int) (f1 f2 : Lit → Value) (x : BNode) (h : Hd) (w : World) (K : World → Prop)
    (hC : ClassAt w C m1 m2 n v fl cl f1 f2) (hcl : 0 ≤ cl ∧ cl ≤ 900) (hn : n ≤ 1000) (hz : x.cls = 0) (hK : ∀ w', Fr (fun _ => False) w w' → K w') :
    Calls Tryz.prog 72 #[.pointer (some ⟨C, 0, none⟩), trA x h] w (RetC C m1 m2 0 K w) := by
  have HC := Lib.hid hC
  obtain ⟨d, nm, kd, m, A, dt, mj, mi, cls, op, r, R⟩ := x
  dsimp only at *
  unfold trA
  dsimp only
  obtain ⟨hcl0, hcl1⟩ := hcl
  have hw1 : IntKind.i64.wrap (cl + 1) = cl + 1 := by rw [IntKind.wrap_i64]; omega
  have c4 : w.cell? ⟨C, 4, none⟩ = some (.int .i64 cl) := hC.row.cell 4
  have hCl := hC.row.lt
  clear hC
  have HK := Lib.hid hK
  clear hK
  subst hz
  go_enter Tryz.func72, Tryz.ntmps72
  go_wp2_with fail
  go_ret
  exact ⟨rfl, (Fr.refl _ w).alloc _, fun _ => HK.out _ ((Fr.refl _ w).alloc _)⟩
set_option maxRecDepth 100000 in
set_option maxHeartbeats 4000000 in
theorem class_low (C m1 m2 n : Nat) (v : Value) (fl : Bool) (cl : Int) (f1 f2 : Lit → Value) (x : BNode) (h : Hd) (w : World) (K : World → Prop)
    (hC : ClassAt w C m1 m2 n v fl cl f1 f2) (hcl : 0 ≤ cl ∧ cl ≤ 900) (hn : n ≤ 1000) (hz : x.cls < 0) :
    Calls Tryz.prog 72 #[.pointer (some ⟨C, 0, none⟩), trA x h] w (RetC C m1 m2 6 K w) := by
  have HC := Lib.hid hC
  obtain ⟨d, nm, kd, m, A, dt, mj, mi, cls, op, r, R⟩ := x
  dsimp only at *
  unfold trA
  dsimp only
  obtain ⟨hcl0, hcl1⟩ := hcl
  have hw1 : IntKind.i64.wrap (cl + 1) = cl + 1 := by rw [IntKind.wrap_i64]; omega
  have c4 : w.cell? ⟨C, 4, none⟩ = some (.int .i64 cl) := hC.row.cell 4
  have hCl := hC.row.lt
  clear hC
  have q0 : (cls == 0) = false := by simp; omega
  have q1 : decide (cls < 0) = true := by simpa using hz
  go_enter Tryz.func72, Tryz.ntmps72
  go_wp2_with fail
  go_quiet (fail)
  go_wp2_with fail
  go_ret
  exact ⟨rfl, ((Fr.refl _ w).alloc _).drewN _, fun h => by cases h⟩
set_option maxRecDepth 100000 in
set_option maxHeartbeats 4000000 in
theorem class_high (C m1 m2 n : Nat) (v : Value) (fl : Bool) (cl : Int) (f1 f2 : Lit → Value) (x : BNode) (h : Hd) (w : World) (K : World → Prop)
    (hC : ClassAt w C m1 m2 n v fl cl f1 f2) (hcl : 0 ≤ cl ∧ cl ≤ 900) (hn : n ≤ 1000) (hz : cl + 1 < x.cls) :
    Calls Tryz.prog 72 #[.pointer (some ⟨C, 0, none⟩), trA x h] w (RetC C m1 m2 6 K w) := by
  have HC := Lib.hid hC
  obtain ⟨d, nm, kd, m, A, dt, mj, mi, cls, op, r, R⟩ := x
  dsimp only at *
  unfold trA
  dsimp only
  obtain ⟨hcl0, hcl1⟩ := hcl
  have hw1 : IntKind.i64.wrap (cl + 1) = cl + 1 := by rw [IntKind.wrap_i64]; omega
  have c4 : w.cell? ⟨C, 4, none⟩ = some (.int .i64 cl) := hC.row.cell 4
  have hCl := hC.row.lt
  clear hC
  have q0 : (cls == 0) = false := by simp; omega
  have q1 : decide (cls < 0) = false := by simp; omega
  go_enter Tryz.func72, Tryz.ntmps72
  go_wp2_with fail
  go_quiet (fail)
  go_wp2_with fail
  go_ret
  exact ⟨rfl, ((Fr.refl _ w).alloc _).drewN _, fun h => by cases h⟩
set_option maxRecDepth 100000 in
set_option maxHeartbeats 4000000 in
theorem class_new (C m1 m2 n : Nat) (v : Value) (fl : Bool) (cl : Int) (f1 f2 : Lit → Value) (x : BNode) (h : Hd) (w : World) (K : World → Prop)
    (hC : ClassAt w C m1 m2 n v fl cl f1 f2) (hcl : 0 ≤ cl ∧ cl ≤ 900) (hn : n ≤ 1000) (hz : x.cls = cl + 1) (ct : Nat) (hct : ct ≤ 1000) (hf2 : f2 (kI x.cls) = .int .i64 ct) :
    Calls Tryz.prog 72 #[.pointer (some ⟨C, 0, none⟩), trA x h] w (RetC C m1 m2 0 (fun w' => ClassAt w' C m1 m2 (n + 1) v fl (cl + 1) (updF f1 (kI x.cls) (trA x h)) (updF f2 (kI x.cls) (.int .i64 ((ct : Int) + 1)))) w) := by
  have HC := Lib.hid hC
  obtain ⟨d, nm, kd, m, A, dt, mj, mi, cls, op, r, R⟩ := x
  dsimp only at *
  unfold trA
  dsimp only
  obtain ⟨hcl0, hcl1⟩ := hcl
  have hw1 : IntKind.i64.wrap (cl + 1) = cl + 1 := by rw [IntKind.wrap_i64]; omega
  have c4 : w.cell? ⟨C, 4, none⟩ = some (.int .i64 cl) := hC.row.cell 4
  have hCl := hC.row.lt
  clear hC
  have q0 : (cls == 0) = false := by simp; omega
  have q1 : decide (cls < 0) = false := by simp; omega
  have q2 : ¬ cl + 1 < cls := by omega
  have q3 : cl < cls := by omega
  have HF2 := Lib.hid hf2
  have HKY := Lib.hid (key_int (z := cls) (by omega) (by omega))
  have hw2 : IntKind.i64.wrap ((ct : Int) + 1) = (ct : Int) + 1 := by rw [IntKind.wrap_i64]; omega
  have HZ := Lib.hid hz
  have HN := Lib.hid (And.intro HC.out.n1 (And.intro HC.out.n2 HC.out.n3))
  clear hz hf2
  go_enter Tryz.func72, Tryz.ntmps72
  go_wp2_with fail
  have HF0 := Lib.hid ((Fr.refl (fun _ => False) w).alloc (Obj.cells #[.int .i64 d, .string nm, .int .i64 kd, .slice h.aA m h.cA, .string dt, .int .i64 mj, .int .i64 mi, .int .i64 cls] 106))
  have HB := Lib.hid (RowB.new w 106 [.int .i64 d, .string nm, .int .i64 kd, .slice h.aA m h.cA, .string dt, .int .i64 mj, .int .i64 mi, .int .i64 cls])
  have hBl := HB.out.lt
  change Code.wp _ _ _ _ (w.alloc (Obj.cells #[.int .i64 d, .string nm, .int .i64 kd, .slice h.aA m h.cA, .string dt, .int .i64 mj, .int .i64 mi, .int .i64 cls] 106))
  have HBM := Lib.hid (show (¬ w.heap.size = m2) ∧ (¬ w.heap.size = m1) ∧ ¬ w.heap.size = C by have := HC.out.count.lt; have := HC.out.first.lt; omega)
  have HC0 := Lib.hid (HC.out.fr HF0.out)
  generalize w.alloc (Obj.cells #[.int .i64 d, .string nm, .int .i64 kd, .slice h.aA m h.cA, .string dt, .int .i64 mj, .int .i64 mi, .int .i64 cls] 106) = W0 at *
  obtain ⟨B, hB⟩ : ∃ B, B = w.heap.size := ⟨_, rfl⟩
  rw [← hB] at HB HBM hBl ⊢
  have HBE := Lib.hid hB
  clear hB c4
  have c4 : W0.cell? ⟨C, 4, none⟩ = some (.int .i64 cl) := HC0.out.row.cell 4
  have f4 := HC0.out.row.frozen 4
  have b7 : W0.cell? ⟨B, 7, none⟩ = some (.int .i64 cls) := HB.out.cell 7
  have hCl := HC0.out.row.lt
  go_wp2_with fail
  go_quiet (fail)
  go_wp2_with fail
  go_quiet (fail)
  go_wp2_with fail
  rename_i q5 hq5
  have F1 : Fr (fun b => b = C) W0 ((W0.drewN (q5 + nq)).setCell ⟨C, 4, none⟩ (.int .i64 (cl + 1))) := Fr.setCell (S := fun b => b = C) ((Fr.refl _ W0).drewN _) (a := ⟨C, 4, none⟩) (fun _ => rfl) _
  have R1 : RowB ((W0.drewN (q5 + nq)).setCell ⟨C, 4, none⟩ (.int .i64 (cl + 1))) C 104 [v, .bool fl, .map (some m1), .map (some m2), .int .i64 (cl + 1)] := RowB.set (HC0.out.row.fr ((Fr.refl (fun _ => False) W0).drewN (q5 + nq)) (fun h => h)) 4 _
  generalize (W0.drewN (q5 + nq)).setCell ⟨C, 4, none⟩ (.int .i64 (cl + 1)) = W1 at *
  have HR1 := Lib.hid R1
  have HB1 := Lib.hid (HB.out.fr F1 HBM.out.2.2)
  have HM1 := Lib.hid (HC0.out.first.fr F1 HN.out.1)
  have HM20 := Lib.hid (HC0.out.count.fr F1 HN.out.2.1)
  have HF1 := Lib.hid F1
  clear F1 R1 c4 f4 b7 hCl hBl
  have c2 : W1.cell? ⟨C, 2, none⟩ = some (.map (some m1)) := HR1.out.cell 2
  refine wp_region_noPanic ?_
  refine wp_region_held_drew (S := fun w' => w'.cell? ⟨C, 2, none⟩ = some (.map (some m1)) ∧ RowB w' B 106 [.int .i64 d, .string nm, .int .i64 kd, .slice h.aA m h.cA, .string dt, .int .i64 mj, .int .i64 mi, .int .i64 cls]) (by kernel_rfl) ⟨c2, HB1.out⟩ (fun hS => ?_)
  refine held_take (i := 0) (v := ?vk0) rfl (by kernel_rfl) (by kernel_rfl) (by kernel_rfl) (fun _ _ _ h => h) (by rfl) ?hk0 hS ?rk0
  case hk0 => intro w0 hS0; obtain ⟨s0, hr⟩ := hS0; have b0 : w0.cell? ⟨B, 0, none⟩ = some (.int .i64 d) := hr.cell 0; have b1 : w0.cell? ⟨B, 1, none⟩ = some (.string nm) := hr.cell 1; have b2 : w0.cell? ⟨B, 2, none⟩ = some (.int .i64 kd) := hr.cell 2; have b3 : w0.cell? ⟨B, 3, none⟩ = some (.slice h.aA m h.cA) := hr.cell 3; have b4 : w0.cell? ⟨B, 4, none⟩ = some (.string dt) := hr.cell 4; have b5 : w0.cell? ⟨B, 5, none⟩ = some (.int .i64 mj) := hr.cell 5; have b6 : w0.cell? ⟨B, 6, none⟩ = some (.int .i64 mi) := hr.cell 6; have b7 : w0.cell? ⟨B, 7, none⟩ = some (.int .i64 cls) := hr.cell 7; first | (go_simp; done) | (go_simp; with_reducible rfl)
  try simp only [Act.put, List.setIfInBounds_toArray, List.set_cons_zero, List.set_cons_succ]
  refine held_take (i := 1) (v := ?vk1) rfl (by kernel_rfl) (by kernel_rfl) (by kernel_rfl) (fun _ _ _ h => h) (by rfl) ?hk1 hS ?rk1
  case hk1 => intro w0 hS0; obtain ⟨s0, hr⟩ := hS0; have b0 : w0.cell? ⟨B, 0, none⟩ = some (.int .i64 d) := hr.cell 0; have b1 : w0.cell? ⟨B, 1, none⟩ = some (.string nm) := hr.cell 1; have b2 : w0.cell? ⟨B, 2, none⟩ = some (.int .i64 kd) := hr.cell 2; have b3 : w0.cell? ⟨B, 3, none⟩ = some (.slice h.aA m h.cA) := hr.cell 3; have b4 : w0.cell? ⟨B, 4, none⟩ = some (.string dt) := hr.cell 4; have b5 : w0.cell? ⟨B, 5, none⟩ = some (.int .i64 mj) := hr.cell 5; have b6 : w0.cell? ⟨B, 6, none⟩ = some (.int .i64 mi) := hr.cell 6; have b7 : w0.cell? ⟨B, 7, none⟩ = some (.int .i64 cls) := hr.cell 7; first | (go_simp; done) | (go_simp; with_reducible rfl)
  try simp only [Act.put, List.setIfInBounds_toArray, List.set_cons_zero, List.set_cons_succ]
  refine held_take (i := 2) (v := ?vk2) rfl (by kernel_rfl) (by kernel_rfl) (by kernel_rfl) (fun _ _ _ h => h) (by rfl) ?hk2 hS ?rk2
  case hk2 => intro w0 hS0; obtain ⟨s0, hr⟩ := hS0; have b0 : w0.cell? ⟨B, 0, none⟩ = some (.int .i64 d) := hr.cell 0; have b1 : w0.cell? ⟨B, 1, none⟩ = some (.string nm) := hr.cell 1; have b2 : w0.cell? ⟨B, 2, none⟩ = some (.int .i64 kd) := hr.cell 2; have b3 : w0.cell? ⟨B, 3, none⟩ = some (.slice h.aA m h.cA) := hr.cell 3; have b4 : w0.cell? ⟨B, 4, none⟩ = some (.string dt) := hr.cell 4; have b5 : w0.cell? ⟨B, 5, none⟩ = some (.int .i64 mj) := hr.cell 5; have b6 : w0.cell? ⟨B, 6, none⟩ = some (.int .i64 mi) := hr.cell 6; have b7 : w0.cell? ⟨B, 7, none⟩ = some (.int .i64 cls) := hr.cell 7; first | (go_simp; done) | (go_simp; with_reducible rfl)
  try simp only [Act.put, List.setIfInBounds_toArray, List.set_cons_zero, List.set_cons_succ]
  refine held_take (i := 3) (v := ?vk3) rfl (by kernel_rfl) (by kernel_rfl) (by kernel_rfl) (fun _ _ _ h => h) (by rfl) ?hk3 hS ?rk3
  case hk3 => intro w0 hS0; obtain ⟨s0, hr⟩ := hS0; have b0 : w0.cell? ⟨B, 0, none⟩ = some (.int .i64 d) := hr.cell 0; have b1 : w0.cell? ⟨B, 1, none⟩ = some (.string nm) := hr.cell 1; have b2 : w0.cell? ⟨B, 2, none⟩ = some (.int .i64 kd) := hr.cell 2; have b3 : w0.cell? ⟨B, 3, none⟩ = some (.slice h.aA m h.cA) := hr.cell 3; have b4 : w0.cell? ⟨B, 4, none⟩ = some (.string dt) := hr.cell 4; have b5 : w0.cell? ⟨B, 5, none⟩ = some (.int .i64 mj) := hr.cell 5; have b6 : w0.cell? ⟨B, 6, none⟩ = some (.int .i64 mi) := hr.cell 6; have b7 : w0.cell? ⟨B, 7, none⟩ = some (.int .i64 cls) := hr.cell 7; first | (go_simp; done) | (go_simp; with_reducible rfl)
  try simp only [Act.put, List.setIfInBounds_toArray, List.set_cons_zero, List.set_cons_succ]
  refine held_take (i := 4) (v := ?vk4) rfl (by kernel_rfl) (by kernel_rfl) (by kernel_rfl) (fun _ _ _ h => h) (by rfl) ?hk4 hS ?rk4
  case hk4 => intro w0 hS0; obtain ⟨s0, hr⟩ := hS0; have b0 : w0.cell? ⟨B, 0, none⟩ = some (.int .i64 d) := hr.cell 0; have b1 : w0.cell? ⟨B, 1, none⟩ = some (.string nm) := hr.cell 1; have b2 : w0.cell? ⟨B, 2, none⟩ = some (.int .i64 kd) := hr.cell 2; have b3 : w0.cell? ⟨B, 3, none⟩ = some (.slice h.aA m h.cA) := hr.cell 3; have b4 : w0.cell? ⟨B, 4, none⟩ = some (.string dt) := hr.cell 4; have b5 : w0.cell? ⟨B, 5, none⟩ = some (.int .i64 mj) := hr.cell 5; have b6 : w0.cell? ⟨B, 6, none⟩ = some (.int .i64 mi) := hr.cell 6; have b7 : w0.cell? ⟨B, 7, none⟩ = some (.int .i64 cls) := hr.cell 7; first | (go_simp; done) | (go_simp; with_reducible rfl)
  try simp only [Act.put, List.setIfInBounds_toArray, List.set_cons_zero, List.set_cons_succ]
  refine held_take (i := 5) (v := ?vk5) rfl (by kernel_rfl) (by kernel_rfl) (by kernel_rfl) (fun _ _ _ h => h) (by rfl) ?hk5 hS ?rk5
  case hk5 => intro w0 hS0; obtain ⟨s0, hr⟩ := hS0; have b0 : w0.cell? ⟨B, 0, none⟩ = some (.int .i64 d) := hr.cell 0; have b1 : w0.cell? ⟨B, 1, none⟩ = some (.string nm) := hr.cell 1; have b2 : w0.cell? ⟨B, 2, none⟩ = some (.int .i64 kd) := hr.cell 2; have b3 : w0.cell? ⟨B, 3, none⟩ = some (.slice h.aA m h.cA) := hr.cell 3; have b4 : w0.cell? ⟨B, 4, none⟩ = some (.string dt) := hr.cell 4; have b5 : w0.cell? ⟨B, 5, none⟩ = some (.int .i64 mj) := hr.cell 5; have b6 : w0.cell? ⟨B, 6, none⟩ = some (.int .i64 mi) := hr.cell 6; have b7 : w0.cell? ⟨B, 7, none⟩ = some (.int .i64 cls) := hr.cell 7; first | (go_simp; done) | (go_simp; with_reducible rfl)
  try simp only [Act.put, List.setIfInBounds_toArray, List.set_cons_zero, List.set_cons_succ]
  refine held_take (i := 6) (v := ?vk6) rfl (by kernel_rfl) (by kernel_rfl) (by kernel_rfl) (fun _ _ _ h => h) (by rfl) ?hk6 hS ?rk6
  case hk6 => intro w0 hS0; obtain ⟨s0, hr⟩ := hS0; have b0 : w0.cell? ⟨B, 0, none⟩ = some (.int .i64 d) := hr.cell 0; have b1 : w0.cell? ⟨B, 1, none⟩ = some (.string nm) := hr.cell 1; have b2 : w0.cell? ⟨B, 2, none⟩ = some (.int .i64 kd) := hr.cell 2; have b3 : w0.cell? ⟨B, 3, none⟩ = some (.slice h.aA m h.cA) := hr.cell 3; have b4 : w0.cell? ⟨B, 4, none⟩ = some (.string dt) := hr.cell 4; have b5 : w0.cell? ⟨B, 5, none⟩ = some (.int .i64 mj) := hr.cell 5; have b6 : w0.cell? ⟨B, 6, none⟩ = some (.int .i64 mi) := hr.cell 6; have b7 : w0.cell? ⟨B, 7, none⟩ = some (.int .i64 cls) := hr.cell 7; first | (go_simp; done) | (go_simp; with_reducible rfl)
  try simp only [Act.put, List.setIfInBounds_toArray, List.set_cons_zero, List.set_cons_succ]
  refine held_step (i := 7) rfl (by kernel_rfl) (by rfl) (fun K hK => ?_)
  refine wp_put_at _ _ _ 100 rfl 106 keyed_int Tryz.underlying100 rfl (HM1.out.fr ((Fr.refl (fun _ => False) _).drew) (fun h => h)) (by unfold maxLen; omega) (.int .i64 cls) (.agg #[.int .i64 d, .string nm, .int .i64 kd, .slice h.aA m h.cA, .string dt, .int .i64 mj, .int .i64 mi, .int .i64 cls]) (kI cls) rfl rfl HKY.out trivial ?_
  intro w8 hM8 hgrow
  have hF8 : Fr (fun b => b = m1) W1 w8 := (Fr.refl (fun b => b = m1) W1).drew.trans (Fr.of_grown hgrow) (fun k _ e => (Option.some.inj e).symm)
  have HM8 := Lib.hid hM8
  have HF8 := Lib.hid hF8
  clear hM8 hF8 hgrow
  refine hK.out _ _ ⟨HF8.out.cell (p := ⟨C, 2, none⟩) HR1.out.lt (fun e => HN.out.1 e.symm) c2, HB1.out.fr HF8.out HBM.out.2.1⟩ ?_
  clear hK K
  try simp only [Act.put]
  refine held_done (by kernel_rfl) ?_
  refine NoPanic.normal ?_
  go_wp2_with fail
  have HR := Lib.hid (HR1.out.fr HF8.out (fun e => HN.out.1 e.symm))
  have HB2 := Lib.hid (HB1.out.fr HF8.out HBM.out.2.1)
  have HM2 := Lib.hid (HM20.out.fr HF8.out (fun e => HN.out.2.2 e.symm))
  clear c2 hS
  have c3 : w8.cell? ⟨C, 3, none⟩ = some (.map (some m2)) := HR.out.cell 3
  have b7 : w8.cell? ⟨B, 7, none⟩ = some (.int .i64 cls) := HB2.out.cell 7
  refine wp_region_noPanic ?_
  refine wp_region_held_drew (S := fun w' => w'.cell? ⟨C, 3, none⟩ = some (.map (some m2)) ∧ w'.cell? ⟨B, 7, none⟩ = some (.int .i64 cls)) (by kernel_rfl) ⟨c3, b7⟩ (fun hS => ?_)
  refine held_take (i := 0) (v := ?vj0) rfl (by kernel_rfl) (by kernel_rfl) (by kernel_rfl) (fun _ _ _ h => h) (by rfl) ?hj0 hS ?rj0
  case hj0 => intro w0 hS0; obtain ⟨s0, s1⟩ := hS0; first | (go_simp; done) | (go_simp; with_reducible rfl)
  try simp only [Act.put, List.setIfInBounds_toArray, List.set_cons_zero, List.set_cons_succ]
  refine held_take (i := 1) (v := ?vj1) rfl (by kernel_rfl) (by kernel_rfl) (by kernel_rfl) (fun _ _ _ h => h) (by rfl) ?hj1 hS ?rj1
  case hj1 => intro w0 hS0; obtain ⟨s0, s1⟩ := hS0; first | (go_simp; done) | (go_simp; with_reducible rfl)
  try simp only [Act.put, List.setIfInBounds_toArray, List.set_cons_zero, List.set_cons_succ]
  refine held_take (i := 2) (v := ?vj2) rfl (by kernel_rfl) (by kernel_rfl) (by kernel_rfl) (fun _ _ _ h => h) (by rfl) ?hj2 hS ?rj2
  case hj2 => intro w0 hS0; obtain ⟨s0, s1⟩ := hS0; first | (go_simp; done) | (go_simp; with_reducible rfl)
  try simp only [Act.put, List.setIfInBounds_toArray, List.set_cons_zero, List.set_cons_succ]
  refine held_take (i := 3) (v := ?vj3) rfl (by kernel_rfl) (by kernel_rfl) (by kernel_rfl) (fun _ _ _ h => h) (by rfl) ?hj3 hS ?rj3
  case hj3 => intro w0 hS0; obtain ⟨s0, s1⟩ := hS0; first | (go_simp; done) | (go_simp; with_reducible rfl)
  try simp only [Act.put, List.setIfInBounds_toArray, List.set_cons_zero, List.set_cons_succ]
  refine held_take (i := 4) (v := ?vj4) rfl (by kernel_rfl) (by kernel_rfl) (by kernel_rfl) (fun _ _ _ h => h) (by rfl) ?hj4 hS ?rj4
  case hj4 => intro w0 hS0; obtain ⟨s0, s1⟩ := hS0; first | (go_simp; done) | (go_simp; with_reducible rfl)
  try simp only [Act.put, List.setIfInBounds_toArray, List.set_cons_zero, List.set_cons_succ]
  refine held_take (i := 5) (v := ?vj5) rfl (by kernel_rfl) (by kernel_rfl) (by kernel_rfl) (fun _ _ _ h => h) (by rfl) ?hj5 hS ?rj5
  case hj5 => intro w0 hS0; obtain ⟨s0, s1⟩ := hS0; first | (go_simp; done) | (go_simp; with_reducible rfl)
  try simp only [Act.put, List.setIfInBounds_toArray, List.set_cons_zero, List.set_cons_succ]
  refine held_step (i := 6) rfl (by kernel_rfl) (by rfl) (fun K hK => ?_)
  refine wp_look_at _ _ 101 rfl 3 keyed_int Tryz.underlying101 (zero_int _) rfl (HM2.out.fr ((Fr.refl (fun _ => False) _).drew) (fun h => h)) (.int .i64 cls) (kI cls) rfl HKY.out ?_
  rw [HF2.out]
  refine hK.out _ _ hS ?_
  clear hK K
  try simp only [Act.put, List.setIfInBounds_toArray, List.set_cons_zero, List.set_cons_succ]
  refine held_take (i := 7) (v := ?vj6) rfl (by kernel_rfl) (by kernel_rfl) (by kernel_rfl) (fun _ _ _ h => h) (by rfl) ?hj6 hS ?rj6
  case hj6 => intro w0 hS0; obtain ⟨s0, s1⟩ := hS0; first | (go_simp; done) | (go_simp; with_reducible rfl)
  try simp only [Act.put, List.setIfInBounds_toArray, List.set_cons_zero, List.set_cons_succ]
  refine held_step (i := 8) rfl (by kernel_rfl) (by rfl) (fun K hK => ?_)
  refine wp_put_at _ _ _ 101 rfl 3 keyed_int Tryz.underlying101 rfl (HM2.out.fr ((Fr.refl (fun _ => False) _).drew) (fun h => h)) (by unfold maxLen; omega) (.int .i64 cls) (.int .i64 ((ct : Int) + 1)) (kI cls) rfl rfl HKY.out trivial ?_
  intro w9 hM9 hgrow
  have hF9 : Fr (fun b => b = m2) w8 w9 := (Fr.refl (fun b => b = m2) w8).drew.trans (Fr.of_grown hgrow) (fun k _ e => (Option.some.inj e).symm)
  have HM9 := Lib.hid hM9
  have HF9 := Lib.hid hF9
  clear hM9 hF9 hgrow
  refine hK.out _ _ ⟨HF9.out.cell (p := ⟨C, 3, none⟩) HR.out.lt (fun e => HN.out.2.1 e.symm) c3, HF9.out.cell (p := ⟨B, 7, none⟩) HB2.out.lt HBM.out.1 b7⟩ ?_
  clear hK K
  try simp only [Act.put]
  refine held_done (by kernel_rfl) ?_
  refine NoPanic.normal ?_
  go_wp2_with fail
  go_ret
  have HA : Fr (fun b => b = C ∨ b = m1 ∨ b = m2) w w9 := ((HF0.out.up.trans HF1.out (fun k _ e => Or.inl e)).trans HF8.out (fun k _ e => Or.inr (Or.inl e))).trans HF9.out (fun k _ e => Or.inr (Or.inr e))
  refine ⟨rfl, HA, fun _ => ⟨HR.out.fr HF9.out (fun e => HN.out.2.1 e.symm), HM8.out.fr HF9.out HN.out.2.2, HM9.out.mono (by omega), HN.out.1, HN.out.2.1, HN.out.2.2⟩⟩
set_option maxRecDepth 100000 in
set_option maxHeartbeats 4000000 in
theorem class_unlike (C m1 m2 n : Nat) (v : Value) (fl : Bool) (cl : Int) (f1 f2 : Lit → Value) (x : BNode) (h : Hd) (w : World) (K : World → Prop)
    (hC : ClassAt w C m1 m2 n v fl cl f1 f2) (hcl : 0 ≤ cl ∧ cl ≤ 900) (hn : n ≤ 1000) (hz : 0 < x.cls) (hz2 : x.cls ≤ cl) (y : BNode) (g : Hd) (hf1 : f1 (kI x.cls) = trA y g) (hy : NodeT w y g) (hx : NodeT w x h) (hym : y.m ≤ 100) (hxm : x.m ≤ 100) (hq : ¬ likeP y x) :
    Calls Tryz.prog 72 #[.pointer (some ⟨C, 0, none⟩), trA x h] w (RetC C m1 m2 6 K w) := by
  have HL := Lib.hid (fun (w0 : World) (hG : Fr (fun _ => False) w w0) => like_walk y x g h w0 (hy.fr hG (fun _ _ h => h)) (hx.fr hG (fun _ _ h => h)) hym hxm false (by simp [hq]))
  clear hy hx
  have HC := Lib.hid hC
  obtain ⟨d, nm, kd, m, A, dt, mj, mi, cls, op, r, R⟩ := x
  dsimp only at *
  unfold trA
  dsimp only
  obtain ⟨hcl0, hcl1⟩ := hcl
  have hw1 : IntKind.i64.wrap (cl + 1) = cl + 1 := by rw [IntKind.wrap_i64]; omega
  have c4 : w.cell? ⟨C, 4, none⟩ = some (.int .i64 cl) := hC.row.cell 4
  have hCl := hC.row.lt
  clear hC
  have q0 : (cls == 0) = false := by simp; omega
  have q1 : decide (cls < 0) = false := by simp; omega
  have q2 : ¬ cl + 1 < cls := by omega
  have q3 : ¬ cl < cls := by omega
  have HF1 := Lib.hid hf1
  have HKY := Lib.hid (key_int (z := cls) (by omega) (by omega))
  have HN := Lib.hid (And.intro HC.out.n1 (And.intro HC.out.n2 HC.out.n3))
  clear hz hf1
  go_enter Tryz.func72, Tryz.ntmps72
  go_wp2_with fail
  have HF0 := Lib.hid ((Fr.refl (fun _ => False) w).alloc (Obj.cells #[.int .i64 d, .string nm, .int .i64 kd, .slice h.aA m h.cA, .string dt, .int .i64 mj, .int .i64 mi, .int .i64 cls] 106))
  have HB := Lib.hid (RowB.new w 106 [.int .i64 d, .string nm, .int .i64 kd, .slice h.aA m h.cA, .string dt, .int .i64 mj, .int .i64 mi, .int .i64 cls])
  have hBl := HB.out.lt
  change Code.wp _ _ _ _ (w.alloc (Obj.cells #[.int .i64 d, .string nm, .int .i64 kd, .slice h.aA m h.cA, .string dt, .int .i64 mj, .int .i64 mi, .int .i64 cls] 106))
  have HBM := Lib.hid (show (¬ w.heap.size = m2) ∧ (¬ w.heap.size = m1) ∧ ¬ w.heap.size = C by have := HC.out.count.lt; have := HC.out.first.lt; omega)
  have HC0 := Lib.hid (HC.out.fr HF0.out)
  generalize w.alloc (Obj.cells #[.int .i64 d, .string nm, .int .i64 kd, .slice h.aA m h.cA, .string dt, .int .i64 mj, .int .i64 mi, .int .i64 cls] 106) = W0 at *
  obtain ⟨B, hB⟩ : ∃ B, B = w.heap.size := ⟨_, rfl⟩
  rw [← hB] at HB HBM hBl ⊢
  have HBE := Lib.hid hB
  clear hB c4
  have c4 : W0.cell? ⟨C, 4, none⟩ = some (.int .i64 cl) := HC0.out.row.cell 4
  have b7 : W0.cell? ⟨B, 7, none⟩ = some (.int .i64 cls) := HB.out.cell 7
  have hCl := HC0.out.row.lt
  go_wp2_with fail
  go_quiet (fail)
  go_wp2_with fail
  go_quiet (fail)
  go_wp2_with fail
  rename_i q5 hq4 hq5 Kq hKq
  have F1 : Fr (fun _ => False) W0 ((W0.drewN q5).drewN nq) := ((Fr.refl _ W0).drewN _).drewN _
  generalize (W0.drewN q5).drewN nq = W1 at *
  have HC1 := Lib.hid (HC0.out.fr F1)
  have HB1 := Lib.hid (HB.out.fr F1 (fun h => h))
  have HLK := Lib.hid (fun (w0 : World) (hG : w0.heap[m1]? = W1.heap[m1]?) => (HC1.out.first.of_block hG).look keyed_int Tryz.underlying100 (zero_tr w0) HKY.out)
  rw [HF1.out] at HLK
  unfold trA at HLK
  have HFA := Lib.hid (HF0.out.then F1)
  clear F1 c4 b7 hCl hBl
  have c2 : W1.cell? ⟨C, 2, none⟩ = some (.map (some m1)) := HC1.out.row.cell 2
  refine wp_region_noPanic ?_
  refine wp_region_held_drew (S := fun w' => w'.cell? ⟨C, 2, none⟩ = some (.map (some m1)) ∧ RowB w' B 106 [.int .i64 d, .string nm, .int .i64 kd, .slice h.aA m h.cA, .string dt, .int .i64 mj, .int .i64 mi, .int .i64 cls] ∧ w'.heap[m1]? = W1.heap[m1]?) (by kernel_rfl) ⟨c2, HB1.out, rfl⟩ (fun hS => ?_)
  refine held_take (i := 0) (v := ?vk0) rfl (by kernel_rfl) (by kernel_rfl) (by kernel_rfl) (fun _ _ _ h => h) (by rfl) ?hk0 hS ?rk0
  case hk0 => intro w0 hS0; obtain ⟨s0, hr, hh⟩ := hS0; have b0 : w0.cell? ⟨B, 0, none⟩ = some (.int .i64 d) := hr.cell 0; have b1 : w0.cell? ⟨B, 1, none⟩ = some (.string nm) := hr.cell 1; have b2 : w0.cell? ⟨B, 2, none⟩ = some (.int .i64 kd) := hr.cell 2; have b3 : w0.cell? ⟨B, 3, none⟩ = some (.slice h.aA m h.cA) := hr.cell 3; have b4 : w0.cell? ⟨B, 4, none⟩ = some (.string dt) := hr.cell 4; have b5 : w0.cell? ⟨B, 5, none⟩ = some (.int .i64 mj) := hr.cell 5; have b6 : w0.cell? ⟨B, 6, none⟩ = some (.int .i64 mi) := hr.cell 6; have b7 : w0.cell? ⟨B, 7, none⟩ = some (.int .i64 cls) := hr.cell 7; have hlk := HLK.out w0 hh; first | (go_simp; done) | (go_simp; with_reducible rfl)
  try simp only [Act.put, List.setIfInBounds_toArray, List.set_cons_zero, List.set_cons_succ]
  refine held_take (i := 1) (v := ?vk1) rfl (by kernel_rfl) (by kernel_rfl) (by kernel_rfl) (fun _ _ _ h => h) (by rfl) ?hk1 hS ?rk1
  case hk1 => intro w0 hS0; obtain ⟨s0, hr, hh⟩ := hS0; have b0 : w0.cell? ⟨B, 0, none⟩ = some (.int .i64 d) := hr.cell 0; have b1 : w0.cell? ⟨B, 1, none⟩ = some (.string nm) := hr.cell 1; have b2 : w0.cell? ⟨B, 2, none⟩ = some (.int .i64 kd) := hr.cell 2; have b3 : w0.cell? ⟨B, 3, none⟩ = some (.slice h.aA m h.cA) := hr.cell 3; have b4 : w0.cell? ⟨B, 4, none⟩ = some (.string dt) := hr.cell 4; have b5 : w0.cell? ⟨B, 5, none⟩ = some (.int .i64 mj) := hr.cell 5; have b6 : w0.cell? ⟨B, 6, none⟩ = some (.int .i64 mi) := hr.cell 6; have b7 : w0.cell? ⟨B, 7, none⟩ = some (.int .i64 cls) := hr.cell 7; have hlk := HLK.out w0 hh; first | (go_simp; done) | (go_simp; with_reducible rfl)
  try simp only [Act.put, List.setIfInBounds_toArray, List.set_cons_zero, List.set_cons_succ]
  refine held_take (i := 2) (v := ?vk2) rfl (by kernel_rfl) (by kernel_rfl) (by kernel_rfl) (fun _ _ _ h => h) (by rfl) ?hk2 hS ?rk2
  case hk2 => intro w0 hS0; obtain ⟨s0, hr, hh⟩ := hS0; have b0 : w0.cell? ⟨B, 0, none⟩ = some (.int .i64 d) := hr.cell 0; have b1 : w0.cell? ⟨B, 1, none⟩ = some (.string nm) := hr.cell 1; have b2 : w0.cell? ⟨B, 2, none⟩ = some (.int .i64 kd) := hr.cell 2; have b3 : w0.cell? ⟨B, 3, none⟩ = some (.slice h.aA m h.cA) := hr.cell 3; have b4 : w0.cell? ⟨B, 4, none⟩ = some (.string dt) := hr.cell 4; have b5 : w0.cell? ⟨B, 5, none⟩ = some (.int .i64 mj) := hr.cell 5; have b6 : w0.cell? ⟨B, 6, none⟩ = some (.int .i64 mi) := hr.cell 6; have b7 : w0.cell? ⟨B, 7, none⟩ = some (.int .i64 cls) := hr.cell 7; have hlk := HLK.out w0 hh; first | (go_simp; done) | (go_simp; with_reducible rfl)
  try simp only [Act.put, List.setIfInBounds_toArray, List.set_cons_zero, List.set_cons_succ]
  refine held_take (i := 3) (v := ?vk3) rfl (by kernel_rfl) (by kernel_rfl) (by kernel_rfl) (fun _ _ _ h => h) (by rfl) ?hk3 hS ?rk3
  case hk3 => intro w0 hS0; obtain ⟨s0, hr, hh⟩ := hS0; have b0 : w0.cell? ⟨B, 0, none⟩ = some (.int .i64 d) := hr.cell 0; have b1 : w0.cell? ⟨B, 1, none⟩ = some (.string nm) := hr.cell 1; have b2 : w0.cell? ⟨B, 2, none⟩ = some (.int .i64 kd) := hr.cell 2; have b3 : w0.cell? ⟨B, 3, none⟩ = some (.slice h.aA m h.cA) := hr.cell 3; have b4 : w0.cell? ⟨B, 4, none⟩ = some (.string dt) := hr.cell 4; have b5 : w0.cell? ⟨B, 5, none⟩ = some (.int .i64 mj) := hr.cell 5; have b6 : w0.cell? ⟨B, 6, none⟩ = some (.int .i64 mi) := hr.cell 6; have b7 : w0.cell? ⟨B, 7, none⟩ = some (.int .i64 cls) := hr.cell 7; have hlk := HLK.out w0 hh; first | (go_simp; done) | (go_simp; with_reducible rfl)
  try simp only [Act.put, List.setIfInBounds_toArray, List.set_cons_zero, List.set_cons_succ]
  refine held_take (i := 4) (v := ?vk4) rfl (by kernel_rfl) (by kernel_rfl) (by kernel_rfl) (fun _ _ _ h => h) (by rfl) ?hk4 hS ?rk4
  case hk4 => intro w0 hS0; obtain ⟨s0, hr, hh⟩ := hS0; have b0 : w0.cell? ⟨B, 0, none⟩ = some (.int .i64 d) := hr.cell 0; have b1 : w0.cell? ⟨B, 1, none⟩ = some (.string nm) := hr.cell 1; have b2 : w0.cell? ⟨B, 2, none⟩ = some (.int .i64 kd) := hr.cell 2; have b3 : w0.cell? ⟨B, 3, none⟩ = some (.slice h.aA m h.cA) := hr.cell 3; have b4 : w0.cell? ⟨B, 4, none⟩ = some (.string dt) := hr.cell 4; have b5 : w0.cell? ⟨B, 5, none⟩ = some (.int .i64 mj) := hr.cell 5; have b6 : w0.cell? ⟨B, 6, none⟩ = some (.int .i64 mi) := hr.cell 6; have b7 : w0.cell? ⟨B, 7, none⟩ = some (.int .i64 cls) := hr.cell 7; have hlk := HLK.out w0 hh; first | (go_simp; done) | (go_simp; with_reducible rfl)
  try simp only [Act.put, List.setIfInBounds_toArray, List.set_cons_zero, List.set_cons_succ]
  refine held_take (i := 5) (v := ?vk5) rfl (by kernel_rfl) (by kernel_rfl) (by kernel_rfl) (fun _ _ _ h => h) (by rfl) ?hk5 hS ?rk5
  case hk5 => intro w0 hS0; obtain ⟨s0, hr, hh⟩ := hS0; have b0 : w0.cell? ⟨B, 0, none⟩ = some (.int .i64 d) := hr.cell 0; have b1 : w0.cell? ⟨B, 1, none⟩ = some (.string nm) := hr.cell 1; have b2 : w0.cell? ⟨B, 2, none⟩ = some (.int .i64 kd) := hr.cell 2; have b3 : w0.cell? ⟨B, 3, none⟩ = some (.slice h.aA m h.cA) := hr.cell 3; have b4 : w0.cell? ⟨B, 4, none⟩ = some (.string dt) := hr.cell 4; have b5 : w0.cell? ⟨B, 5, none⟩ = some (.int .i64 mj) := hr.cell 5; have b6 : w0.cell? ⟨B, 6, none⟩ = some (.int .i64 mi) := hr.cell 6; have b7 : w0.cell? ⟨B, 7, none⟩ = some (.int .i64 cls) := hr.cell 7; have hlk := HLK.out w0 hh; first | (go_simp; done) | (go_simp; with_reducible rfl)
  try simp only [Act.put, List.setIfInBounds_toArray, List.set_cons_zero, List.set_cons_succ]
  refine held_take (i := 6) (v := ?vk6) rfl (by kernel_rfl) (by kernel_rfl) (by kernel_rfl) (fun _ _ _ h => h) (by rfl) ?hk6 hS ?rk6
  case hk6 => intro w0 hS0; obtain ⟨s0, hr, hh⟩ := hS0; have b0 : w0.cell? ⟨B, 0, none⟩ = some (.int .i64 d) := hr.cell 0; have b1 : w0.cell? ⟨B, 1, none⟩ = some (.string nm) := hr.cell 1; have b2 : w0.cell? ⟨B, 2, none⟩ = some (.int .i64 kd) := hr.cell 2; have b3 : w0.cell? ⟨B, 3, none⟩ = some (.slice h.aA m h.cA) := hr.cell 3; have b4 : w0.cell? ⟨B, 4, none⟩ = some (.string dt) := hr.cell 4; have b5 : w0.cell? ⟨B, 5, none⟩ = some (.int .i64 mj) := hr.cell 5; have b6 : w0.cell? ⟨B, 6, none⟩ = some (.int .i64 mi) := hr.cell 6; have b7 : w0.cell? ⟨B, 7, none⟩ = some (.int .i64 cls) := hr.cell 7; have hlk := HLK.out w0 hh; first | (go_simp; done) | (go_simp; with_reducible rfl)
  try simp only [Act.put, List.setIfInBounds_toArray, List.set_cons_zero, List.set_cons_succ]
  refine held_take (i := 7) (v := ?vk7) rfl (by kernel_rfl) (by kernel_rfl) (by kernel_rfl) (fun _ _ _ h => h) (by rfl) ?hk7 hS ?rk7
  case hk7 => intro w0 hS0; obtain ⟨s0, hr, hh⟩ := hS0; have b0 : w0.cell? ⟨B, 0, none⟩ = some (.int .i64 d) := hr.cell 0; have b1 : w0.cell? ⟨B, 1, none⟩ = some (.string nm) := hr.cell 1; have b2 : w0.cell? ⟨B, 2, none⟩ = some (.int .i64 kd) := hr.cell 2; have b3 : w0.cell? ⟨B, 3, none⟩ = some (.slice h.aA m h.cA) := hr.cell 3; have b4 : w0.cell? ⟨B, 4, none⟩ = some (.string dt) := hr.cell 4; have b5 : w0.cell? ⟨B, 5, none⟩ = some (.int .i64 mj) := hr.cell 5; have b6 : w0.cell? ⟨B, 6, none⟩ = some (.int .i64 mi) := hr.cell 6; have b7 : w0.cell? ⟨B, 7, none⟩ = some (.int .i64 cls) := hr.cell 7; have hlk := HLK.out w0 hh; first | (go_simp; done) | (go_simp; with_reducible rfl)
  try simp only [Act.put, List.setIfInBounds_toArray, List.set_cons_zero, List.set_cons_succ]
  refine held_step (i := 8) rfl (by kernel_rfl) (by rfl) (fun K hK => ?_)
  go_simp
  go_at_call 88; refine (HL.out _ (HFA.out.then ((Fr.refl (fun _ => False) _).drew))).mono ?_; rintro e w6 ⟨rfl, hG⟩; have HG := Lib.hid ((Fr.refl (fun _ => False) W1).drew.then hG); clear hG
  go_wp2_with fail
  refine hK.out _ _ ⟨HG.out.cell (p := ⟨C, 2, none⟩) HC1.out.row.lt (fun h => h) c2, HB1.out.fr HG.out (fun h => h), HG.out.block m1 HC1.out.first.lt (fun h => h)⟩ ?_
  clear hK K
  try simp only [Act.put, List.setIfInBounds_toArray, List.set_cons_zero, List.set_cons_succ]
  clear hS; have hS := (show _ ∧ _ ∧ _ from ⟨HG.out.cell (p := ⟨C, 2, none⟩) HC1.out.row.lt (fun h => h) c2, HB1.out.fr HG.out (fun h => h), HG.out.block m1 HC1.out.first.lt (fun h => h)⟩)
  refine held_take (i := 9) (v := ?vk8) rfl (by kernel_rfl) (by kernel_rfl) (by kernel_rfl) (fun _ _ _ h => h) (by rfl) ?hk8 hS ?rk8
  case hk8 => intro w0 hS0; first | (go_simp; done) | (go_simp; with_reducible rfl)
  try simp only [Act.put, List.setIfInBounds_toArray, List.set_cons_zero, List.set_cons_succ]
  refine held_take (i := 10) (v := ?vk9) rfl (by kernel_rfl) (by kernel_rfl) (by kernel_rfl) (fun _ _ _ h => h) (by rfl) ?hk9 hS ?rk9
  case hk9 => intro w0 hS0; first | (go_simp; done) | (go_simp; with_reducible rfl)
  try simp only [Act.put, List.setIfInBounds_toArray, List.set_cons_zero, List.set_cons_succ]
  refine held_done (by kernel_rfl) ?_
  refine NoPanic.normal ?_
  go_wp2_with fail
  go_ret
  exact ⟨rfl, (HFA.out.then HG.out).up, fun h => by cases h⟩
set_option maxRecDepth 100000 in
set_option maxHeartbeats 4000000 in
theorem class_old (C m1 m2 n : Nat) (v : Value) (fl : Bool) (cl : Int) (f1 f2 : Lit → Value) (x : BNode) (h : Hd) (w : World) (K : World → Prop)
    (hC : ClassAt w C m1 m2 n v fl cl f1 f2) (hcl : 0 ≤ cl ∧ cl ≤ 900) (hn : n ≤ 1000) (hz : 0 < x.cls) (hz2 : x.cls ≤ cl) (y : BNode) (g : Hd) (hf1 : f1 (kI x.cls) = trA y g) (hy : NodeT w y g) (hx : NodeT w x h) (hym : y.m ≤ 100) (hxm : x.m ≤ 100) (hq : likeP y x) (ct : Nat) (hct : ct ≤ 1000) (hf2 : f2 (kI x.cls) = .int .i64 ct) :
    Calls Tryz.prog 72 #[.pointer (some ⟨C, 0, none⟩), trA x h] w (RetC C m1 m2 0 (fun w' => ClassAt w' C m1 m2 (n + 1) v fl cl f1 (updF f2 (kI x.cls) (.int .i64 ((ct : Int) + 1)))) w) := by
  have HL := Lib.hid (fun (w0 : World) (hG : Fr (fun _ => False) w w0) => like_walk y x g h w0 (hy.fr hG (fun _ _ h => h)) (hx.fr hG (fun _ _ h => h)) hym hxm true (by simp [hq]))
  clear hy hx
  have HC := Lib.hid hC
  obtain ⟨d, nm, kd, m, A, dt, mj, mi, cls, op, r, R⟩ := x
  dsimp only at *
  unfold trA
  dsimp only
  obtain ⟨hcl0, hcl1⟩ := hcl
  have hw1 : IntKind.i64.wrap (cl + 1) = cl + 1 := by rw [IntKind.wrap_i64]; omega
  have c4 : w.cell? ⟨C, 4, none⟩ = some (.int .i64 cl) := hC.row.cell 4
  have hCl := hC.row.lt
  clear hC
  have q0 : (cls == 0) = false := by simp; omega
  have q1 : decide (cls < 0) = false := by simp; omega
  have q2 : ¬ cl + 1 < cls := by omega
  have q3 : ¬ cl < cls := by omega
  have HF1 := Lib.hid hf1
  have HKY := Lib.hid (key_int (z := cls) (by omega) (by omega))
  have HN := Lib.hid (And.intro HC.out.n1 (And.intro HC.out.n2 HC.out.n3))
  clear hz hf1
  have hw2 : IntKind.i64.wrap ((ct : Int) + 1) = (ct : Int) + 1 := by rw [IntKind.wrap_i64]; omega
  have HF2 := Lib.hid hf2
  clear hf2
  go_enter Tryz.func72, Tryz.ntmps72
  go_wp2_with fail
  have HF0 := Lib.hid ((Fr.refl (fun _ => False) w).alloc (Obj.cells #[.int .i64 d, .string nm, .int .i64 kd, .slice h.aA m h.cA, .string dt, .int .i64 mj, .int .i64 mi, .int .i64 cls] 106))
  have HB := Lib.hid (RowB.new w 106 [.int .i64 d, .string nm, .int .i64 kd, .slice h.aA m h.cA, .string dt, .int .i64 mj, .int .i64 mi, .int .i64 cls])
  have hBl := HB.out.lt
  change Code.wp _ _ _ _ (w.alloc (Obj.cells #[.int .i64 d, .string nm, .int .i64 kd, .slice h.aA m h.cA, .string dt, .int .i64 mj, .int .i64 mi, .int .i64 cls] 106))
  have HBM := Lib.hid (show (¬ w.heap.size = m2) ∧ (¬ w.heap.size = m1) ∧ ¬ w.heap.size = C by have := HC.out.count.lt; have := HC.out.first.lt; omega)
  have HC0 := Lib.hid (HC.out.fr HF0.out)
  generalize w.alloc (Obj.cells #[.int .i64 d, .string nm, .int .i64 kd, .slice h.aA m h.cA, .string dt, .int .i64 mj, .int .i64 mi, .int .i64 cls] 106) = W0 at *
  obtain ⟨B, hB⟩ : ∃ B, B = w.heap.size := ⟨_, rfl⟩
  rw [← hB] at HB HBM hBl ⊢
  have HBE := Lib.hid hB
  clear hB c4
  have c4 : W0.cell? ⟨C, 4, none⟩ = some (.int .i64 cl) := HC0.out.row.cell 4
  have b7 : W0.cell? ⟨B, 7, none⟩ = some (.int .i64 cls) := HB.out.cell 7
  have hCl := HC0.out.row.lt
  go_wp2_with fail
  go_quiet (fail)
  go_wp2_with fail
  go_quiet (fail)
  go_wp2_with fail
  rename_i q5 hq4 hq5 Kq hKq
  have F1 : Fr (fun _ => False) W0 ((W0.drewN q5).drewN nq) := ((Fr.refl _ W0).drewN _).drewN _
  generalize (W0.drewN q5).drewN nq = W1 at *
  have HC1 := Lib.hid (HC0.out.fr F1)
  have HB1 := Lib.hid (HB.out.fr F1 (fun h => h))
  have HLK := Lib.hid (fun (w0 : World) (hG : w0.heap[m1]? = W1.heap[m1]?) => (HC1.out.first.of_block hG).look keyed_int Tryz.underlying100 (zero_tr w0) HKY.out)
  rw [HF1.out] at HLK
  unfold trA at HLK
  have HFA := Lib.hid (HF0.out.then F1)
  clear F1 c4 b7 hCl hBl
  have c2 : W1.cell? ⟨C, 2, none⟩ = some (.map (some m1)) := HC1.out.row.cell 2
  refine wp_region_noPanic ?_
  refine wp_region_held_drew (S := fun w' => w'.cell? ⟨C, 2, none⟩ = some (.map (some m1)) ∧ RowB w' B 106 [.int .i64 d, .string nm, .int .i64 kd, .slice h.aA m h.cA, .string dt, .int .i64 mj, .int .i64 mi, .int .i64 cls] ∧ w'.heap[m1]? = W1.heap[m1]?) (by kernel_rfl) ⟨c2, HB1.out, rfl⟩ (fun hS => ?_)
  refine held_take (i := 0) (v := ?vk0) rfl (by kernel_rfl) (by kernel_rfl) (by kernel_rfl) (fun _ _ _ h => h) (by rfl) ?hk0 hS ?rk0
  case hk0 => intro w0 hS0; obtain ⟨s0, hr, hh⟩ := hS0; have b0 : w0.cell? ⟨B, 0, none⟩ = some (.int .i64 d) := hr.cell 0; have b1 : w0.cell? ⟨B, 1, none⟩ = some (.string nm) := hr.cell 1; have b2 : w0.cell? ⟨B, 2, none⟩ = some (.int .i64 kd) := hr.cell 2; have b3 : w0.cell? ⟨B, 3, none⟩ = some (.slice h.aA m h.cA) := hr.cell 3; have b4 : w0.cell? ⟨B, 4, none⟩ = some (.string dt) := hr.cell 4; have b5 : w0.cell? ⟨B, 5, none⟩ = some (.int .i64 mj) := hr.cell 5; have b6 : w0.cell? ⟨B, 6, none⟩ = some (.int .i64 mi) := hr.cell 6; have b7 : w0.cell? ⟨B, 7, none⟩ = some (.int .i64 cls) := hr.cell 7; have hlk := HLK.out w0 hh; first | (go_simp; done) | (go_simp; with_reducible rfl)
  try simp only [Act.put, List.setIfInBounds_toArray, List.set_cons_zero, List.set_cons_succ]
  refine held_take (i := 1) (v := ?vk1) rfl (by kernel_rfl) (by kernel_rfl) (by kernel_rfl) (fun _ _ _ h => h) (by rfl) ?hk1 hS ?rk1
  case hk1 => intro w0 hS0; obtain ⟨s0, hr, hh⟩ := hS0; have b0 : w0.cell? ⟨B, 0, none⟩ = some (.int .i64 d) := hr.cell 0; have b1 : w0.cell? ⟨B, 1, none⟩ = some (.string nm) := hr.cell 1; have b2 : w0.cell? ⟨B, 2, none⟩ = some (.int .i64 kd) := hr.cell 2; have b3 : w0.cell? ⟨B, 3, none⟩ = some (.slice h.aA m h.cA) := hr.cell 3; have b4 : w0.cell? ⟨B, 4, none⟩ = some (.string dt) := hr.cell 4; have b5 : w0.cell? ⟨B, 5, none⟩ = some (.int .i64 mj) := hr.cell 5; have b6 : w0.cell? ⟨B, 6, none⟩ = some (.int .i64 mi) := hr.cell 6; have b7 : w0.cell? ⟨B, 7, none⟩ = some (.int .i64 cls) := hr.cell 7; have hlk := HLK.out w0 hh; first | (go_simp; done) | (go_simp; with_reducible rfl)
  try simp only [Act.put, List.setIfInBounds_toArray, List.set_cons_zero, List.set_cons_succ]
  refine held_take (i := 2) (v := ?vk2) rfl (by kernel_rfl) (by kernel_rfl) (by kernel_rfl) (fun _ _ _ h => h) (by rfl) ?hk2 hS ?rk2
  case hk2 => intro w0 hS0; obtain ⟨s0, hr, hh⟩ := hS0; have b0 : w0.cell? ⟨B, 0, none⟩ = some (.int .i64 d) := hr.cell 0; have b1 : w0.cell? ⟨B, 1, none⟩ = some (.string nm) := hr.cell 1; have b2 : w0.cell? ⟨B, 2, none⟩ = some (.int .i64 kd) := hr.cell 2; have b3 : w0.cell? ⟨B, 3, none⟩ = some (.slice h.aA m h.cA) := hr.cell 3; have b4 : w0.cell? ⟨B, 4, none⟩ = some (.string dt) := hr.cell 4; have b5 : w0.cell? ⟨B, 5, none⟩ = some (.int .i64 mj) := hr.cell 5; have b6 : w0.cell? ⟨B, 6, none⟩ = some (.int .i64 mi) := hr.cell 6; have b7 : w0.cell? ⟨B, 7, none⟩ = some (.int .i64 cls) := hr.cell 7; have hlk := HLK.out w0 hh; first | (go_simp; done) | (go_simp; with_reducible rfl)
  try simp only [Act.put, List.setIfInBounds_toArray, List.set_cons_zero, List.set_cons_succ]
  refine held_take (i := 3) (v := ?vk3) rfl (by kernel_rfl) (by kernel_rfl) (by kernel_rfl) (fun _ _ _ h => h) (by rfl) ?hk3 hS ?rk3
  case hk3 => intro w0 hS0; obtain ⟨s0, hr, hh⟩ := hS0; have b0 : w0.cell? ⟨B, 0, none⟩ = some (.int .i64 d) := hr.cell 0; have b1 : w0.cell? ⟨B, 1, none⟩ = some (.string nm) := hr.cell 1; have b2 : w0.cell? ⟨B, 2, none⟩ = some (.int .i64 kd) := hr.cell 2; have b3 : w0.cell? ⟨B, 3, none⟩ = some (.slice h.aA m h.cA) := hr.cell 3; have b4 : w0.cell? ⟨B, 4, none⟩ = some (.string dt) := hr.cell 4; have b5 : w0.cell? ⟨B, 5, none⟩ = some (.int .i64 mj) := hr.cell 5; have b6 : w0.cell? ⟨B, 6, none⟩ = some (.int .i64 mi) := hr.cell 6; have b7 : w0.cell? ⟨B, 7, none⟩ = some (.int .i64 cls) := hr.cell 7; have hlk := HLK.out w0 hh; first | (go_simp; done) | (go_simp; with_reducible rfl)
  try simp only [Act.put, List.setIfInBounds_toArray, List.set_cons_zero, List.set_cons_succ]
  refine held_take (i := 4) (v := ?vk4) rfl (by kernel_rfl) (by kernel_rfl) (by kernel_rfl) (fun _ _ _ h => h) (by rfl) ?hk4 hS ?rk4
  case hk4 => intro w0 hS0; obtain ⟨s0, hr, hh⟩ := hS0; have b0 : w0.cell? ⟨B, 0, none⟩ = some (.int .i64 d) := hr.cell 0; have b1 : w0.cell? ⟨B, 1, none⟩ = some (.string nm) := hr.cell 1; have b2 : w0.cell? ⟨B, 2, none⟩ = some (.int .i64 kd) := hr.cell 2; have b3 : w0.cell? ⟨B, 3, none⟩ = some (.slice h.aA m h.cA) := hr.cell 3; have b4 : w0.cell? ⟨B, 4, none⟩ = some (.string dt) := hr.cell 4; have b5 : w0.cell? ⟨B, 5, none⟩ = some (.int .i64 mj) := hr.cell 5; have b6 : w0.cell? ⟨B, 6, none⟩ = some (.int .i64 mi) := hr.cell 6; have b7 : w0.cell? ⟨B, 7, none⟩ = some (.int .i64 cls) := hr.cell 7; have hlk := HLK.out w0 hh; first | (go_simp; done) | (go_simp; with_reducible rfl)
  try simp only [Act.put, List.setIfInBounds_toArray, List.set_cons_zero, List.set_cons_succ]
  refine held_take (i := 5) (v := ?vk5) rfl (by kernel_rfl) (by kernel_rfl) (by kernel_rfl) (fun _ _ _ h => h) (by rfl) ?hk5 hS ?rk5
  case hk5 => intro w0 hS0; obtain ⟨s0, hr, hh⟩ := hS0; have b0 : w0.cell? ⟨B, 0, none⟩ = some (.int .i64 d) := hr.cell 0; have b1 : w0.cell? ⟨B, 1, none⟩ = some (.string nm) := hr.cell 1; have b2 : w0.cell? ⟨B, 2, none⟩ = some (.int .i64 kd) := hr.cell 2; have b3 : w0.cell? ⟨B, 3, none⟩ = some (.slice h.aA m h.cA) := hr.cell 3; have b4 : w0.cell? ⟨B, 4, none⟩ = some (.string dt) := hr.cell 4; have b5 : w0.cell? ⟨B, 5, none⟩ = some (.int .i64 mj) := hr.cell 5; have b6 : w0.cell? ⟨B, 6, none⟩ = some (.int .i64 mi) := hr.cell 6; have b7 : w0.cell? ⟨B, 7, none⟩ = some (.int .i64 cls) := hr.cell 7; have hlk := HLK.out w0 hh; first | (go_simp; done) | (go_simp; with_reducible rfl)
  try simp only [Act.put, List.setIfInBounds_toArray, List.set_cons_zero, List.set_cons_succ]
  refine held_take (i := 6) (v := ?vk6) rfl (by kernel_rfl) (by kernel_rfl) (by kernel_rfl) (fun _ _ _ h => h) (by rfl) ?hk6 hS ?rk6
  case hk6 => intro w0 hS0; obtain ⟨s0, hr, hh⟩ := hS0; have b0 : w0.cell? ⟨B, 0, none⟩ = some (.int .i64 d) := hr.cell 0; have b1 : w0.cell? ⟨B, 1, none⟩ = some (.string nm) := hr.cell 1; have b2 : w0.cell? ⟨B, 2, none⟩ = some (.int .i64 kd) := hr.cell 2; have b3 : w0.cell? ⟨B, 3, none⟩ = some (.slice h.aA m h.cA) := hr.cell 3; have b4 : w0.cell? ⟨B, 4, none⟩ = some (.string dt) := hr.cell 4; have b5 : w0.cell? ⟨B, 5, none⟩ = some (.int .i64 mj) := hr.cell 5; have b6 : w0.cell? ⟨B, 6, none⟩ = some (.int .i64 mi) := hr.cell 6; have b7 : w0.cell? ⟨B, 7, none⟩ = some (.int .i64 cls) := hr.cell 7; have hlk := HLK.out w0 hh; first | (go_simp; done) | (go_simp; with_reducible rfl)
  try simp only [Act.put, List.setIfInBounds_toArray, List.set_cons_zero, List.set_cons_succ]
  refine held_take (i := 7) (v := ?vk7) rfl (by kernel_rfl) (by kernel_rfl) (by kernel_rfl) (fun _ _ _ h => h) (by rfl) ?hk7 hS ?rk7
  case hk7 => intro w0 hS0; obtain ⟨s0, hr, hh⟩ := hS0; have b0 : w0.cell? ⟨B, 0, none⟩ = some (.int .i64 d) := hr.cell 0; have b1 : w0.cell? ⟨B, 1, none⟩ = some (.string nm) := hr.cell 1; have b2 : w0.cell? ⟨B, 2, none⟩ = some (.int .i64 kd) := hr.cell 2; have b3 : w0.cell? ⟨B, 3, none⟩ = some (.slice h.aA m h.cA) := hr.cell 3; have b4 : w0.cell? ⟨B, 4, none⟩ = some (.string dt) := hr.cell 4; have b5 : w0.cell? ⟨B, 5, none⟩ = some (.int .i64 mj) := hr.cell 5; have b6 : w0.cell? ⟨B, 6, none⟩ = some (.int .i64 mi) := hr.cell 6; have b7 : w0.cell? ⟨B, 7, none⟩ = some (.int .i64 cls) := hr.cell 7; have hlk := HLK.out w0 hh; first | (go_simp; done) | (go_simp; with_reducible rfl)
  try simp only [Act.put, List.setIfInBounds_toArray, List.set_cons_zero, List.set_cons_succ]
  refine held_step (i := 8) rfl (by kernel_rfl) (by rfl) (fun K hK => ?_)
  go_simp
  go_at_call 88; refine (HL.out _ (HFA.out.then ((Fr.refl (fun _ => False) _).drew))).mono ?_; rintro e w6 ⟨rfl, hG⟩; have HG := Lib.hid ((Fr.refl (fun _ => False) W1).drew.then hG); clear hG
  go_wp2_with fail
  refine hK.out _ _ ⟨HG.out.cell (p := ⟨C, 2, none⟩) HC1.out.row.lt (fun h => h) c2, HB1.out.fr HG.out (fun h => h), HG.out.block m1 HC1.out.first.lt (fun h => h)⟩ ?_
  clear hK K
  try simp only [Act.put, List.setIfInBounds_toArray, List.set_cons_zero, List.set_cons_succ]
  clear hS; have hS := (show _ ∧ _ ∧ _ from ⟨HG.out.cell (p := ⟨C, 2, none⟩) HC1.out.row.lt (fun h => h) c2, HB1.out.fr HG.out (fun h => h), HG.out.block m1 HC1.out.first.lt (fun h => h)⟩)
  refine held_take (i := 9) (v := ?vk8) rfl (by kernel_rfl) (by kernel_rfl) (by kernel_rfl) (fun _ _ _ h => h) (by rfl) ?hk8 hS ?rk8
  case hk8 => intro w0 hS0; first | (go_simp; done) | (go_simp; with_reducible rfl)
  try simp only [Act.put, List.setIfInBounds_toArray, List.set_cons_zero, List.set_cons_succ]
  refine held_take (i := 10) (v := ?vk9) rfl (by kernel_rfl) (by kernel_rfl) (by kernel_rfl) (fun _ _ _ h => h) (by rfl) ?hk9 hS ?rk9
  case hk9 => intro w0 hS0; first | (go_simp; done) | (go_simp; with_reducible rfl)
  try simp only [Act.put, List.setIfInBounds_toArray, List.set_cons_zero, List.set_cons_succ]
  refine held_done (by kernel_rfl) ?_
  refine NoPanic.normal ?_
  go_wp2_with fail
  have HC2 := Lib.hid (HC1.out.fr HG.out)
  have HR := Lib.hid HC2.out.row
  have HB2 := Lib.hid (HB1.out.fr HG.out (fun h => h))
  have HM2 := Lib.hid HC2.out.count
  clear c2 hS
  have c3 : w6.cell? ⟨C, 3, none⟩ = some (.map (some m2)) := HR.out.cell 3
  have b7 : w6.cell? ⟨B, 7, none⟩ = some (.int .i64 cls) := HB2.out.cell 7
  refine wp_region_noPanic ?_
  refine wp_region_held_drew (S := fun w' => w'.cell? ⟨C, 3, none⟩ = some (.map (some m2)) ∧ w'.cell? ⟨B, 7, none⟩ = some (.int .i64 cls)) (by kernel_rfl) ⟨c3, b7⟩ (fun hS => ?_)
  refine held_take (i := 0) (v := ?vj0) rfl (by kernel_rfl) (by kernel_rfl) (by kernel_rfl) (fun _ _ _ h => h) (by rfl) ?hj0 hS ?rj0
  case hj0 => intro w0 hS0; obtain ⟨s0, s1⟩ := hS0; first | (go_simp; done) | (go_simp; with_reducible rfl)
  try simp only [Act.put, List.setIfInBounds_toArray, List.set_cons_zero, List.set_cons_succ]
  refine held_take (i := 1) (v := ?vj1) rfl (by kernel_rfl) (by kernel_rfl) (by kernel_rfl) (fun _ _ _ h => h) (by rfl) ?hj1 hS ?rj1
  case hj1 => intro w0 hS0; obtain ⟨s0, s1⟩ := hS0; first | (go_simp; done) | (go_simp; with_reducible rfl)
  try simp only [Act.put, List.setIfInBounds_toArray, List.set_cons_zero, List.set_cons_succ]
  refine held_take (i := 2) (v := ?vj2) rfl (by kernel_rfl) (by kernel_rfl) (by kernel_rfl) (fun _ _ _ h => h) (by rfl) ?hj2 hS ?rj2
  case hj2 => intro w0 hS0; obtain ⟨s0, s1⟩ := hS0; first | (go_simp; done) | (go_simp; with_reducible rfl)
  try simp only [Act.put, List.setIfInBounds_toArray, List.set_cons_zero, List.set_cons_succ]
  refine held_take (i := 3) (v := ?vj3) rfl (by kernel_rfl) (by kernel_rfl) (by kernel_rfl) (fun _ _ _ h => h) (by rfl) ?hj3 hS ?rj3
  case hj3 => intro w0 hS0; obtain ⟨s0, s1⟩ := hS0; first | (go_simp; done) | (go_simp; with_reducible rfl)
  try simp only [Act.put, List.setIfInBounds_toArray, List.set_cons_zero, List.set_cons_succ]
  refine held_take (i := 4) (v := ?vj4) rfl (by kernel_rfl) (by kernel_rfl) (by kernel_rfl) (fun _ _ _ h => h) (by rfl) ?hj4 hS ?rj4
  case hj4 => intro w0 hS0; obtain ⟨s0, s1⟩ := hS0; first | (go_simp; done) | (go_simp; with_reducible rfl)
  try simp only [Act.put, List.setIfInBounds_toArray, List.set_cons_zero, List.set_cons_succ]
  refine held_take (i := 5) (v := ?vj5) rfl (by kernel_rfl) (by kernel_rfl) (by kernel_rfl) (fun _ _ _ h => h) (by rfl) ?hj5 hS ?rj5
  case hj5 => intro w0 hS0; obtain ⟨s0, s1⟩ := hS0; first | (go_simp; done) | (go_simp; with_reducible rfl)
  try simp only [Act.put, List.setIfInBounds_toArray, List.set_cons_zero, List.set_cons_succ]
  refine held_step (i := 6) rfl (by kernel_rfl) (by rfl) (fun K hK => ?_)
  refine wp_look_at _ _ 101 rfl 3 keyed_int Tryz.underlying101 (zero_int _) rfl (HM2.out.fr ((Fr.refl (fun _ => False) _).drew) (fun h => h)) (.int .i64 cls) (kI cls) rfl HKY.out ?_
  rw [HF2.out]
  refine hK.out _ _ hS ?_
  clear hK K
  try simp only [Act.put, List.setIfInBounds_toArray, List.set_cons_zero, List.set_cons_succ]
  refine held_take (i := 7) (v := ?vj6) rfl (by kernel_rfl) (by kernel_rfl) (by kernel_rfl) (fun _ _ _ h => h) (by rfl) ?hj6 hS ?rj6
  case hj6 => intro w0 hS0; obtain ⟨s0, s1⟩ := hS0; first | (go_simp; done) | (go_simp; with_reducible rfl)
  try simp only [Act.put, List.setIfInBounds_toArray, List.set_cons_zero, List.set_cons_succ]
  refine held_step (i := 8) rfl (by kernel_rfl) (by rfl) (fun K hK => ?_)
  refine wp_put_at _ _ _ 101 rfl 3 keyed_int Tryz.underlying101 rfl (HM2.out.fr ((Fr.refl (fun _ => False) _).drew) (fun h => h)) (by unfold maxLen; omega) (.int .i64 cls) (.int .i64 ((ct : Int) + 1)) (kI cls) rfl rfl HKY.out trivial ?_
  intro w9 hM9 hgrow
  have hF9 : Fr (fun b => b = m2) w6 w9 := (Fr.refl (fun b => b = m2) w6).drew.trans (Fr.of_grown hgrow) (fun k _ e => (Option.some.inj e).symm)
  have HM9 := Lib.hid hM9
  have HF9 := Lib.hid hF9
  clear hM9 hF9 hgrow
  refine hK.out _ _ ⟨HF9.out.cell (p := ⟨C, 3, none⟩) HR.out.lt (fun e => HN.out.2.1 e.symm) c3, HF9.out.cell (p := ⟨B, 7, none⟩) HB2.out.lt HBM.out.1 b7⟩ ?_
  clear hK K
  try simp only [Act.put]
  refine held_done (by kernel_rfl) ?_
  refine NoPanic.normal ?_
  go_wp2_with fail
  go_ret
  have HA : Fr (fun b => b = C ∨ b = m1 ∨ b = m2) w w9 := (HFA.out.then HG.out).up.trans HF9.out (fun k _ e => Or.inr (Or.inr e))
  refine ⟨rfl, HA, fun _ => ⟨HR.out.fr HF9.out (fun e => HN.out.2.1 e.symm), (HC2.out.first.fr HF9.out HN.out.2.2).mono (by omega), HM9.out.mono (by omega), HN.out.1, HN.out.2.1, HN.out.2.2⟩⟩
end Go.Proofs.YtogjfifpbplahaaGreatDoor
