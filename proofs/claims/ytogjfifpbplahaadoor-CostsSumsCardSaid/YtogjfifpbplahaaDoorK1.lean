/- costs.check, walked: which lists of batches are refused. -/
import Derived.Test.YtogjfifpbplahaaDoorF2
import Derived.Test.YtogjfifpbplahaaDoorMath
namespace Go.Proofs.YtogjfifpbplahaaDoor
open Go.RowKit Go.Shelf
open CM
set_option linter.unusedVariables false
attribute [local go_sem] Oper.semAt_some

/-- the slice holds n batches -/
def Uses (w : World) (a0 : Option Addr) (n : Nat) (U : Nat → Nat → Int) : Prop :=
  0 < n → ∃ b o, a0 = some ⟨b, o, none⟩ ∧ b < w.heap.size ∧ ∀ i j, i < n → j < 8 → w.cell? ⟨b, o + i * 8 + j, none⟩ = some (.int .i64 (U i j))
theorem Uses.fr {S : Nat → Prop} {w w' : World} {a0 : Option Addr} {n : Nat} {U : Nat → Nat → Int} (h : Uses w a0 n U) (f : Fr S w w') (hS : ∀ k, k < w.heap.size → ¬ S k) : Uses w' a0 n U := fun hn => by
  obtain ⟨b, o, h1, h2, h3⟩ := h hn
  exact ⟨b, o, h1, Nat.lt_of_lt_of_le h2 f.size, fun i j hi hj => f.cell h2 (hS b h2) (h3 i j hi hj)⟩
def useV (u : Nat → Int) : List Value := [.int .i64 (u 0), .int .i64 (u 1), .int .i64 (u 2), .int .i64 (u 3), .int .i64 (u 4), .int .i64 (u 5), .int .i64 (u 6), .int .i64 (u 7)]
theorem useV_at (u : Nat → Int) (k : Nat) (hk : k < 8) : (useV u)[k]? = some (Value.int .i64 (u k)) := by
  obtain rfl | rfl | rfl | rfl | rfl | rfl | rfl | rfl : k = 0 ∨ k = 1 ∨ k = 2 ∨ k = 3 ∨ k = 4 ∨ k = 5 ∨ k = 6 ∨ k = 7 := by omega
  all_goals rfl
theorem ownFrom_row {β : Type} {B b : Nat} {T : TypeId} {vs : List Value} (hb : b < B) : OwnFrom B (fun (_ : β) W => RowB W b T vs) :=
  fun _ W W' row hs hg hr => hs.of_block (hg.block b hs.lt (fun e => by have := (hr b e.symm).1; omega))
theorem ownFrom_pure {β : Type} {B : Nat} {p : β → Prop} : OwnFrom B (fun (x : β) (_ : World) => p x) := fun _ _ _ _ hs _ _ => hs

/-- field x of a batch may stand -/
def okAt (u : Nat → Int) (x : Nat) : Bool := if x = 0 then ((u 0 == -3) || (u 0 == -1) || (decide (0 ≤ u 0) && decide (u 0 ≤ 60))) else decide (0 ≤ u x) && decide (u x ≤ 1000000)
theorem ok1_all (u : Nat → Int) (h : ∀ x : Fin 8, okAt u x.val = true) : ok1 u = true := by
  simp only [ok1, Bool.and_eq_true, List.all_eq_true, List.mem_range]
  refine ⟨?_, fun k hk => ?_⟩
  · have := h ⟨0, by omega⟩
    simpa [okAt] using this
  · have := h ⟨k + 1, by omega⟩
    simpa [okAt] using this
theorem ok1_none (u : Nat → Int) (x : Nat) (hx : x < 8) (h : okAt u x = false) : ok1 u = false := by
  cases hb : ok1 u with
  | false => rfl
  | true =>
    exfalso
    simp only [ok1, Bool.and_eq_true, List.all_eq_true, List.mem_range] at hb
    unfold okAt at h
    by_cases e : x = 0
    · rw [if_pos e, hb.1] at h; cases h
    · have := hb.2 (x - 1) (by omega)
      rw [show x - 1 + 1 = x by omega] at this
      rw [if_neg e, this.1, this.2] at h
      cases h
theorem okB_false {U : Nat → Nat → Int} {n k : Nat} (hk : k < n) (h : ok1 (U k) = false) : okB U n = false := by
  cases hb : okB U n with
  | false => rfl
  | true => rw [okB_at hb hk] at h; cases h

theorem outside_any (a l h : Int) (w : World) : Calls Tryd.prog 30 #[.int .i64 a, .int .i64 l, .int .i64 h] w fun e w' => e = .returned (.bool (decide (a < l) || decide (h < a))) ∧ w = w' := by
  go_enter Tryd.func30, Tryd.ntmps30
  go_wp2
  all_goals go_ret
  all_goals first | exact ⟨rfl, rfl⟩ | exact ⟨ret_bool (by simp; omega), rfl⟩
theorem outside_in (a l h : Int) (w : World) (h0 : l ≤ a ∧ a ≤ h) : Calls Tryd.prog 30 #[.int .i64 a, .int .i64 l, .int .i64 h] w fun e w' => e = .returned (.bool false) ∧ w = w' := by
  have := outside_any a l h w
  rw [show (decide (a < l) || decide (h < a)) = false by simp; omega] at this
  exact this
theorem outside_out (a l h : Int) (w : World) (h0 : ¬ (l ≤ a ∧ a ≤ h)) : Calls Tryd.prog 30 #[.int .i64 a, .int .i64 l, .int .i64 h] w fun e w' => e = .returned (.bool true) ∧ w = w' := by
  have := outside_any a l h w
  rw [show (decide (a < l) || decide (h < a)) = true by simp; omega] at this
  exact this
/-- the frame at the head of check's loop -/
def CkI (b o n c : Nat) (U : Nat → Nat → Int) (w W0 : World) (a : Act) (wr : World) : Prop :=
  ∃ (k : Nat) (ds : List Deferred) (u4 u13 u14 u15 u16 u48 : Value), k ≤ n ∧ Marks (w.heap.size + 1) wr ds ∧ okB U k = true ∧ Fr (fun _ => False) W0 wr ∧
    a = { tmps := #[.slice (some ⟨b, o, none⟩) n c, undef, .pointer (some ⟨w.heap.size, 0, none⟩), undef, u4, undef, undef, .slice (some ⟨b, o, none⟩) n c, .int .i64 (n : Int), .bool false, .slice (some ⟨b, o, none⟩) n c, .int .i64 (n : Int), .int .i64 (k : Int), u13, u14, u15, u16, undef, undef, undef, undef, undef, undef, undef, undef, undef, undef, undef, undef, undef, undef, undef, undef, undef, undef, undef, undef, undef, undef, undef, undef, undef, undef, undef, undef, undef, undef, undef, u48], defers := ds }
def CkM (n : Nat) (a : Act) (_ : World) : Nat := n - (intOf (a.tmps.getD 12 undef)).toNat

set_option maxRecDepth 100000 in
set_option maxHeartbeats 2000000 in
theorem check_some (n c b o : Nat) (U : Nat → Nat → Int) (w : World) (hn : n ≤ 70) (hb : b < w.heap.size) (hc : Hid (∀ i j, i < n → j < 8 → w.cell? ⟨b, o + i * 8 + j, none⟩ = some (.int .i64 (U i j)))) :
    Calls Tryd.prog 16 #[.slice (some ⟨b, o, none⟩) n c] w (Ret (.int .i64 (listE n U)) w) := by
  have t0 : decide ((70 : Int) < (n : Int)) = false := by simp; omega
  refine (callsIn_wide (n := 4)).1 ?_
  refine callsIn_of_wp_marks Tryd.func16 rfl trivial ?_ rfl
  simp only [Tryd.ntmps16, List.size_toArray, List.length_cons, List.length_nil, Nat.reduceAdd, Nat.reduceSub, Array.replicate_succ, Array.replicate_zero, List.push_toArray, List.append_toArray, List.nil_append, List.cons_append]
  refine wpIn_wide.2 ?_
  go_wp2_with fail
  clear t0
  have hF0 : Fr (fun _ => False) w (w.alloc (Obj.cells #[Value.int .i64 0] 24)) := (Fr.refl _ w).alloc _
  have hR0 : RowB (w.alloc (Obj.cells #[Value.int .i64 0] 24)) w.heap.size 24 [Value.int .i64 0] := RowB.new w 24 [Value.int .i64 0]
  generalize w.alloc (Obj.cells #[Value.int .i64 0] 24) = W0 at *
  have HF0 := Lib.hid hF0
  have HR0 := Lib.hid hR0
  have hz : w.heap.size < W0.heap.size := hR0.lt
  clear hF0 hR0
  refine wp_loop (CkI b o n c U w W0) (CkM n) ?_ ?_
  · exact ⟨0, [], _, _, _, _, _, _, by omega, trivial, rfl, Fr.refl _ _, rfl⟩
  · rintro a wr ⟨k, ds, u4, u13, u14, u15, u16, u48, hk, hM, hok, hF, rfl⟩
    have HM := Lib.hid hM
    have HOK := Lib.hid hok
    have HF := Lib.hid hF
    clear hM hok
    by_cases hlt : k < n
    · have c0 : wr.cell? ⟨b, o + k * 8, none⟩ = some (.int .i64 (U k 0)) := (HF0.out.then HF.out).cell hb (fun h => h) (hc.out k 0 hlt (by omega))
      have c1 : wr.cell? ⟨b, o + k * 8 + 1, none⟩ = some (.int .i64 (U k 1)) := (HF0.out.then HF.out).cell hb (fun h => h) (hc.out k 1 hlt (by omega))
      have c2 : wr.cell? ⟨b, o + k * 8 + 2, none⟩ = some (.int .i64 (U k 2)) := (HF0.out.then HF.out).cell hb (fun h => h) (hc.out k 2 hlt (by omega))
      have c3 : wr.cell? ⟨b, o + k * 8 + 3, none⟩ = some (.int .i64 (U k 3)) := (HF0.out.then HF.out).cell hb (fun h => h) (hc.out k 3 hlt (by omega))
      have c4 : wr.cell? ⟨b, o + k * 8 + 4, none⟩ = some (.int .i64 (U k 4)) := (HF0.out.then HF.out).cell hb (fun h => h) (hc.out k 4 hlt (by omega))
      have c5 : wr.cell? ⟨b, o + k * 8 + 5, none⟩ = some (.int .i64 (U k 5)) := (HF0.out.then HF.out).cell hb (fun h => h) (hc.out k 5 hlt (by omega))
      have c6 : wr.cell? ⟨b, o + k * 8 + 6, none⟩ = some (.int .i64 (U k 6)) := (HF0.out.then HF.out).cell hb (fun h => h) (hc.out k 6 hlt (by omega))
      have c7 : wr.cell? ⟨b, o + k * 8 + 7, none⟩ = some (.int .i64 (U k 7)) := (HF0.out.then HF.out).cell hb (fun h => h) (hc.out k 7 hlt (by omega))
      have hz2 : W0.heap.size ≤ wr.heap.size := hF.size
      clear hF
      go_wp2_with (go_at_call 21; go_must (refine (fields_make _ _).mono ?_; rintro e w' ⟨rfl, rfl⟩))
      have hF1 : Fr (fun _ => False) wr ((wr.alloc (Obj.cells #[Value.int .i64 (U k 0), Value.int .i64 (U k 1), Value.int .i64 (U k 2), Value.int .i64 (U k 3), Value.int .i64 (U k 4), Value.int .i64 (U k 5), Value.int .i64 (U k 6), Value.int .i64 (U k 7)] 28)).alloc (Obj.cells #[Value.pointer (some ⟨wr.heap.size, 0, none⟩)] 55)) := ((Fr.refl _ wr).alloc _).alloc _
      have hX1 : RowB ((wr.alloc (Obj.cells #[Value.int .i64 (U k 0), Value.int .i64 (U k 1), Value.int .i64 (U k 2), Value.int .i64 (U k 3), Value.int .i64 (U k 4), Value.int .i64 (U k 5), Value.int .i64 (U k 6), Value.int .i64 (U k 7)] 28)).alloc (Obj.cells #[Value.pointer (some ⟨wr.heap.size, 0, none⟩)] 55)) wr.heap.size 28 (useV (U k)) := (RowB.new wr 28 (useV (U k))).fr ((Fr.refl (fun _ => False) _).alloc _) (fun h => h)
      have hP1 : RowB ((wr.alloc (Obj.cells #[Value.int .i64 (U k 0), Value.int .i64 (U k 1), Value.int .i64 (U k 2), Value.int .i64 (U k 3), Value.int .i64 (U k 4), Value.int .i64 (U k 5), Value.int .i64 (U k 6), Value.int .i64 (U k 7)] 28)).alloc (Obj.cells #[Value.pointer (some ⟨wr.heap.size, 0, none⟩)] 55)) (wr.heap.size + 1) 55 [Value.pointer (some ⟨wr.heap.size, 0, none⟩)] := by
        have := RowB.new (wr.alloc (Obj.cells #[Value.int .i64 (U k 0), Value.int .i64 (U k 1), Value.int .i64 (U k 2), Value.int .i64 (U k 3), Value.int .i64 (U k 4), Value.int .i64 (U k 5), Value.int .i64 (U k 6), Value.int .i64 (U k 7)] 28)) 55 [Value.pointer (some ⟨wr.heap.size, 0, none⟩)]
        rw [alloc_size] at this
        exact this
      generalize (wr.alloc (Obj.cells #[Value.int .i64 (U k 0), Value.int .i64 (U k 1), Value.int .i64 (U k 2), Value.int .i64 (U k 3), Value.int .i64 (U k 4), Value.int .i64 (U k 5), Value.int .i64 (U k 6), Value.int .i64 (U k 7)] 28)).alloc (Obj.cells #[Value.pointer (some ⟨wr.heap.size, 0, none⟩)] 55) = W2 at *
      clear c0 c1 c2 c3 c4 c5 c6 c7
      have hR2 : RowB W2 w.heap.size 24 [Value.int .i64 0] := (HR0.out.fr HF.out (fun h => h)).fr hF1 (fun h => h)
      have hM2 := HM.out.fr hF1 (fun _ _ h _ => h)
      have hF2 := HF.out.then hF1
      have hBz : w.heap.size < wr.heap.size := by omega
      generalize wr.heap.size = B at *
      have HX1 := Lib.hid hX1
      have HR2 := Lib.hid hR2
      have HM2 := Lib.hid hM2
      have HF2 := Lib.hid hF2
      have hsz : W0.heap.size ≤ W2.heap.size := hF2.size
      have hlt1 := hP1.lt
      refine range_fields (B + 1) B rfl rfl hP1.lt (hP1.cell 0) (fun pre W => Fr (fun _ => False) W2 W ∧ ∀ y ∈ pre, okAt (U k) y.val = true)
        (fun c pre W => c = .ret ∧ Fr (fun b => b = w.heap.size) W2 W ∧ RowB W w.heap.size 24 [Value.int .i64 7] ∧ ok1 (U k) = false)
        (OwnFrom.and (ownFrom_fr (Nat.le_refl _)) ownFrom_pure) (fun c => OwnFrom.and ownFrom_pure (OwnFrom.and (ownFrom_fr (Nat.le_refl _)) (OwnFrom.and (ownFrom_row (by omega)) ownFrom_pure)))
        ⟨Fr.refl _ _, fun _ h => by cases h⟩ (fun x => { tmps := #[.slice (some ⟨b, o, none⟩) n c, undef, .pointer (some ⟨w.heap.size, 0, none⟩), undef, .pointer (some ⟨B, 0, none⟩), .int .i64 (x.val : Int), .pointer (some ⟨B, x.val, none⟩), .slice (some ⟨b, o, none⟩) n c, .int .i64 (n : Int), .bool false, .slice (some ⟨b, o, none⟩) n c, .int .i64 (n : Int), .int .i64 (k : Int), .bool true, .pointer (some ⟨b, o + k * 8, none⟩), .agg #[.int .i64 (U k 0), .int .i64 (U k 1), .int .i64 (U k 2), .int .i64 (U k 3), .int .i64 (U k 4), .int .i64 (U k 5), .int .i64 (U k 6), .int .i64 (U k 7)], .func (.func 32) #[] #[.pointer (some ⟨B + 1, 0, none⟩)], .int .i64 (x.val : Int), .pointer (some ⟨B, x.val, none⟩), undef, undef, undef, undef, undef, undef, undef, undef, undef, undef, undef, undef, undef, undef, undef, undef, undef, undef, undef, undef, undef, undef, undef, undef, undef, undef, undef, undef, undef, u48], defers := [] }) ?assign ?body ?done ?stop
      case assign =>
        intro l x W K hK
        unfold enc8
        gi_wp2
        exact hK
      case body =>
        rintro l pre ⟨x, hxlt⟩ W ⟨hF3, hpre⟩ hlen
        have hcx : W.cell? ⟨B, x, none⟩ = some (.int .i64 (U k x)) := by rw [(HX1.out.fr hF3 (fun h => h)).cell x]; exact useV_at (U k) x hxlt
        have HR3 := Lib.hid (HR2.out.fr hF3 (fun h => h))
        have hfz := (HR2.out.fr hF3 (fun h => h)).frozen 0
        have hfc := (HR2.out.fr hF3 (fun h => h)).cell 0
        have HF3 := Lib.hid hF3
        have HP := Lib.hid hpre
        clear hF3 hpre hX1 hR2 hM2 hF2 hP1 hF1
        by_cases hx0 : x = 0
        · subst hx0
          have z0 : (((0 : Nat) : Int)) = 0 := rfl
          dsimp only
          rw [z0]
          obtain ⟨v, hv⟩ : ∃ v, U k 0 = v := ⟨_, rfl⟩
          have HV := Lib.hid hv
          rw [hv] at hcx
          rw [hv]
          clear hv z0
          by_cases h3 : v = -3
          · have HX := Lib.hid (show okAt (U k) 0 = true by unfold okAt; rw [if_pos rfl, HV.out, h3]; decide)
            have e1 : (v != -3) = false := by simp [h3]
            have e2 : (v == -3) = true := by simp [h3]
            clear h3
            gi_wp2_with (first | (gi_at_call 30; (refine (CallsIn.inRound l (callsIn_wide.2 (outside_in _ 0 60 _ (by omega)))).mono ?_; rintro e w' ⟨rfl, rfl⟩)) | ((with_reducible refine @And.intro (Fence.wide.fn 30) _ ?_ ?_); exact trivial))
            exact ⟨KeepsFrom.refl _ _, K56.refl _, HF3.out, fun y hy => by
                rcases List.mem_append.1 hy with h | h
                · exact HP.out y h
                · rw [List.mem_singleton.1 h]; exact HX.out⟩
          · have e1 : (v != -3) = true := by simp [h3]
            have e2 : (v == -3) = false := by simp [h3]
            by_cases h1 : v = -1
            · have HX := Lib.hid (show okAt (U k) 0 = true by unfold okAt; rw [if_pos rfl, HV.out, h1]; decide)
              have e3 : (v != -1) = false := by simp [h1]
              have e4 : (v == -1) = true := by simp [h1]
              clear h3 h1
              gi_wp2_with (first | (gi_at_call 30; (refine (CallsIn.inRound l (callsIn_wide.2 (outside_in _ 0 60 _ (by omega)))).mono ?_; rintro e w' ⟨rfl, rfl⟩)) | ((with_reducible refine @And.intro (Fence.wide.fn 30) _ ?_ ?_); exact trivial))
              exact ⟨KeepsFrom.refl _ _, K56.refl _, HF3.out, fun y hy => by
                rcases List.mem_append.1 hy with h | h
                · exact HP.out y h
                · rw [List.mem_singleton.1 h]; exact HX.out⟩
            · have e3 : (v != -1) = true := by simp [h1]
              have e4 : (v == -1) = false := by simp [h1]
              by_cases hr : 0 ≤ v ∧ v ≤ 60
              · have HX := Lib.hid (show okAt (U k) 0 = true by unfold okAt; rw [if_pos rfl, HV.out]; simp; omega)
                have HG := Lib.hid hr
                clear h3 h1 hr
                gi_wp2_with (first | (gi_at_call 30; go_must (refine (CallsIn.inRound l (callsIn_wide.2 (outside_in _ 0 60 _ HG.out))).mono ?_; rintro e w' ⟨rfl, rfl⟩)) | ((with_reducible refine @And.intro (Fence.wide.fn 30) _ ?_ ?_); exact trivial))
                exact ⟨KeepsFrom.refl _ _, K56.refl _, HF3.out, fun y hy => by
                rcases List.mem_append.1 hy with h | h
                · exact HP.out y h
                · rw [List.mem_singleton.1 h]; exact HX.out⟩
              · have HX := Lib.hid (show okAt (U k) 0 = false by unfold okAt; rw [if_pos rfl, HV.out, e2, e4]; simp; omega)
                have HG := Lib.hid hr
                clear h3 h1 hr
                gi_wp2_with (first | (gi_at_call 30; go_must (refine (CallsIn.inRound l (callsIn_wide.2 (outside_out _ 0 60 _ HG.out))).mono ?_; rintro e w' ⟨rfl, rfl⟩)) | ((with_reducible refine @And.intro (Fence.wide.fn 30) _ ?_ ?_); exact trivial))
                exact ⟨(KeepsOthers.setCell _ _ _).from _, rfl, Fr.setCell (S := fun b => b = w.heap.size) HF3.out.up (a := ⟨w.heap.size, 0, none⟩) (fun _ => rfl) _, HR3.out.set 0 _, ok1_none _ _ hxlt HX.out⟩
        · have hxp : (0 : Int) < (x : Int) := by omega
          have hxe : ((x : Int) == 0) = false := by simp; omega
          cases hv : okAt (U k) x
          · have HX := Lib.hid hv
            have hrange : ¬ (0 ≤ U k x ∧ U k x ≤ 1000000) := by
              simp only [okAt, hx0, if_false, Bool.and_eq_false_iff, decide_eq_false_iff_not] at hv
              omega
            have HG := Lib.hid hrange
            clear hv hx0 hrange
            gi_wp2_with (first | (gi_at_call 30; go_must (refine (CallsIn.inRound l (callsIn_wide.2 (outside_out _ 0 1000000 _ HG.out))).mono ?_; rintro e w' ⟨rfl, rfl⟩)) | ((with_reducible refine @And.intro (Fence.wide.fn 30) _ ?_ ?_); exact trivial))
            exact ⟨(KeepsOthers.setCell _ _ _).from _, rfl, Fr.setCell (S := fun b => b = w.heap.size) HF3.out.up (a := ⟨w.heap.size, 0, none⟩) (fun _ => rfl) _, HR3.out.set 0 _, ok1_none _ _ hxlt HX.out⟩
          · have HX := Lib.hid hv
            have hrange : 0 ≤ U k x ∧ U k x ≤ 1000000 := by
              simp only [okAt, hx0, if_false, Bool.and_eq_true, decide_eq_true_eq] at hv
              exact hv
            have HG := Lib.hid hrange
            clear hv hx0 hrange
            gi_wp2_with (first | (gi_at_call 30; go_must (refine (CallsIn.inRound l (callsIn_wide.2 (outside_in _ 0 1000000 _ HG.out))).mono ?_; rintro e w' ⟨rfl, rfl⟩)) | ((with_reducible refine @And.intro (Fence.wide.fn 30) _ ?_ ?_); exact trivial))
            exact ⟨KeepsFrom.refl _ _, K56.refl _, HF3.out, fun y hy => by
              rcases List.mem_append.1 hy with h | h
              · exact HP.out y h
              · rw [List.mem_singleton.1 h]; exact HX.out⟩
      case done =>
        rintro D W hD ⟨hF3, hall⟩ hK
        have HOK2 := Lib.hid (show okB U (k + 1) = true by
          simp only [okB, Bool.and_eq_true]
          exact ⟨HOK.out, ok1_all _ (fun x => hall x (by revert x; decide))⟩)
        have HF4 := Lib.hid (HF2.out.then hF3)
        have hM4 := HM2.out.fr hF3 (fun _ _ h _ => h)
        have HM4 := Lib.hid (show Marks (w.heap.size + 1) W ({ target := .collected D, args := #[] } :: ds) from ⟨D, rfl, by omega, hK, fun d hd e => by
          subst e
          have := HM2.out.lt D hd
          omega, hM4⟩)
        clear hall hF3 hM4 hK
        go_wp2_with fail
        exact ⟨⟨k + 1, _, _, _, _, _, _, _, by omega, HM4.out, HOK2.out, HF4.out, by rw [show ((k : Int) + 1) = ((k + 1 : Nat) : Int) by omega]⟩, by simp [CkM, intOf]; omega⟩
      case stop =>
        rintro D c pre W hD ⟨rfl, hF3, hR3, hbad⟩ hK
        have hM4 : Marks (w.heap.size + 1) W ds := HM2.out.fr hF3 (fun D h1 h2 _ => by omega)
        have HM4 := Lib.hid (show Marks (w.heap.size + 1) W ({ target := .collected D, args := #[] } :: ds) from ⟨D, rfl, by omega, hK, fun d hd e => by
          subst e
          have := HM2.out.lt D hd
          omega, hM4⟩)
        have hc7 := hR3.cell 0
        have HL := Lib.hid (show listE n U = 7 by unfold listE; rw [if_neg (by omega), if_neg (by rw [okB_false hlt hbad]; decide)])
        have HF4 := Lib.hid (show Fr (fun b => b = w.heap.size) w W from ((HF0.out.then HF2.out).up).trans hF3 (fun _ _ h => h))
        have HR4 := Lib.hid hR3
        clear hF3 hM4 hK hbad hR3
        go_wp2_with fail
        refine leaves_marks _ _ HM4.out (fun w' f => ?_)
        have hr7 := (HR4.out.fr f (fun h => by have := HR4.out; unfold RowB at this; rw [this] at h; cases h.2)).cell 0
        refine ⟨.int .i64 7, by simp [results, Tryd.results16, go_sem, hr7], by rw [HL.out], ?_⟩
        exact (HF4.out.mono (S' := fun k => w.heap.size ≤ k) (fun k _ h => by rw [h]; exact Nat.le_refl _) |>.trans f (fun k hk h => by have := h.1; omega)).mono (fun k hk h => by omega)
    · obtain rfl : k = n := by omega
      have hF3 := HF0.out.then HF.out
      have hRr := HR0.out.fr HF.out (fun h => h)
      have HRr := Lib.hid hRr
      have HF3 := Lib.hid hF3
      have hcr := hRr.cell 0
      have hfr := hRr.frozen 0
      have HL := Lib.hid (show listE k U = 0 by unfold listE; rw [if_neg (by omega), if_pos HOK.out])
      clear hF3 hRr hF
      go_wp2_with fail
      have HR5 := Lib.hid (HRr.out.set 0 (Value.int .i64 0))
      have HF5 := Lib.hid ((Fr.setCell (S := fun b => b = w.heap.size) HF3.out.up (a := ⟨w.heap.size, 0, none⟩) (fun _ => rfl) (Value.int .i64 0)))
      have HM5 := Lib.hid (show Marks (w.heap.size + 1) (wr.setCell ⟨w.heap.size, 0, none⟩ (Value.int .i64 0)) ds from HM.out.fr (S := fun b => b = w.heap.size) (Fr.setCell (S := fun b => b = w.heap.size) (Fr.refl _ wr) (a := ⟨w.heap.size, 0, none⟩) (fun _ => rfl) (Value.int .i64 0)) (fun D h1 h2 _ => by omega))
      generalize wr.setCell ⟨w.heap.size, 0, none⟩ (Value.int .i64 0) = W5 at *
      refine leaves_marks _ _ HM5.out (fun w' f => ?_)
      have hr7 := (HR5.out.fr f (fun h => by have := HR5.out; unfold RowB at this; rw [this] at h; cases h.2)).cell 0
      refine ⟨.int .i64 0, by simp [results, Tryd.results16, go_sem, hr7], by rw [HL.out], ?_⟩
      exact (HF5.out.mono (S' := fun k => w.heap.size ≤ k) (fun k _ h => by rw [h]; exact Nat.le_refl _) |>.trans f (fun k hk h => by have := h.1; omega)).mono (fun k hk h => by omega)
set_option maxRecDepth 100000 in
set_option maxHeartbeats 1000000 in
theorem check_many (n c : Nat) (a0 : Option Addr) (w : World) (hn : 70 < n) :
    Calls Tryd.prog 16 #[.slice a0 n c] w (Ret (.int .i64 3) w) := by
  have h1 : (70 : Int) < (n : Int) := by omega
  go_enter Tryd.func16, Tryd.ntmps16
  go_wp2_with fail
  refine bodyPost_ret (v := .int .i64 3) (by simp [results, Tryd.results16, go_sem]) rfl ⟨rfl, ?_⟩
  exact (Fr.refl _ w).alloc _
set_option maxRecDepth 100000 in
set_option maxHeartbeats 1000000 in
theorem check_zero (c : Nat) (a0 : Option Addr) (w : World) :
    Calls Tryd.prog 16 #[.slice a0 0 c] w (Ret (.int .i64 0) w) := by
  go_enter Tryd.func16, Tryd.ntmps16
  go_wp2_with fail
  refine wp_loop_once ?_
  go_wp2_with fail
  refine bodyPost_ret (v := .int .i64 0) (by simp [results, Tryd.results16, go_sem]) rfl ⟨rfl, ?_⟩
  exact (Fr.refl _ w).alloc _
/-- **check** -/
theorem check_walk (n c : Nat) (a0 : Option Addr) (U : Nat → Nat → Int) (w : World) (h : Uses w a0 n U) :
    Calls Tryd.prog 16 #[.slice a0 n c] w (Ret (.int .i64 (listE n U)) w) := by
  by_cases h1 : 70 < n
  · rw [show listE n U = 3 by unfold listE; rw [if_pos h1]]
    exact check_many n c a0 w h1
  · by_cases h0 : n = 0
    · subst h0
      exact check_zero c a0 w
    · obtain ⟨b, o, rfl, hb, hc⟩ := h (by omega)
      exact check_some n c b o U w (by omega) hb (Lib.hid hc)
end Go.Proofs.YtogjfifpbplahaaDoor
