/- Walks over package bits: Not, Same, Bytes, Load. -/
import Derived.Test.YtbnjeglbbadcbaaDoorW8
import Derived.Laws.StructEq
namespace Go.Proofs.YtbnjeglbbadcbaaDoor
open Go.RowKit
open BM
set_option linter.unusedVariables false

def eqW (x y : Nat → Nat) : Nat → Nat → Bool
  | _, 0 => true
  | s, n + 1 => (x s == y s) && eqW x y (s + 1) n
theorem eqW_iff (x y : Nat → Nat) : ∀ n s, eqW x y s n = true ↔ ∀ j, s ≤ j → j < s + n → x j = y j := by
  intro n
  induction n with
  | zero => intro s; simp [eqW]; intro j h1 h2; omega
  | succ n ih =>
    intro s
    simp only [eqW, Bool.and_eq_true, beq_iff_eq, ih]
    constructor
    · rintro ⟨h1, h2⟩ j h3 h4
      by_cases e : j = s
      · subst e; exact h1
      · exact h2 j (by omega) (by omega)
    · intro h
      exact ⟨h s (Nat.le_refl _) (by omega), fun j h1 h2 => h j (by omega) (by omega)⟩

theorem run_part_word (ws : Nat → Nat) (k : Nat) (hk : k < 64) (w : World) : (part 65 (wlist ws).toArray (k * 1)).run Tryd.prog w = .ok (.int .u64 (ws k)) w := by
  have ha := Tryd.isAgg65
  have hg : (wlist ws)[k]? = some (.int .u64 (ws k)) := wlist_get ws k hk
  simp [part, ha, go_sem, hg]

theorem run_equalIn_words (d : Nat) (x y : Nat → Nat) (w : World) : (Op.equalIn (d + 2) 66 (.agg (wlist x).toArray) (.agg (wlist y).toArray)).run Tryd.prog w = .ok (eqW x y 0 64) w := by
  have hs := Tryd.sizeOf65
  rw [Op.equalIn]
  simp only [Sem.run_bind, run_underlying Tryd.underlying66, Result.andThen_ok, hs, Std.Legacy.Range.forIn_eq_forIn_range', Std.Legacy.Range.size, Nat.sub_zero, Nat.add_sub_cancel, Nat.div_one]
  have key : ∀ n s w, s + n = 64 → ((Sem.run Tryd.prog (forIn (List.range' s n) (none, ()) fun i (_ : Option Bool × Unit) => do
      let a ← part 65 (wlist x).toArray (i * 1)
      let b ← part 65 (wlist y).toArray (i * 1)
      let r ← Op.equalIn (d + 1) 65 a b
      if (!r) = true then pure (ForInStep.done (some false, ())) else do
        pure PUnit.unit
        pure (ForInStep.yield (none, ()))) w) = .ok (if eqW x y s n then none else some false, ()) w) := by
    intro n
    induction n with
    | zero => intro s w hs; simp [eqW]
    | succ n ih =>
      intro s w hs
      rw [List.range'_succ, List.forIn_cons]
      simp only [Sem.run_bind, run_part_word x s (by omega), run_part_word y s (by omega), Result.andThen_ok]
      rw [run_equalIn_int (P := Tryd.prog) w d 65 .u64 .u64 _ _ Tryd.underlying65]
      simp only [Result.andThen_ok]
      by_cases h : x s = y s
      · have e : ((x s : Int) == (y s : Int)) = true := by simp [h]
        simp only [e, Bool.not_true, Bool.false_eq_true, if_false, Sem.run_pure, Result.andThen_ok]
        rw [ih (s + 1) w (by omega)]
        simp [eqW, h]
      · have e : ((x s : Int) == (y s : Int)) = false := by simp; omega
        have e2 : (x s == y s) = false := by simp [h]
        simp [e, eqW, e2]
  have k0 := key 64 0 w rfl
  rw [k0]
  simp only [Result.andThen_ok]
  cases eqW x y 0 64 <;> rfl
theorem words_eql (x y : Nat → Nat) (w : World) : (binOp .eql 66 (.agg (wlist x).toArray) (.agg (wlist y).toArray)).run Tryd.prog w = .ok (.bool (eqW x y 0 64)) w := by
  rw [run_eql_struct, run_equalIn_words 9998]
  rfl
theorem words_neq (x y : Nat → Nat) (w : World) : (binOp .neq 66 (.agg (wlist x).toArray) (.agg (wlist y).toArray)).run Tryd.prog w = .ok (.bool (!eqW x y 0 64)) w := by
  rw [run_neq_struct, run_equalIn_words 9998]
  rfl
theorem words_load (w : World) (b n : Nat) (ws : Nat → Nat) (md : Bool) (h : MapB w b ws n md) : (Instr.loadAt 66 (.pointer (some ⟨b, 0, none⟩))).run Tryd.prog w = .ok (.agg (wlist ws).toArray) w :=
  run_loadAt_mid w b 0 66 (wlist ws) _ h.range Tryd.underlying66 rfl (by rw [wlist_length]; exact info66)

theorem wpQuiet_load_mid {P : Program} {ops : Array Oper} {C : World → Prop} {Q : Act → Prop} {a : Act} {o : Oper} {rest : List Oper} (hw : Region.wanted o (yielded ops a.tmps) = true)
    (ty : TypeId) (x : Operand) (ho : o.op = .load ty x) (b f : Nat) (hx : a.eval x = .pointer (some ⟨b, f, none⟩)) (cs : List Value) (d : TypeDesc) (hS : ∀ w, C w → w.rangeAt b f cs)
    (hu : P.underlying ty = some d) (hd : d.isRow = true) (hi : (P.info? ty).map (·.size) = some cs.length) (h : wpQuiet P ops C Q rest (a.put o.dst (.agg cs.toArray))) : wpQuiet P ops C Q (o :: rest) a := by
  refine wpQuiet_step (fun K hK => ?_)
  rw [if_pos hw]
  refine ⟨.agg cs.toArray, fun w hC => ?_, hK _ h⟩
  unfold Oper.quietAt execOp
  simp only [ho, hx, Instr.loadAt, Instr.sureAddr, Sem.run_bind, Sem.run_pure, Result.andThen_ok, run_loadVar_mid w b f ty cs d (hS w hC) hu hd hi]
  exact ⟨rfl, rfl⟩

set_option maxRecDepth 100000 in
set_option maxHeartbeats 1000000 in
theorem same_eq (a b m : Nat) (x y : Nat → Nat) (w : World) (ha : MapB w a x m true) (hb : MapB w b y m true) :
    Calls Tryd.prog 22 #[.pointer (some ⟨a, 0, none⟩), .pointer (some ⟨b, 0, none⟩)] w fun e w' => e = .returned (.bool (eqW x y 0 64)) ∧ ∃ q, w' = w.drewN q := by
  have a1 := ha.made
  have a2 := ha.len
  have b1 := hb.made
  have b2 := hb.len
  have la := Lib.hid ha.range
  have lb := Lib.hid hb.range
  have we := fun W => words_eql x y W
  have t1 : ((m : Int) == (m : Int)) = true := by simp
  have la1 := Lib.hid (wlist_length x)
  have lb1 := Lib.hid (wlist_length y)
  clear ha hb
  generalize wlist x = xs at *
  generalize wlist y = ys at *
  generalize eqW x y 0 64 = r at *
  go_enter Tryd.func22, Tryd.ntmps22
  go_wp2
  refine wp_region_quiet_lit (by kernel_rfl) (by kernel_rfl) ?_
  repeat (go_big_quiet_step ((go_at_call 42; exact Calls.quiet_of_same (ok_any _ true _ (by first | exact a1 | exact b1)))))
  refine wpQuiet_load_mid rfl 66 _ rfl a 0 rfl xs _ (fun W hW => by obtain ⟨n, rfl⟩ := hW; exact la.out) Tryd.underlying66 rfl (by rw [la1.out]; exact info66) ?_
  go_simp
  repeat (go_big_quiet_step (fail))
  refine wpQuiet_load_mid rfl 66 _ rfl b 0 rfl ys _ (fun W hW => by obtain ⟨n, rfl⟩ := hW; exact lb.out) Tryd.underlying66 rfl (by rw [lb1.out]; exact info66) ?_
  go_simp
  repeat (go_big_quiet_step (fail))
  refine wpQuiet_nil ?_
  go_simp
  intro nq
  go_wp2
  go_ret
  exact ⟨rfl, _, rfl⟩
end Go.Proofs.YtbnjeglbbadcbaaDoor
