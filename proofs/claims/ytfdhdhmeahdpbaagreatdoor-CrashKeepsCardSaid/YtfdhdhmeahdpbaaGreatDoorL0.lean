/- What is laid: no place twice, by bits. -/
import Derived.LaidLaws
import Derived.LaidHandle
import Derived.JoinedOf
namespace Ev
open Go
/-- no place twice: by bits -/
def ndB : List MemPlace → Nat → Bool
  | [], _ => true
  | x :: l, m => match x with
    | .cell b o => Nat.blt o 1024 && (bif Nat.testBit m (b * 1024 + o) then false else ndB l (Nat.lor m (Nat.shiftLeft 1 (b * 1024 + o))))
    | .map _ => false
theorem ndB_ok : ∀ (l : List MemPlace) (m : Nat), ndB l m = true → l.Nodup ∧ ∀ x ∈ l, ∃ b o, x = .cell b o ∧ o < 1024 ∧ Nat.testBit m (b * 1024 + o) = false := by
  intro l
  induction l with
  | nil => intro m _; exact ⟨List.nodup_nil, fun x hx => by cases hx⟩
  | cons x l ih =>
    intro m h
    cases x with
    | map b => cases h
    | cell b o =>
      have h : (Nat.blt o 1024 && (bif Nat.testBit m (b * 1024 + o) then false else ndB l (Nat.lor m (Nat.shiftLeft 1 (b * 1024 + o))))) = true := h
      obtain ⟨h1, h2⟩ := Bool.and_eq_true_iff.1 h
      have h1 : o < 1024 := Nat.lt_of_succ_le (Nat.le_of_ble_eq_true h1)
      cases hb : Nat.testBit m (b * 1024 + o) with
      | true => rw [hb] at h2; cases h2
      | false =>
        rw [hb] at h2
        obtain ⟨i1, i2⟩ := ih _ h2
        have split : ∀ b' o', o' < 1024 → Nat.testBit (Nat.lor m (Nat.shiftLeft 1 (b * 1024 + o))) (b' * 1024 + o') = false → Nat.testBit m (b' * 1024 + o') = false ∧ ¬ (b' = b ∧ o' = o) := by
          intro b' o' ho hf
          have hf : Nat.testBit (m ||| 1 <<< (b * 1024 + o)) (b' * 1024 + o') = false := hf
          rw [Nat.testBit_or, Bool.or_eq_false_iff] at hf
          refine ⟨hf.1, fun ⟨e1, e2⟩ => ?_⟩
          subst e1; subst e2
          have := hf.2
          rw [Nat.testBit_shiftLeft] at this
          simp at this
        refine ⟨List.nodup_cons.2 ⟨fun hm => ?_, i1⟩, fun x hx => ?_⟩
        · obtain ⟨b', o', e, ho, hf⟩ := i2 _ hm
          cases e
          exact (split b o ho hf).2 ⟨rfl, rfl⟩
        · rcases List.mem_cons.1 hx with rfl | hx
          · exact ⟨b, o, rfl, h1, hb⟩
          · obtain ⟨b', o', e, ho, hf⟩ := i2 _ hx
            exact ⟨b', o', e, ho, (split b' o' ho hf).1⟩
theorem laidMet_by {P : Program} {w : World} {l : List (String × DataW Unit)} (fuel : Nat) (h1 : (DataW.laidRun P w fuel (l.map (·.1))).map (·.1) = some l)
    (h2 : (DataW.laidRun P w fuel (l.map (·.1))).map (fun x => ndB x.2 0 && laidRowsB P w x.2) = some true) : laidMet P l w := by
  cases hr : DataW.laidRun P w fuel (l.map (·.1)) with
  | none => rw [hr] at h1; cases h1
  | some x =>
    obtain ⟨l', ps⟩ := x
    rw [hr] at h1 h2
    simp only [Option.map_some, Option.some.injEq] at h1 h2
    subst h1
    obtain ⟨h3, h4⟩ := Bool.and_eq_true_iff.1 h2
    exact laidMet_of_run fuel hr (decide_eq_true (ndB_ok ps 0 h3).1) h4
end Ev
