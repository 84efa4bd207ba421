/- costs.fields: the maker; the law of a range over it; marks of such ranges among the deferred calls. -/
import Derived.Test.YtogjfifpbplahaaDoorF1
namespace Go.Proofs.YtogjfifpbplahaaDoor
open Go.RowKit Go.Shelf
set_option linter.unusedVariables false

theorem fields_make (p : Option Addr) (w : World) : Calls Tryd.prog 21 #[.pointer p] w fun e w' => e = .returned (.func (.func 32) #[] #[.pointer (some ⟨w.heap.size, 0, none⟩)]) ∧ w' = w.alloc (.cells #[.pointer p] 55) := by
  have hmf : ∀ (fn : Fn) (first cap : Array Value) (w : World), (Instr.makeFunc fn first cap).run Tryd.prog w = .ok (.func fn first cap) w := fun _ _ _ _ => rfl
  go_enter Tryd.func21, Tryd.ntmps21
  go_wp2
  go_ret
  exact ⟨rfl, rfl⟩
theorem fields_stops (Bx B : Nat) (w : World) (hBx : Bx < w.heap.size) (hc : w.cell? ⟨Bx, 0, none⟩ = some (.pointer (some ⟨B, 0, none⟩))) :
    SeqStopsK Fence.wide 3 Tryd.prog 32 #[.pointer (some ⟨Bx, 0, none⟩)] (enc8 B) K56 (fun xs => xs = all8) (fun _ => True) 8 w :=
  fun l J Jx W hW hJ _ hY h0 => fields_in l Bx B J Jx W hJ hY ((hW.cell (p := ⟨Bx, 0, none⟩) hBx).trans hc) h0
theorem k56_b {w : World} (W : World) (l : Nat) (o o' : Obj) (hl : w.heap.size ≤ l) (h : W.heap[l]? = some o) (hc : o.isCells = false) (_ : o.isWalk = false) : K56 W (W.putObj l o') := by
  have hlt : l < W.heap.size := (Array.getElem?_eq_some_iff.1 h).1
  refine ⟨by simp [World.putObj], fun k c f hk => ?_⟩
  by_cases e : k = l
  · subst e
    rw [h] at hk
    cases hk
    simp [Obj.isCells] at hc
  · rw [World.putObj_heap_other (fun h => e h)]; exact hk

/-- the law of 'for i, n := range fields(&x)' -/
theorem range_fields {Q : Exit → Act → World → Prop} {a : Act} {w : World} {ps : Array Tmp} {g : Operand} {assign body : Code} (Bx B : Nat)
    (hg : a.eval g = .func (.func 32) #[] #[.pointer (some ⟨Bx, 0, none⟩)]) (hps : ps.size = 2) (hBx : Bx < w.heap.size) (hc : w.cell? ⟨Bx, 0, none⟩ = some (.pointer (some ⟨B, 0, none⟩)))
    (I : List (Fin 8) → World → Prop) (Ix : Code → List (Fin 8) → World → Prop) (hI : OwnFrom w.heap.size I) (hIx : ∀ c, OwnFrom w.heap.size (Ix c)) (h0 : I [] w) (a₁ : Fin 8 → Act)
    (hassign : ∀ (l : Nat) (x : Fin 8) (W : World) (K : Act → World → Prop), K (a₁ x) W →
      assign.wpIn (Fence.wide.inRound l) 2 Tryd.prog (Exit.then K (fun _ _ _ => False)) { tmps := (ps.zip (enc8 B x)).foldl (fun t (p, v) => t.setIfInBounds p v) a.tmps, defers := [] } W)
    (hbody : ∀ (l : Nat) (pre : List (Fin 8)) (x : Fin 8) (W : World), I pre W → pre.length < 8 → body.wpIn (Fence.wide.inRound l) 2 Tryd.prog (ownPostG w.heap.size K56 I Ix (pre ++ [x]) W) (a₁ x) W)
    (hdone : ∀ (D : Nat) (W : World), w.heap.size ≤ D → I all8 W → W.heap[D]? = some (.deferred (some [])) → Q .normal { a with defers := { target := .collected D, args := #[] } :: a.defers } W)
    (hstop : ∀ (D : Nat) (c : Code) (pre : List (Fin 8)) (W : World), w.heap.size ≤ D → Ix c pre W → W.heap[D]? = some (.deferred (some [])) → c.wp Tryd.prog Q { a with defers := { target := .collected D, args := #[] } :: a.defers } W) :
    (Code.rangeFunc g ps assign body).wp Tryd.prog Q a w := by
  refine (wpIn_wide (n := 4)).1 ?_
  exact wpIn_rangeFunc_ownG (F := Fence.wide) (n := 4) rfl (by omega) (gf := 32) (lb := #[.pointer (some ⟨Bx, 0, none⟩)]) hg trivial (enters_of Tryd.func32 (by kernel_rfl) rfl)
    (fields_stops Bx B w hBx hc) (fun h k => h.t k) (fun W l o o' hl h hc hw => k56_b (w := w) W l o o' hl h hc hw) (Below.refl _ _) (fun x => hps.symm) I Ix hI hIx h0 a₁ hassign hbody
    (fun D xs W hD hS hI hK => by subst hS; exact hdone D W hD hI hK) (fun D c pre W hD _ hI hK => wpIn_wide.2 (hstop D c pre W hD hI hK))

theorem ownFrom_fr {β : Type} {S : Nat → Prop} {B : Nat} {w₀ : World} (hB : w₀.heap.size ≤ B) : OwnFrom B (fun (_ : β) W => Fr S w₀ W) :=
  fun _ W W' row hs hg hr => ⟨hg.os.trans hs.os, hg.tape.trans hs.tape, hg.output.trans hs.output, Nat.le_trans hs.size hg.size, fun k hk hn =>
    (hg.block k (Nat.lt_of_lt_of_le hk hs.size) (fun e => by have := (hr k e.symm).1; omega)).trans (hs.block k hk hn)⟩

/-- the frame's deferred calls are marks of ranges that are over: different blocks from z on -/
def Marks (z : Nat) (w : World) : List Deferred → Prop
  | [] => True
  | d :: ds => ∃ D, d = { target := .collected D, args := #[] } ∧ z ≤ D ∧ w.heap[D]? = some (.deferred (some [])) ∧ (∀ d' ∈ ds, d' ≠ { target := .collected D, args := #[] }) ∧ Marks z w ds
theorem Marks.kept {z : Nat} {w w' : World} : ∀ {ds : List Deferred}, Marks z w ds → (∀ D, z ≤ D → w.heap[D]? = some (.deferred (some [])) → { target := .collected D, args := #[] } ∈ ds → w'.heap[D]? = some (.deferred (some []))) → Marks z w' ds
  | [], _, _ => trivial
  | _ :: ds, ⟨D, h1, h2, h3, h4, h5⟩, hk => ⟨D, h1, h2, hk D h2 h3 (by rw [h1]; exact List.mem_cons_self), h4, h5.kept (fun D' a b c => hk D' a b (List.mem_cons_of_mem _ c))⟩
theorem Marks.fr {z : Nat} {S : Nat → Prop} {w w' : World} {ds : List Deferred} (h : Marks z w ds) (f : Fr S w w') (hC : ∀ D, z ≤ D → S D → w.heap[D]? = some (.deferred (some [])) → False) : Marks z w' ds :=
  h.kept (fun D h1 h2 _ => (f.block D (Array.getElem?_eq_some_iff.1 h2).1 (fun hs => hC D h1 hs h2)).trans h2)
theorem Marks.lt {z : Nat} {w : World} : ∀ {ds : List Deferred}, Marks z w ds → ∀ D, { target := .collected D, args := #[] } ∈ ds → D < w.heap.size
  | _ :: ds, ⟨D, h1, h2, h3, h4, h5⟩, D', hm => by
    rcases List.mem_cons.1 hm with e | e
    · rw [h1] at e
      injection e with e _
      injection e with e
      subst e
      exact (Array.getElem?_eq_some_iff.1 h3).1
    · exact h5.lt D' e
/-- a function's end with such marks -/
theorem leaves_marks {z : Nat} {n : Nat} {P : Program} {fn : Func} {tmps : Array Value} {R : Ending → World → Prop} : ∀ (ds : List Deferred) (w : World), Marks z w ds →
    (∀ w', Fr (fun k => z ≤ k ∧ w.heap[k]? = some (.deferred (some []))) w w' → LeavesInM Fence.wide n P fn tmps R [] .returning w') → LeavesInM Fence.wide n P fn tmps R ds .returning w
  | [], w, _, h => h w (Fr.refl _ _)
  | d :: ds, w, ⟨D, h1, h2, h3, h4, h5⟩, h => by
    subst h1
    refine ⟨by simp, .inl ⟨D, _, rfl, run_takeDeferred h3, ?_⟩⟩
    refine leaves_marks ds _ (h5.kept (fun D' a b c => ?_)) (fun w' f => h w' ?_)
    · rw [World.putObj_heap_other (fun e => h4 _ c (by rw [e]))]; exact b
    · refine Fr.trans (b := w.putObj D (.deferred none)) (S' := fun k => z ≤ k ∧ (w.putObj D (.deferred none)).heap[k]? = some (.deferred (some []))) ⟨rfl, rfl, rfl, by simp [World.putObj], fun k hk hn => ?_⟩ f (fun k hk hk2 => ?_)
      · by_cases e : k = D
        · subst e; exact absurd ⟨h2, h3⟩ hn
        · exact World.putObj_heap_other (fun h => e h)
      · by_cases e : k = D
        · subst e; exact ⟨h2, h3⟩
        · rw [World.putObj_heap_other (fun h => e h)] at hk2; exact hk2
end Go.Proofs.YtogjfifpbplahaaDoor
