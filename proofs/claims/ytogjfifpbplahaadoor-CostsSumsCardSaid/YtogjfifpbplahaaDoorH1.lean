/- Moves for a region that draws its order, one at a time: an operation is taken first, a call is carried out, the condition on the world is strengthened on the way. -/
import Derived.Test.YtogjfifpbplahaaDoorProg
import Derived.Deep.RegionHeld3
import Derived.WalkKit
namespace Go.Proofs.YtogjfifpbplahaaDoor
open Go.RowKit

section
variable {P : Program} {l : List Oper} {Q : Exit → Act → World → Prop} {md : Region.Mode} {S S' : World → Prop}

theorem held_get {i : Nat} {o : Oper} {rest : List Oper} (hl : l.drop i = o :: rest) : l.toArray[i]? = some o := by
  rw [List.getElem?_toArray, ← List.head?_drop, hl]
  rfl
/-- number i yields v in every world that meets S: it is taken first -/
theorem held_take {i : Nat} {o : Oper} {rest : List Oper} {v : Value} {fuel : Nat} {listed : Array Bool} {a : Act} {w : World} (hl : l.drop i = o :: rest)
    (hs : Region.noSelect l.toArray = true) (hf : Region.free md l.toArray listed i = true) (hr : (Region.ready md l.toArray listed).contains i = true)
    (hQ : ∀ c a w, Q (.panic c) (a.put o.dst v) w → Q (.panic c) a w) (hw : Region.wanted o (yielded l.toArray a.tmps) = true) (hy : ∀ w, S w → (execOp a.eval o).run P w = .ok (.value v) w) (hS : S w)
    (h : wpAnyH P md l.toArray Q S fuel (listed.setIfInBounds i true) (a.put o.dst v) w) : wpAnyH P md l.toArray Q S (fuel + 1) listed a w :=
  wpAnyH_take (held_get hl) hs hf hr hQ (Or.inl ⟨hw, hy⟩) hS h
/-- number i is not wanted: its guard is false -/
theorem held_skip {i : Nat} {o : Oper} {rest : List Oper} {fuel : Nat} {listed : Array Bool} {a : Act} {w : World} (hl : l.drop i = o :: rest)
    (hs : Region.noSelect l.toArray = true) (hf : Region.free md l.toArray listed i = true) (hr : (Region.ready md l.toArray listed).contains i = true)
    (hQ : ∀ c a w, Q (.panic c) (a.put o.dst undef) w → Q (.panic c) a w) (hw : Region.wanted o (yielded l.toArray a.tmps) = false) (hS : S w)
    (h : wpAnyH P md l.toArray Q S fuel (listed.setIfInBounds i true) (a.put o.dst undef) w) : wpAnyH P md l.toArray Q S (fuel + 1) listed a w :=
  wpAnyH_take (held_get hl) hs hf hr hQ (Or.inr ⟨hw, rfl⟩) hS h
/-- number i is the one that may come up: it is carried out -/
theorem held_step {i : Nat} {o : Oper} {rest : List Oper} {fuel : Nat} {listed : Array Bool} {a : Act} {w : World} (hl : l.drop i = o :: rest)
    (hr : Region.ready md l.toArray listed = [i]) (hw : Region.wanted o (yielded l.toArray a.tmps) = true)
    (h : ∀ K' : Act → World → Prop, Shut (∀ a w, S w → wpAnyH P md l.toArray Q S fuel (listed.setIfInBounds i true) a w → K' a w) → Oper.wp P o a w K' Q) : wpAnyH P md l.toArray Q S (fuel + 1) listed a w :=
  wpAnyH_ready hr (by simp) (AllReadyH.cons (held_get hl) (fun K' hK => by rw [if_pos hw]; exact h K' (fun a w hS hW => hK a w hS (fun _ => hW))) AllReadyH.nil)
/-- two may come up: each is carried out -/
theorem held_two {i j : Nat} {o o' : Oper} {rest rest' : List Oper} {fuel : Nat} {listed : Array Bool} {a : Act} {w : World} (hl : l.drop i = o :: rest) (hl' : l.drop j = o' :: rest')
    (hr : Region.ready md l.toArray listed = [i, j]) (hw : Region.wanted o (yielded l.toArray a.tmps) = true) (hw' : Region.wanted o' (yielded l.toArray a.tmps) = true)
    (h : ∀ K' : Act → World → Prop, Shut (∀ a w, S w → wpAnyH P md l.toArray Q S fuel (listed.setIfInBounds i true) a w → K' a w) → Oper.wp P o a w K' Q)
    (h' : ∀ K' : Act → World → Prop, Shut (∀ a w, S w → wpAnyH P md l.toArray Q S fuel (listed.setIfInBounds j true) a w → K' a w) → Oper.wp P o' a w K' Q) : wpAnyH P md l.toArray Q S (fuel + 1) listed a w :=
  wpAnyH_ready hr (by simp) (AllReadyH.cons (held_get hl) (fun K' hK => by rw [if_pos hw]; exact h K' (fun a w hS hW => hK a w hS (fun _ => hW)))
    (AllReadyH.cons (held_get hl') (fun K' hK => by rw [if_pos hw']; exact h' K' (fun a w hS hW => hK a w hS (fun _ => hW))) AllReadyH.nil))
/-- the condition on the world is strengthened -/
theorem held_mono (hS : ∀ w, S' w → S w) : ∀ (fuel : Nat) (listed : Array Bool) (a : Act) (w : World), wpAnyH P md l.toArray Q S' fuel listed a w → wpAnyH P md l.toArray Q S fuel listed a w
  | 0, _, _, _, h => h
  | fuel + 1, _, _, _, h => ⟨h.1, fun i hi => wpOp_mono (fun a' w' h' => ⟨hS _ h'.1, held_mono hS fuel _ a' w' h'.2⟩) (h.2 i hi)⟩
theorem held_done {listed : Array Bool} {a : Act} {w : World} {fuel : Nat} (hr : Region.ready md l.toArray listed = []) (h : Q .normal a w) : wpAnyH P md l.toArray Q S fuel listed a w :=
  wpAnyH_done hr h fuel
end
end Go.Proofs.YtogjfifpbplahaaDoor
