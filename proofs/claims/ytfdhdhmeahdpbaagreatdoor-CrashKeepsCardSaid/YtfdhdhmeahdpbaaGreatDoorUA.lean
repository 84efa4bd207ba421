/- Slices of the call's own, regions that draw their order, lists of numbers: some, Equal, SameInts, and the functions that say what is wanted, walked. -/
import Derived.Test.YtfdhdhmeahdpbaaGreatDoorB0
import Derived.Maps.AppendAt
import Derived.Deep.Upon
import Derived.OwnWalkIn
import Derived.Test.YtfdhdhmeahdpbaaGreatDoorProg
import Derived.Deep.RegionHeld3
import Derived.WalkKit
namespace Go.Proofs.YtfdhdhmeahdpbaaGreatDoor
open Go.RowKit
set_option linter.unusedVariables false

section
variable {P : Program}
theorem run_append_any (w : World) (base : Nat) (t ty e : TypeId) (i : TypeInfo) (z : Value) (size bytes : Nat) (ht : P.underlying t = some (.slice e)) (hi : P.info? e = some i) (hz : i.zero = some z)
    (hsize : i.size = size) (hby : i.bytes = bytes) (hzs : z.cells.size = size) (hsz : 0 < size)
    (v : Value) (n : Nat) (xs : List Value) (hown : w.ownsRow base e size v n xs)
    (a0 : Option Addr) (m c : Nat) (news : List Value) (hl : news.length = m * size) (hnews : 0 < m → ∃ b o, a0 = some ⟨b, o, none⟩ ∧ ∀ j u, news[j]? = some u → w.cell? ⟨b, o + j, none⟩ = some u) (h1 : ∀ u ∈ news, u.oneCell' = true)
    (h63 : n + m ≤ maxLen) (hbytes : (n + m) * bytes ≤ 140737488355328) (hbase : base ≤ w.heap.size) :
    ∃ v' w', (Builtin.append_ #[t, t] ty #[v, .slice a0 m c]).run P w = .ok v' w' ∧ w'.ownsRow base e size v' (n + m) (xs ++ news) ∧ w.grownBy w' v.ownBlock ∧ (v'.ownBlock = v.ownBlock ∨ v'.ownBlock = some w.heap.size) := by
  by_cases h0 : m = 0
  · subst h0
    have hnil : news = [] := List.eq_nil_of_length_eq_zero (by simpa using hl)
    subst hnil
    have hs : Src P i.size t (.slice a0 0 c) 0 [] w := by
      cases a0 with
      | none => exact ⟨.inl ⟨_, ht⟩, fun _ => rfl, run_firstCells_none w _ 0 0 c, run_firstCells_none w.drew _ 0 0 c, by simp, fun _ h => by cases h⟩
      | some a => exact Src.ofSlice w ht a 0 c [] (by simp) (fun j u h => by simp at h) (fun _ h => by cases h)
    have key : ∀ (b : Option Addr) (cap : Nat), n ≤ cap → v = .slice b n cap → (Builtin.append_ #[t, t] ty #[v, .slice a0 0 c]).run P w = .ok v w := by
      intro b cap hle hv
      rw [hv]
      exact run_append_nothing (P := P) w t t ty e i ht hi b n cap hle (.slice a0 0 c) hs
    have hrun : (Builtin.append_ #[t, t] ty #[v, .slice a0 0 c]).run P w = .ok v w := by
      rcases hown.2 with ⟨hv, hn⟩ | ⟨g, cap, cur, hv, _, _, hnc, _⟩
      · exact key none 0 (by omega) (by rw [hn]; exact hv)
      · exact key _ cap hnc hv
    exact ⟨v, w, hrun, by simpa using hown, ⟨rfl, rfl, rfl, Nat.le_refl _, fun _ _ _ => rfl⟩, Or.inl rfl⟩
  · obtain ⟨b, o, rfl, hc⟩ := hnews (by omega)
    obtain ⟨v', w', hr, h2, h3, h4, h5⟩ := run_append_own_at (P := P) w base t ty e i z size bytes ht hi hz hsize hby hzs hsz v n xs hown ⟨b, o, none⟩ m c news hl (fun j u hj => by rw [addr_add]; exact hc j u hj) h1 h63 hbytes hbase
    exact ⟨v', w', hr, h2, h3, h5⟩
theorem wp_append_any {w : World} {o : Oper} {a : Act} {K : Act → World → Prop} {Q : Exit → Act → World → Prop} (s x : Operand) (t : TypeId)
    (ho : o.op = .call { callee := .builtin .append, args := #[s, x], argTypes := #[t, t] })
    (base : Nat) (e : TypeId) (i : TypeInfo) (z : Value) (size bytes : Nat) (ht : P.underlying t = some (.slice e)) (hi : P.info? e = some i) (hz : i.zero = some z)
    (hsize : i.size = size) (hby : i.bytes = bytes) (hzs : z.cells.size = size) (hsz : 0 < size)
    (v : Value) (n : Nat) (xs : List Value) (hs : a.eval s = v) (hown : w.ownsRow base e size v n xs)
    (a0 : Option Addr) (m c : Nat) (news : List Value) (hx : a.eval x = .slice a0 m c) (hl : news.length = m * size) (hnews : 0 < m → ∃ b o, a0 = some ⟨b, o, none⟩ ∧ ∀ j u, news[j]? = some u → w.cell? ⟨b, o + j, none⟩ = some u) (h1 : ∀ u ∈ news, u.oneCell' = true)
    (h63 : n + m ≤ maxLen) (hbytes : (n + m) * bytes ≤ 140737488355328) (hbase : base ≤ w.heap.size)
    (h : ∀ v' w', w'.ownsRow base e size v' (n + m) (xs ++ news) → w.grownBy w' v.ownBlock → (v'.ownBlock = v.ownBlock ∨ v'.ownBlock = some w.heap.size) → K (a.put o.dst v') w') :
    Oper.wp P o a w K Q := by
  obtain ⟨v', w', hr, h2, h3, h5⟩ := run_append_any (P := P) w base t o.type e i z size bytes ht hi hz hsize hby hzs hsz v n xs hown a0 m c news hl hnews h1 h63 hbytes hbase
  unfold Oper.wp execOp
  simp only [ho, resolve, invoke, builtin, Sem.run_bind, Sem.run_pure, Result.andThen_ok, List.map_toArray, List.map_cons, List.map_nil, hs, hx, hr]
  exact h v' w' h2 h3 h5
theorem wpList_append_any {w : World} {ops : Array Oper} {rest : List Oper} {o : Oper} {a : Act} {Q : Exit → Act → World → Prop} (hgd : o.guard = none) (s x : Operand) (t : TypeId)
    (ho : o.op = .call { callee := .builtin .append, args := #[s, x], argTypes := #[t, t] })
    (base : Nat) (e : TypeId) (i : TypeInfo) (z : Value) (size bytes : Nat) (ht : P.underlying t = some (.slice e)) (hi : P.info? e = some i) (hz : i.zero = some z)
    (hsize : i.size = size) (hby : i.bytes = bytes) (hzs : z.cells.size = size) (hsz : 0 < size)
    (v : Value) (n : Nat) (xs : List Value) (hs : a.eval s = v) (hown : w.ownsRow base e size v n xs)
    (a0 : Option Addr) (m c : Nat) (news : List Value) (hx : a.eval x = .slice a0 m c) (hl : news.length = m * size) (hnews : 0 < m → ∃ b o, a0 = some ⟨b, o, none⟩ ∧ ∀ j u, news[j]? = some u → w.cell? ⟨b, o + j, none⟩ = some u) (h1 : ∀ u ∈ news, u.oneCell' = true)
    (h63 : n + m ≤ maxLen) (hbytes : (n + m) * bytes ≤ 140737488355328) (hbase : base ≤ w.heap.size)
    (h : ∀ v' w', w'.ownsRow base e size v' (n + m) (xs ++ news) → w.grownBy w' v.ownBlock → (v'.ownBlock = v.ownBlock ∨ v'.ownBlock = some w.heap.size) → wpList P ops Q rest (a.put o.dst v') w') :
    wpList P ops Q (o :: rest) a w := by
  refine wpList_plain hgd fun K hK => ?_
  exact wp_append_any s x t ho base e i z size bytes ht hi hz hsize hby hzs hsz v n xs hs hown a0 m c news hx hl hnews h1 h63 hbytes hbase (fun v' w' a1 a2 a3 => hK _ _ (h v' w' a1 a2 a3))
end
/-- what the call's own slice holds -/
theorem own_slice {w : World} {base : Nat} {e : TypeId} {size : Nat} {v : Value} {n : Nat} {xs : List Value} (h : w.ownsRow base e size v n xs) :
    ∃ a0 c, v = .slice a0 n c ∧ n ≤ c ∧ (0 < n → ∃ g, a0 = some ⟨g, 0, none⟩ ∧ base ≤ g ∧ g < w.heap.size ∧ ∀ j u, xs[j]? = some u → w.cell? ⟨g, j, none⟩ = some u) := by
  rcases h.2 with ⟨rfl, rfl⟩ | ⟨g, cap, cur, rfl, hb, hg, hnc, hcm, hcs, ht⟩
  · exact ⟨none, 0, rfl, Nat.le_refl _, fun h => absurd h (by omega)⟩
  · refine ⟨_, cap, rfl, hnc, fun hn => ⟨g, rfl, hb, (Array.getElem?_eq_some_iff.1 hg).1, fun j u hj => ?_⟩⟩
    have := h.cells (g := g) rfl j u hj
    rw [addr_add] at this
    rw [Nat.zero_add] at this
    exact this
theorem fr_grow {w0 w w' : World} {row : Option Nat} (h : Fr (fun _ => False) w0 w) (k : w.grownBy w' row) (hg : ∀ g, row = some g → w0.heap.size ≤ g) : Fr (fun _ => False) w0 w' :=
  ⟨k.os.trans h.os, k.tape.trans h.tape, k.output.trans h.output, Nat.le_trans h.size k.size, fun i hi _ =>
    (k.block i (Nat.lt_of_lt_of_le hi h.size) (fun e => by have := hg i e.symm; omega)).trans (h.block i hi (fun h => h))⟩
theorem own_block_ge {w : World} {base : Nat} {e : TypeId} {size : Nat} {v : Value} {n : Nat} {xs : List Value} (h : w.ownsRow base e size v n xs) : ∀ g, v.ownBlock = some g → base ≤ g := fun g hg => (h.lt g hg).1
/-- the call's own slice stays, whatever is made or written elsewhere -/
theorem own_fr {w w' : World} {S : Nat → Prop} {base : Nat} {e : TypeId} {size : Nat} {v : Value} {n : Nat} {xs : List Value} (h : w.ownsRow base e size v n xs) (f : Fr S w w') (hS : ∀ g, v.ownBlock = some g → ¬ S g) : w'.ownsRow base e size v n xs := by
  rcases h.2 with ⟨rfl, rfl⟩ | ⟨g, cap, cur, rfl, hb, hg, hr⟩
  · exact ⟨h.1, .inl ⟨rfl, rfl⟩⟩
  · exact ⟨h.1, .inr ⟨g, cap, cur, rfl, hb, (f.block g (Array.getElem?_eq_some_iff.1 hg).1 (hS g rfl)).trans hg, hr⟩⟩
theorem own_mono {w : World} {base base' : Nat} {e : TypeId} {size : Nat} {v : Value} {n : Nat} {xs : List Value} (h : w.ownsRow base e size v n xs) (hb : base' ≤ base) : w.ownsRow base' e size v n xs := by
  rcases h.2 with ⟨rfl, rfl⟩ | ⟨g, cap, cur, rfl, hb2, r⟩
  · exact ⟨h.1, .inl ⟨rfl, rfl⟩⟩
  · exact ⟨h.1, .inr ⟨g, cap, cur, rfl, Nat.le_trans hb hb2, r⟩⟩
theorem own_apart {w : World} {b b' e e' s s' n n' : Nat} {v v' : Value} {xs xs' : List Value} (h : w.ownsRow b e s v n xs) (h' : w.ownsRow b' e' s' v' n' xs') (hne : e ≠ e') : ∀ g, v.ownBlock = some g → v'.ownBlock ≠ some g := by
  rcases h.2 with ⟨rfl, _⟩ | ⟨g, cap, cur, rfl, _, hg, _⟩
  · intro g h; cases h
  · rcases h'.2 with ⟨rfl, _⟩ | ⟨g', cap', cur', rfl, _, hg', _⟩
    · intro g h h2; cases h2
    · intro g2 h2 h3
      cases h2
      have : g' = g := by simpa [Value.ownBlock] using h3
      subst this
      rw [hg] at hg'
      cases hg'
      exact hne rfl
theorem own_slice_len {w : World} {base : Nat} {e : TypeId} {size : Nat} {v : Value} {n : Nat} {xs : List Value} (h : w.ownsRow base e size v n xs) : n ≤ maxLen := by
  rcases h.2 with ⟨rfl, rfl⟩ | ⟨g, cap, cur, rfl, _, _, h1, h2, _⟩
  · exact Nat.zero_le _
  · omega
theorem int_info : (Tryz.prog.info? 3).map (fun i => (i.zero, i.size, i.bytes)) = some (some (.int .i64 0), 1, 8) := by kernel_rfl
theorem ints_info : (Tryz.prog.info? 27).map (fun i => (i.zero, i.size, i.bytes)) = some (some (.slice none 0 0), 1, 24) := by kernel_rfl
end Go.Proofs.YtfdhdhmeahdpbaaGreatDoor
namespace Go.Proofs.YtfdhdhmeahdpbaaGreatDoor
open Go.RowKit

section
variable {P : Program} {l : List Oper} {Q : Exit → Act → World → Prop} {md : Region.Mode} {S S' : World → Prop}

theorem held_get {i : Nat} {o : Oper} {rest : List Oper} (hl : l.drop i = o :: rest) : l.toArray[i]? = some o := by
  rw [List.getElem?_toArray, ← List.head?_drop, hl]
  rfl
/-- number i yields v in every world that meets S: it is taken first -/
theorem held_take {i : Nat} {o : Oper} {rest : List Oper} {v : Value} {fuel : Nat} {listed : Array Bool} {a : Act} {w : World} (hl : l.drop i = o :: rest)
    (hs : Region.noSelect l.toArray = true) (hf : Region.free md l.toArray listed i = true) (hr : (Region.ready md l.toArray listed).contains i = true)
    (hQ : ∀ c a w, Q (.panic c) (a.put o.dst v) w → Q (.panic c) a w) (hw : Region.wanted o (yielded l.toArray a.tmps) = true) (hy : ∀ w, S w → (execOp a.eval o).run P w = .ok (.value v) w) (hS : S w)
    (h : wpAnyH P md l.toArray Q S fuel (listed.setIfInBounds i true) (a.put o.dst v) w) : wpAnyH P md l.toArray Q S (fuel + 1) listed a w :=
  wpAnyH_take (held_get hl) hs hf hr hQ (Or.inl ⟨hw, hy⟩) hS h
/-- number i is not wanted: its guard is false -/
theorem held_skip {i : Nat} {o : Oper} {rest : List Oper} {fuel : Nat} {listed : Array Bool} {a : Act} {w : World} (hl : l.drop i = o :: rest)
    (hs : Region.noSelect l.toArray = true) (hf : Region.free md l.toArray listed i = true) (hr : (Region.ready md l.toArray listed).contains i = true)
    (hQ : ∀ c a w, Q (.panic c) (a.put o.dst undef) w → Q (.panic c) a w) (hw : Region.wanted o (yielded l.toArray a.tmps) = false) (hS : S w)
    (h : wpAnyH P md l.toArray Q S fuel (listed.setIfInBounds i true) (a.put o.dst undef) w) : wpAnyH P md l.toArray Q S (fuel + 1) listed a w :=
  wpAnyH_take (held_get hl) hs hf hr hQ (Or.inr ⟨hw, rfl⟩) hS h
/-- number i is the one that may come up: it is carried out -/
theorem held_step {i : Nat} {o : Oper} {rest : List Oper} {fuel : Nat} {listed : Array Bool} {a : Act} {w : World} (hl : l.drop i = o :: rest)
    (hr : Region.ready md l.toArray listed = [i]) (hw : Region.wanted o (yielded l.toArray a.tmps) = true)
    (h : ∀ K' : Act → World → Prop, Shut (∀ a w, S w → wpAnyH P md l.toArray Q S fuel (listed.setIfInBounds i true) a w → K' a w) → Oper.wp P o a w K' Q) : wpAnyH P md l.toArray Q S (fuel + 1) listed a w :=
  wpAnyH_ready hr (by simp) (AllReadyH.cons (held_get hl) (fun K' hK => by rw [if_pos hw]; exact h K' (fun a w hS hW => hK a w hS (fun _ => hW))) AllReadyH.nil)
/-- two may come up: each is carried out -/
theorem held_two {i j : Nat} {o o' : Oper} {rest rest' : List Oper} {fuel : Nat} {listed : Array Bool} {a : Act} {w : World} (hl : l.drop i = o :: rest) (hl' : l.drop j = o' :: rest')
    (hr : Region.ready md l.toArray listed = [i, j]) (hw : Region.wanted o (yielded l.toArray a.tmps) = true) (hw' : Region.wanted o' (yielded l.toArray a.tmps) = true)
    (h : ∀ K' : Act → World → Prop, Shut (∀ a w, S w → wpAnyH P md l.toArray Q S fuel (listed.setIfInBounds i true) a w → K' a w) → Oper.wp P o a w K' Q)
    (h' : ∀ K' : Act → World → Prop, Shut (∀ a w, S w → wpAnyH P md l.toArray Q S fuel (listed.setIfInBounds j true) a w → K' a w) → Oper.wp P o' a w K' Q) : wpAnyH P md l.toArray Q S (fuel + 1) listed a w :=
  wpAnyH_ready hr (by simp) (AllReadyH.cons (held_get hl) (fun K' hK => by rw [if_pos hw]; exact h K' (fun a w hS hW => hK a w hS (fun _ => hW)))
    (AllReadyH.cons (held_get hl') (fun K' hK => by rw [if_pos hw']; exact h' K' (fun a w hS hW => hK a w hS (fun _ => hW))) AllReadyH.nil))
/-- the condition on the world is strengthened -/
theorem held_mono (hS : ∀ w, S' w → S w) : ∀ (fuel : Nat) (listed : Array Bool) (a : Act) (w : World), wpAnyH P md l.toArray Q S' fuel listed a w → wpAnyH P md l.toArray Q S fuel listed a w
  | 0, _, _, _, h => h
  | fuel + 1, _, _, _, h => ⟨h.1, fun i hi => wpOp_mono (fun a' w' h' => ⟨hS _ h'.1, held_mono hS fuel _ a' w' h'.2⟩) (h.2 i hi)⟩
theorem held_done {listed : Array Bool} {a : Act} {w : World} {fuel : Nat} (hr : Region.ready md l.toArray listed = []) (h : Q .normal a w) : wpAnyH P md l.toArray Q S fuel listed a w :=
  wpAnyH_done hr h fuel
end
end Go.Proofs.YtfdhdhmeahdpbaaGreatDoor
namespace Go.Proofs.YtfdhdhmeahdpbaaGreatDoor
open Go.RowKit
set_option linter.unusedVariables false

/-- a slice of ints that stands for a list -/
def IntsAt (w : World) (v : Value) (l : List Int) : Prop := w.ownsRow 0 3 1 v l.length (l.map (Value.int .i64))
/-- the numbers below n that are wanted -/
def filt (p : Nat → Bool) (n : Nat) : List Int := ((List.range n).filter p).map Int.ofNat
theorem filt_zero (p : Nat → Bool) : filt p 0 = [] := rfl
theorem filt_succ (p : Nat → Bool) (n : Nat) : filt p (n + 1) = if p n then filt p n ++ [(n : Int)] else filt p n := by
  unfold filt
  rw [List.range_succ, List.filter_append, List.map_append]
  by_cases h : p n = true
  · rw [if_pos h, List.filter_cons_of_pos h]; rfl
  · rw [if_neg h, List.filter_cons_of_neg h, List.filter_nil, List.map_nil, List.append_nil]
theorem run_enter {P : Program} {F : FuncId} {fn : Func} {c : Code} (h : P.funcs[F]? = some fn) (hn : (fn.name == "runtime.NumGoroutine") = false) (hb : fn.body = some c) (xs : Array Value) (w : World) : Sem.run P (callFunc F xs) w = .ok (.enter F xs) w := by
  unfold callFunc
  rw [Sem.run_bind, show (program : Sem Program).run P w = .ok P w from rfl, Result.andThen_ok, h]
  dsimp only
  rw [hn, hb]
  rfl
theorem filt_len (p : Nat → Bool) (n : Nat) : (filt p n).length ≤ n := by
  unfold filt
  rw [List.length_map]
  exact Nat.le_trans (List.length_filter_le _ _) (by simp)
set_option maxRecDepth 100000 in
set_option maxHeartbeats 4000000 in
theorem some_walk (n : Nat) (hn : n ≤ 1000) (F : FuncId) (b : Array Value) (p : Nat → Bool) (w : World)
    (hE : ∀ (xs : Array Value) (w' : World), Sem.run Tryz.prog (callFunc F xs) w' = .ok (.enter F xs) w')
    (hc : ∀ w', Fr (fun _ => False) w w' → ∀ k : Nat, k < n → Calls Tryz.prog F (#[.int .i64 k] ++ b) w' (Ret (.bool (p k)) w')) :
    Calls Tryz.prog 12 #[.int .i64 n, .func (.func F) #[] b] w
      (fun e w' => ∃ v, e = .returned v ∧ w'.ownsRow w.heap.size 3 1 v (filt p n).length ((filt p n).map (Value.int .i64)) ∧ Fr (fun _ => False) w w') := by
  obtain ⟨i0, hinf, hz0, hz1, hz2⟩ := info_parts int_info
  have HI := Lib.hid (And.intro hinf (And.intro hz0 (And.intro hz1 hz2)))
  have HC := Lib.hid hc
  clear hc hinf hz0 hz1 hz2
  go_enter Tryz.func12, Tryz.ntmps12
  go_wp2_with fail
  go_loopw [5, 6, 8] (fun v _ z wr => ∃ (k : Nat) (vv : Value), vv = v ∧ k ≤ n ∧ z = .int .i64 k ∧ Fr (fun _ => False) w wr ∧ Hid (wr.ownsRow w.heap.size 3 1 vv (filt p k).length ((filt p k).map (Value.int .i64)))) (fun _ _ z _ => n - (intOf z).toNat)
  case atStart => exact ⟨0, _, rfl, by omega, rfl, by first | exact Fr.refl _ _ | exact (Fr.refl _ _).drewN _, Lib.hid (show w.ownsRow w.heap.size 3 1 (.slice none 0 0) 0 [] from World.ownsRow_nil _ _ _ _)⟩
  case round =>
    obtain ⟨k, v, rfl, hk, rfl, hF, HO⟩ := hrel
    by_cases hlt : k < n
    · have g2 : (k : Int) < n := by omega
      have HF := Lib.hid hF
      clear hF
      cases e1 : p k
      · have HL := Lib.hid (show filt p (k + 1) = filt p k by rw [filt_succ, e1]; rfl)
        go_wp2_with (first | (rw [hE]) | (refine (HC.out _ HF.out k hlt).mono ?_; rw [e1]; rintro e w1 ⟨rfl, hG⟩; have HF1 := Lib.hid hG; clear hG))
        go_roundw
        case rel => exact ⟨k + 1, _, rfl, by omega, by go_num, HF.out.then HF1.out, by rw [HL.out]; exact Lib.hid (own_fr HO.out HF1.out (fun _ _ h => h))⟩
        case measure => simp [intOf]; omega
      · have HL := Lib.hid (show filt p (k + 1) = filt p k ++ [(k : Int)] by rw [filt_succ, e1]; rfl)
        have hlen := filt_len p k
        generalize filt p k = L at *
        go_wp2_with (first | (rw [hE]) | (refine (HC.out _ HF.out k hlt).mono ?_; rw [e1]; rintro e w1 ⟨rfl, hG⟩; have HF1 := Lib.hid hG; clear hG) | (at_builtin; go_must (refine wpList_append_any rfl _ _ 27 rfl w.heap.size 3 i0 _ 1 8 Tryz.underlying27 HI.out.1 HI.out.2.1 HI.out.2.2.1 HI.out.2.2.2 rfl (by decide) v L.length (L.map (Value.int .i64)) rfl (own_fr HO.out (HF1.out.alloc _) (fun _ _ h => h)) (some ⟨w1.heap.size, 0, none⟩) 1 1 [.int .i64 (k : Int)] rfl rfl (fun _ => ⟨w1.heap.size, 0, rfl, fun j u hj => ((RowB.new w1 3 [.int .i64 (k : Int)]).cell (0 + j)).trans (by rw [Nat.zero_add]; exact hj)⟩) (fun u hu => by rw [List.mem_singleton.1 hu]; rfl) (by unfold maxLen; omega) (by omega) (by have h1 := HF.out.size; have h2 := HF1.out.size; rw [alloc_size]; omega) ?_; intro v' w3 hown hgrow hat; have HO3 := Lib.hid hown; have HF3 := Lib.hid (fr_grow ((HF.out.then HF1.out).alloc _) hgrow (fun g hg => own_block_ge HO.out g hg)); clear hown hgrow hat)))
        go_roundw
        case rel => exact ⟨k + 1, _, rfl, by omega, by go_num, HF3.out, by rw [HL.out]; exact Lib.hid (by have h := HO3.out; simpa using h)⟩
        case measure => simp [intOf]; omega
    · obtain rfl : k = n := by omega
      have HF := Lib.hid hF
      clear hF
      go_wp2_with fail
      go_ret
      exact ⟨v, rfl, HO.out, HF.out⟩
end Go.Proofs.YtfdhdhmeahdpbaaGreatDoor
namespace Go.Proofs.YtfdhdhmeahdpbaaGreatDoor
open Go.RowKit
set_option linter.unusedVariables false

theorem IntsAt.fr {w w' : World} {v : Value} {l : List Int} (h : IntsAt w v l) (f : Fr (fun _ => False) w w') : IntsAt w' v l := own_fr h f (fun _ _ h => h)
theorem IntsAt.get {w : World} {v : Value} {l : List Int} (h : IntsAt w v l) : ∃ a0 c, v = .slice a0 l.length c ∧
    (0 < l.length → ∃ g, a0 = some ⟨g, 0, none⟩ ∧ ∀ w', Fr (fun _ => False) w w' → ∀ j, j < l.length → w'.cell? ⟨g, j, none⟩ = some (.int .i64 (l.getD j 0))) := by
  obtain ⟨a0, c, rfl, hc, hr⟩ := own_slice h
  refine ⟨a0, c, rfl, fun hm => ?_⟩
  obtain ⟨g, rfl, hb, hlt, hj⟩ := hr hm
  exact ⟨g, rfl, fun w' f j hj2 => f.cell (p := ⟨g, j, none⟩) hlt (fun h => h) (hj j _ (by simp [List.getD, hj2]))⟩
theorem eq_of_get {l m : List Int} (h : l.length = m.length) (hj : ∀ j, j < l.length → l.getD j 0 = m.getD j 0) : l = m := by
  refine List.ext_getElem h fun j h1 h2 => ?_
  have := hj j h1
  simpa [List.getD, h1, h2] using this
set_option maxRecDepth 100000 in
set_option maxHeartbeats 4000000 in
theorem equal_walk (l m : List Int) (v u : Value) (w : World) (hv : IntsAt w v l) (hu : IntsAt w u m) (hl : l.length ≤ 1000) (hm : m.length ≤ 1000) :
    Calls Tryz.prog 17 #[v, u] w (Ret (.bool (decide (l = m))) w) := by
  obtain ⟨a0, c0, rfl, h0⟩ := hv.get
  obtain ⟨a1, c1, rfl, h1⟩ := hu.get
  clear hv hu
  have H0 := Lib.hid h0
  have H1 := Lib.hid h1
  clear h0 h1
  by_cases hlen : l.length = m.length
  · have HE := Lib.hid (fun hj => eq_of_get hlen hj)
    rw [← hlen] at H1 ⊢
    clear hm
    have HQ : Hid (∀ j, j < l.length → l.getD j 0 ≠ m.getD j 0 → decide (l = m) = false) := Lib.hid (fun j _ h => decide_eq_false (fun e => h (by rw [e])))
    have HT : Hid ((∀ j, j < l.length → l.getD j 0 = m.getD j 0) → decide (l = m) = true) := Lib.hid (fun h => decide_eq_true (HE.out h))
    clear HE hlen
    generalize decide (l = m) = q at *
    generalize l.length = n at *
    go_enter Tryz.func17, Tryz.ntmps17
    go_wp2_with fail
    go_loopw [5, 13] (fun _ i wr => ∃ k : Nat, k ≤ n ∧ i = .int .i64 k ∧ Fr (fun _ => False) w wr ∧ Hid (∀ j, j < k → l.getD j 0 = m.getD j 0)) (fun _ i _ => n - (intOf i).toNat)
    case atStart => exact ⟨0, by omega, rfl, Fr.refl _ _, Lib.hid (fun j hj => by omega)⟩
    case round =>
      obtain ⟨k, hk, rfl, hF, HJ⟩ := hrel
      by_cases hlt : k < n
      · obtain ⟨g, rfl, hc⟩ := H0.out (by omega)
        obtain ⟨g', rfl, hc'⟩ := H1.out (by omega)
        have b0 := hc wr hF k hlt
        have b1 := hc' wr hF k hlt
        have g1 : (0 : Int) ≤ (k : Int) := by omega
        have g2 : (k : Int) < n := by omega
        have HF := Lib.hid hF
        clear hF hc hc'
        cases e1 : (l.getD k 0 != m.getD k 0)
        · have HX := Lib.hid (show ∀ j, j = k → l.getD j 0 = m.getD j 0 from fun j hj => by subst hj; simpa using e1)
          generalize l.getD k 0 = x at *
          generalize m.getD k 0 = y at *
          go_wp2_with fail
          go_quiet (fail)
          go_wp2_with fail
          go_roundw
          case rel => exact ⟨k + 1, by omega, by go_num, by first | exact HF.out | exact HF.out.drew | exact HF.out.drewN _, Lib.hid (fun j hj => by
            by_cases e : j = k
            · exact HX.out j e
            · exact HJ.out j (by omega))⟩
          case measure => simp [intOf]; omega
        · have HX := Lib.hid (HQ.out k hlt (by simpa using e1))
          generalize l.getD k 0 = x at *
          generalize m.getD k 0 = y at *
          go_wp2_with fail
          go_quiet (fail)
          go_wp2_with fail
          go_ret
          exact ⟨by rw [HX.out] <;> rfl, by first | exact HF.out | exact HF.out.drew | exact HF.out.drewN _⟩
      · obtain rfl : k = n := by omega
        have HF := Lib.hid hF
        clear hF
        go_wp2_with fail
        go_ret
        exact ⟨by rw [HT.out HJ.out] <;> rfl, HF.out⟩
  · have q0 : ((l.length : Int) != (m.length : Int)) = true := bne_iff_ne.2 (fun h => hlen (by omega))
    have HQ := Lib.hid (show decide (l = m) = false from decide_eq_false (fun e => hlen (by rw [e])))
    clear hlen
    generalize decide (l = m) = q at *
    generalize l.length = n at *
    generalize m.length = n' at *
    go_enter Tryz.func17, Tryz.ntmps17
    go_wp2_with fail
    go_ret
    exact ⟨by rw [HQ.out] <;> rfl, Fr.refl _ _⟩
set_option maxRecDepth 100000 in
set_option maxHeartbeats 4000000 in
theorem sameInts_walk (l m : List Int) (v u : Value) (w : World) (hv : IntsAt w v l) (hu : IntsAt w u m) (hl : l.length ≤ 1000) (hm : m.length ≤ 1000) :
    Calls Tryz.prog 6 #[v, u] w (fun e w' => e = .returned (.bool (decide (l = m))) ∧ ∃ q, w' = w.drewN q) := by
  obtain ⟨a0, c0, rfl, h0⟩ := hv.get
  obtain ⟨a1, c1, rfl, h1⟩ := hu.get
  clear hv hu
  have H0 := Lib.hid h0
  have H1 := Lib.hid h1
  clear h0 h1
  by_cases hlen : l.length = m.length
  · have HE := Lib.hid (fun hj => eq_of_get hlen hj)
    rw [← hlen] at H1 ⊢
    clear hm
    have HQ : Hid (∀ j, j < l.length → l.getD j 0 ≠ m.getD j 0 → decide (l = m) = false) := Lib.hid (fun j _ h => decide_eq_false (fun e => h (by rw [e])))
    have HT : Hid ((∀ j, j < l.length → l.getD j 0 = m.getD j 0) → decide (l = m) = true) := Lib.hid (fun h => decide_eq_true (HE.out h))
    clear HE hlen
    generalize decide (l = m) = q at *
    generalize l.length = n at *
    go_enter Tryz.func6, Tryz.ntmps6
    go_wp2_with fail
    go_loopw [5] (fun i wr => ∃ k p : Nat, k ≤ n ∧ i = .int .i64 k ∧ wr = w.drewN p ∧ Hid (∀ j, j < k → l.getD j 0 = m.getD j 0)) (fun i _ => n - (intOf i).toNat)
    case atStart => exact ⟨0, 0, by omega, rfl, rfl, Lib.hid (fun j hj => by omega)⟩
    case round =>
      obtain ⟨k, p, hk, rfl, rfl, HJ⟩ := hrel
      have hF := (Fr.refl (fun _ => False) w).drewN p
      by_cases hlt : k < n
      · obtain ⟨g, rfl, hc⟩ := H0.out (by omega)
        obtain ⟨g', rfl, hc'⟩ := H1.out (by omega)
        have b0 := hc w (Fr.refl _ w) k hlt
        have b1 := hc' w (Fr.refl _ w) k hlt
        have g1 : (0 : Int) ≤ (k : Int) := by omega
        have g2 : (k : Int) < n := by omega
        have HF := Lib.hid hF
        clear hF hc hc'
        cases e1 : (l.getD k 0 != m.getD k 0)
        · have HX := Lib.hid (show ∀ j, j = k → l.getD j 0 = m.getD j 0 from fun j hj => by subst hj; simpa using e1)
          generalize l.getD k 0 = x at *
          generalize m.getD k 0 = y at *
          go_wp2_with fail
          go_quiet (fail)
          go_wp2_with fail
          go_roundw
          case rel => exact ⟨k + 1, p + nq, by omega, by go_num, by first | rfl | exact World.drewN_drewN _ _ _, Lib.hid (fun j hj => by
            by_cases e : j = k
            · exact HX.out j e
            · exact HJ.out j (by omega))⟩
          case measure => simp [intOf]; omega
        · have HX := Lib.hid (HQ.out k hlt (by simpa using e1))
          generalize l.getD k 0 = x at *
          generalize m.getD k 0 = y at *
          go_wp2_with fail
          go_quiet (fail)
          go_wp2_with fail
          go_ret
          exact ⟨by rw [HX.out] <;> rfl, p + nq, by first | rfl | exact World.drewN_drewN _ _ _⟩
      · obtain rfl : k = n := by omega
        have HF := Lib.hid hF
        clear hF
        go_wp2_with fail
        go_ret
        exact ⟨by rw [HT.out HJ.out] <;> rfl, p, rfl⟩
  · have q0 : ((l.length : Int) != (m.length : Int)) = true := bne_iff_ne.2 (fun h => hlen (by omega))
    have HQ := Lib.hid (show decide (l = m) = false from decide_eq_false (fun e => hlen (by rw [e])))
    clear hlen
    generalize decide (l = m) = q at *
    generalize l.length = n at *
    generalize m.length = n' at *
    go_enter Tryz.func6, Tryz.ntmps6
    go_wp2_with fail
    go_ret
    exact ⟨by rw [HQ.out] <;> rfl, 0, rfl⟩
end Go.Proofs.YtfdhdhmeahdpbaaGreatDoor
namespace Go.Proofs.YtfdhdhmeahdpbaaGreatDoor
open Go.RowKit
set_option linter.unusedVariables false

set_option maxRecDepth 100000 in
theorem bit_of : ∀ i : Fin 64, ∀ k : Fin 6, (bits BinOp.and IntKind.i64 ((i.1 : Int) / 2 ^ k.1) 1 == 1) = i.1.testBit k.1 := by decide +kernel
set_option maxRecDepth 100000 in
set_option maxHeartbeats 4000000 in
theorem bit_walk (b i k : Nat) (w : World) (hi : i < 64) (hk : k < 6) (hb : RowB w b 3 [.int .i64 i]) :
    Calls Tryz.prog 13 #[.int .i64 k, .pointer (some ⟨b, 0, none⟩)] w (Ret (.bool (i.testBit k)) w) := by
  have v0 : w.cell? ⟨b, 0, none⟩ = some (.int .i64 i) := hb.cell 0
  have H := Lib.hid (bit_of ⟨i, hi⟩ ⟨k, hk⟩)
  clear hb
  go_enter Tryz.func13, Tryz.ntmps13
  go_wp2_with fail
  go_ret
  exact ⟨congrArg (fun q => Ending.returned (.bool q)) H.out, Fr.refl _ _⟩
set_option maxRecDepth 100000 in
theorem none_walk (k : Nat) (w : World) : Calls Tryz.prog 18 #[.int .i64 k] w (Ret (.bool false) w) := by
  go_enter Tryz.func18, Tryz.ntmps18
  go_wp2_with fail
  go_ret
  exact ⟨rfl, Fr.refl _ _⟩
set_option maxRecDepth 100000 in
theorem all_walk (k : Nat) (w : World) : Calls Tryz.prog 19 #[.int .i64 k] w (Ret (.bool true) w) := by
  go_enter Tryz.func19, Tryz.ntmps19
  go_wp2_with fail
  go_ret
  exact ⟨rfl, Fr.refl _ _⟩
set_option maxRecDepth 100000 in
theorem le_walk (i k : Nat) (w : World) : Calls Tryz.prog 20 #[.int .i64 i, .int .i64 k] w (Ret (.bool (decide (k ≤ i))) w) := by
  go_enter Tryz.func20, Tryz.ntmps20
  go_wp2_with fail
  go_ret
  exact ⟨rfl, Fr.refl _ _⟩
set_option maxRecDepth 100000 in
theorem gt_walk (i k : Nat) (w : World) : Calls Tryz.prog 21 #[.int .i64 i, .int .i64 k] w (Ret (.bool (decide (i < k))) w) := by
  go_enter Tryz.func21, Tryz.ntmps21
  go_wp2_with fail
  go_ret
  exact ⟨rfl, Fr.refl _ _⟩
set_option maxRecDepth 100000 in
theorem eq_walk (i k : Nat) (w : World) : Calls Tryz.prog 22 #[.int .i64 i, .int .i64 k] w (Ret (.bool ((k : Int) == (i : Int))) w) := by
  go_enter Tryz.func22, Tryz.ntmps22
  go_wp2_with fail
  go_ret
  exact ⟨rfl, Fr.refl _ _⟩
set_option maxRecDepth 100000 in
theorem ne_walk (i k : Nat) (w : World) : Calls Tryz.prog 23 #[.int .i64 i, .int .i64 k] w (Ret (.bool ((k : Int) != (i : Int))) w) := by
  go_enter Tryz.func23, Tryz.ntmps23
  go_wp2_with fail
  go_ret
  exact ⟨rfl, Fr.refl _ _⟩
theorem enter_13 (xs : Array Value) (w : World) : Sem.run Tryz.prog (callFunc 13 xs) w = .ok (.enter 13 xs) w := run_enter Tryz.func13 rfl rfl xs w
theorem enter_18 (xs : Array Value) (w : World) : Sem.run Tryz.prog (callFunc 18 xs) w = .ok (.enter 18 xs) w := run_enter Tryz.func18 rfl rfl xs w
theorem enter_19 (xs : Array Value) (w : World) : Sem.run Tryz.prog (callFunc 19 xs) w = .ok (.enter 19 xs) w := run_enter Tryz.func19 rfl rfl xs w
theorem enter_20 (xs : Array Value) (w : World) : Sem.run Tryz.prog (callFunc 20 xs) w = .ok (.enter 20 xs) w := run_enter Tryz.func20 rfl rfl xs w
theorem enter_21 (xs : Array Value) (w : World) : Sem.run Tryz.prog (callFunc 21 xs) w = .ok (.enter 21 xs) w := run_enter Tryz.func21 rfl rfl xs w
theorem enter_22 (xs : Array Value) (w : World) : Sem.run Tryz.prog (callFunc 22 xs) w = .ok (.enter 22 xs) w := run_enter Tryz.func22 rfl rfl xs w
theorem enter_23 (xs : Array Value) (w : World) : Sem.run Tryz.prog (callFunc 23 xs) w = .ok (.enter 23 xs) w := run_enter Tryz.func23 rfl rfl xs w
theorem enter_24 (xs : Array Value) (w : World) : Sem.run Tryz.prog (callFunc 24 xs) w = .ok (.enter 24 xs) w := run_enter Tryz.func24 rfl rfl xs w
theorem enter_16 (xs : Array Value) (w : World) : Sem.run Tryz.prog (callFunc 16 xs) w = .ok (.enter 16 xs) w := run_enter Tryz.func16 rfl rfl xs w
set_option maxRecDepth 100000 in
set_option maxHeartbeats 4000000 in
theorem kind_walk (F : FuncId) (q : Nat → Nat → Bool) (i k b c : Nat) (w : World) (hE : ∀ (xs : Array Value) (w' : World), Sem.run Tryz.prog (callFunc F xs) w' = .ok (.enter F xs) w')
    (hq : ∀ w', Calls Tryz.prog F #[.int .i64 i, .int .i64 k] w' (Ret (.bool (q i k)) w')) (hb : RowB w b 58 [.func (.func F) #[] #[]]) (hc : RowB w c 3 [.int .i64 i]) :
    Calls Tryz.prog 24 #[.int .i64 k, .pointer (some ⟨b, 0, none⟩), .pointer (some ⟨c, 0, none⟩)] w (Ret (.bool (q i k)) w) := by
  have v0 : w.cell? ⟨b, 0, none⟩ = some (.func (.func F) #[] #[]) := hb.cell 0
  have v1 : w.cell? ⟨c, 0, none⟩ = some (.int .i64 i) := hc.cell 0
  have HQ := Lib.hid hq
  clear hb hc hq
  generalize q i k = r at *
  go_enter Tryz.func24, Tryz.ntmps24
  go_wp2_with (first | (rw [hE]) | (refine (HQ.out _).mono ?_; rintro e w1 ⟨rfl, hG⟩; have HF1 := Lib.hid hG; clear hG))
  go_ret
  exact ⟨rfl, HF1.out⟩
theorem enter_14 (xs : Array Value) (w : World) : Sem.run Tryz.prog (callFunc 14 xs) w = .ok (.enter 14 xs) w := run_enter Tryz.func14 rfl rfl xs w
end Go.Proofs.YtfdhdhmeahdpbaaGreatDoor
