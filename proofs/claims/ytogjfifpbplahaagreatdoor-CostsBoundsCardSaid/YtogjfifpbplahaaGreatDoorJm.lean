/- This text proves contracts of what branch.walk's lists hold; no condition beyond those that each statement names. -/
import Derived.Test.YtogjfifpbplahaaGreatDoorJa
import Derived.Test.YtogjfifpbplahaaGreatDoorJk
import Derived.Test.YtogjfifpbplahaaGreatDoorJi
import Derived.Test.YtogjfifpbplahaaGreatDoorJl
import Derived.Test.YtogjfifpbplahaaGreatDoorJR11
namespace Go.Proofs.YtogjfifpbplahaaGreatDoor
open Go.RowKit Go.Shelf
set_option linter.unusedVariables false

/-- the invariant abides the turn of one block of the iterator's own; blocks that are new may become its own -/
def UpG {α : Type} (J : List α → (Nat → Prop) → World → Prop) : Prop :=
  ∀ s (G G' : Nat → Prop) W W' row, J s G W → W.grownBy W' row → (∀ r, row = some r → G r) → (∀ r, G' r → G r ∨ W.heap.size ≤ r) → J s G' W'
/-- what the body keeps: the iterator's own blocks, and what lies below B -/
def KpG (B : Nat) (G : Nat → Prop) (W W' : World) : Prop := W.heap.size ≤ W'.heap.size ∧ ∀ k, k < W.heap.size → (G k ∨ k < B) → W'.heap[k]? = W.heap[k]?
theorem KpG.t {B : Nat} {G : Nat → Prop} {X Y Z : World} (h : KpG B G X Y) (k : KpG B G Y Z) : KpG B G X Z :=
  ⟨Nat.le_trans h.1 k.1, fun i hi hG => (k.2 i (Nat.lt_of_lt_of_le hi h.1) hG).trans (h.2 i hi hG)⟩
theorem KpG.of_fr {B : Nat} {G S : Nat → Prop} {W W' : World} (f : Fr S W W') (hS : ∀ k, S k → ¬ G k ∧ B ≤ k) : KpG B G W W' :=
  ⟨f.size, fun k hk hG => f.block k hk (fun h => by have := hS k h; rcases hG with e | e; exact this.1 e; omega)⟩
theorem KpG.put {B : Nat} {G : Nat → Prop} (W : World) (l : Nat) (o' : Obj) (hG : ¬ G l) (hl : B ≤ l) : KpG B G W (W.putObj l o') :=
  ⟨by simp [World.putObj], fun k hk h => World.putObj_heap_other (fun e => by subst e; rcases h with e | e; exact hG e; omega)⟩
/-- the iterator's contract: each round it hands over an x of which Pr holds there and then -/
def SeqOwn {α : Type} (F : Fence) (n : Nat) (P : Program) (g : Nat) (lb : Array Value) (encs : α → Array Value) (B : Nat) (Pr : List α → α → World → Prop) (S : List α → Prop) (w : World) : Prop :=
  ∀ (l : Nat) (J : List α → (Nat → Prop) → World → Prop) (Jx : List α → World → Prop) (W : World), Below w.heap.size w W → UpG J →
    (∀ pre G x W1, J pre G W1 → (∀ r, G r → W.heap.size ≤ r ∧ r < W1.heap.size) → W.heap.size ≤ W1.heap.size → Pr pre x W1 → YieldAt F (n - 1) P l (encs x) W1 fun e W' =>
      (e = .returned (.bool true) ∧ J (pre ++ [x]) G W' ∧ KpG B G W1 W') ∨ (e = .returned (.bool false) ∧ Jx (pre ++ [x]) W')) →
    J [] (fun _ => False) W →
    CallsIn F n P g (#[.func (.yield l) #[] #[]] ++ lb) W fun e W' => (∃ v, e = .returned v) ∧ ((∃ xs G, S xs ∧ J xs G W') ∨ (∃ pre, Jx pre W'))
end Go.Proofs.YtogjfifpbplahaaGreatDoor

namespace Go.Proofs.YtogjfifpbplahaaGreatDoor
open Go.RowKit Go.Shelf
open BR
set_option linter.unusedVariables false

/-- what comes back: a slice of the same strings -/
def RetS (r : Nat) (R : Nat → ByteArray) (w : World) (e : Ending) (w' : World) : Prop := ∃ a1 c1, e = .returned (.slice a1 r c1) ∧ r ≤ c1 ∧ StrsAt w' a1 r R ∧ (∀ b o, 0 < r → a1 = some ⟨b, o, none⟩ → w.heap.size ≤ b) ∧ Fr (fun _ => False) w w'
theorem getD_range (R : Nat → ByteArray) {r j : Nat} (h : j < r) : (((List.range r).map R).getD j ByteArray.empty) = R j := by
  simp [List.getD, h]
theorem cloneS_walk (r c : Nat) (a0 : Option Addr) (R : Nat → ByteArray) (w : World) (hR : StrsAt w a0 r R) (hr : r ≤ 1000) :
    Calls Tryz.prog 43 #[.slice a0 r c] w (RetS r R w) := by
  by_cases h0 : r = 0
  · subst h0
    cases a0 with
    | none =>
      refine (Tryz.slices_Clone_string_nil 0 c w).mono ?_
      rintro e w' ⟨rfl, rfl⟩
      exact ⟨none, 0, rfl, Nat.le_refl _, fun h => absurd h (Nat.lt_irrefl _), fun _ _ h => absurd h (Nat.lt_irrefl _), Fr.refl _ _⟩
    | some a =>
      refine (Tryz.slices_Clone_string_zero a c w).mono ?_
      rintro e w' ⟨v', rfl, hown, _, hb⟩
      obtain ⟨a1, c1, rfl, hc1, _⟩ := own_slice hown
      exact ⟨a1, c1, rfl, hc1, fun h => absurd h (Nat.lt_irrefl _), fun _ _ h => absurd h (Nat.lt_irrefl _), Fr.of_below hb⟩
  · obtain ⟨b, o, rfl, hb, hc⟩ := hR (by omega)
    refine (Tryz.slices_Clone_string b o r c ((List.range r).map R) w (by simp) (by omega) (fun j hj => ?_)).mono ?_
    · rw [List.length_map, List.length_range] at hj
      rw [getD_range R hj]; exact hc j hj
    · rintro e w' ⟨v', rfl, hown, _, hbl⟩
      have hl : (((List.range r).map R).take r).map Value.string = strsL R r := by
        rw [List.take_of_length_le (by simp), List.map_map]; rfl
      rw [hl] at hown
      have hg := fun g h => own_block_ge hown g h
      obtain ⟨a1, c1, rfl, hc1, hs⟩ := own_strs hown
      exact ⟨a1, c1, rfl, hc1, hs, fun b o _ h => hg b (by rw [h]; rfl), Fr.of_below hbl⟩
theorem equalS_walk (r c r' c' : Nat) (a0 a0' : Option Addr) (R R' : Nat → ByteArray) (w : World) (hR : StrsAt w a0 r R) (hR' : StrsAt w a0' r' R') (hr : r ≤ 1000) (hr' : r' ≤ 1000) (q : Bool) (hq : q = true ↔ samePath r R r' R') :
    Calls Tryz.prog 41 #[.slice a0 r c, .slice a0' r' c'] w (Ret (.bool q) w) := by
  by_cases h0 : r = r'
  · subst h0
    by_cases hz : r = 0
    · subst hz
      have hqt : q = true := hq.2 ⟨rfl, fun k hk => absurd hk (Nat.not_lt_zero k)⟩
      refine (Tryz.slices_Equal_string_empty a0 a0' c 0 c' w (by omega)).mono ?_
      rintro e w' ⟨rfl, rfl⟩
      exact ⟨by rw [hqt]; rfl, Fr.refl _ _⟩
    · obtain ⟨b, o, rfl, hb, hc⟩ := hR (by omega)
      obtain ⟨b', o', rfl, hb', hc'⟩ := hR' (by omega)
      refine (Tryz.slices_Equal_string b o r c b' o' r c' ((List.range r).map R) ((List.range r).map R') w (by simp) (by simp) (by omega) (by omega) (fun j hj => ?_) (fun j hj => ?_)).mono ?_
      · rw [List.length_map, List.length_range] at hj
        rw [getD_range R hj]; exact hc j hj
      · rw [List.length_map, List.length_range] at hj
        rw [getD_range R' hj]; exact hc' j hj
      · rintro e w' ⟨rfl, n, rfl⟩
        refine ⟨?_, (Fr.refl _ w).drewN n⟩
        congr 2
        rw [List.take_of_length_le (by simp), List.take_of_length_le (by simp)]
        rw [Bool.eq_iff_iff, decide_eq_true_eq, hq]
        constructor
        · intro h
          refine ⟨rfl, fun k hk => ?_⟩
          have := congrArg (fun l => l[k]?) h
          simp [hk] at this
          rw [this]
        · rintro ⟨_, h⟩
          refine List.map_congr_left fun k hk => ?_
          have := h k (List.mem_range.1 hk)
          rw [toList_data, toList_data] at this
          exact ByteArray.ext (Array.toList_inj.1 this)
  · have hqf : q = false := by cases q with | false => rfl | true => exact absurd (hq.1 rfl).1 h0
    refine (Tryz.slices_Equal_string_lens a0 a0' r c r' c' w h0).mono ?_
    rintro e w' ⟨rfl, rfl⟩
    exact ⟨by rw [hqf], Fr.refl _ _⟩
end Go.Proofs.YtogjfifpbplahaaGreatDoor

namespace Go.Proofs.YtogjfifpbplahaaGreatDoor
open Go.RowKit
open BR
set_option linter.unusedVariables false

/-- the directories on the way, behind k nodes -/
def wayD (N : Nat → BNode) (k m : Nat) : List Value := (List.range m).map (fun (d : Nat) => Value.int .i64 (lastAt N k d))
theorem wayD_len (N : Nat → BNode) (k m : Nat) : (wayD N k m).length = m := by simp [wayD]
theorem wayD_take (N : Nat → BNode) (k : Nat) {m D : Nat} (h : D ≤ m) : (wayD N k m).take D = wayD N k D := by
  unfold wayD
  rw [← List.map_take, List.take_range, Nat.min_eq_left h]
theorem lastAt_other {N : Nat → BNode} {k : Nat} {d : Int} (h : (N k).depth ≠ d) : lastAt N (k + 1) d = lastAt N k d := by simp only [lastAt]; rw [if_neg h]
theorem lastAt_self (N : Nat → BNode) (k : Nat) : lastAt N (k + 1) (N k).depth = k := by simp only [lastAt]; rw [if_pos trivial]
theorem wayD_snoc {N : Nat → BNode} {k D : Nat} (h : (N k).depth = (D : Int)) : wayD N k D ++ [.int .i64 (k : Int)] = wayD N (k + 1) (D + 1) := by
  unfold wayD
  rw [List.range_succ, List.map_append]
  congr 1
  · refine List.map_congr_left fun d hd => ?_
    rw [lastAt_other (by have := List.mem_range.1 hd; omega)]
  · simp only [List.map_cons, List.map_nil]
    rw [← h, lastAt_self]
/-- the names on the way, behind k nodes -/
def wayP (N : Nat → BNode) (k : Nat) (j : Nat) : ByteArray := (nodeAt N (lastAt N k ((j : Int) + 1))).name
theorem wayP_path (N : Nat → BNode) (i : Nat) : wayP N (i + 1) = pathF N i := rfl
def wayN (N : Nat → BNode) : Nat → Nat
  | 0 => 0
  | k + 1 => (N k).depth.toNat
theorem strsL_take (R : Nat → ByteArray) {m D : Nat} (h : D ≤ m) : (strsL R m).take D = strsL R D := by
  unfold strsL
  rw [← List.map_take, List.take_range, Nat.min_eq_left h]
theorem wayP_snoc {N : Nat → BNode} {k D : Nat} (h : (N k).depth = (D : Int) + 1) : strsL (wayP N k) D ++ [.string (N k).name] = strsL (wayP N (k + 1)) (D + 1) := by
  refine strsL_snoc _ _ _ _ (fun j hj => ?_) ?_
  · unfold wayP; rw [lastAt_other (by omega)]
  · unfold wayP; rw [← h, lastAt_self]; rfl
theorem strsL_zero (R : Nat → ByteArray) : strsL R 0 = [] := by simp [strsL]
/-- the way is long enough for the next node -/
theorem way_open {N : Nat → BNode} {n i : Nat} (h : Deep N n) (hi : i < n) : (N i).depth.toNat ≤ openN N i ∧ (N i).depth.toNat - 1 ≤ wayN N i := by
  cases i with
  | zero => have := deep_zero h hi; rw [this]; exact ⟨Nat.zero_le _, Nat.zero_le _⟩
  | succ i =>
    have h1 := deep_step h hi
    have h2 := deep_bd h (show i < n by omega)
    simp only [openN, wayN]
    omega
theorem way_in {N : Nat → BNode} {n i D : Nat} (h : Deep N n) (hi : i < n) (hD : (N i).depth = (D : Int) + 1) : (wayD N i (D + 1))[D]? = some (.int .i64 (parF N i)) := by
  unfold wayD parF
  rw [List.getElem?_map, List.getElem?_range (by omega)]
  simp only [Option.map_some]
  rw [show (N i).depth - 1 = (D : Int) by omega]
end Go.Proofs.YtogjfifpbplahaaGreatDoor

namespace Go.Proofs.YtogjfifpbplahaaGreatDoor
open Go.RowKit Go.Shelf
open BR
set_option linter.unusedVariables false
attribute [local go_sem] Oper.semAt_some

/-- what is yielded: the node's number, where its path lies -/
structure YP where
  i : Nat
  a : Option Addr
  c : Nat
def encY (N : Nat → BNode) (x : YP) : Array Value := #[.int .i64 (x.i : Int), .agg #[.int .i64 (parF N x.i), .slice x.a (N x.i).depth.toNat x.c]]
/-- what holds of it there and then -/
def PrY (n : Nat) (N : Nat → BNode) (pre : List YP) (x : YP) (W : World) : Prop := x.i = pre.length ∧ x.i < n ∧ (N x.i).depth.toNat ≤ x.c ∧ StrsAt W x.a (N x.i).depth.toNat (pathF N x.i)
/-- all rows of cells stand, but for those of S -/
def KpS (S : Nat → Prop) (W W' : World) : Prop := W.heap.size ≤ W'.heap.size ∧ ∀ (k : Nat) (c : Array Value) (T : TypeId) (f : Nat × Nat), ¬ S k → W.heap[k]? = some (.cells c T f) → W'.heap[k]? = some (.cells c T f)
theorem KpS.refl (S : Nat → Prop) (W : World) : KpS S W W := ⟨Nat.le_refl _, fun _ _ _ _ _ h => h⟩
theorem KpS.t {S : Nat → Prop} {A B C : World} (h : KpS S A B) (k : KpS S B C) : KpS S A C := ⟨Nat.le_trans h.1 k.1, fun i c T f hS e => k.2 i c T f hS (h.2 i c T f hS e)⟩
theorem KpS.of_fr {S : Nat → Prop} {W W' : World} (f : Fr S W W') : KpS S W W' := ⟨f.size, fun k c T g hS e => (f.block k (Array.getElem?_eq_some_iff.1 e).1 hS).trans e⟩
theorem KpS.put {S : Nat → Prop} (W : World) (l : Nat) (o o' : Obj) (h : W.heap[l]? = some o) (hc : o.isCells = false) : KpS S W (W.putObj l o') := by
  have hlt : l < W.heap.size := (Array.getElem?_eq_some_iff.1 h).1
  refine ⟨by simp [World.putObj], fun k c T f _ hk => ?_⟩
  by_cases e : k = l
  · subst e
    rw [h] at hk
    cases hk
    simp [Obj.isCells] at hc
  · rw [World.putObj_heap_other (fun h => e h)]; exact hk
theorem KpS.own {S : Nat → Prop} {W W' : World} (h : KpS S W W') {base : Nat} {e : TypeId} {size : Nat} {v : Value} {n : Nat} {xs : List Value} (o : W.ownsRow base e size v n xs) (hS : ∀ g, v.ownBlock = some g → ¬ S g) : W'.ownsRow base e size v n xs := by
  rcases o.2 with ⟨rfl, rfl⟩ | ⟨g, cap, cur, rfl, hb, hg, hr⟩
  · exact ⟨o.1, .inl ⟨rfl, rfl⟩⟩
  · exact ⟨o.1, .inr ⟨g, cap, cur, rfl, hb, h.2 g cur e (0, 0) (hS g rfl) hg, hr⟩⟩
/-- the cells of wA's rows stand in W -/
def CellsUp (wA W : World) : Prop := wA.heap.size ≤ W.heap.size ∧ ∀ p v, p.block < wA.heap.size → wA.cell? p = some v → W.cell? p = some v
theorem CellsUp.of_fr {S : Nat → Prop} {wA W W' : World} (h : CellsUp wA W) (f : Fr S W W') (hS : ∀ k, k < wA.heap.size → ¬ S k) : CellsUp wA W' :=
  ⟨Nat.le_trans h.1 f.size, fun p v hb hc => f.cell (Nat.lt_of_lt_of_le hb h.1) (hS _ hb) (h.2 p v hb hc)⟩
theorem cells_of_cell {W : World} {p : Addr} {v : Value} (h : W.cell? p = some v) : ∃ c T f, W.heap[p.block]? = some (.cells c T f) := by
  cases ho : W.heap[p.block]? with
  | none => unfold World.cell? at h; simp [ho] at h
  | some o =>
    cases o <;> first
      | exact ⟨_, _, _, rfl⟩
      | (exfalso; unfold World.cell? at h; simp [ho] at h; done)
      | fail
theorem CellsUp.kp {S : Nat → Prop} {wA W W' : World} (h : CellsUp wA W) (k : KpS S W W') (hS : ∀ k, k < wA.heap.size → ¬ S k) : CellsUp wA W' :=
  ⟨Nat.le_trans h.1 k.1, fun p v hb hc => by
    have h1 := h.2 p v hb hc
    obtain ⟨c, T, f, h2⟩ := cells_of_cell h1
    have h3 := k.2 _ c T f (hS _ hb) h2
    rw [← h1]
    exact World.cell?_of_block (h3.trans h2.symm)⟩
theorem AttrsAt.up {wA W : World} {a0 : Option Addr} {m : Nat} {A : Nat → BAttr} (h : AttrsAt wA a0 m A) (u : CellsUp wA W) : AttrsAt W a0 m A := fun hn => by
  obtain ⟨b, o, h1, h2, h3⟩ := h hn
  exact ⟨b, o, h1, Nat.lt_of_lt_of_le h2 u.1, fun k hk => ⟨u.2 _ _ h2 (h3 k hk).1, u.2 _ _ h2 (h3 k hk).2⟩⟩
theorem StrsAt.up {wA W : World} {a0 : Option Addr} {r : Nat} {R : Nat → ByteArray} (h : StrsAt wA a0 r R) (u : CellsUp wA W) : StrsAt W a0 r R := fun hn => by
  obtain ⟨b, o, h1, h2, h3⟩ := h hn
  exact ⟨b, o, h1, Nat.lt_of_lt_of_le h2 u.1, fun k hk => u.2 _ _ h2 (h3 k hk)⟩
theorem BranchAt.up {wA W : World} {a0 : Option Addr} {n : Nat} {N : Nat → BNode} {H : Nat → Hd} (h : BranchAt wA a0 n N H) (u : CellsUp wA W) : BranchAt W a0 n N H :=
  ⟨fun i hi => ⟨(h.1 i hi).1.up u, (h.1 i hi).2.1, (h.1 i hi).2.2.1.up u, (h.1 i hi).2.2.2⟩, fun hn => by
    obtain ⟨b, o, h1, h2, h3⟩ := h.2 hn
    exact ⟨b, o, h1, Nat.lt_of_lt_of_le h2 u.1, fun i j v hi hj => u.2 _ _ h2 (h3 i j v hi hj)⟩⟩
end Go.Proofs.YtogjfifpbplahaaGreatDoor
