/- This text proves contracts of the plain law of trees and branches, and how they lie in memory; no condition beyond those that each statement names. -/
import GoSem.Op.String
import Derived.Test.YtogjfifpbplahaaGreatDoorJa
import Derived.Shelf.GgClosure.StringsIndexFuncTop
namespace BR
open Classical
open Go.Op (bytesLess)

structure BAttr where
  name : ByteArray
  value : ByteArray
structure BNode where
  depth : Int
  name : ByteArray
  kind : Int
  m : Nat
  A : Nat → BAttr
  data : ByteArray
  major : Int
  minor : Int
  cls : Int
  opq : Bool
  r : Nat
  R : Nat → ByteArray

/-- the first error among the first n -/
def firstE (f : Nat → Int) : Nat → Int
  | 0 => 0
  | n + 1 => if firstE f n ≠ 0 then firstE f n else f n
theorem firstE_all {f : Nat → Int} : ∀ {n : Nat}, (∀ k, k < n → f k = 0) → firstE f n = 0
  | 0, _ => rfl
  | n + 1, h => by
    have h1 := firstE_all (n := n) (fun k hk => h k (by omega))
    have h2 := h n (by omega)
    simp [firstE, h1, h2]
theorem firstE_hit {f : Nat → Int} {j : Nat} (h : ∀ k, k < j → f k = 0) (he : f j ≠ 0) : ∀ {n : Nat}, j < n → firstE f n = f j
  | 0, hj => by omega
  | n + 1, hj => by
    by_cases e : n = j
    · subst e
      have h1 := firstE_all h
      simp [firstE, h1]
    · have h1 := firstE_hit h he (n := n) (by omega)
      simp [firstE, h1, he]
theorem firstE_none {f : Nat → Int} : ∀ {n : Nat}, firstE f n = 0 → ∀ k, k < n → f k = 0
  | 0, _, k, hk => by omega
  | n + 1, h, k, hk => by
    by_cases h0 : firstE f n = 0
    · simp [firstE, h0] at h
      by_cases e : k = n
      · subst e; exact h
      · exact firstE_none h0 k (by omega)
    · simp [firstE, h0] at h

/-! the order of strings -/
theorem blt_irrefl : ∀ x : List UInt8, bytesLess x x = false
  | [] => rfl
  | a :: x => by simp [bytesLess, blt_irrefl x]
theorem blt_trans : ∀ {x y z : List UInt8}, bytesLess x y = true → bytesLess y z = true → bytesLess x z = true
  | _, [], _, h, _ => by simp [bytesLess] at h
  | _, _ :: _, [], _, h => by simp [bytesLess] at h
  | [], _ :: _, _ :: _, _, _ => by simp [bytesLess]
  | a :: x, b :: y, c :: z, h, k => by
    simp only [bytesLess, Bool.or_eq_true, Bool.and_eq_true, decide_eq_true_eq, beq_iff_eq] at h k ⊢
    rcases h with h | ⟨rfl, h⟩
    · rcases k with k | ⟨rfl, k⟩
      · exact Or.inl (by rw [UInt8.lt_iff_toNat_lt] at *; omega)
      · exact Or.inl h
    · rcases k with k | ⟨rfl, k⟩
      · exact Or.inl k
      · exact Or.inr ⟨rfl, blt_trans h k⟩
theorem blt_total : ∀ {x y : List UInt8}, bytesLess x y = false → x ≠ y → bytesLess y x = true
  | [], [], _, h => absurd rfl h
  | [], _ :: _, h, _ => by simp [bytesLess] at h
  | _ :: _, [], _, _ => by simp [bytesLess]
  | a :: x, b :: y, h, hne => by
    simp only [bytesLess, Bool.or_eq_false_iff, Bool.and_eq_false_iff, decide_eq_false_iff_not, beq_eq_false_iff_ne] at h
    simp only [bytesLess, Bool.or_eq_true, Bool.and_eq_true, decide_eq_true_eq, beq_iff_eq]
    by_cases e : a = b
    · subst e
      have h2 : bytesLess x y = false := by
        rcases h.2 with h2 | h2
        · exact absurd rfl h2
        · exact h2
      exact Or.inr ⟨rfl, blt_total h2 (fun e => hne (by rw [e]))⟩
    · refine Or.inl ?_
      have := h.1
      rw [UInt8.lt_iff_toNat_lt] at *
      have hne' : a.toNat ≠ b.toNat := fun h => e (UInt8.toNat_inj.1 h)
      omega
theorem blt_asymm {x y : List UInt8} (h : bytesLess x y = true) : bytesLess y x = false := by
  cases hb : bytesLess y x with
  | false => rfl
  | true => rw [← blt_irrefl x, blt_trans h hb]

/-! names, attributes, paths -/
def badP (c : UInt8) : Bool := decide (c.toNat < 33) || decide (126 < c.toNat) || decide (c.toNat = 47)
def badK (c : UInt8) : Bool := decide (c.toNat < 33) || decide (126 < c.toNat)
def nameE (s : ByteArray) : Int := if s.toList = [] ∨ s.toList = [46] ∨ s.toList = [46, 46] ∨ s.toList.any badP = true then 6 else if 24 < s.size then 3 else 0
def keyE (s : ByteArray) : Int := if s.toList = [] ∨ s.toList.any badK = true then 6 else if 40 < s.size then 3 else 0
def aloneE (a : BAttr) : Int := if keyE a.name ≠ 0 then keyE a.name else if 200 < a.value.size then 3 else 0
def sizeF (A : Nat → BAttr) : Nat → Nat
  | 0 => 0
  | n + 1 => sizeF A n + (2 + (A n).name.size + (A n).value.size)
def hasEq (A : Nat → BAttr) (m : Nat) : Prop := ∃ i, i < m ∧ ∃ k, k < i ∧ (A k).name.toList = (A i).name.toList
def hasGt (A : Nat → BAttr) (m : Nat) : Prop := ∃ i, i < m ∧ ∃ k, k < i ∧ bytesLess (A i).name.toList (A k).name.toList = true
noncomputable def attrE (m : Nat) (A : Nat → BAttr) : Int :=
  if 6 < m then 3 else if firstE (fun k => aloneE (A k)) m ≠ 0 then firstE (fun k => aloneE (A k)) m else if hasEq A m then 8 else if hasGt A m then 6 else if 288 < sizeF A m then 5 else 0
def pathE (r : Nat) (R : Nat → ByteArray) : Int := if 8 < r then 3 else firstE (fun k => nameE (R k)) r
/-- without equal names, a list whose neighbours stand in order is in order -/
theorem gt_of_adj {A : Nat → BAttr} {m : Nat} (he : ¬ hasEq A m) (ha : ∀ i, 1 ≤ i → i < m → bytesLess (A i).name.toList (A (i - 1)).name.toList = false) : ¬ hasGt A m := by
  have key : ∀ d i k, k + d + 1 = i → i < m → bytesLess (A k).name.toList (A i).name.toList = true := by
    intro d
    induction d with
    | zero =>
      intro i k h hi
      have h1 := ha i (by omega) hi
      rw [show i - 1 = k by omega] at h1
      exact blt_total h1 (fun e => he ⟨i, hi, k, by omega, e.symm⟩)
    | succ d ih =>
      intro i k h hi
      have h1 := ih (i - 1) k (by omega) (by omega)
      have h2 := ha i (by omega) hi
      have h3 := blt_total h2 (fun e => he ⟨i, hi, i - 1, by omega, e.symm⟩)
      exact blt_trans h1 h3
  rintro ⟨i, hi, k, hk, hb⟩
  have := key (i - k - 1) i k (by omega) hi
  rw [blt_asymm this] at hb
  cases hb
theorem gt_adj {A : Nat → BAttr} {m i : Nat} (h1 : 1 ≤ i) (hi : i < m) (h : bytesLess (A i).name.toList (A (i - 1)).name.toList = true) : hasGt A m := ⟨i, hi, i - 1, by omega, h⟩
theorem keyE_cases (s : ByteArray) : keyE s = 6 ∨ keyE s = 3 ∨ keyE s = 0 := by
  unfold keyE; split
  · exact Or.inl rfl
  · split
    · exact Or.inr (Or.inl rfl)
    · exact Or.inr (Or.inr rfl)
theorem nameE_cases (s : ByteArray) : nameE s = 6 ∨ nameE s = 3 ∨ nameE s = 0 := by
  unfold nameE; split
  · exact Or.inl rfl
  · split
    · exact Or.inr (Or.inl rfl)
    · exact Or.inr (Or.inr rfl)

/-! trees -/
def shapeE (N : Nat → BNode) (i : Nat) : Int :=
  if i = 0 then (if (N 0).depth ≠ 0 ∨ (N 0).name.toList ≠ [] ∨ (N 0).kind ≠ 1 then 6 else 0)
  else if (N i).depth < 1 ∨ (N (i - 1)).depth + (if (N (i - 1)).kind = 1 then 1 else 0) < (N i).depth then 6
  else if 8 < (N i).depth then 3 else 0
/-- the entries, so far, of the directory that is open at a depth -/
def manyF (N : Nat → BNode) : Nat → Int → Nat
  | 0, _ => 0
  | k + 1, d => if (N k).depth ≤ d then 0 else if (N k).depth = d + 1 then manyF N k d + 1 else manyF N k d
/-- the name of the last one -/
def lastF (N : Nat → BNode) : Nat → Int → ByteArray
  | 0, _ => ByteArray.empty
  | k + 1, d => if (N k).depth ≤ d then ByteArray.empty else if (N k).depth = d + 1 then (N k).name else lastF N k d
def entryE (N : Nat → BNode) (i : Nat) : Int :=
  if nameE (N i).name ≠ 0 then nameE (N i).name
  else if 0 < manyF N i ((N i).depth - 1) ∧ (lastF N i ((N i).depth - 1)).toList = (N i).name.toList then 8
  else if 0 < manyF N i ((N i).depth - 1) ∧ bytesLess (N i).name.toList (lastF N i ((N i).depth - 1)).toList = true then 6
  else if 24 ≤ manyF N i ((N i).depth - 1) then 3 else 0
def kindE (x : BNode) : Int :=
  if x.kind < 1 ∨ 5 < x.kind then 14
  else if (x.kind ≠ 2 ∧ x.kind ≠ 3 ∧ x.data.toList ≠ []) ∨ (x.kind ≠ 4 ∧ (x.major ≠ 0 ∨ x.minor ≠ 0)) ∨ (x.kind = 5 ∧ 0 < x.m) ∨ ((x.kind = 1 ∨ x.kind = 5) ∧ x.cls ≠ 0) ∨ (x.kind = 3 ∧ x.data.toList = []) then 6
  else if (x.kind = 2 ∧ 384 < x.data.size) ∨ (x.kind = 3 ∧ 200 < x.data.size) then 3
  else if x.major < 0 ∨ 255 < x.major ∨ x.minor < 0 ∨ 255 < x.minor then 7 else 0
def sameA (m : Nat) (A : Nat → BAttr) (m' : Nat) (A' : Nat → BAttr) : Prop := m = m' ∧ ∀ k, k < m → (A k).name.toList = (A' k).name.toList ∧ (A k).value.toList = (A' k).value.toList
def likeP (x y : BNode) : Prop := x.kind = y.kind ∧ x.data.toList = y.data.toList ∧ x.major = y.major ∧ x.minor = y.minor ∧ sameA x.m x.A y.m y.A
def mostC (N : Nat → BNode) : Nat → Int
  | 0 => 0
  | k + 1 => max (mostC N k) (N k).cls
noncomputable def classE (N : Nat → BNode) (i : Nat) : Int :=
  if (N i).cls < 0 ∨ mostC N i + 1 < (N i).cls ∨ (0 < (N i).cls ∧ ∃ k, k < i ∧ (N k).cls = (N i).cls ∧ ¬ likeP (N k) (N i)) then 6 else 0
noncomputable def nodeE (N : Nat → BNode) (i : Nat) : Int :=
  if shapeE N i ≠ 0 then shapeE N i
  else if i ≠ 0 ∧ entryE N i ≠ 0 then entryE N i
  else if kindE (N i) ≠ 0 then kindE (N i)
  else if attrE (N i).m (N i).A ≠ 0 then attrE (N i).m (N i).A
  else classE N i
def countC (N : Nat → BNode) (c : Int) : Nat → Nat
  | 0 => 0
  | k + 1 => countC N c k + (if (N k).cls = c then 1 else 0)
def loneP (n : Nat) (N : Nat → BNode) (j : Nat) : Prop := 0 < (N j).cls ∧ countC N (N j).cls n = 1
noncomputable def treeE (n : Nat) (N : Nat → BNode) : Int :=
  if n = 0 then 6 else if 120 < n then 3 else if firstE (nodeE N) n ≠ 0 then firstE (nodeE N) n else if ∃ j, j < n ∧ loneP n N j then 6 else 0

/-! branches -/
/-- the last node of a depth -/
def lastAt (N : Nat → BNode) : Nat → Int → Int
  | 0, _ => -1
  | k + 1, d => if (N k).depth = d then (k : Int) else lastAt N k d
def nodeAt (N : Nat → BNode) (z : Int) : BNode := N z.toNat
def parF (N : Nat → BNode) (i : Nat) : Int := lastAt N i ((N i).depth - 1)
/-- the path of a node: its names -/
def pathF (N : Nat → BNode) (i : Nat) (j : Nat) : ByteArray := (nodeAt N (lastAt N (i + 1) ((j : Int) + 1))).name
def samePath (r : Nat) (R : Nat → ByteArray) (r' : Nat) (R' : Nat → ByteArray) : Prop := r = r' ∧ ∀ k, k < r → (R k).toList = (R' k).toList
noncomputable def markE (N : Nat → BNode) (i : Nat) : Int :=
  let x := N i
  if ((x.opq = true ∨ 0 < x.r) ∧ x.kind ≠ 1) ∨ (i = 0 ∧ 0 < x.r) then 14
  else if x.opq = true ∧ 0 < x.r then 6
  else if 0 < x.r ∧ pathE x.r x.R ≠ 0 then pathE x.r x.R
  else if 0 < x.r ∧ samePath x.r x.R x.depth.toNat (pathF N i) then 6
  else if 0 < x.r ∧ ∃ k, k < i ∧ samePath x.r x.R (N k).r (N k).R then 8
  else if x.kind = 5 ∧ 0 ≤ parF N i ∧ (nodeAt N (parF N i)).opq = true then 6 else 0
noncomputable def branchE (n : Nat) (N : Nat → BNode) : Int := if treeE n N ≠ 0 then treeE n N else firstE (markE N) n
/-- the directories -/
def dirsL (N : Nat → BNode) : Nat → List Int
  | 0 => []
  | k + 1 => if (N k).kind = 1 then dirsL N k ++ [(k : Int)] else dirsL N k
/-- how many entries a directory has -/
def kidsN (N : Nat → BNode) (d : Int) : Nat → Nat
  | 0 => 0
  | k + 1 => kidsN N d k + (if parF N k = d then 1 else 0)
def depthM (N : Nat → BNode) : Nat → Int
  | 0 => 0
  | k + 1 => max (depthM N k) (N k).depth
def widthM (n : Nat) (N : Nat → BNode) (l : List Int) : Nat → Nat
  | 0 => 0
  | k + 1 => max (widthM n N l k) (kidsN N (l.getD k 0) n)
end BR

namespace Go.Proofs.YtogjfifpbplahaaGreatDoor
open Go.RowKit
open BR
set_option linter.unusedVariables false

/-- the slice holds m attributes -/
def AttrsAt (w : World) (a0 : Option Addr) (m : Nat) (A : Nat → BAttr) : Prop :=
  0 < m → ∃ b o, a0 = some ⟨b, o, none⟩ ∧ b < w.heap.size ∧ ∀ k, k < m → w.cell? ⟨b, o + k * 2, none⟩ = some (.string (A k).name) ∧ w.cell? ⟨b, o + k * 2 + 1, none⟩ = some (.string (A k).value)
/-- the slice holds r strings -/
def StrsAt (w : World) (a0 : Option Addr) (r : Nat) (R : Nat → ByteArray) : Prop :=
  0 < r → ∃ b o, a0 = some ⟨b, o, none⟩ ∧ b < w.heap.size ∧ ∀ k, k < r → w.cell? ⟨b, o + k, none⟩ = some (.string (R k))
theorem AttrsAt.fr {S : Nat → Prop} {w w' : World} {a0 : Option Addr} {m : Nat} {A : Nat → BAttr} (h : AttrsAt w a0 m A) (f : Fr S w w') (hS : ∀ k, k < w.heap.size → ¬ S k) : AttrsAt w' a0 m A := fun hn => by
  obtain ⟨b, o, h1, h2, h3⟩ := h hn
  exact ⟨b, o, h1, Nat.lt_of_lt_of_le h2 f.size, fun k hk => ⟨f.cell h2 (hS b h2) (h3 k hk).1, f.cell h2 (hS b h2) (h3 k hk).2⟩⟩
theorem StrsAt.fr {S : Nat → Prop} {w w' : World} {a0 : Option Addr} {r : Nat} {R : Nat → ByteArray} (h : StrsAt w a0 r R) (f : Fr S w w') (hS : ∀ k, k < w.heap.size → ¬ S k) : StrsAt w' a0 r R := fun hn => by
  obtain ⟨b, o, h1, h2, h3⟩ := h hn
  exact ⟨b, o, h1, Nat.lt_of_lt_of_le h2 f.size, fun k hk => f.cell h2 (hS b h2) (h3 k hk)⟩
/-- the slices of a node: of its attributes, of its redirect -/
structure Hd where
  aA : Option Addr
  cA : Nat
  aR : Option Addr
  cR : Nat
def trV (x : BNode) (h : Hd) : List Value := [.int .i64 x.depth, .string x.name, .int .i64 x.kind, .slice h.aA x.m h.cA, .string x.data, .int .i64 x.major, .int .i64 x.minor, .int .i64 x.cls]
def brV (x : BNode) (h : Hd) : List Value := [.int .i64 x.depth, .string x.name, .int .i64 x.kind, .slice h.aA x.m h.cA, .string x.data, .int .i64 x.major, .int .i64 x.minor, .int .i64 x.cls, .bool x.opq, .slice h.aR x.r h.cR]
/-- what a node's slices lead to -/
def NodeT (w : World) (x : BNode) (h : Hd) : Prop := AttrsAt w h.aA x.m x.A ∧ x.m ≤ h.cA
def NodeB (w : World) (x : BNode) (h : Hd) : Prop := AttrsAt w h.aA x.m x.A ∧ x.m ≤ h.cA ∧ StrsAt w h.aR x.r x.R ∧ x.r ≤ h.cR
theorem NodeT.fr {S : Nat → Prop} {w w' : World} {x : BNode} {h : Hd} (k : NodeT w x h) (f : Fr S w w') (hS : ∀ k, k < w.heap.size → ¬ S k) : NodeT w' x h := ⟨k.1.fr f hS, k.2⟩
theorem NodeB.fr {S : Nat → Prop} {w w' : World} {x : BNode} {h : Hd} (k : NodeB w x h) (f : Fr S w w') (hS : ∀ k, k < w.heap.size → ¬ S k) : NodeB w' x h := ⟨k.1.fr f hS, k.2.1, k.2.2.1.fr f hS, k.2.2.2⟩
theorem NodeB.t {w : World} {x : BNode} {h : Hd} (k : NodeB w x h) : NodeT w x h := ⟨k.1, k.2.1⟩
/-- the slice holds n nodes of a tree -/
def TreeAt (w : World) (a0 : Option Addr) (n : Nat) (N : Nat → BNode) (H : Nat → Hd) : Prop :=
  (∀ i, i < n → NodeT w (N i) (H i)) ∧ (0 < n → ∃ b o, a0 = some ⟨b, o, none⟩ ∧ b < w.heap.size ∧ ∀ i j v, i < n → (trV (N i) (H i))[j]? = some v → w.cell? ⟨b, o + i * 8 + j, none⟩ = some v)
/-- the slice holds n nodes of a branch -/
def BranchAt (w : World) (a0 : Option Addr) (n : Nat) (N : Nat → BNode) (H : Nat → Hd) : Prop :=
  (∀ i, i < n → NodeB w (N i) (H i)) ∧ (0 < n → ∃ b o, a0 = some ⟨b, o, none⟩ ∧ b < w.heap.size ∧ ∀ i j v, i < n → (brV (N i) (H i))[j]? = some v → w.cell? ⟨b, o + i * 10 + j, none⟩ = some v)
theorem TreeAt.fr {S : Nat → Prop} {w w' : World} {a0 : Option Addr} {n : Nat} {N : Nat → BNode} {H : Nat → Hd} (h : TreeAt w a0 n N H) (f : Fr S w w') (hS : ∀ k, k < w.heap.size → ¬ S k) : TreeAt w' a0 n N H :=
  ⟨fun i hi => (h.1 i hi).fr f hS, fun hn => by
    obtain ⟨b, o, h1, h2, h3⟩ := h.2 hn
    exact ⟨b, o, h1, Nat.lt_of_lt_of_le h2 f.size, fun i j v hi hj => f.cell h2 (hS b h2) (h3 i j v hi hj)⟩⟩
theorem BranchAt.fr {S : Nat → Prop} {w w' : World} {a0 : Option Addr} {n : Nat} {N : Nat → BNode} {H : Nat → Hd} (h : BranchAt w a0 n N H) (f : Fr S w w') (hS : ∀ k, k < w.heap.size → ¬ S k) : BranchAt w' a0 n N H :=
  ⟨fun i hi => (h.1 i hi).fr f hS, fun hn => by
    obtain ⟨b, o, h1, h2, h3⟩ := h.2 hn
    exact ⟨b, o, h1, Nat.lt_of_lt_of_le h2 f.size, fun i j v hi hj => f.cell h2 (hS b h2) (h3 i j v hi hj)⟩⟩
/-- nothing is larger than the law looks at -/
def Small (x : BNode) : Prop := x.name.size ≤ 500 ∧ x.data.size ≤ 500 ∧ x.m ≤ 10 ∧ x.r ≤ 12 ∧ (∀ k, k < x.m → (x.A k).name.size ≤ 400 ∧ (x.A k).value.size ≤ 400) ∧ (∀ k, k < x.r → (x.R k).size ≤ 500) ∧
  -9223372036854775808 ≤ x.depth ∧ x.depth ≤ 9223372036854775807 ∧ -9223372036854775808 ≤ x.cls ∧ x.cls ≤ 9223372036854775807

theorem toList_data (s : ByteArray) : s.toList = s.data.toList := ByteArray.toList_eq s
end Go.Proofs.YtogjfifpbplahaaGreatDoor

namespace Go.Proofs.YtogjfifpbplahaaGreatDoor
open Go.RowKit Go.Shelf
open BR
set_option linter.unusedVariables false

theorem idxFrom_any (p : Nat → Bool) (hp : ∀ r, 128 ≤ r → p r = true) (s : ByteArray) : ∀ (f pos : Nat), s.size ≤ pos + f → (0 ≤ Lib.idxFuncFrom p true s f pos ↔ ∃ i, ∃ h : i < s.size, pos ≤ i ∧ p (s[i]'h).toNat = true)
  | 0, pos, hf => by
    constructor
    · intro h; exact absurd h (by simp [Lib.idxFuncFrom])
    · rintro ⟨i, h, h2, _⟩; omega
  | f + 1, pos, hf => by
    unfold Lib.idxFuncFrom
    by_cases hlt : pos < s.size
    · rw [if_pos hlt]
      by_cases ha : (s[pos]'hlt).toNat < 128
      · rw [decode_ascii s pos hlt ha]
        by_cases hb : p (s[pos]'hlt).toNat = true
        · rw [if_pos hb]
          exact ⟨fun _ => ⟨pos, hlt, Nat.le_refl _, hb⟩, fun _ => by omega⟩
        · rw [if_neg hb, idxFrom_any p hp s f (pos + 1) (by omega)]
          constructor
          · rintro ⟨i, h, h1, h2⟩; exact ⟨i, h, by omega, h2⟩
          · rintro ⟨i, h, h1, h2⟩
            refine ⟨i, h, ?_, h2⟩
            by_cases e : i = pos
            · subst e; exact absurd h2 hb
            · omega
      · have hd := decode_high s pos hlt (by omega)
        rw [if_pos (hp _ hd.1)]
        exact ⟨fun _ => ⟨pos, hlt, Nat.le_refl _, hp _ (by omega)⟩, fun _ => by omega⟩
    · rw [if_neg hlt]
      constructor
      · intro h; exact absurd h (by omega)
      · rintro ⟨i, h, h1, _⟩; omega
theorem idx_any (p : Nat → Bool) (hp : ∀ r, 128 ≤ r → p r = true) (s : ByteArray) : decide (0 ≤ Lib.idxFunc p true s) = s.toList.any (fun c => p c.toNat) := by
  rw [Bool.eq_iff_iff, decide_eq_true_eq, List.any_eq_true]
  unfold Lib.idxFunc
  rw [idxFrom_any p hp s s.size 0 (by omega), toList_data]
  constructor
  · rintro ⟨i, h, _, h2⟩
    exact ⟨s[i], by rw [← Array.mem_def]; exact Array.getElem_mem h, h2⟩
  · rintro ⟨c, hc, h2⟩
    obtain ⟨i, hi, rfl⟩ := List.getElem_of_mem hc
    exact ⟨i, by simpa using hi, Nat.zero_le _, h2⟩
theorem bad_at (w : World) : PredAt Tryz.prog 90 #[] encR (fun r => decide (r < 33) || decide (126 < r) || decide (r = 47)) w := fun W r _ => by
  unfold FnGives
  have z1 : (r : Int) < 33 ↔ r < 33 := by omega
  have z2 : (126 : Int) < (r : Int) ↔ 126 < r := by omega
  by_cases h3 : r = 47
  · have q3 : ((r : Int) == 47) = true := by simp [h3]
    go_enter Tryz.func90, Tryz.ntmps90
    go_wp2
    all_goals go_ret
    all_goals exact ⟨ret_bool (by simp [h3]), 0, rfl⟩
  · have q3 : ((r : Int) == 47) = false := by simp; omega
    by_cases h1 : r < 33 <;> by_cases h2 : 126 < r
    all_goals
      go_enter Tryz.func90, Tryz.ntmps90
      go_wp2
      all_goals first | (exfalso; omega) | (go_ret; exact ⟨ret_bool (by simp [h1, h2, h3]), 0, rfl⟩)
theorem name1_at (w : World) : PredAt Tryz.prog 103 #[] encR (fun r => decide (r < 33) || decide (126 < r)) w := fun W r _ => by
  unfold FnGives
  have z1 : (r : Int) < 33 ↔ r < 33 := by omega
  have z2 : (126 : Int) < (r : Int) ↔ 126 < r := by omega
  by_cases h1 : r < 33 <;> by_cases h2 : 126 < r
  all_goals
    go_enter Tryz.func103, Tryz.ntmps103
    go_wp2
    all_goals first | (exfalso; omega) | (go_ret; exact ⟨ret_bool (by simp [h1, h2]), 0, rfl⟩)
end Go.Proofs.YtogjfifpbplahaaGreatDoor
