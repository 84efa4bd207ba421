/- The program's checker of trees, walked: place. -/
import Derived.Test.YtogjfifpbplahaaGreatDoorJk
import Derived.Test.YtogjfifpbplahaaGreatDoorJh
import Derived.Deep.RegionHeld3
import Derived.Deep.CutRange
import Derived.Deep.Cut
namespace Go.Proofs.YtogjfifpbplahaaGreatDoor
open Go.RowKit
open BR
open Go.Op (bytesLess)
set_option linter.unusedVariables false

theorem op_info : (Tryz.prog.info? 137).map (fun i => (i.zero, i.size, i.bytes)) = some (some (.agg #[.int .i64 0, .string ⟨#[]⟩]), 2, 24) := by kernel_rfl
/-- the checker's own state before a node that is not the first -/
structure PlaceAt (w : World) (base C g cap L : Nat) (fl : Bool) (m1 m2 : Value) (cl : Int) (M : Nat → Nat) (S : Nat → ByteArray) (xs : List Value) : Prop where
  row : RowB w C 104 [.slice (some ⟨g, 0, none⟩) L cap, .bool fl, m1, m2, .int .i64 cl]
  own : w.ownsRow base 137 2 (.slice (some ⟨g, 0, none⟩) L cap) L xs
  lt : C < base
  le : base ≤ w.heap.size
  many : ∀ d, d < L → xs[d * 2]? = some (.int .i64 (M d))
  last : ∀ d, d < L → xs[d * 2 + 1]? = some (.string (S d))
theorem PlaceAt.ge {w : World} {base C g cap L : Nat} {fl : Bool} {m1 m2 : Value} {cl : Int} {M : Nat → Nat} {S : Nat → ByteArray} {xs : List Value} (h : PlaceAt w base C g cap L fl m1 m2 cl M S xs) : base ≤ g ∧ g < w.heap.size := h.own.lt g rfl
theorem PlaceAt.cells {w : World} {base C g cap L : Nat} {fl : Bool} {m1 m2 : Value} {cl : Int} {M : Nat → Nat} {S : Nat → ByteArray} {xs : List Value} (h : PlaceAt w base C g cap L fl m1 m2 cl M S xs) {d : Nat} (hd : d < L) :
    w.cell? ⟨g, d * 2, none⟩ = some (.int .i64 (M d)) ∧ w.cell? ⟨g, d * 2 + 1, none⟩ = some (.string (S d)) ∧ (∀ i, w.frozen? ⟨g, i, none⟩ = false) ∧ L ≤ cap := by
  have hc := fun j u hj => h.own.cells (g := g) rfl j u hj
  refine ⟨?_, ?_, ?_, ?_⟩
  · have := hc _ _ (h.many d hd); rw [addr_add, Nat.zero_add] at this; exact this
  · have := hc _ _ (h.last d hd); rw [addr_add, Nat.zero_add] at this; exact this
  · intro i
    rcases h.own.2 with ⟨hv, _⟩ | ⟨g', cap', cur, hv, hb, hg, hr⟩
    · cases hv
    · cases hv; simp [World.frozen?, hg]
  · rcases h.own.2 with ⟨hv, _⟩ | ⟨g', cap', cur, hv, hb, hg, hr, _⟩
    · cases hv
    · cases hv; exact hr
theorem PlaceAt.fr {w w' : World} {base C g cap L : Nat} {fl : Bool} {m1 m2 : Value} {cl : Int} {M : Nat → Nat} {S : Nat → ByteArray} {xs : List Value} (h : PlaceAt w base C g cap L fl m1 m2 cl M S xs) (f : Fr (fun _ => False) w w') : PlaceAt w' base C g cap L fl m1 m2 cl M S xs :=
  ⟨h.row.fr f (fun h => h), own_fr h.own f (fun _ _ h => h), h.lt, Nat.le_trans h.le f.size, h.many, h.last⟩
theorem PlaceAt.set {w : World} {base C g cap L : Nat} {fl : Bool} {m1 m2 : Value} {cl : Int} {M : Nat → Nat} {S : Nat → ByteArray} {xs : List Value} (h : PlaceAt w base C g cap L fl m1 m2 cl M S xs) {D : Nat} (hD : D < L) (v1 v2 : Value) (q : Nat) :
    ∃ ys, ys = ((xs.set (D * 2) v1).set (D * 2 + 1) v2).take ((D + 1) * 2) ∧ RowB (((w.drewN q).setCell ⟨g, D * 2, none⟩ v1).setCell ⟨g, D * 2 + 1, none⟩ v2) C 104 [.slice (some ⟨g, 0, none⟩) L cap, .bool fl, m1, m2, .int .i64 cl] ∧
    (((w.drewN q).setCell ⟨g, D * 2, none⟩ v1).setCell ⟨g, D * 2 + 1, none⟩ v2).ownsRow base 137 2 (.slice (some ⟨g, 0, none⟩) (D + 1) cap) (D + 1) ys ∧
    Fr (fun b => b = g) w (((w.drewN q).setCell ⟨g, D * 2, none⟩ v1).setCell ⟨g, D * 2 + 1, none⟩ v2) := by
  have hF : Fr (fun b => b = g) w (((w.drewN q).setCell ⟨g, D * 2, none⟩ v1).setCell ⟨g, D * 2 + 1, none⟩ v2) := (((Fr.refl (fun b => b = g) w).drewN q).setCell (a := ⟨g, D * 2, none⟩) (fun _ => rfl) v1).setCell (a := ⟨g, D * 2 + 1, none⟩) (fun _ => rfl) v2
  have o1 : (w.drewN q).ownsRow base 137 2 (.slice (some ⟨g, 0, none⟩) L cap) L xs := own_fr h.own ((Fr.refl (fun _ => False) w).drewN q) (fun _ _ h => h)
  refine ⟨_, rfl, h.row.fr hF (fun e => by have := h.ge.1; have := h.lt; omega), own_cut (own_set (own_set o1 (by omega) v1) (by omega) v2) (by omega), hF⟩
/-- what place answers -/
def placeE (L : Nat) (fl : Bool) (M : Nat → Nat) (S : Nat → ByteArray) (x : BNode) : Int :=
  if x.depth < 1 ∨ (L : Int) - (if fl = true then 1 else 0) < x.depth then 6 else if 8 < x.depth then 3
  else if nameE x.name ≠ 0 then nameE x.name
  else if 0 < M (x.depth - 1).toNat ∧ (S (x.depth - 1).toNat).toList = x.name.toList then 8
  else if 0 < M (x.depth - 1).toNat ∧ bytesLess x.name.toList (S (x.depth - 1).toNat).toList = true then 6
  else if M (x.depth - 1).toNat = 24 then 3 else 0
/-- what comes back -/
def RetPl (base : Nat) (vb : Option Nat) (C : Nat) (E : Int) (fl : Bool) (m1 m2 : Value) (cl : Int) (K : Nat → Value → List Value → Prop) (w : World) (e : Ending) (w' : World) : Prop :=
  e = .returned (.int .i64 E) ∧ Fr (fun b => b = C ∨ vb = some b) w w' ∧
  (E = 0 → ∃ (v : Value) (n : Nat) (xs : List Value), RowB w' C 104 [v, .bool fl, m1, m2, .int .i64 cl] ∧ w'.ownsRow base 137 2 v n xs ∧ K n v xs)
theorem dirs_next {L : Nat} {M : Nat → Nat} {S : Nat → ByteArray} {xs ys : List Value} (hl : xs.length = L * 2) (hm : ∀ d, d < L → xs[d * 2]? = some (.int .i64 (M d))) (hs : ∀ d, d < L → xs[d * 2 + 1]? = some (.string (S d)))
    {D : Nat} (hD : D < L) {v : Value} {s : ByteArray} (e : ys = ((xs.set (D * 2) v).set (D * 2 + 1) (.string s)).take ((D + 1) * 2)) :
    ∀ d, d < D + 2 → (ys ++ [.int .i64 0, .string ⟨#[]⟩])[d * 2]? = some (if d = D then v else if d = D + 1 then .int .i64 0 else .int .i64 (M d)) ∧ (ys ++ [.int .i64 0, .string ⟨#[]⟩])[d * 2 + 1]? = some (if d = D then .string s else if d = D + 1 then .string ⟨#[]⟩ else .string (S d)) := by
  subst e
  have hly : (((xs.set (D * 2) v).set (D * 2 + 1) (.string s)).take ((D + 1) * 2)).length = (D + 1) * 2 := by
    rw [List.length_take, List.length_set, List.length_set, hl]; omega
  intro d hd
  by_cases e1 : d = D + 1
  · subst e1
    rw [List.getElem?_append_right (by omega), List.getElem?_append_right (by omega), hly, if_neg (by omega), if_pos rfl, if_neg (by omega), if_pos rfl, show (D + 1) * 2 - (D + 1) * 2 = 0 by omega, show (D + 1) * 2 + 1 - (D + 1) * 2 = 1 by omega]
    exact ⟨rfl, rfl⟩
  · have t1 : ∀ j, j < (D + 1) * 2 → (((xs.set (D * 2) v).set (D * 2 + 1) (.string s)).take ((D + 1) * 2))[j]? = ((xs.set (D * 2) v).set (D * 2 + 1) (.string s))[j]? := fun j hj => by rw [List.getElem?_take, if_pos hj]
    rw [List.getElem?_append_left (by omega), List.getElem?_append_left (by omega), t1 _ (by omega), t1 _ (by omega)]
    by_cases e2 : d = D
    · subst e2
      rw [if_pos rfl, if_pos rfl]
      refine ⟨?_, ?_⟩
      · rw [List.getElem?_set_ne (by omega), List.getElem?_set_self (by omega)]
      · rw [List.getElem?_set_self (by rw [List.length_set]; omega)]
    · rw [if_neg e2, if_neg e1, if_neg e2, if_neg e1]
      refine ⟨?_, ?_⟩
      · rw [List.getElem?_set_ne (by omega), List.getElem?_set_ne (by omega)]; exact hm d (by omega)
      · rw [List.getElem?_set_ne (by omega), List.getElem?_set_ne (by omega)]; exact hs d (by omega)
/-- what the checker's directories are behind a node of depth D + 1 -/
def NextK (D : Nat) (M : Nat → Nat) (S : Nat → ByteArray) (nm : ByteArray) (n : Nat) (v : Value) (ys : List Value) : Prop :=
  n = D + 2 ∧ ∀ d, d < D + 2 → ys[d * 2]? = some (if d = D then .int .i64 ((M D : Int) + 1) else if d = D + 1 then .int .i64 0 else .int .i64 (M d)) ∧ ys[d * 2 + 1]? = some (if d = D then .string nm else if d = D + 1 then .string ⟨#[]⟩ else .string (S d))
set_option maxRecDepth 100000 in
set_option maxHeartbeats 4000000 in
theorem place_low (base C g cap L : Nat) (fl : Bool) (m1 m2 : Value) (cl : Int) (M : Nat → Nat) (S : Nat → ByteArray) (xs : List Value) (x : BNode) (h : Hd) (w : World) (K : Nat → Value → List Value → Prop)
    (hP : PlaceAt w base C g cap L fl m1 m2 cl M S xs) (h0 : 0 < L) (hL : L ≤ 1000) (hM : ∀ d, d < L → M d ≤ 24) (hs : x.name.size ≤ 1000) (hd : x.depth < 1) :
    Calls Tryz.prog 69 #[.pointer (some ⟨C, 0, none⟩), trA x h] w (RetPl base (some g) C 6 fl m1 m2 cl K w) := by
  have HP := Lib.hid hP
  obtain ⟨d, nm, kd, m, A, dt, mj, mi, cls, op, r, R⟩ := x
  dsimp only at *
  unfold trA
  dsimp only
  have c0 := hP.row.cell 0
  have c1 := hP.row.cell 1
  have hCl := hP.row.lt
  clear hP
  cases fl
  all_goals
    go_enter Tryz.func69, Tryz.ntmps69
    go_wp2_with fail
    go_ret
    exact ⟨rfl, (Fr.refl _ w).alloc _, fun h => by cases h⟩
set_option maxRecDepth 100000 in
set_option maxHeartbeats 4000000 in
theorem place_high (base C g cap L : Nat) (fl : Bool) (m1 m2 : Value) (cl : Int) (M : Nat → Nat) (S : Nat → ByteArray) (xs : List Value) (x : BNode) (h : Hd) (w : World) (K : Nat → Value → List Value → Prop)
    (hP : PlaceAt w base C g cap L fl m1 m2 cl M S xs) (h0 : 0 < L) (hL : L ≤ 1000) (hM : ∀ d, d < L → M d ≤ 24) (hs : x.name.size ≤ 1000) (hd : ¬ x.depth < 1) (hd2 : (L : Int) - (if fl = true then 1 else 0) < x.depth) :
    Calls Tryz.prog 69 #[.pointer (some ⟨C, 0, none⟩), trA x h] w (RetPl base (some g) C 6 fl m1 m2 cl K w) := by
  have HP := Lib.hid hP
  obtain ⟨d, nm, kd, m, A, dt, mj, mi, cls, op, r, R⟩ := x
  dsimp only at *
  unfold trA
  dsimp only
  have c0 := hP.row.cell 0
  have c1 := hP.row.cell 1
  have hCl := hP.row.lt
  clear hP
  cases fl
  all_goals
    simp only [Bool.false_eq_true, ↓reduceIte, Int.sub_zero] at hd2
    go_enter Tryz.func69, Tryz.ntmps69
    go_wp2_with fail
    go_ret
    exact ⟨rfl, (Fr.refl _ w).alloc _, fun h => by cases h⟩
set_option maxRecDepth 100000 in
set_option maxHeartbeats 4000000 in
theorem place_long (base C g cap L : Nat) (fl : Bool) (m1 m2 : Value) (cl : Int) (M : Nat → Nat) (S : Nat → ByteArray) (xs : List Value) (x : BNode) (h : Hd) (w : World) (K : Nat → Value → List Value → Prop)
    (hP : PlaceAt w base C g cap L fl m1 m2 cl M S xs) (h0 : 0 < L) (hL : L ≤ 1000) (hM : ∀ d, d < L → M d ≤ 24) (hs : x.name.size ≤ 1000) (hd : ¬ x.depth < 1) (hd2 : ¬ (L : Int) - (if fl = true then 1 else 0) < x.depth) (hd3 : 8 < x.depth) :
    Calls Tryz.prog 69 #[.pointer (some ⟨C, 0, none⟩), trA x h] w (RetPl base (some g) C 3 fl m1 m2 cl K w) := by
  have HP := Lib.hid hP
  obtain ⟨d, nm, kd, m, A, dt, mj, mi, cls, op, r, R⟩ := x
  dsimp only at *
  unfold trA
  dsimp only
  have c0 := hP.row.cell 0
  have c1 := hP.row.cell 1
  have hCl := hP.row.lt
  clear hP
  cases fl
  all_goals
    simp only [Bool.false_eq_true, ↓reduceIte, Int.sub_zero] at hd2
    go_enter Tryz.func69, Tryz.ntmps69
    go_wp2_with fail
    go_ret
    exact ⟨rfl, (Fr.refl _ w).alloc _, fun h => by cases h⟩
set_option maxRecDepth 100000 in
set_option maxHeartbeats 4000000 in
theorem place_name (base C g cap L : Nat) (fl : Bool) (m1 m2 : Value) (cl : Int) (M : Nat → Nat) (S : Nat → ByteArray) (xs : List Value) (x : BNode) (h : Hd) (w : World) (K : Nat → Value → List Value → Prop)
    (hP : PlaceAt w base C g cap L fl m1 m2 cl M S xs) (h0 : 0 < L) (hL : L ≤ 1000) (hM : ∀ d, d < L → M d ≤ 24) (hs : x.name.size ≤ 1000) (hd : ¬ x.depth < 1) (hd2 : ¬ (L : Int) - (if fl = true then 1 else 0) < x.depth) (hd3 : ¬ 8 < x.depth) (hE : nameE x.name ≠ 0) :
    Calls Tryz.prog 69 #[.pointer (some ⟨C, 0, none⟩), trA x h] w (RetPl base (some g) C (nameE x.name) fl m1 m2 cl K w) := by
  have HP := Lib.hid hP
  obtain ⟨d, nm, kd, m, A, dt, mj, mi, cls, op, r, R⟩ := x
  dsimp only at *
  unfold trA
  dsimp only
  have c0 := hP.row.cell 0
  have c1 := hP.row.cell 1
  have hCl := hP.row.lt
  clear hP
  have HC0 := Lib.hid (fun (w0 : World) => name_walk nm w0 hs)
  have HE := Lib.hid hE
  have q0 : (nameE nm != 0) = true := by simpa using hE
  clear hE
  generalize nameE nm = E at *
  cases fl
  all_goals
    simp only [Bool.false_eq_true, ↓reduceIte, Int.sub_zero] at hd2
    go_enter Tryz.func69, Tryz.ntmps69
    go_wp2_with (go_at_call 74; go_must (refine (HC0.out _).mono ?_; rintro e w1 ⟨rfl, hF⟩; have HF1 := Lib.hid (((Fr.refl (fun _ => False) w).alloc _).then hF); clear hF))
    go_ret
    exact ⟨rfl, HF1.out.up, fun h => absurd h HE.out⟩
set_option maxRecDepth 100000 in
set_option maxHeartbeats 4000000 in
theorem place_twice (base C g cap L : Nat) (fl : Bool) (m1 m2 : Value) (cl : Int) (M : Nat → Nat) (S : Nat → ByteArray) (xs : List Value) (x : BNode) (h : Hd) (w : World) (K : Nat → Value → List Value → Prop)
    (hP : PlaceAt w base C g cap L fl m1 m2 cl M S xs) (h0 : 0 < L) (hL : L ≤ 1000) (hM : ∀ d, d < L → M d ≤ 24) (hs : x.name.size ≤ 1000) (D : Nat) (hD : x.depth = (D : Int) + 1) (hD8 : D < 8) (hd2 : ¬ (L : Int) - (if fl = true then 1 else 0) < x.depth) (hn : nameE x.name = 0) (hm : 0 < M D ∧ (S D).toList = x.name.toList) :
    Calls Tryz.prog 69 #[.pointer (some ⟨C, 0, none⟩), trA x h] w (RetPl base (some g) C 8 fl m1 m2 cl K w) := by
  obtain ⟨i0, hinf, hz0, hz1, hz2⟩ := info_parts op_info
  have HI := Lib.hid (And.intro hinf (And.intro hz0 (And.intro hz1 hz2)))
  clear hinf hz0 hz1 hz2
  have HP := Lib.hid hP
  obtain ⟨d, nm, kd, m, A, dt, mj, mi, cls, op, r, R⟩ := x
  dsimp only at *
  unfold trA
  dsimp only
  have c0 := hP.row.cell 0
  have c1 := hP.row.cell 1
  have hCl := hP.row.lt
  subst hD
  have HC0 := Lib.hid (fun (w0 : World) => name_walk nm w0 hs)
  rw [hn] at HC0
  have HR := Lib.hid (RowB.new w 106 (trV ⟨(D:Int)+1, nm, kd, m, A, dt, mj, mi, cls, op, r, R⟩ h))
  have HG := Lib.hid hP.ge
  have hDL : D + 1 ≤ L := by cases fl <;> simp at hd2 <;> omega
  have HM := Lib.hid (hM D (by omega))
  clear hP hn hM
  have MZ := Lib.hid hm
  clear hm
  cases fl
  all_goals
    simp only [Bool.false_eq_true, ↓reduceIte, Int.sub_zero] at hd2
    go_enter Tryz.func69, Tryz.ntmps69
    go_upto_region 14 with (go_at_call 74; go_must (refine (HC0.out _).mono ?_; rintro e w1 ⟨rfl, hF⟩; have HF1 := Lib.hid (((Fr.refl (fun _ => False) w).alloc _).then hF); have HR1 := Lib.hid (HR.out.fr hF (fun h => h)); clear hF))
    clear HC0 HR c0 c1
    have HP1 := Lib.hid (HP.out.fr HF1.out)
    have c0 : w1.cell? ⟨C, 0, none⟩ = some (.slice (some ⟨g, 0, none⟩) L cap) := HP1.out.row.cell 0
    have b0 : w1.cell? ⟨w.heap.size, 0, none⟩ = some (.int .i64 ((D:Int)+1)) := HR1.out.cell 0
    have b1 : w1.cell? ⟨w.heap.size, 1, none⟩ = some (.string nm) := HR1.out.cell 1
    obtain ⟨d0, d1, hfz, hLc⟩ := HP1.out.cells (d := D) (by omega)
    have f0 := hfz (D * 2)
    have f1 := hfz (D * 2 + 1)
    clear hfz
    obtain ⟨Mo, hMo⟩ : ∃ Mo, Mo = M D := ⟨_, rfl⟩
    obtain ⟨So, hSo⟩ : ∃ So, So = S D := ⟨_, rfl⟩
    rw [← hMo] at d0 MZ HM
    rw [← hSo] at d1 MZ
    have HMo := Lib.hid hMo
    clear hMo hSo
    have HMM := HM.out
    clear HM
    have p0 : 0 < Mo := MZ.out.1
    have p1 : (0:Int) < (Mo:Int) := by omega
    have p2 : decide (0 < (Mo:Int)) = true := by simpa using p1
    have p3 : decide (0 < Mo) = true := by simpa using p0
    have p4 : (So.toList == nm.toList) = true := eq_beq MZ.out.2
    clear MZ
    go_wp2_with fail
    go_quiet (fail)
    go_wp2_with fail
    go_quiet (fail)
    go_wp2_with fail
    go_ret
    exact ⟨rfl, (by first | exact HF1.out.up.drewN _ | exact (HF1.out.up.drewN _).drewN _ | exact ((HF1.out.up.drewN _).drewN _).drewN _ | exact (((HF1.out.up.drewN _).drewN _).drewN _).drewN _ | fail), fun h => by cases h⟩
set_option maxRecDepth 100000 in
set_option maxHeartbeats 4000000 in
theorem place_order (base C g cap L : Nat) (fl : Bool) (m1 m2 : Value) (cl : Int) (M : Nat → Nat) (S : Nat → ByteArray) (xs : List Value) (x : BNode) (h : Hd) (w : World) (K : Nat → Value → List Value → Prop)
    (hP : PlaceAt w base C g cap L fl m1 m2 cl M S xs) (h0 : 0 < L) (hL : L ≤ 1000) (hM : ∀ d, d < L → M d ≤ 24) (hs : x.name.size ≤ 1000) (D : Nat) (hD : x.depth = (D : Int) + 1) (hD8 : D < 8) (hd2 : ¬ (L : Int) - (if fl = true then 1 else 0) < x.depth) (hn : nameE x.name = 0) (hm : 0 < M D ∧ (S D).toList ≠ x.name.toList ∧ bytesLess x.name.toList (S D).toList = true) :
    Calls Tryz.prog 69 #[.pointer (some ⟨C, 0, none⟩), trA x h] w (RetPl base (some g) C 6 fl m1 m2 cl K w) := by
  obtain ⟨i0, hinf, hz0, hz1, hz2⟩ := info_parts op_info
  have HI := Lib.hid (And.intro hinf (And.intro hz0 (And.intro hz1 hz2)))
  clear hinf hz0 hz1 hz2
  have HP := Lib.hid hP
  obtain ⟨d, nm, kd, m, A, dt, mj, mi, cls, op, r, R⟩ := x
  dsimp only at *
  unfold trA
  dsimp only
  have c0 := hP.row.cell 0
  have c1 := hP.row.cell 1
  have hCl := hP.row.lt
  subst hD
  have HC0 := Lib.hid (fun (w0 : World) => name_walk nm w0 hs)
  rw [hn] at HC0
  have HR := Lib.hid (RowB.new w 106 (trV ⟨(D:Int)+1, nm, kd, m, A, dt, mj, mi, cls, op, r, R⟩ h))
  have HG := Lib.hid hP.ge
  have hDL : D + 1 ≤ L := by cases fl <;> simp at hd2 <;> omega
  have HM := Lib.hid (hM D (by omega))
  clear hP hn hM
  have MZ := Lib.hid hm
  clear hm
  cases fl
  all_goals
    simp only [Bool.false_eq_true, ↓reduceIte, Int.sub_zero] at hd2
    go_enter Tryz.func69, Tryz.ntmps69
    go_upto_region 14 with (go_at_call 74; go_must (refine (HC0.out _).mono ?_; rintro e w1 ⟨rfl, hF⟩; have HF1 := Lib.hid (((Fr.refl (fun _ => False) w).alloc _).then hF); have HR1 := Lib.hid (HR.out.fr hF (fun h => h)); clear hF))
    clear HC0 HR c0 c1
    have HP1 := Lib.hid (HP.out.fr HF1.out)
    have c0 : w1.cell? ⟨C, 0, none⟩ = some (.slice (some ⟨g, 0, none⟩) L cap) := HP1.out.row.cell 0
    have b0 : w1.cell? ⟨w.heap.size, 0, none⟩ = some (.int .i64 ((D:Int)+1)) := HR1.out.cell 0
    have b1 : w1.cell? ⟨w.heap.size, 1, none⟩ = some (.string nm) := HR1.out.cell 1
    obtain ⟨d0, d1, hfz, hLc⟩ := HP1.out.cells (d := D) (by omega)
    have f0 := hfz (D * 2)
    have f1 := hfz (D * 2 + 1)
    clear hfz
    obtain ⟨Mo, hMo⟩ : ∃ Mo, Mo = M D := ⟨_, rfl⟩
    obtain ⟨So, hSo⟩ : ∃ So, So = S D := ⟨_, rfl⟩
    rw [← hMo] at d0 MZ HM
    rw [← hSo] at d1 MZ
    have HMo := Lib.hid hMo
    clear hMo hSo
    have HMM := HM.out
    clear HM
    have p0 : 0 < Mo := MZ.out.1
    have p1 : (0:Int) < (Mo:Int) := by omega
    have p2 : decide (0 < (Mo:Int)) = true := by simpa using p1
    have p3 : decide (0 < Mo) = true := by simpa using p0
    have p4 : (So.toList == nm.toList) = false := ne_beq MZ.out.2.1
    have p5 : bytesLess So.toList nm.toList = false := blt_asymm MZ.out.2.2
    have p8 := MZ.out.2.2
    clear MZ
    go_wp2_with fail
    go_quiet (fail)
    go_wp2_with fail
    go_quiet (fail)
    go_wp2_with fail
    go_quiet (fail)
    go_wp2_with fail
    go_ret
    exact ⟨rfl, (by first | exact HF1.out.up.drewN _ | exact (HF1.out.up.drewN _).drewN _ | exact ((HF1.out.up.drewN _).drewN _).drewN _ | exact (((HF1.out.up.drewN _).drewN _).drewN _).drewN _ | fail), fun h => by cases h⟩
set_option maxRecDepth 100000 in
set_option maxHeartbeats 4000000 in
theorem place_full (base C g cap L : Nat) (fl : Bool) (m1 m2 : Value) (cl : Int) (M : Nat → Nat) (S : Nat → ByteArray) (xs : List Value) (x : BNode) (h : Hd) (w : World) (K : Nat → Value → List Value → Prop)
    (hP : PlaceAt w base C g cap L fl m1 m2 cl M S xs) (h0 : 0 < L) (hL : L ≤ 1000) (hM : ∀ d, d < L → M d ≤ 24) (hs : x.name.size ≤ 1000) (D : Nat) (hD : x.depth = (D : Int) + 1) (hD8 : D < 8) (hd2 : ¬ (L : Int) - (if fl = true then 1 else 0) < x.depth) (hn : nameE x.name = 0) (hm : 0 < M D ∧ (S D).toList ≠ x.name.toList ∧ bytesLess x.name.toList (S D).toList = false ∧ M D = 24) :
    Calls Tryz.prog 69 #[.pointer (some ⟨C, 0, none⟩), trA x h] w (RetPl base (some g) C 3 fl m1 m2 cl K w) := by
  obtain ⟨i0, hinf, hz0, hz1, hz2⟩ := info_parts op_info
  have HI := Lib.hid (And.intro hinf (And.intro hz0 (And.intro hz1 hz2)))
  clear hinf hz0 hz1 hz2
  have HP := Lib.hid hP
  obtain ⟨d, nm, kd, m, A, dt, mj, mi, cls, op, r, R⟩ := x
  dsimp only at *
  unfold trA
  dsimp only
  have c0 := hP.row.cell 0
  have c1 := hP.row.cell 1
  have hCl := hP.row.lt
  subst hD
  have HC0 := Lib.hid (fun (w0 : World) => name_walk nm w0 hs)
  rw [hn] at HC0
  have HR := Lib.hid (RowB.new w 106 (trV ⟨(D:Int)+1, nm, kd, m, A, dt, mj, mi, cls, op, r, R⟩ h))
  have HG := Lib.hid hP.ge
  have hDL : D + 1 ≤ L := by cases fl <;> simp at hd2 <;> omega
  have HM := Lib.hid (hM D (by omega))
  clear hP hn hM
  have MZ := Lib.hid hm
  clear hm
  cases fl
  all_goals
    simp only [Bool.false_eq_true, ↓reduceIte, Int.sub_zero] at hd2
    go_enter Tryz.func69, Tryz.ntmps69
    go_upto_region 14 with (go_at_call 74; go_must (refine (HC0.out _).mono ?_; rintro e w1 ⟨rfl, hF⟩; have HF1 := Lib.hid (((Fr.refl (fun _ => False) w).alloc _).then hF); have HR1 := Lib.hid (HR.out.fr hF (fun h => h)); clear hF))
    clear HC0 HR c0 c1
    have HP1 := Lib.hid (HP.out.fr HF1.out)
    have c0 : w1.cell? ⟨C, 0, none⟩ = some (.slice (some ⟨g, 0, none⟩) L cap) := HP1.out.row.cell 0
    have b0 : w1.cell? ⟨w.heap.size, 0, none⟩ = some (.int .i64 ((D:Int)+1)) := HR1.out.cell 0
    have b1 : w1.cell? ⟨w.heap.size, 1, none⟩ = some (.string nm) := HR1.out.cell 1
    obtain ⟨d0, d1, hfz, hLc⟩ := HP1.out.cells (d := D) (by omega)
    have f0 := hfz (D * 2)
    have f1 := hfz (D * 2 + 1)
    clear hfz
    obtain ⟨Mo, hMo⟩ : ∃ Mo, Mo = M D := ⟨_, rfl⟩
    obtain ⟨So, hSo⟩ : ∃ So, So = S D := ⟨_, rfl⟩
    rw [← hMo] at d0 MZ HM
    rw [← hSo] at d1 MZ
    have HMo := Lib.hid hMo
    clear hMo hSo
    have HMM := HM.out
    clear HM
    have p0 : 0 < Mo := MZ.out.1
    have p1 : (0:Int) < (Mo:Int) := by omega
    have p2 : decide (0 < (Mo:Int)) = true := by simpa using p1
    have p3 : decide (0 < Mo) = true := by simpa using p0
    have p4 : (So.toList == nm.toList) = false := ne_beq MZ.out.2.1
    have p5 : bytesLess So.toList nm.toList = true := blt_total MZ.out.2.2.1 (fun e => MZ.out.2.1 e.symm)
    have p8 := MZ.out.2.2.1
    have p6 := MZ.out.2.2.2
    have p7 : ((Mo:Int) == 24) = true := by simp; omega
    clear MZ p6
    go_wp2_with fail
    go_quiet (fail)
    go_wp2_with fail
    go_quiet (fail)
    go_wp2_with fail
    go_quiet (fail)
    go_wp2_with fail
    go_ret
    exact ⟨rfl, (by first | exact HF1.out.up.drewN _ | exact (HF1.out.up.drewN _).drewN _ | exact ((HF1.out.up.drewN _).drewN _).drewN _ | exact (((HF1.out.up.drewN _).drewN _).drewN _).drewN _ | fail), fun h => by cases h⟩
set_option maxRecDepth 100000 in
set_option maxHeartbeats 4000000 in
theorem place_ok0 (base C g cap L : Nat) (fl : Bool) (m1 m2 : Value) (cl : Int) (M : Nat → Nat) (S : Nat → ByteArray) (xs : List Value) (x : BNode) (h : Hd) (w : World) (K : Nat → Value → List Value → Prop)
    (hP : PlaceAt w base C g cap L fl m1 m2 cl M S xs) (h0 : 0 < L) (hL : L ≤ 1000) (hM : ∀ d, d < L → M d ≤ 24) (hs : x.name.size ≤ 1000) (D : Nat) (hD : x.depth = (D : Int) + 1) (hD8 : D < 8) (hd2 : ¬ (L : Int) - (if fl = true then 1 else 0) < x.depth) (hn : nameE x.name = 0) (hm : M D ≠ 24 ∧ M D = 0 ∧ (S D).size ≤ (S D).size) :
    Calls Tryz.prog 69 #[.pointer (some ⟨C, 0, none⟩), trA x h] w (RetPl base (some g) C 0 fl m1 m2 cl (NextK D M S x.name) w) := by
  obtain ⟨i0, hinf, hz0, hz1, hz2⟩ := info_parts op_info
  have HI := Lib.hid (And.intro hinf (And.intro hz0 (And.intro hz1 hz2)))
  clear hinf hz0 hz1 hz2
  have HP := Lib.hid hP
  obtain ⟨d, nm, kd, m, A, dt, mj, mi, cls, op, r, R⟩ := x
  dsimp only at *
  unfold trA
  dsimp only
  have c0 := hP.row.cell 0
  have c1 := hP.row.cell 1
  have hCl := hP.row.lt
  subst hD
  have HC0 := Lib.hid (fun (w0 : World) => name_walk nm w0 hs)
  rw [hn] at HC0
  have HR := Lib.hid (RowB.new w 106 (trV ⟨(D:Int)+1, nm, kd, m, A, dt, mj, mi, cls, op, r, R⟩ h))
  have HG := Lib.hid hP.ge
  have hDL : D + 1 ≤ L := by cases fl <;> simp at hd2 <;> omega
  have HM := Lib.hid (hM D (by omega))
  clear hP hn hM
  have MZ := Lib.hid hm
  clear hm
  cases fl with
  | false =>
    simp only [Bool.false_eq_true, ↓reduceIte, Int.sub_zero] at hd2
    go_enter Tryz.func69, Tryz.ntmps69
    go_upto_region 14 with (go_at_call 74; go_must (refine (HC0.out _).mono ?_; rintro e w1 ⟨rfl, hF⟩; have HF1 := Lib.hid (((Fr.refl (fun _ => False) w).alloc _).then hF); have HR1 := Lib.hid (HR.out.fr hF (fun h => h)); clear hF))
    clear HC0 HR c0 c1
    have HP1 := Lib.hid (HP.out.fr HF1.out)
    have c0 : w1.cell? ⟨C, 0, none⟩ = some (.slice (some ⟨g, 0, none⟩) L cap) := HP1.out.row.cell 0
    have b0 : w1.cell? ⟨w.heap.size, 0, none⟩ = some (.int .i64 ((D:Int)+1)) := HR1.out.cell 0
    have b1 : w1.cell? ⟨w.heap.size, 1, none⟩ = some (.string nm) := HR1.out.cell 1
    obtain ⟨d0, d1, hfz, hLc⟩ := HP1.out.cells (d := D) (by omega)
    have f0 := hfz (D * 2)
    have f1 := hfz (D * 2 + 1)
    clear hfz
    obtain ⟨Mo, hMo⟩ : ∃ Mo, Mo = M D := ⟨_, rfl⟩
    obtain ⟨So, hSo⟩ : ∃ So, So = S D := ⟨_, rfl⟩
    rw [← hMo] at d0 MZ HM
    rw [← hSo] at d1 MZ
    have HMo := Lib.hid hMo
    clear hMo hSo
    have HMM := HM.out
    clear HM
    have p7 : ((Mo:Int) == 24) = false := by have := MZ.out.1; simp; omega
    have p1 : ¬ (0:Int) < (Mo:Int) := by have := MZ.out.2.1; omega
    have p2 : decide (0 < (Mo:Int)) = false := by simpa using p1
    have p3 : decide (0 < Mo) = false := by simp; omega
    clear MZ
    go_wp2_with fail
    go_quiet (fail)
    go_wp2_with fail
    go_quiet (fail)
    go_wp2_with fail
    go_quiet (fail)
    go_wp2_with fail
    go_region
    rename_i q1 q2 Kx hKx
    obtain ⟨ys, hys, r2, o2, F2⟩ := HP1.out.set (D := D) (by omega) (.int .i64 ((Mo:Int)+1)) (.string nm) (q1 + q2 + nq + 1)
    have hys := dirs_next HP1.out.own.1 HP1.out.many HP1.out.last (D := D) (by omega) hys
    rw [HMo.out] at hys
    have e0 := F2.cell (p := ⟨w.heap.size, 0, none⟩) HR1.out.lt (fun e => by have := HG.out.2; dsimp only at e; omega) b0
    clear b0 b1 d0 d1 f0 f1 c0
    generalize (((w1.drewN (q1 + q2 + nq + 1)).setCell ⟨g, D * 2, none⟩ (.int .i64 ((Mo:Int)+1))).setCell ⟨g, D * 2 + 1, none⟩ (.string nm)) = W2 at *
    have c0 : W2.cell? ⟨C, 0, none⟩ = some (.slice (some ⟨g, 0, none⟩) L cap) := r2.cell 0
    have f0 := r2.frozen 0
    have HL2 := Lib.hid (show base ≤ W2.heap.size from Nat.le_trans HP1.out.le F2.size)
    have hBl : w.heap.size < W2.heap.size := Nat.lt_of_lt_of_le HR1.out.lt F2.size
    have hCl2 : C < W2.heap.size := r2.lt
    have hBg : ¬ w.heap.size = g := by have := HG.out.2; omega
    have hCg : ¬ C = g := by have := HG.out.1; have := HP1.out.lt; omega
    have hCB : ¬ C = w.heap.size := by omega
    have g1 : (0:Int) ≤ (D:Int) + 1 := by omega
    have g2 : (D:Int) + 1 ≤ cap := by omega
    have HF2 := Lib.hid F2
    have HO2 := Lib.hid o2
    have HR2 := Lib.hid r2
    have HYS := Lib.hid hys
    clear F2 o2 r2 hys
    go_wp2_with fail
    refine wp_region_noPanic ?_
    refine wp_region_held_drew (S := fun w' => w'.cell? ⟨w.heap.size, 0, none⟩ = some (.int .i64 ((D:Int)+1))) (by kernel_rfl) e0 (fun hS => ?_)
    refine held_take (i := 0) (v := ?vk0) rfl (by kernel_rfl) (by kernel_rfl) (by kernel_rfl) (fun _ _ _ h => h) (by rfl) ?hk0 hS ?rk0
    case hk0 => intro w0 hS0; first | (go_simp; done) | (go_simp; with_reducible rfl)
    try simp only [Act.put, List.setIfInBounds_toArray, List.set_cons_zero, List.set_cons_succ]
    refine held_take (i := 1) (v := ?vk1) rfl (by kernel_rfl) (by kernel_rfl) (by kernel_rfl) (fun _ _ _ h => h) (by rfl) ?hk1 hS ?rk1
    case hk1 => intro w0 hS0; first | (go_simp; done) | (go_simp; with_reducible rfl)
    try simp only [Act.put, List.setIfInBounds_toArray, List.set_cons_zero, List.set_cons_succ]
    refine held_take (i := 2) (v := ?vk2) rfl (by kernel_rfl) (by kernel_rfl) (by kernel_rfl) (fun _ _ _ h => h) (by rfl) ?hk2 hS ?rk2
    case hk2 => intro w0 hS0; first | (go_simp; done) | (go_simp; with_reducible rfl)
    try simp only [Act.put, List.setIfInBounds_toArray, List.set_cons_zero, List.set_cons_succ]
    refine held_take (i := 3) (v := ?vk3) rfl (by kernel_rfl) (by kernel_rfl) (by kernel_rfl) (fun _ _ _ h => h) (by rfl) ?hk3 hS ?rk3
    case hk3 => intro w0 hS0; first | (go_simp; done) | (go_simp; with_reducible rfl)
    try simp only [Act.put, List.setIfInBounds_toArray, List.set_cons_zero, List.set_cons_succ]
    refine held_take (i := 5) (v := ?vk4) rfl (by kernel_rfl) (by kernel_rfl) (by kernel_rfl) (fun _ _ _ h => h) (by rfl) ?hk4 hS ?rk4
    case hk4 => intro w0 hS0; first | (go_simp; done) | (go_simp; with_reducible rfl)
    try simp only [Act.put, List.setIfInBounds_toArray, List.set_cons_zero, List.set_cons_succ]
    refine held_take (i := 6) (v := ?vk5) rfl (by kernel_rfl) (by kernel_rfl) (by kernel_rfl) (fun _ _ _ h => h) (by rfl) ?hk5 hS ?rk5
    case hk5 => intro w0 hS0; first | (go_simp; done) | (go_simp; with_reducible rfl)
    try simp only [Act.put, List.setIfInBounds_toArray, List.set_cons_zero, List.set_cons_succ]
    refine held_take (i := 8) (v := ?vk6) rfl (by kernel_rfl) (by kernel_rfl) (by kernel_rfl) (fun _ _ _ h => h) (by rfl) ?hk6 hS ?rk6
    case hk6 => intro w0 hS0; first | (go_simp; done) | (go_simp; with_reducible rfl)
    try simp only [Act.put, List.setIfInBounds_toArray, List.set_cons_zero, List.set_cons_succ]
    refine held_two (i := 4) (j := 9) rfl rfl (by kernel_rfl) (by rfl) (by rfl) (fun K hK => ?_) (fun K hK => ?_)
    · skip
      go_simp
      go_wp2_with fail
      refine hK.out _ _ hS ?_
      clear hK K
      try simp only [Act.put, List.setIfInBounds_toArray, List.set_cons_zero, List.set_cons_succ]
      refine held_take (i := 7) (v := ?vka0) rfl (by kernel_rfl) (by kernel_rfl) (by kernel_rfl) (fun _ _ _ h => h) (by rfl) ?hka0 hS ?rka0
      case hka0 => intro w0 hS0; first | (go_simp; done) | (go_simp; with_reducible rfl)
      try simp only [Act.put, List.setIfInBounds_toArray, List.set_cons_zero, List.set_cons_succ]
      refine held_step (i := 9) rfl (by kernel_rfl) (by rfl) (fun K hK => ?_)
      go_simp
      go_wp2_with fail
      refine hK.out _ _ (((Fr.refl (fun _ => False) W2).drew.alloc _).cell (p := ⟨w.heap.size, 0, none⟩) hBl (fun h => h) e0) ?_
      clear hK K
      try simp only [Act.put, List.setIfInBounds_toArray, List.set_cons_zero, List.set_cons_succ]
      have hS := (show (W2.alloc (Obj.cells #[.int .i64 0, .string ⟨#[]⟩] 137)).drew.cell? ⟨w.heap.size, 0, none⟩ = some (.int .i64 ((D:Int)+1)) from (((Fr.refl (fun _ => False) W2).drew.alloc _).cell (p := ⟨w.heap.size, 0, none⟩) hBl (fun h => h) e0))
      refine held_step (i := 10) rfl (by kernel_rfl) (by rfl) (fun K hK => ?_)
      refine wp_append_any _ _ 102 rfl base 137 i0 _ 2 24 Tryz.underlying102 HI.out.1 HI.out.2.1 HI.out.2.2.1 HI.out.2.2.2 rfl (by decide) (.slice (some ⟨g, 0, none⟩) (D + 1) cap) (D + 1) ys rfl (own_fr HO2.out ((Fr.refl (fun _ => False) _).drew.alloc _) (fun _ _ h => h)) (some ⟨W2.heap.size, 0, none⟩) 1 1 [.int .i64 0, .string ⟨#[]⟩] rfl rfl (fun _ => ⟨W2.heap.size, 0, rfl, fun j u hj => ((RowB.new W2.drew 137 [.int .i64 0, .string ⟨#[]⟩]).cell (0 + j)).trans (by rw [Nat.zero_add]; exact hj)⟩) (by intro u hu; simp at hu; rcases hu with rfl | rfl <;> rfl) (by unfold maxLen; omega) (by omega) (by show base ≤ (World.alloc _ _).heap.size; rw [alloc_size]; exact Nat.le_succ_of_le HL2.out) ?_; intro v3 w3 hown hgrow hat
      have hFr : Fr (fun b => b = g) W2 w3 := ((Fr.refl (fun b => b = g) W2).drew.alloc _).trans (Fr.of_grown hgrow) (fun k _ e => (Option.some.inj e).symm)
      obtain ⟨a3, cc, rfl, _, _⟩ := own_slice hown
      have hB3 := Nat.lt_of_lt_of_le hBl hFr.size
      have hS3 := hFr.cell (p := ⟨w.heap.size, 0, none⟩) hBl hBg e0
      have hR3 := HR2.out.fr hFr hCg
      have hO3 := own_fr (own_fr hown (((Fr.refl (fun b => b = C) w3).setCell (a := ⟨C, 0, none⟩) (fun _ => rfl) (.slice a3 (D + 1 + 1) cc))) (fun k hk e => by have := own_block_ge hown k hk; have := HP1.out.lt; omega)) (Fr.refl (fun _ => False) _) (fun _ _ h => h)
      have hA3 : Fr (fun b => b = C ∨ some g = some b) w (w3.setCell ⟨C, 0, none⟩ (.slice a3 (D + 1 + 1) cc)) := Fr.setCell (S := fun b => b = C ∨ some g = some b) ((HF1.out.up.trans HF2.out (fun k _ e => Or.inr (by rw [e]))).trans hFr (fun k _ e => Or.inr (by rw [e]))) (a := ⟨C, 0, none⟩) (fun _ => Or.inl rfl) _
      have c3 : w3.cell? ⟨C, 0, none⟩ = some (.slice (some ⟨g, 0, none⟩) L cap) := hR3.cell 0
      have f3 := hR3.frozen 0
      have HR3 := Lib.hid (hR3.set 0 (.slice a3 (D + 1 + 1) cc))
      have HO3 := Lib.hid hO3
      have HA3 := Lib.hid hA3
      clear hFr hR3 hO3 hA3 hown hgrow hat
      refine hK.out _ _ hS3 ?_
      clear hK K
      try simp only [Act.put, List.setIfInBounds_toArray, List.set_cons_zero, List.set_cons_succ]
      clear hS; have hS := hS3
      refine held_take (i := 11) (v := ?vka1) rfl (by kernel_rfl) (by kernel_rfl) (by kernel_rfl) (fun _ _ _ h => h) (by rfl) ?hka1 hS ?rka1
      case hka1 => intro w0 hS0; first | (go_simp; done) | (go_simp; with_reducible rfl)
      try simp only [Act.put, List.setIfInBounds_toArray, List.set_cons_zero, List.set_cons_succ]
      refine held_take (i := 12) (v := ?vka2) rfl (by kernel_rfl) (by kernel_rfl) (by kernel_rfl) (fun _ _ _ h => h) (by rfl) ?hka2 hS ?rka2
      case hka2 => intro w0 hS0; first | (go_simp; done) | (go_simp; with_reducible rfl)
      try simp only [Act.put, List.setIfInBounds_toArray, List.set_cons_zero, List.set_cons_succ]
      refine held_step (i := 13) rfl (by kernel_rfl) (by rfl) (fun K hK => ?_)
      go_simp
      go_wp2_with fail
      refine hK.out _ _ (((Fr.refl (fun b => b = C) w3).setCell (a := ⟨C, 0, none⟩) (fun _ => rfl) _).cell (p := ⟨w.heap.size, 0, none⟩) hB3 (fun e => by dsimp only at e; omega) hS3) ?_
      clear hK K
      try simp only [Act.put, List.setIfInBounds_toArray, List.set_cons_zero, List.set_cons_succ]
      refine held_done (by kernel_rfl) ?_
      refine NoPanic.normal ?_
      go_wp2_with fail
      go_ret
      exact ⟨rfl, HA3.out, fun _ => ⟨_, _, _, HR3.out, HO3.out, rfl, HYS.out⟩⟩
    · skip
      go_simp
      go_wp2_with fail
      refine hK.out _ _ (((Fr.refl (fun _ => False) W2).drew.alloc _).cell (p := ⟨w.heap.size, 0, none⟩) hBl (fun h => h) e0) ?_
      clear hK K
      try simp only [Act.put, List.setIfInBounds_toArray, List.set_cons_zero, List.set_cons_succ]
      have hS := (show (W2.alloc (Obj.cells #[.int .i64 0, .string ⟨#[]⟩] 137)).drew.cell? ⟨w.heap.size, 0, none⟩ = some (.int .i64 ((D:Int)+1)) from (((Fr.refl (fun _ => False) W2).drew.alloc _).cell (p := ⟨w.heap.size, 0, none⟩) hBl (fun h => h) e0))
      refine held_step (i := 4) rfl (by kernel_rfl) (by rfl) (fun K hK => ?_)
      go_simp
      go_wp2_with fail
      refine hK.out _ _ hS ?_
      clear hK K
      try simp only [Act.put, List.setIfInBounds_toArray, List.set_cons_zero, List.set_cons_succ]
      refine held_take (i := 7) (v := ?vkb0) rfl (by kernel_rfl) (by kernel_rfl) (by kernel_rfl) (fun _ _ _ h => h) (by rfl) ?hkb0 hS ?rkb0
      case hkb0 => intro w0 hS0; first | (go_simp; done) | (go_simp; with_reducible rfl)
      try simp only [Act.put, List.setIfInBounds_toArray, List.set_cons_zero, List.set_cons_succ]
      refine held_step (i := 10) rfl (by kernel_rfl) (by rfl) (fun K hK => ?_)
      refine wp_append_any _ _ 102 rfl base 137 i0 _ 2 24 Tryz.underlying102 HI.out.1 HI.out.2.1 HI.out.2.2.1 HI.out.2.2.2 rfl (by decide) (.slice (some ⟨g, 0, none⟩) (D + 1) cap) (D + 1) ys rfl (own_fr HO2.out ((Fr.refl (fun _ => False) _).drew.alloc _) (fun _ _ h => h)) (some ⟨W2.heap.size, 0, none⟩) 1 1 [.int .i64 0, .string ⟨#[]⟩] rfl rfl (fun _ => ⟨W2.heap.size, 0, rfl, fun j u hj => ((RowB.new W2.drew 137 [.int .i64 0, .string ⟨#[]⟩]).cell (0 + j)).trans (by rw [Nat.zero_add]; exact hj)⟩) (by intro u hu; simp at hu; rcases hu with rfl | rfl <;> rfl) (by unfold maxLen; omega) (by omega) (by show base ≤ (World.alloc _ _).heap.size; rw [alloc_size]; exact Nat.le_succ_of_le HL2.out) ?_; intro v3 w3 hown hgrow hat
      have hFr : Fr (fun b => b = g) W2 w3 := ((Fr.refl (fun b => b = g) W2).drew.alloc _).trans (Fr.of_grown hgrow) (fun k _ e => (Option.some.inj e).symm)
      obtain ⟨a3, cc, rfl, _, _⟩ := own_slice hown
      have hB3 := Nat.lt_of_lt_of_le hBl hFr.size
      have hS3 := hFr.cell (p := ⟨w.heap.size, 0, none⟩) hBl hBg e0
      have hR3 := HR2.out.fr hFr hCg
      have hO3 := own_fr (own_fr hown (((Fr.refl (fun b => b = C) w3).setCell (a := ⟨C, 0, none⟩) (fun _ => rfl) (.slice a3 (D + 1 + 1) cc))) (fun k hk e => by have := own_block_ge hown k hk; have := HP1.out.lt; omega)) (Fr.refl (fun _ => False) _) (fun _ _ h => h)
      have hA3 : Fr (fun b => b = C ∨ some g = some b) w (w3.setCell ⟨C, 0, none⟩ (.slice a3 (D + 1 + 1) cc)) := Fr.setCell (S := fun b => b = C ∨ some g = some b) ((HF1.out.up.trans HF2.out (fun k _ e => Or.inr (by rw [e]))).trans hFr (fun k _ e => Or.inr (by rw [e]))) (a := ⟨C, 0, none⟩) (fun _ => Or.inl rfl) _
      have c3 : w3.cell? ⟨C, 0, none⟩ = some (.slice (some ⟨g, 0, none⟩) L cap) := hR3.cell 0
      have f3 := hR3.frozen 0
      have HR3 := Lib.hid (hR3.set 0 (.slice a3 (D + 1 + 1) cc))
      have HO3 := Lib.hid hO3
      have HA3 := Lib.hid hA3
      clear hFr hR3 hO3 hA3 hown hgrow hat
      refine hK.out _ _ hS3 ?_
      clear hK K
      try simp only [Act.put, List.setIfInBounds_toArray, List.set_cons_zero, List.set_cons_succ]
      clear hS; have hS := hS3
      refine held_take (i := 11) (v := ?vkb1) rfl (by kernel_rfl) (by kernel_rfl) (by kernel_rfl) (fun _ _ _ h => h) (by rfl) ?hkb1 hS ?rkb1
      case hkb1 => intro w0 hS0; first | (go_simp; done) | (go_simp; with_reducible rfl)
      try simp only [Act.put, List.setIfInBounds_toArray, List.set_cons_zero, List.set_cons_succ]
      refine held_take (i := 12) (v := ?vkb2) rfl (by kernel_rfl) (by kernel_rfl) (by kernel_rfl) (fun _ _ _ h => h) (by rfl) ?hkb2 hS ?rkb2
      case hkb2 => intro w0 hS0; first | (go_simp; done) | (go_simp; with_reducible rfl)
      try simp only [Act.put, List.setIfInBounds_toArray, List.set_cons_zero, List.set_cons_succ]
      refine held_step (i := 13) rfl (by kernel_rfl) (by rfl) (fun K hK => ?_)
      go_simp
      go_wp2_with fail
      refine hK.out _ _ (((Fr.refl (fun b => b = C) w3).setCell (a := ⟨C, 0, none⟩) (fun _ => rfl) _).cell (p := ⟨w.heap.size, 0, none⟩) hB3 (fun e => by dsimp only at e; omega) hS3) ?_
      clear hK K
      try simp only [Act.put, List.setIfInBounds_toArray, List.set_cons_zero, List.set_cons_succ]
      refine held_done (by kernel_rfl) ?_
      refine NoPanic.normal ?_
      go_wp2_with fail
      go_ret
      exact ⟨rfl, HA3.out, fun _ => ⟨_, _, _, HR3.out, HO3.out, rfl, HYS.out⟩⟩
  | true =>
    simp only [↓reduceIte] at hd2
    go_enter Tryz.func69, Tryz.ntmps69
    go_upto_region 14 with (go_at_call 74; go_must (refine (HC0.out _).mono ?_; rintro e w1 ⟨rfl, hF⟩; have HF1 := Lib.hid (((Fr.refl (fun _ => False) w).alloc _).then hF); have HR1 := Lib.hid (HR.out.fr hF (fun h => h)); clear hF))
    clear HC0 HR c0 c1
    have HP1 := Lib.hid (HP.out.fr HF1.out)
    have c0 : w1.cell? ⟨C, 0, none⟩ = some (.slice (some ⟨g, 0, none⟩) L cap) := HP1.out.row.cell 0
    have b0 : w1.cell? ⟨w.heap.size, 0, none⟩ = some (.int .i64 ((D:Int)+1)) := HR1.out.cell 0
    have b1 : w1.cell? ⟨w.heap.size, 1, none⟩ = some (.string nm) := HR1.out.cell 1
    obtain ⟨d0, d1, hfz, hLc⟩ := HP1.out.cells (d := D) (by omega)
    have f0 := hfz (D * 2)
    have f1 := hfz (D * 2 + 1)
    clear hfz
    obtain ⟨Mo, hMo⟩ : ∃ Mo, Mo = M D := ⟨_, rfl⟩
    obtain ⟨So, hSo⟩ : ∃ So, So = S D := ⟨_, rfl⟩
    rw [← hMo] at d0 MZ HM
    rw [← hSo] at d1 MZ
    have HMo := Lib.hid hMo
    clear hMo hSo
    have HMM := HM.out
    clear HM
    have p7 : ((Mo:Int) == 24) = false := by have := MZ.out.1; simp; omega
    have p1 : ¬ (0:Int) < (Mo:Int) := by have := MZ.out.2.1; omega
    have p2 : decide (0 < (Mo:Int)) = false := by simpa using p1
    have p3 : decide (0 < Mo) = false := by simp; omega
    clear MZ
    go_wp2_with fail
    go_quiet (fail)
    go_wp2_with fail
    go_quiet (fail)
    go_wp2_with fail
    go_quiet (fail)
    go_wp2_with fail
    go_region
    rename_i q1 q2 Kx hKx
    obtain ⟨ys, hys, r2, o2, F2⟩ := HP1.out.set (D := D) (by omega) (.int .i64 ((Mo:Int)+1)) (.string nm) (q1 + q2 + nq + 1)
    have hys := dirs_next HP1.out.own.1 HP1.out.many HP1.out.last (D := D) (by omega) hys
    rw [HMo.out] at hys
    have e0 := F2.cell (p := ⟨w.heap.size, 0, none⟩) HR1.out.lt (fun e => by have := HG.out.2; dsimp only at e; omega) b0
    clear b0 b1 d0 d1 f0 f1 c0
    generalize (((w1.drewN (q1 + q2 + nq + 1)).setCell ⟨g, D * 2, none⟩ (.int .i64 ((Mo:Int)+1))).setCell ⟨g, D * 2 + 1, none⟩ (.string nm)) = W2 at *
    have c0 : W2.cell? ⟨C, 0, none⟩ = some (.slice (some ⟨g, 0, none⟩) L cap) := r2.cell 0
    have f0 := r2.frozen 0
    have HL2 := Lib.hid (show base ≤ W2.heap.size from Nat.le_trans HP1.out.le F2.size)
    have hBl : w.heap.size < W2.heap.size := Nat.lt_of_lt_of_le HR1.out.lt F2.size
    have hCl2 : C < W2.heap.size := r2.lt
    have hBg : ¬ w.heap.size = g := by have := HG.out.2; omega
    have hCg : ¬ C = g := by have := HG.out.1; have := HP1.out.lt; omega
    have hCB : ¬ C = w.heap.size := by omega
    have g1 : (0:Int) ≤ (D:Int) + 1 := by omega
    have g2 : (D:Int) + 1 ≤ cap := by omega
    have HF2 := Lib.hid F2
    have HO2 := Lib.hid o2
    have HR2 := Lib.hid r2
    have HYS := Lib.hid hys
    clear F2 o2 r2 hys
    go_wp2_with fail
    refine wp_region_noPanic ?_
    refine wp_region_held_drew (S := fun w' => w'.cell? ⟨w.heap.size, 0, none⟩ = some (.int .i64 ((D:Int)+1))) (by kernel_rfl) e0 (fun hS => ?_)
    refine held_take (i := 0) (v := ?vj0) rfl (by kernel_rfl) (by kernel_rfl) (by kernel_rfl) (fun _ _ _ h => h) (by rfl) ?hj0 hS ?rj0
    case hj0 => intro w0 hS0; first | (go_simp; done) | (go_simp; with_reducible rfl)
    try simp only [Act.put, List.setIfInBounds_toArray, List.set_cons_zero, List.set_cons_succ]
    refine held_take (i := 1) (v := ?vj1) rfl (by kernel_rfl) (by kernel_rfl) (by kernel_rfl) (fun _ _ _ h => h) (by rfl) ?hj1 hS ?rj1
    case hj1 => intro w0 hS0; first | (go_simp; done) | (go_simp; with_reducible rfl)
    try simp only [Act.put, List.setIfInBounds_toArray, List.set_cons_zero, List.set_cons_succ]
    refine held_take (i := 2) (v := ?vj2) rfl (by kernel_rfl) (by kernel_rfl) (by kernel_rfl) (fun _ _ _ h => h) (by rfl) ?hj2 hS ?rj2
    case hj2 => intro w0 hS0; first | (go_simp; done) | (go_simp; with_reducible rfl)
    try simp only [Act.put, List.setIfInBounds_toArray, List.set_cons_zero, List.set_cons_succ]
    refine held_take (i := 3) (v := ?vj3) rfl (by kernel_rfl) (by kernel_rfl) (by kernel_rfl) (fun _ _ _ h => h) (by rfl) ?hj3 hS ?rj3
    case hj3 => intro w0 hS0; first | (go_simp; done) | (go_simp; with_reducible rfl)
    try simp only [Act.put, List.setIfInBounds_toArray, List.set_cons_zero, List.set_cons_succ]
    refine held_take (i := 5) (v := ?vj4) rfl (by kernel_rfl) (by kernel_rfl) (by kernel_rfl) (fun _ _ _ h => h) (by rfl) ?hj4 hS ?rj4
    case hj4 => intro w0 hS0; first | (go_simp; done) | (go_simp; with_reducible rfl)
    try simp only [Act.put, List.setIfInBounds_toArray, List.set_cons_zero, List.set_cons_succ]
    refine held_take (i := 6) (v := ?vj5) rfl (by kernel_rfl) (by kernel_rfl) (by kernel_rfl) (fun _ _ _ h => h) (by rfl) ?hj5 hS ?rj5
    case hj5 => intro w0 hS0; first | (go_simp; done) | (go_simp; with_reducible rfl)
    try simp only [Act.put, List.setIfInBounds_toArray, List.set_cons_zero, List.set_cons_succ]
    refine held_take (i := 8) (v := ?vj6) rfl (by kernel_rfl) (by kernel_rfl) (by kernel_rfl) (fun _ _ _ h => h) (by rfl) ?hj6 hS ?rj6
    case hj6 => intro w0 hS0; first | (go_simp; done) | (go_simp; with_reducible rfl)
    try simp only [Act.put, List.setIfInBounds_toArray, List.set_cons_zero, List.set_cons_succ]
    refine held_two (i := 4) (j := 9) rfl rfl (by kernel_rfl) (by rfl) (by rfl) (fun K hK => ?_) (fun K hK => ?_)
    · skip
      go_simp
      go_wp2_with fail
      refine hK.out _ _ hS ?_
      clear hK K
      try simp only [Act.put, List.setIfInBounds_toArray, List.set_cons_zero, List.set_cons_succ]
      refine held_take (i := 7) (v := ?vja0) rfl (by kernel_rfl) (by kernel_rfl) (by kernel_rfl) (fun _ _ _ h => h) (by rfl) ?hja0 hS ?rja0
      case hja0 => intro w0 hS0; first | (go_simp; done) | (go_simp; with_reducible rfl)
      try simp only [Act.put, List.setIfInBounds_toArray, List.set_cons_zero, List.set_cons_succ]
      refine held_step (i := 9) rfl (by kernel_rfl) (by rfl) (fun K hK => ?_)
      go_simp
      go_wp2_with fail
      refine hK.out _ _ (((Fr.refl (fun _ => False) W2).drew.alloc _).cell (p := ⟨w.heap.size, 0, none⟩) hBl (fun h => h) e0) ?_
      clear hK K
      try simp only [Act.put, List.setIfInBounds_toArray, List.set_cons_zero, List.set_cons_succ]
      have hS := (show (W2.alloc (Obj.cells #[.int .i64 0, .string ⟨#[]⟩] 137)).drew.cell? ⟨w.heap.size, 0, none⟩ = some (.int .i64 ((D:Int)+1)) from (((Fr.refl (fun _ => False) W2).drew.alloc _).cell (p := ⟨w.heap.size, 0, none⟩) hBl (fun h => h) e0))
      refine held_step (i := 10) rfl (by kernel_rfl) (by rfl) (fun K hK => ?_)
      refine wp_append_any _ _ 102 rfl base 137 i0 _ 2 24 Tryz.underlying102 HI.out.1 HI.out.2.1 HI.out.2.2.1 HI.out.2.2.2 rfl (by decide) (.slice (some ⟨g, 0, none⟩) (D + 1) cap) (D + 1) ys rfl (own_fr HO2.out ((Fr.refl (fun _ => False) _).drew.alloc _) (fun _ _ h => h)) (some ⟨W2.heap.size, 0, none⟩) 1 1 [.int .i64 0, .string ⟨#[]⟩] rfl rfl (fun _ => ⟨W2.heap.size, 0, rfl, fun j u hj => ((RowB.new W2.drew 137 [.int .i64 0, .string ⟨#[]⟩]).cell (0 + j)).trans (by rw [Nat.zero_add]; exact hj)⟩) (by intro u hu; simp at hu; rcases hu with rfl | rfl <;> rfl) (by unfold maxLen; omega) (by omega) (by show base ≤ (World.alloc _ _).heap.size; rw [alloc_size]; exact Nat.le_succ_of_le HL2.out) ?_; intro v3 w3 hown hgrow hat
      have hFr : Fr (fun b => b = g) W2 w3 := ((Fr.refl (fun b => b = g) W2).drew.alloc _).trans (Fr.of_grown hgrow) (fun k _ e => (Option.some.inj e).symm)
      obtain ⟨a3, cc, rfl, _, _⟩ := own_slice hown
      have hB3 := Nat.lt_of_lt_of_le hBl hFr.size
      have hS3 := hFr.cell (p := ⟨w.heap.size, 0, none⟩) hBl hBg e0
      have hR3 := HR2.out.fr hFr hCg
      have hO3 := own_fr (own_fr hown (((Fr.refl (fun b => b = C) w3).setCell (a := ⟨C, 0, none⟩) (fun _ => rfl) (.slice a3 (D + 1 + 1) cc))) (fun k hk e => by have := own_block_ge hown k hk; have := HP1.out.lt; omega)) (Fr.refl (fun _ => False) _) (fun _ _ h => h)
      have hA3 : Fr (fun b => b = C ∨ some g = some b) w (w3.setCell ⟨C, 0, none⟩ (.slice a3 (D + 1 + 1) cc)) := Fr.setCell (S := fun b => b = C ∨ some g = some b) ((HF1.out.up.trans HF2.out (fun k _ e => Or.inr (by rw [e]))).trans hFr (fun k _ e => Or.inr (by rw [e]))) (a := ⟨C, 0, none⟩) (fun _ => Or.inl rfl) _
      have c3 : w3.cell? ⟨C, 0, none⟩ = some (.slice (some ⟨g, 0, none⟩) L cap) := hR3.cell 0
      have f3 := hR3.frozen 0
      have HR3 := Lib.hid (hR3.set 0 (.slice a3 (D + 1 + 1) cc))
      have HO3 := Lib.hid hO3
      have HA3 := Lib.hid hA3
      clear hFr hR3 hO3 hA3 hown hgrow hat
      refine hK.out _ _ hS3 ?_
      clear hK K
      try simp only [Act.put, List.setIfInBounds_toArray, List.set_cons_zero, List.set_cons_succ]
      clear hS; have hS := hS3
      refine held_take (i := 11) (v := ?vja1) rfl (by kernel_rfl) (by kernel_rfl) (by kernel_rfl) (fun _ _ _ h => h) (by rfl) ?hja1 hS ?rja1
      case hja1 => intro w0 hS0; first | (go_simp; done) | (go_simp; with_reducible rfl)
      try simp only [Act.put, List.setIfInBounds_toArray, List.set_cons_zero, List.set_cons_succ]
      refine held_take (i := 12) (v := ?vja2) rfl (by kernel_rfl) (by kernel_rfl) (by kernel_rfl) (fun _ _ _ h => h) (by rfl) ?hja2 hS ?rja2
      case hja2 => intro w0 hS0; first | (go_simp; done) | (go_simp; with_reducible rfl)
      try simp only [Act.put, List.setIfInBounds_toArray, List.set_cons_zero, List.set_cons_succ]
      refine held_step (i := 13) rfl (by kernel_rfl) (by rfl) (fun K hK => ?_)
      go_simp
      go_wp2_with fail
      refine hK.out _ _ (((Fr.refl (fun b => b = C) w3).setCell (a := ⟨C, 0, none⟩) (fun _ => rfl) _).cell (p := ⟨w.heap.size, 0, none⟩) hB3 (fun e => by dsimp only at e; omega) hS3) ?_
      clear hK K
      try simp only [Act.put, List.setIfInBounds_toArray, List.set_cons_zero, List.set_cons_succ]
      refine held_done (by kernel_rfl) ?_
      refine NoPanic.normal ?_
      go_wp2_with fail
      go_ret
      exact ⟨rfl, HA3.out, fun _ => ⟨_, _, _, HR3.out, HO3.out, rfl, HYS.out⟩⟩
    · skip
      go_simp
      go_wp2_with fail
      refine hK.out _ _ (((Fr.refl (fun _ => False) W2).drew.alloc _).cell (p := ⟨w.heap.size, 0, none⟩) hBl (fun h => h) e0) ?_
      clear hK K
      try simp only [Act.put, List.setIfInBounds_toArray, List.set_cons_zero, List.set_cons_succ]
      have hS := (show (W2.alloc (Obj.cells #[.int .i64 0, .string ⟨#[]⟩] 137)).drew.cell? ⟨w.heap.size, 0, none⟩ = some (.int .i64 ((D:Int)+1)) from (((Fr.refl (fun _ => False) W2).drew.alloc _).cell (p := ⟨w.heap.size, 0, none⟩) hBl (fun h => h) e0))
      refine held_step (i := 4) rfl (by kernel_rfl) (by rfl) (fun K hK => ?_)
      go_simp
      go_wp2_with fail
      refine hK.out _ _ hS ?_
      clear hK K
      try simp only [Act.put, List.setIfInBounds_toArray, List.set_cons_zero, List.set_cons_succ]
      refine held_take (i := 7) (v := ?vjb0) rfl (by kernel_rfl) (by kernel_rfl) (by kernel_rfl) (fun _ _ _ h => h) (by rfl) ?hjb0 hS ?rjb0
      case hjb0 => intro w0 hS0; first | (go_simp; done) | (go_simp; with_reducible rfl)
      try simp only [Act.put, List.setIfInBounds_toArray, List.set_cons_zero, List.set_cons_succ]
      refine held_step (i := 10) rfl (by kernel_rfl) (by rfl) (fun K hK => ?_)
      refine wp_append_any _ _ 102 rfl base 137 i0 _ 2 24 Tryz.underlying102 HI.out.1 HI.out.2.1 HI.out.2.2.1 HI.out.2.2.2 rfl (by decide) (.slice (some ⟨g, 0, none⟩) (D + 1) cap) (D + 1) ys rfl (own_fr HO2.out ((Fr.refl (fun _ => False) _).drew.alloc _) (fun _ _ h => h)) (some ⟨W2.heap.size, 0, none⟩) 1 1 [.int .i64 0, .string ⟨#[]⟩] rfl rfl (fun _ => ⟨W2.heap.size, 0, rfl, fun j u hj => ((RowB.new W2.drew 137 [.int .i64 0, .string ⟨#[]⟩]).cell (0 + j)).trans (by rw [Nat.zero_add]; exact hj)⟩) (by intro u hu; simp at hu; rcases hu with rfl | rfl <;> rfl) (by unfold maxLen; omega) (by omega) (by show base ≤ (World.alloc _ _).heap.size; rw [alloc_size]; exact Nat.le_succ_of_le HL2.out) ?_; intro v3 w3 hown hgrow hat
      have hFr : Fr (fun b => b = g) W2 w3 := ((Fr.refl (fun b => b = g) W2).drew.alloc _).trans (Fr.of_grown hgrow) (fun k _ e => (Option.some.inj e).symm)
      obtain ⟨a3, cc, rfl, _, _⟩ := own_slice hown
      have hB3 := Nat.lt_of_lt_of_le hBl hFr.size
      have hS3 := hFr.cell (p := ⟨w.heap.size, 0, none⟩) hBl hBg e0
      have hR3 := HR2.out.fr hFr hCg
      have hO3 := own_fr (own_fr hown (((Fr.refl (fun b => b = C) w3).setCell (a := ⟨C, 0, none⟩) (fun _ => rfl) (.slice a3 (D + 1 + 1) cc))) (fun k hk e => by have := own_block_ge hown k hk; have := HP1.out.lt; omega)) (Fr.refl (fun _ => False) _) (fun _ _ h => h)
      have hA3 : Fr (fun b => b = C ∨ some g = some b) w (w3.setCell ⟨C, 0, none⟩ (.slice a3 (D + 1 + 1) cc)) := Fr.setCell (S := fun b => b = C ∨ some g = some b) ((HF1.out.up.trans HF2.out (fun k _ e => Or.inr (by rw [e]))).trans hFr (fun k _ e => Or.inr (by rw [e]))) (a := ⟨C, 0, none⟩) (fun _ => Or.inl rfl) _
      have c3 : w3.cell? ⟨C, 0, none⟩ = some (.slice (some ⟨g, 0, none⟩) L cap) := hR3.cell 0
      have f3 := hR3.frozen 0
      have HR3 := Lib.hid (hR3.set 0 (.slice a3 (D + 1 + 1) cc))
      have HO3 := Lib.hid hO3
      have HA3 := Lib.hid hA3
      clear hFr hR3 hO3 hA3 hown hgrow hat
      refine hK.out _ _ hS3 ?_
      clear hK K
      try simp only [Act.put, List.setIfInBounds_toArray, List.set_cons_zero, List.set_cons_succ]
      clear hS; have hS := hS3
      refine held_take (i := 11) (v := ?vjb1) rfl (by kernel_rfl) (by kernel_rfl) (by kernel_rfl) (fun _ _ _ h => h) (by rfl) ?hjb1 hS ?rjb1
      case hjb1 => intro w0 hS0; first | (go_simp; done) | (go_simp; with_reducible rfl)
      try simp only [Act.put, List.setIfInBounds_toArray, List.set_cons_zero, List.set_cons_succ]
      refine held_take (i := 12) (v := ?vjb2) rfl (by kernel_rfl) (by kernel_rfl) (by kernel_rfl) (fun _ _ _ h => h) (by rfl) ?hjb2 hS ?rjb2
      case hjb2 => intro w0 hS0; first | (go_simp; done) | (go_simp; with_reducible rfl)
      try simp only [Act.put, List.setIfInBounds_toArray, List.set_cons_zero, List.set_cons_succ]
      refine held_step (i := 13) rfl (by kernel_rfl) (by rfl) (fun K hK => ?_)
      go_simp
      go_wp2_with fail
      refine hK.out _ _ (((Fr.refl (fun b => b = C) w3).setCell (a := ⟨C, 0, none⟩) (fun _ => rfl) _).cell (p := ⟨w.heap.size, 0, none⟩) hB3 (fun e => by dsimp only at e; omega) hS3) ?_
      clear hK K
      try simp only [Act.put, List.setIfInBounds_toArray, List.set_cons_zero, List.set_cons_succ]
      refine held_done (by kernel_rfl) ?_
      refine NoPanic.normal ?_
      go_wp2_with fail
      go_ret
      exact ⟨rfl, HA3.out, fun _ => ⟨_, _, _, HR3.out, HO3.out, rfl, HYS.out⟩⟩
set_option maxRecDepth 100000 in
set_option maxHeartbeats 4000000 in
theorem place_ok1 (base C g cap L : Nat) (fl : Bool) (m1 m2 : Value) (cl : Int) (M : Nat → Nat) (S : Nat → ByteArray) (xs : List Value) (x : BNode) (h : Hd) (w : World) (K : Nat → Value → List Value → Prop)
    (hP : PlaceAt w base C g cap L fl m1 m2 cl M S xs) (h0 : 0 < L) (hL : L ≤ 1000) (hM : ∀ d, d < L → M d ≤ 24) (hs : x.name.size ≤ 1000) (D : Nat) (hD : x.depth = (D : Int) + 1) (hD8 : D < 8) (hd2 : ¬ (L : Int) - (if fl = true then 1 else 0) < x.depth) (hn : nameE x.name = 0) (hm : M D ≠ 24 ∧ 0 < M D ∧ (S D).toList ≠ x.name.toList ∧ bytesLess x.name.toList (S D).toList = false) :
    Calls Tryz.prog 69 #[.pointer (some ⟨C, 0, none⟩), trA x h] w (RetPl base (some g) C 0 fl m1 m2 cl (NextK D M S x.name) w) := by
  obtain ⟨i0, hinf, hz0, hz1, hz2⟩ := info_parts op_info
  have HI := Lib.hid (And.intro hinf (And.intro hz0 (And.intro hz1 hz2)))
  clear hinf hz0 hz1 hz2
  have HP := Lib.hid hP
  obtain ⟨d, nm, kd, m, A, dt, mj, mi, cls, op, r, R⟩ := x
  dsimp only at *
  unfold trA
  dsimp only
  have c0 := hP.row.cell 0
  have c1 := hP.row.cell 1
  have hCl := hP.row.lt
  subst hD
  have HC0 := Lib.hid (fun (w0 : World) => name_walk nm w0 hs)
  rw [hn] at HC0
  have HR := Lib.hid (RowB.new w 106 (trV ⟨(D:Int)+1, nm, kd, m, A, dt, mj, mi, cls, op, r, R⟩ h))
  have HG := Lib.hid hP.ge
  have hDL : D + 1 ≤ L := by cases fl <;> simp at hd2 <;> omega
  have HM := Lib.hid (hM D (by omega))
  clear hP hn hM
  have MZ := Lib.hid hm
  clear hm
  cases fl with
  | false =>
    simp only [Bool.false_eq_true, ↓reduceIte, Int.sub_zero] at hd2
    go_enter Tryz.func69, Tryz.ntmps69
    go_upto_region 14 with (go_at_call 74; go_must (refine (HC0.out _).mono ?_; rintro e w1 ⟨rfl, hF⟩; have HF1 := Lib.hid (((Fr.refl (fun _ => False) w).alloc _).then hF); have HR1 := Lib.hid (HR.out.fr hF (fun h => h)); clear hF))
    clear HC0 HR c0 c1
    have HP1 := Lib.hid (HP.out.fr HF1.out)
    have c0 : w1.cell? ⟨C, 0, none⟩ = some (.slice (some ⟨g, 0, none⟩) L cap) := HP1.out.row.cell 0
    have b0 : w1.cell? ⟨w.heap.size, 0, none⟩ = some (.int .i64 ((D:Int)+1)) := HR1.out.cell 0
    have b1 : w1.cell? ⟨w.heap.size, 1, none⟩ = some (.string nm) := HR1.out.cell 1
    obtain ⟨d0, d1, hfz, hLc⟩ := HP1.out.cells (d := D) (by omega)
    have f0 := hfz (D * 2)
    have f1 := hfz (D * 2 + 1)
    clear hfz
    obtain ⟨Mo, hMo⟩ : ∃ Mo, Mo = M D := ⟨_, rfl⟩
    obtain ⟨So, hSo⟩ : ∃ So, So = S D := ⟨_, rfl⟩
    rw [← hMo] at d0 MZ HM
    rw [← hSo] at d1 MZ
    have HMo := Lib.hid hMo
    clear hMo hSo
    have HMM := HM.out
    clear HM
    have p7 : ((Mo:Int) == 24) = false := by have := MZ.out.1; simp; omega
    have p0 : 0 < Mo := MZ.out.2.1
    have p1 : (0:Int) < (Mo:Int) := by omega
    have p2 : decide (0 < (Mo:Int)) = true := by simpa using p1
    have p3 : decide (0 < Mo) = true := by simpa using p0
    have p4 : (So.toList == nm.toList) = false := ne_beq MZ.out.2.2.1
    have p5 : bytesLess So.toList nm.toList = true := blt_total MZ.out.2.2.2 (fun e => MZ.out.2.2.1 e.symm)
    have p8 := MZ.out.2.2.2
    clear MZ
    go_wp2_with fail
    go_quiet (fail)
    go_wp2_with fail
    go_quiet (fail)
    go_wp2_with fail
    go_quiet (fail)
    go_wp2_with fail
    go_region
    rename_i q1 q2 Kx hKx
    obtain ⟨ys, hys, r2, o2, F2⟩ := HP1.out.set (D := D) (by omega) (.int .i64 ((Mo:Int)+1)) (.string nm) (q1 + q2 + nq + 1)
    have hys := dirs_next HP1.out.own.1 HP1.out.many HP1.out.last (D := D) (by omega) hys
    rw [HMo.out] at hys
    have e0 := F2.cell (p := ⟨w.heap.size, 0, none⟩) HR1.out.lt (fun e => by have := HG.out.2; dsimp only at e; omega) b0
    clear b0 b1 d0 d1 f0 f1 c0
    generalize (((w1.drewN (q1 + q2 + nq + 1)).setCell ⟨g, D * 2, none⟩ (.int .i64 ((Mo:Int)+1))).setCell ⟨g, D * 2 + 1, none⟩ (.string nm)) = W2 at *
    have c0 : W2.cell? ⟨C, 0, none⟩ = some (.slice (some ⟨g, 0, none⟩) L cap) := r2.cell 0
    have f0 := r2.frozen 0
    have HL2 := Lib.hid (show base ≤ W2.heap.size from Nat.le_trans HP1.out.le F2.size)
    have hBl : w.heap.size < W2.heap.size := Nat.lt_of_lt_of_le HR1.out.lt F2.size
    have hCl2 : C < W2.heap.size := r2.lt
    have hBg : ¬ w.heap.size = g := by have := HG.out.2; omega
    have hCg : ¬ C = g := by have := HG.out.1; have := HP1.out.lt; omega
    have hCB : ¬ C = w.heap.size := by omega
    have g1 : (0:Int) ≤ (D:Int) + 1 := by omega
    have g2 : (D:Int) + 1 ≤ cap := by omega
    have HF2 := Lib.hid F2
    have HO2 := Lib.hid o2
    have HR2 := Lib.hid r2
    have HYS := Lib.hid hys
    clear F2 o2 r2 hys
    go_wp2_with fail
    refine wp_region_noPanic ?_
    refine wp_region_held_drew (S := fun w' => w'.cell? ⟨w.heap.size, 0, none⟩ = some (.int .i64 ((D:Int)+1))) (by kernel_rfl) e0 (fun hS => ?_)
    refine held_take (i := 0) (v := ?vk0) rfl (by kernel_rfl) (by kernel_rfl) (by kernel_rfl) (fun _ _ _ h => h) (by rfl) ?hk0 hS ?rk0
    case hk0 => intro w0 hS0; first | (go_simp; done) | (go_simp; with_reducible rfl)
    try simp only [Act.put, List.setIfInBounds_toArray, List.set_cons_zero, List.set_cons_succ]
    refine held_take (i := 1) (v := ?vk1) rfl (by kernel_rfl) (by kernel_rfl) (by kernel_rfl) (fun _ _ _ h => h) (by rfl) ?hk1 hS ?rk1
    case hk1 => intro w0 hS0; first | (go_simp; done) | (go_simp; with_reducible rfl)
    try simp only [Act.put, List.setIfInBounds_toArray, List.set_cons_zero, List.set_cons_succ]
    refine held_take (i := 2) (v := ?vk2) rfl (by kernel_rfl) (by kernel_rfl) (by kernel_rfl) (fun _ _ _ h => h) (by rfl) ?hk2 hS ?rk2
    case hk2 => intro w0 hS0; first | (go_simp; done) | (go_simp; with_reducible rfl)
    try simp only [Act.put, List.setIfInBounds_toArray, List.set_cons_zero, List.set_cons_succ]
    refine held_take (i := 3) (v := ?vk3) rfl (by kernel_rfl) (by kernel_rfl) (by kernel_rfl) (fun _ _ _ h => h) (by rfl) ?hk3 hS ?rk3
    case hk3 => intro w0 hS0; first | (go_simp; done) | (go_simp; with_reducible rfl)
    try simp only [Act.put, List.setIfInBounds_toArray, List.set_cons_zero, List.set_cons_succ]
    refine held_take (i := 5) (v := ?vk4) rfl (by kernel_rfl) (by kernel_rfl) (by kernel_rfl) (fun _ _ _ h => h) (by rfl) ?hk4 hS ?rk4
    case hk4 => intro w0 hS0; first | (go_simp; done) | (go_simp; with_reducible rfl)
    try simp only [Act.put, List.setIfInBounds_toArray, List.set_cons_zero, List.set_cons_succ]
    refine held_take (i := 6) (v := ?vk5) rfl (by kernel_rfl) (by kernel_rfl) (by kernel_rfl) (fun _ _ _ h => h) (by rfl) ?hk5 hS ?rk5
    case hk5 => intro w0 hS0; first | (go_simp; done) | (go_simp; with_reducible rfl)
    try simp only [Act.put, List.setIfInBounds_toArray, List.set_cons_zero, List.set_cons_succ]
    refine held_take (i := 8) (v := ?vk6) rfl (by kernel_rfl) (by kernel_rfl) (by kernel_rfl) (fun _ _ _ h => h) (by rfl) ?hk6 hS ?rk6
    case hk6 => intro w0 hS0; first | (go_simp; done) | (go_simp; with_reducible rfl)
    try simp only [Act.put, List.setIfInBounds_toArray, List.set_cons_zero, List.set_cons_succ]
    refine held_two (i := 4) (j := 9) rfl rfl (by kernel_rfl) (by rfl) (by rfl) (fun K hK => ?_) (fun K hK => ?_)
    · skip
      go_simp
      go_wp2_with fail
      refine hK.out _ _ hS ?_
      clear hK K
      try simp only [Act.put, List.setIfInBounds_toArray, List.set_cons_zero, List.set_cons_succ]
      refine held_take (i := 7) (v := ?vka0) rfl (by kernel_rfl) (by kernel_rfl) (by kernel_rfl) (fun _ _ _ h => h) (by rfl) ?hka0 hS ?rka0
      case hka0 => intro w0 hS0; first | (go_simp; done) | (go_simp; with_reducible rfl)
      try simp only [Act.put, List.setIfInBounds_toArray, List.set_cons_zero, List.set_cons_succ]
      refine held_step (i := 9) rfl (by kernel_rfl) (by rfl) (fun K hK => ?_)
      go_simp
      go_wp2_with fail
      refine hK.out _ _ (((Fr.refl (fun _ => False) W2).drew.alloc _).cell (p := ⟨w.heap.size, 0, none⟩) hBl (fun h => h) e0) ?_
      clear hK K
      try simp only [Act.put, List.setIfInBounds_toArray, List.set_cons_zero, List.set_cons_succ]
      have hS := (show (W2.alloc (Obj.cells #[.int .i64 0, .string ⟨#[]⟩] 137)).drew.cell? ⟨w.heap.size, 0, none⟩ = some (.int .i64 ((D:Int)+1)) from (((Fr.refl (fun _ => False) W2).drew.alloc _).cell (p := ⟨w.heap.size, 0, none⟩) hBl (fun h => h) e0))
      refine held_step (i := 10) rfl (by kernel_rfl) (by rfl) (fun K hK => ?_)
      refine wp_append_any _ _ 102 rfl base 137 i0 _ 2 24 Tryz.underlying102 HI.out.1 HI.out.2.1 HI.out.2.2.1 HI.out.2.2.2 rfl (by decide) (.slice (some ⟨g, 0, none⟩) (D + 1) cap) (D + 1) ys rfl (own_fr HO2.out ((Fr.refl (fun _ => False) _).drew.alloc _) (fun _ _ h => h)) (some ⟨W2.heap.size, 0, none⟩) 1 1 [.int .i64 0, .string ⟨#[]⟩] rfl rfl (fun _ => ⟨W2.heap.size, 0, rfl, fun j u hj => ((RowB.new W2.drew 137 [.int .i64 0, .string ⟨#[]⟩]).cell (0 + j)).trans (by rw [Nat.zero_add]; exact hj)⟩) (by intro u hu; simp at hu; rcases hu with rfl | rfl <;> rfl) (by unfold maxLen; omega) (by omega) (by show base ≤ (World.alloc _ _).heap.size; rw [alloc_size]; exact Nat.le_succ_of_le HL2.out) ?_; intro v3 w3 hown hgrow hat
      have hFr : Fr (fun b => b = g) W2 w3 := ((Fr.refl (fun b => b = g) W2).drew.alloc _).trans (Fr.of_grown hgrow) (fun k _ e => (Option.some.inj e).symm)
      obtain ⟨a3, cc, rfl, _, _⟩ := own_slice hown
      have hB3 := Nat.lt_of_lt_of_le hBl hFr.size
      have hS3 := hFr.cell (p := ⟨w.heap.size, 0, none⟩) hBl hBg e0
      have hR3 := HR2.out.fr hFr hCg
      have hO3 := own_fr (own_fr hown (((Fr.refl (fun b => b = C) w3).setCell (a := ⟨C, 0, none⟩) (fun _ => rfl) (.slice a3 (D + 1 + 1) cc))) (fun k hk e => by have := own_block_ge hown k hk; have := HP1.out.lt; omega)) (Fr.refl (fun _ => False) _) (fun _ _ h => h)
      have hA3 : Fr (fun b => b = C ∨ some g = some b) w (w3.setCell ⟨C, 0, none⟩ (.slice a3 (D + 1 + 1) cc)) := Fr.setCell (S := fun b => b = C ∨ some g = some b) ((HF1.out.up.trans HF2.out (fun k _ e => Or.inr (by rw [e]))).trans hFr (fun k _ e => Or.inr (by rw [e]))) (a := ⟨C, 0, none⟩) (fun _ => Or.inl rfl) _
      have c3 : w3.cell? ⟨C, 0, none⟩ = some (.slice (some ⟨g, 0, none⟩) L cap) := hR3.cell 0
      have f3 := hR3.frozen 0
      have HR3 := Lib.hid (hR3.set 0 (.slice a3 (D + 1 + 1) cc))
      have HO3 := Lib.hid hO3
      have HA3 := Lib.hid hA3
      clear hFr hR3 hO3 hA3 hown hgrow hat
      refine hK.out _ _ hS3 ?_
      clear hK K
      try simp only [Act.put, List.setIfInBounds_toArray, List.set_cons_zero, List.set_cons_succ]
      clear hS; have hS := hS3
      refine held_take (i := 11) (v := ?vka1) rfl (by kernel_rfl) (by kernel_rfl) (by kernel_rfl) (fun _ _ _ h => h) (by rfl) ?hka1 hS ?rka1
      case hka1 => intro w0 hS0; first | (go_simp; done) | (go_simp; with_reducible rfl)
      try simp only [Act.put, List.setIfInBounds_toArray, List.set_cons_zero, List.set_cons_succ]
      refine held_take (i := 12) (v := ?vka2) rfl (by kernel_rfl) (by kernel_rfl) (by kernel_rfl) (fun _ _ _ h => h) (by rfl) ?hka2 hS ?rka2
      case hka2 => intro w0 hS0; first | (go_simp; done) | (go_simp; with_reducible rfl)
      try simp only [Act.put, List.setIfInBounds_toArray, List.set_cons_zero, List.set_cons_succ]
      refine held_step (i := 13) rfl (by kernel_rfl) (by rfl) (fun K hK => ?_)
      go_simp
      go_wp2_with fail
      refine hK.out _ _ (((Fr.refl (fun b => b = C) w3).setCell (a := ⟨C, 0, none⟩) (fun _ => rfl) _).cell (p := ⟨w.heap.size, 0, none⟩) hB3 (fun e => by dsimp only at e; omega) hS3) ?_
      clear hK K
      try simp only [Act.put, List.setIfInBounds_toArray, List.set_cons_zero, List.set_cons_succ]
      refine held_done (by kernel_rfl) ?_
      refine NoPanic.normal ?_
      go_wp2_with fail
      go_ret
      exact ⟨rfl, HA3.out, fun _ => ⟨_, _, _, HR3.out, HO3.out, rfl, HYS.out⟩⟩
    · skip
      go_simp
      go_wp2_with fail
      refine hK.out _ _ (((Fr.refl (fun _ => False) W2).drew.alloc _).cell (p := ⟨w.heap.size, 0, none⟩) hBl (fun h => h) e0) ?_
      clear hK K
      try simp only [Act.put, List.setIfInBounds_toArray, List.set_cons_zero, List.set_cons_succ]
      have hS := (show (W2.alloc (Obj.cells #[.int .i64 0, .string ⟨#[]⟩] 137)).drew.cell? ⟨w.heap.size, 0, none⟩ = some (.int .i64 ((D:Int)+1)) from (((Fr.refl (fun _ => False) W2).drew.alloc _).cell (p := ⟨w.heap.size, 0, none⟩) hBl (fun h => h) e0))
      refine held_step (i := 4) rfl (by kernel_rfl) (by rfl) (fun K hK => ?_)
      go_simp
      go_wp2_with fail
      refine hK.out _ _ hS ?_
      clear hK K
      try simp only [Act.put, List.setIfInBounds_toArray, List.set_cons_zero, List.set_cons_succ]
      refine held_take (i := 7) (v := ?vkb0) rfl (by kernel_rfl) (by kernel_rfl) (by kernel_rfl) (fun _ _ _ h => h) (by rfl) ?hkb0 hS ?rkb0
      case hkb0 => intro w0 hS0; first | (go_simp; done) | (go_simp; with_reducible rfl)
      try simp only [Act.put, List.setIfInBounds_toArray, List.set_cons_zero, List.set_cons_succ]
      refine held_step (i := 10) rfl (by kernel_rfl) (by rfl) (fun K hK => ?_)
      refine wp_append_any _ _ 102 rfl base 137 i0 _ 2 24 Tryz.underlying102 HI.out.1 HI.out.2.1 HI.out.2.2.1 HI.out.2.2.2 rfl (by decide) (.slice (some ⟨g, 0, none⟩) (D + 1) cap) (D + 1) ys rfl (own_fr HO2.out ((Fr.refl (fun _ => False) _).drew.alloc _) (fun _ _ h => h)) (some ⟨W2.heap.size, 0, none⟩) 1 1 [.int .i64 0, .string ⟨#[]⟩] rfl rfl (fun _ => ⟨W2.heap.size, 0, rfl, fun j u hj => ((RowB.new W2.drew 137 [.int .i64 0, .string ⟨#[]⟩]).cell (0 + j)).trans (by rw [Nat.zero_add]; exact hj)⟩) (by intro u hu; simp at hu; rcases hu with rfl | rfl <;> rfl) (by unfold maxLen; omega) (by omega) (by show base ≤ (World.alloc _ _).heap.size; rw [alloc_size]; exact Nat.le_succ_of_le HL2.out) ?_; intro v3 w3 hown hgrow hat
      have hFr : Fr (fun b => b = g) W2 w3 := ((Fr.refl (fun b => b = g) W2).drew.alloc _).trans (Fr.of_grown hgrow) (fun k _ e => (Option.some.inj e).symm)
      obtain ⟨a3, cc, rfl, _, _⟩ := own_slice hown
      have hB3 := Nat.lt_of_lt_of_le hBl hFr.size
      have hS3 := hFr.cell (p := ⟨w.heap.size, 0, none⟩) hBl hBg e0
      have hR3 := HR2.out.fr hFr hCg
      have hO3 := own_fr (own_fr hown (((Fr.refl (fun b => b = C) w3).setCell (a := ⟨C, 0, none⟩) (fun _ => rfl) (.slice a3 (D + 1 + 1) cc))) (fun k hk e => by have := own_block_ge hown k hk; have := HP1.out.lt; omega)) (Fr.refl (fun _ => False) _) (fun _ _ h => h)
      have hA3 : Fr (fun b => b = C ∨ some g = some b) w (w3.setCell ⟨C, 0, none⟩ (.slice a3 (D + 1 + 1) cc)) := Fr.setCell (S := fun b => b = C ∨ some g = some b) ((HF1.out.up.trans HF2.out (fun k _ e => Or.inr (by rw [e]))).trans hFr (fun k _ e => Or.inr (by rw [e]))) (a := ⟨C, 0, none⟩) (fun _ => Or.inl rfl) _
      have c3 : w3.cell? ⟨C, 0, none⟩ = some (.slice (some ⟨g, 0, none⟩) L cap) := hR3.cell 0
      have f3 := hR3.frozen 0
      have HR3 := Lib.hid (hR3.set 0 (.slice a3 (D + 1 + 1) cc))
      have HO3 := Lib.hid hO3
      have HA3 := Lib.hid hA3
      clear hFr hR3 hO3 hA3 hown hgrow hat
      refine hK.out _ _ hS3 ?_
      clear hK K
      try simp only [Act.put, List.setIfInBounds_toArray, List.set_cons_zero, List.set_cons_succ]
      clear hS; have hS := hS3
      refine held_take (i := 11) (v := ?vkb1) rfl (by kernel_rfl) (by kernel_rfl) (by kernel_rfl) (fun _ _ _ h => h) (by rfl) ?hkb1 hS ?rkb1
      case hkb1 => intro w0 hS0; first | (go_simp; done) | (go_simp; with_reducible rfl)
      try simp only [Act.put, List.setIfInBounds_toArray, List.set_cons_zero, List.set_cons_succ]
      refine held_take (i := 12) (v := ?vkb2) rfl (by kernel_rfl) (by kernel_rfl) (by kernel_rfl) (fun _ _ _ h => h) (by rfl) ?hkb2 hS ?rkb2
      case hkb2 => intro w0 hS0; first | (go_simp; done) | (go_simp; with_reducible rfl)
      try simp only [Act.put, List.setIfInBounds_toArray, List.set_cons_zero, List.set_cons_succ]
      refine held_step (i := 13) rfl (by kernel_rfl) (by rfl) (fun K hK => ?_)
      go_simp
      go_wp2_with fail
      refine hK.out _ _ (((Fr.refl (fun b => b = C) w3).setCell (a := ⟨C, 0, none⟩) (fun _ => rfl) _).cell (p := ⟨w.heap.size, 0, none⟩) hB3 (fun e => by dsimp only at e; omega) hS3) ?_
      clear hK K
      try simp only [Act.put, List.setIfInBounds_toArray, List.set_cons_zero, List.set_cons_succ]
      refine held_done (by kernel_rfl) ?_
      refine NoPanic.normal ?_
      go_wp2_with fail
      go_ret
      exact ⟨rfl, HA3.out, fun _ => ⟨_, _, _, HR3.out, HO3.out, rfl, HYS.out⟩⟩
  | true =>
    simp only [↓reduceIte] at hd2
    go_enter Tryz.func69, Tryz.ntmps69
    go_upto_region 14 with (go_at_call 74; go_must (refine (HC0.out _).mono ?_; rintro e w1 ⟨rfl, hF⟩; have HF1 := Lib.hid (((Fr.refl (fun _ => False) w).alloc _).then hF); have HR1 := Lib.hid (HR.out.fr hF (fun h => h)); clear hF))
    clear HC0 HR c0 c1
    have HP1 := Lib.hid (HP.out.fr HF1.out)
    have c0 : w1.cell? ⟨C, 0, none⟩ = some (.slice (some ⟨g, 0, none⟩) L cap) := HP1.out.row.cell 0
    have b0 : w1.cell? ⟨w.heap.size, 0, none⟩ = some (.int .i64 ((D:Int)+1)) := HR1.out.cell 0
    have b1 : w1.cell? ⟨w.heap.size, 1, none⟩ = some (.string nm) := HR1.out.cell 1
    obtain ⟨d0, d1, hfz, hLc⟩ := HP1.out.cells (d := D) (by omega)
    have f0 := hfz (D * 2)
    have f1 := hfz (D * 2 + 1)
    clear hfz
    obtain ⟨Mo, hMo⟩ : ∃ Mo, Mo = M D := ⟨_, rfl⟩
    obtain ⟨So, hSo⟩ : ∃ So, So = S D := ⟨_, rfl⟩
    rw [← hMo] at d0 MZ HM
    rw [← hSo] at d1 MZ
    have HMo := Lib.hid hMo
    clear hMo hSo
    have HMM := HM.out
    clear HM
    have p7 : ((Mo:Int) == 24) = false := by have := MZ.out.1; simp; omega
    have p0 : 0 < Mo := MZ.out.2.1
    have p1 : (0:Int) < (Mo:Int) := by omega
    have p2 : decide (0 < (Mo:Int)) = true := by simpa using p1
    have p3 : decide (0 < Mo) = true := by simpa using p0
    have p4 : (So.toList == nm.toList) = false := ne_beq MZ.out.2.2.1
    have p5 : bytesLess So.toList nm.toList = true := blt_total MZ.out.2.2.2 (fun e => MZ.out.2.2.1 e.symm)
    have p8 := MZ.out.2.2.2
    clear MZ
    go_wp2_with fail
    go_quiet (fail)
    go_wp2_with fail
    go_quiet (fail)
    go_wp2_with fail
    go_quiet (fail)
    go_wp2_with fail
    go_region
    rename_i q1 q2 Kx hKx
    obtain ⟨ys, hys, r2, o2, F2⟩ := HP1.out.set (D := D) (by omega) (.int .i64 ((Mo:Int)+1)) (.string nm) (q1 + q2 + nq + 1)
    have hys := dirs_next HP1.out.own.1 HP1.out.many HP1.out.last (D := D) (by omega) hys
    rw [HMo.out] at hys
    have e0 := F2.cell (p := ⟨w.heap.size, 0, none⟩) HR1.out.lt (fun e => by have := HG.out.2; dsimp only at e; omega) b0
    clear b0 b1 d0 d1 f0 f1 c0
    generalize (((w1.drewN (q1 + q2 + nq + 1)).setCell ⟨g, D * 2, none⟩ (.int .i64 ((Mo:Int)+1))).setCell ⟨g, D * 2 + 1, none⟩ (.string nm)) = W2 at *
    have c0 : W2.cell? ⟨C, 0, none⟩ = some (.slice (some ⟨g, 0, none⟩) L cap) := r2.cell 0
    have f0 := r2.frozen 0
    have HL2 := Lib.hid (show base ≤ W2.heap.size from Nat.le_trans HP1.out.le F2.size)
    have hBl : w.heap.size < W2.heap.size := Nat.lt_of_lt_of_le HR1.out.lt F2.size
    have hCl2 : C < W2.heap.size := r2.lt
    have hBg : ¬ w.heap.size = g := by have := HG.out.2; omega
    have hCg : ¬ C = g := by have := HG.out.1; have := HP1.out.lt; omega
    have hCB : ¬ C = w.heap.size := by omega
    have g1 : (0:Int) ≤ (D:Int) + 1 := by omega
    have g2 : (D:Int) + 1 ≤ cap := by omega
    have HF2 := Lib.hid F2
    have HO2 := Lib.hid o2
    have HR2 := Lib.hid r2
    have HYS := Lib.hid hys
    clear F2 o2 r2 hys
    go_wp2_with fail
    refine wp_region_noPanic ?_
    refine wp_region_held_drew (S := fun w' => w'.cell? ⟨w.heap.size, 0, none⟩ = some (.int .i64 ((D:Int)+1))) (by kernel_rfl) e0 (fun hS => ?_)
    refine held_take (i := 0) (v := ?vj0) rfl (by kernel_rfl) (by kernel_rfl) (by kernel_rfl) (fun _ _ _ h => h) (by rfl) ?hj0 hS ?rj0
    case hj0 => intro w0 hS0; first | (go_simp; done) | (go_simp; with_reducible rfl)
    try simp only [Act.put, List.setIfInBounds_toArray, List.set_cons_zero, List.set_cons_succ]
    refine held_take (i := 1) (v := ?vj1) rfl (by kernel_rfl) (by kernel_rfl) (by kernel_rfl) (fun _ _ _ h => h) (by rfl) ?hj1 hS ?rj1
    case hj1 => intro w0 hS0; first | (go_simp; done) | (go_simp; with_reducible rfl)
    try simp only [Act.put, List.setIfInBounds_toArray, List.set_cons_zero, List.set_cons_succ]
    refine held_take (i := 2) (v := ?vj2) rfl (by kernel_rfl) (by kernel_rfl) (by kernel_rfl) (fun _ _ _ h => h) (by rfl) ?hj2 hS ?rj2
    case hj2 => intro w0 hS0; first | (go_simp; done) | (go_simp; with_reducible rfl)
    try simp only [Act.put, List.setIfInBounds_toArray, List.set_cons_zero, List.set_cons_succ]
    refine held_take (i := 3) (v := ?vj3) rfl (by kernel_rfl) (by kernel_rfl) (by kernel_rfl) (fun _ _ _ h => h) (by rfl) ?hj3 hS ?rj3
    case hj3 => intro w0 hS0; first | (go_simp; done) | (go_simp; with_reducible rfl)
    try simp only [Act.put, List.setIfInBounds_toArray, List.set_cons_zero, List.set_cons_succ]
    refine held_take (i := 5) (v := ?vj4) rfl (by kernel_rfl) (by kernel_rfl) (by kernel_rfl) (fun _ _ _ h => h) (by rfl) ?hj4 hS ?rj4
    case hj4 => intro w0 hS0; first | (go_simp; done) | (go_simp; with_reducible rfl)
    try simp only [Act.put, List.setIfInBounds_toArray, List.set_cons_zero, List.set_cons_succ]
    refine held_take (i := 6) (v := ?vj5) rfl (by kernel_rfl) (by kernel_rfl) (by kernel_rfl) (fun _ _ _ h => h) (by rfl) ?hj5 hS ?rj5
    case hj5 => intro w0 hS0; first | (go_simp; done) | (go_simp; with_reducible rfl)
    try simp only [Act.put, List.setIfInBounds_toArray, List.set_cons_zero, List.set_cons_succ]
    refine held_take (i := 8) (v := ?vj6) rfl (by kernel_rfl) (by kernel_rfl) (by kernel_rfl) (fun _ _ _ h => h) (by rfl) ?hj6 hS ?rj6
    case hj6 => intro w0 hS0; first | (go_simp; done) | (go_simp; with_reducible rfl)
    try simp only [Act.put, List.setIfInBounds_toArray, List.set_cons_zero, List.set_cons_succ]
    refine held_two (i := 4) (j := 9) rfl rfl (by kernel_rfl) (by rfl) (by rfl) (fun K hK => ?_) (fun K hK => ?_)
    · skip
      go_simp
      go_wp2_with fail
      refine hK.out _ _ hS ?_
      clear hK K
      try simp only [Act.put, List.setIfInBounds_toArray, List.set_cons_zero, List.set_cons_succ]
      refine held_take (i := 7) (v := ?vja0) rfl (by kernel_rfl) (by kernel_rfl) (by kernel_rfl) (fun _ _ _ h => h) (by rfl) ?hja0 hS ?rja0
      case hja0 => intro w0 hS0; first | (go_simp; done) | (go_simp; with_reducible rfl)
      try simp only [Act.put, List.setIfInBounds_toArray, List.set_cons_zero, List.set_cons_succ]
      refine held_step (i := 9) rfl (by kernel_rfl) (by rfl) (fun K hK => ?_)
      go_simp
      go_wp2_with fail
      refine hK.out _ _ (((Fr.refl (fun _ => False) W2).drew.alloc _).cell (p := ⟨w.heap.size, 0, none⟩) hBl (fun h => h) e0) ?_
      clear hK K
      try simp only [Act.put, List.setIfInBounds_toArray, List.set_cons_zero, List.set_cons_succ]
      have hS := (show (W2.alloc (Obj.cells #[.int .i64 0, .string ⟨#[]⟩] 137)).drew.cell? ⟨w.heap.size, 0, none⟩ = some (.int .i64 ((D:Int)+1)) from (((Fr.refl (fun _ => False) W2).drew.alloc _).cell (p := ⟨w.heap.size, 0, none⟩) hBl (fun h => h) e0))
      refine held_step (i := 10) rfl (by kernel_rfl) (by rfl) (fun K hK => ?_)
      refine wp_append_any _ _ 102 rfl base 137 i0 _ 2 24 Tryz.underlying102 HI.out.1 HI.out.2.1 HI.out.2.2.1 HI.out.2.2.2 rfl (by decide) (.slice (some ⟨g, 0, none⟩) (D + 1) cap) (D + 1) ys rfl (own_fr HO2.out ((Fr.refl (fun _ => False) _).drew.alloc _) (fun _ _ h => h)) (some ⟨W2.heap.size, 0, none⟩) 1 1 [.int .i64 0, .string ⟨#[]⟩] rfl rfl (fun _ => ⟨W2.heap.size, 0, rfl, fun j u hj => ((RowB.new W2.drew 137 [.int .i64 0, .string ⟨#[]⟩]).cell (0 + j)).trans (by rw [Nat.zero_add]; exact hj)⟩) (by intro u hu; simp at hu; rcases hu with rfl | rfl <;> rfl) (by unfold maxLen; omega) (by omega) (by show base ≤ (World.alloc _ _).heap.size; rw [alloc_size]; exact Nat.le_succ_of_le HL2.out) ?_; intro v3 w3 hown hgrow hat
      have hFr : Fr (fun b => b = g) W2 w3 := ((Fr.refl (fun b => b = g) W2).drew.alloc _).trans (Fr.of_grown hgrow) (fun k _ e => (Option.some.inj e).symm)
      obtain ⟨a3, cc, rfl, _, _⟩ := own_slice hown
      have hB3 := Nat.lt_of_lt_of_le hBl hFr.size
      have hS3 := hFr.cell (p := ⟨w.heap.size, 0, none⟩) hBl hBg e0
      have hR3 := HR2.out.fr hFr hCg
      have hO3 := own_fr (own_fr hown (((Fr.refl (fun b => b = C) w3).setCell (a := ⟨C, 0, none⟩) (fun _ => rfl) (.slice a3 (D + 1 + 1) cc))) (fun k hk e => by have := own_block_ge hown k hk; have := HP1.out.lt; omega)) (Fr.refl (fun _ => False) _) (fun _ _ h => h)
      have hA3 : Fr (fun b => b = C ∨ some g = some b) w (w3.setCell ⟨C, 0, none⟩ (.slice a3 (D + 1 + 1) cc)) := Fr.setCell (S := fun b => b = C ∨ some g = some b) ((HF1.out.up.trans HF2.out (fun k _ e => Or.inr (by rw [e]))).trans hFr (fun k _ e => Or.inr (by rw [e]))) (a := ⟨C, 0, none⟩) (fun _ => Or.inl rfl) _
      have c3 : w3.cell? ⟨C, 0, none⟩ = some (.slice (some ⟨g, 0, none⟩) L cap) := hR3.cell 0
      have f3 := hR3.frozen 0
      have HR3 := Lib.hid (hR3.set 0 (.slice a3 (D + 1 + 1) cc))
      have HO3 := Lib.hid hO3
      have HA3 := Lib.hid hA3
      clear hFr hR3 hO3 hA3 hown hgrow hat
      refine hK.out _ _ hS3 ?_
      clear hK K
      try simp only [Act.put, List.setIfInBounds_toArray, List.set_cons_zero, List.set_cons_succ]
      clear hS; have hS := hS3
      refine held_take (i := 11) (v := ?vja1) rfl (by kernel_rfl) (by kernel_rfl) (by kernel_rfl) (fun _ _ _ h => h) (by rfl) ?hja1 hS ?rja1
      case hja1 => intro w0 hS0; first | (go_simp; done) | (go_simp; with_reducible rfl)
      try simp only [Act.put, List.setIfInBounds_toArray, List.set_cons_zero, List.set_cons_succ]
      refine held_take (i := 12) (v := ?vja2) rfl (by kernel_rfl) (by kernel_rfl) (by kernel_rfl) (fun _ _ _ h => h) (by rfl) ?hja2 hS ?rja2
      case hja2 => intro w0 hS0; first | (go_simp; done) | (go_simp; with_reducible rfl)
      try simp only [Act.put, List.setIfInBounds_toArray, List.set_cons_zero, List.set_cons_succ]
      refine held_step (i := 13) rfl (by kernel_rfl) (by rfl) (fun K hK => ?_)
      go_simp
      go_wp2_with fail
      refine hK.out _ _ (((Fr.refl (fun b => b = C) w3).setCell (a := ⟨C, 0, none⟩) (fun _ => rfl) _).cell (p := ⟨w.heap.size, 0, none⟩) hB3 (fun e => by dsimp only at e; omega) hS3) ?_
      clear hK K
      try simp only [Act.put, List.setIfInBounds_toArray, List.set_cons_zero, List.set_cons_succ]
      refine held_done (by kernel_rfl) ?_
      refine NoPanic.normal ?_
      go_wp2_with fail
      go_ret
      exact ⟨rfl, HA3.out, fun _ => ⟨_, _, _, HR3.out, HO3.out, rfl, HYS.out⟩⟩
    · skip
      go_simp
      go_wp2_with fail
      refine hK.out _ _ (((Fr.refl (fun _ => False) W2).drew.alloc _).cell (p := ⟨w.heap.size, 0, none⟩) hBl (fun h => h) e0) ?_
      clear hK K
      try simp only [Act.put, List.setIfInBounds_toArray, List.set_cons_zero, List.set_cons_succ]
      have hS := (show (W2.alloc (Obj.cells #[.int .i64 0, .string ⟨#[]⟩] 137)).drew.cell? ⟨w.heap.size, 0, none⟩ = some (.int .i64 ((D:Int)+1)) from (((Fr.refl (fun _ => False) W2).drew.alloc _).cell (p := ⟨w.heap.size, 0, none⟩) hBl (fun h => h) e0))
      refine held_step (i := 4) rfl (by kernel_rfl) (by rfl) (fun K hK => ?_)
      go_simp
      go_wp2_with fail
      refine hK.out _ _ hS ?_
      clear hK K
      try simp only [Act.put, List.setIfInBounds_toArray, List.set_cons_zero, List.set_cons_succ]
      refine held_take (i := 7) (v := ?vjb0) rfl (by kernel_rfl) (by kernel_rfl) (by kernel_rfl) (fun _ _ _ h => h) (by rfl) ?hjb0 hS ?rjb0
      case hjb0 => intro w0 hS0; first | (go_simp; done) | (go_simp; with_reducible rfl)
      try simp only [Act.put, List.setIfInBounds_toArray, List.set_cons_zero, List.set_cons_succ]
      refine held_step (i := 10) rfl (by kernel_rfl) (by rfl) (fun K hK => ?_)
      refine wp_append_any _ _ 102 rfl base 137 i0 _ 2 24 Tryz.underlying102 HI.out.1 HI.out.2.1 HI.out.2.2.1 HI.out.2.2.2 rfl (by decide) (.slice (some ⟨g, 0, none⟩) (D + 1) cap) (D + 1) ys rfl (own_fr HO2.out ((Fr.refl (fun _ => False) _).drew.alloc _) (fun _ _ h => h)) (some ⟨W2.heap.size, 0, none⟩) 1 1 [.int .i64 0, .string ⟨#[]⟩] rfl rfl (fun _ => ⟨W2.heap.size, 0, rfl, fun j u hj => ((RowB.new W2.drew 137 [.int .i64 0, .string ⟨#[]⟩]).cell (0 + j)).trans (by rw [Nat.zero_add]; exact hj)⟩) (by intro u hu; simp at hu; rcases hu with rfl | rfl <;> rfl) (by unfold maxLen; omega) (by omega) (by show base ≤ (World.alloc _ _).heap.size; rw [alloc_size]; exact Nat.le_succ_of_le HL2.out) ?_; intro v3 w3 hown hgrow hat
      have hFr : Fr (fun b => b = g) W2 w3 := ((Fr.refl (fun b => b = g) W2).drew.alloc _).trans (Fr.of_grown hgrow) (fun k _ e => (Option.some.inj e).symm)
      obtain ⟨a3, cc, rfl, _, _⟩ := own_slice hown
      have hB3 := Nat.lt_of_lt_of_le hBl hFr.size
      have hS3 := hFr.cell (p := ⟨w.heap.size, 0, none⟩) hBl hBg e0
      have hR3 := HR2.out.fr hFr hCg
      have hO3 := own_fr (own_fr hown (((Fr.refl (fun b => b = C) w3).setCell (a := ⟨C, 0, none⟩) (fun _ => rfl) (.slice a3 (D + 1 + 1) cc))) (fun k hk e => by have := own_block_ge hown k hk; have := HP1.out.lt; omega)) (Fr.refl (fun _ => False) _) (fun _ _ h => h)
      have hA3 : Fr (fun b => b = C ∨ some g = some b) w (w3.setCell ⟨C, 0, none⟩ (.slice a3 (D + 1 + 1) cc)) := Fr.setCell (S := fun b => b = C ∨ some g = some b) ((HF1.out.up.trans HF2.out (fun k _ e => Or.inr (by rw [e]))).trans hFr (fun k _ e => Or.inr (by rw [e]))) (a := ⟨C, 0, none⟩) (fun _ => Or.inl rfl) _
      have c3 : w3.cell? ⟨C, 0, none⟩ = some (.slice (some ⟨g, 0, none⟩) L cap) := hR3.cell 0
      have f3 := hR3.frozen 0
      have HR3 := Lib.hid (hR3.set 0 (.slice a3 (D + 1 + 1) cc))
      have HO3 := Lib.hid hO3
      have HA3 := Lib.hid hA3
      clear hFr hR3 hO3 hA3 hown hgrow hat
      refine hK.out _ _ hS3 ?_
      clear hK K
      try simp only [Act.put, List.setIfInBounds_toArray, List.set_cons_zero, List.set_cons_succ]
      clear hS; have hS := hS3
      refine held_take (i := 11) (v := ?vjb1) rfl (by kernel_rfl) (by kernel_rfl) (by kernel_rfl) (fun _ _ _ h => h) (by rfl) ?hjb1 hS ?rjb1
      case hjb1 => intro w0 hS0; first | (go_simp; done) | (go_simp; with_reducible rfl)
      try simp only [Act.put, List.setIfInBounds_toArray, List.set_cons_zero, List.set_cons_succ]
      refine held_take (i := 12) (v := ?vjb2) rfl (by kernel_rfl) (by kernel_rfl) (by kernel_rfl) (fun _ _ _ h => h) (by rfl) ?hjb2 hS ?rjb2
      case hjb2 => intro w0 hS0; first | (go_simp; done) | (go_simp; with_reducible rfl)
      try simp only [Act.put, List.setIfInBounds_toArray, List.set_cons_zero, List.set_cons_succ]
      refine held_step (i := 13) rfl (by kernel_rfl) (by rfl) (fun K hK => ?_)
      go_simp
      go_wp2_with fail
      refine hK.out _ _ (((Fr.refl (fun b => b = C) w3).setCell (a := ⟨C, 0, none⟩) (fun _ => rfl) _).cell (p := ⟨w.heap.size, 0, none⟩) hB3 (fun e => by dsimp only at e; omega) hS3) ?_
      clear hK K
      try simp only [Act.put, List.setIfInBounds_toArray, List.set_cons_zero, List.set_cons_succ]
      refine held_done (by kernel_rfl) ?_
      refine NoPanic.normal ?_
      go_wp2_with fail
      go_ret
      exact ⟨rfl, HA3.out, fun _ => ⟨_, _, _, HR3.out, HO3.out, rfl, HYS.out⟩⟩
end Go.Proofs.YtogjfifpbplahaaGreatDoor
