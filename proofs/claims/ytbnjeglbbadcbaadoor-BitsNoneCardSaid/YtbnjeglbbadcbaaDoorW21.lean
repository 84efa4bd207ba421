/- The law BitsMorgan: plain laws and the walk. -/
import Derived.Test.YtbnjeglbbadcbaaDoorW20
namespace Go.Proofs.YtbnjeglbbadcbaaDoor
open Go.RowKit
open BM
set_option linter.unusedVariables false

def notL (l : List Bool) : List Bool := mkL l.length (fun p => !bt l p)
theorem andL_length (l k : List Bool) : (andL l k).length = l.length := mkL_length _ _
theorem orL_length (l k : List Bool) : (orL l k).length = l.length := mkL_length _ _
theorem xorL_length (l k : List Bool) : (xorL l k).length = l.length := mkL_length _ _
theorem notL_length (l : List Bool) : (notL l).length = l.length := mkL_length _ _
theorem bt_andL (l k : List Bool) (p : Nat) (h : p < l.length) : bt (andL l k) p = (bt l p && bt k p) := by unfold andL; rw [bt_mkL]; simp [h]
theorem bt_orL (l k : List Bool) (p : Nat) (h : p < l.length) : bt (orL l k) p = (bt l p || bt k p) := by unfold orL; rw [bt_mkL]; simp [h]
theorem bt_xorL (l k : List Bool) (p : Nat) (h : p < l.length) : bt (xorL l k) p = (bt l p != bt k p) := by unfold xorL; rw [bt_mkL]; simp [h]
theorem bt_notL (l : List Bool) (p : Nat) (h : p < l.length) : bt (notL l) p = !bt l p := by unfold notL; rw [bt_mkL]; simp [h]
theorem morgan1 (l k : List Bool) (h : l.length = k.length) : notL (andL l k) = orL (notL l) (notL k) := by
  apply ext_bt
  · rw [notL_length, andL_length, orL_length, notL_length]
  · intro p hp
    rw [notL_length, andL_length] at hp
    rw [bt_notL _ _ (by rw [andL_length]; exact hp), bt_andL _ _ _ hp, bt_orL _ _ _ (by rw [notL_length]; exact hp), bt_notL _ _ hp, bt_notL _ _ (by omega), Bool.not_and]
theorem morgan2 (l : List Bool) : notL (notL l) = l := by
  apply ext_bt
  · rw [notL_length, notL_length]
  · intro p hp
    rw [notL_length, notL_length] at hp
    rw [bt_notL _ _ (by rw [notL_length]; exact hp), bt_notL _ _ hp, Bool.not_not]
theorem morgan3 (l k : List Bool) (h : l.length = k.length) : andL (orL l k) (notL (andL l k)) = xorL l k := by
  apply ext_bt
  · rw [andL_length, orL_length, xorL_length]
  · intro p hp
    rw [andL_length, orL_length] at hp
    rw [bt_andL _ _ _ (by rw [orL_length]; exact hp), bt_orL _ _ _ hp, bt_notL _ _ (by rw [andL_length]; exact hp), bt_andL _ _ _ hp, bt_xorL _ _ _ hp]
    cases bt l p <;> cases bt k p <;> rfl
theorem cnt_morgan (f g : Nat → Bool) (n : Nat) : cnt f n + cnt g n = cnt (fun j => f j && g j) n + cnt (fun j => f j || g j) n := by
  induction n with
  | zero => rfl
  | succ k ih =>
    simp only [cnt]
    have : ∀ a b : Bool, ((if a = true then 1 else 0 : Nat) + (if b = true then 1 else 0) = (if (a && b) = true then 1 else 0) + (if (a || b) = true then 1 else 0)) := by decide
    have := this (f k) (g k)
    omega
theorem morgan4 (l k : List Bool) (h : l.length = k.length) : cntR l 0 l.length + cntR k 0 l.length = cntR (andL l k) 0 l.length + cntR (orL l k) 0 l.length := by
  unfold cntR
  rw [cnt_morgan, cnt_congr (f := fun j => bt (andL l k) (0 + j)) (g := fun j => bt l (0 + j) && bt k (0 + j)) (fun j hj => by rw [Nat.zero_add]; exact bt_andL _ _ _ hj),
    cnt_congr (f := fun j => bt (orL l k) (0 + j)) (g := fun j => bt l (0 + j) || bt k (0 + j)) (fun j hj => by rw [Nat.zero_add]; exact bt_orL _ _ _ hj)]
theorem cntR_le (l : List Bool) (fr n : Nat) : cntR l fr n ≤ n := cnt_le _ _

/-! ### contracts in the law's form -/
theorem Fr.of_drewN {S : Nat → Prop} {w w' : World} {q : Nat} (h : Fr S (w.drewN q) w') : Fr S w w' := ⟨h.os, h.tape, h.output, h.size, h.block⟩
theorem notm (a : Nat) (l : List Bool) (w : World) (ha : IsMap w a l) :
    Calls Tryd.prog 33 #[.pointer (some ⟨a, 0, none⟩)] w fun e w' => ∃ b, e = .returned (.tuple #[.pointer (some ⟨b, 0, none⟩), .int .i64 0]) ∧ IsMap w' b (notL l) ∧ Fr (fun _ => False) w w' :=
  (not_walk a l w ha).mono fun _ _ h => ⟨_, h⟩
theorem andm (a b : Nat) (l k : List Bool) (w : World) (ha : IsMap w a l) (hb : IsMap w b k) (h : l.length = k.length) :
    Calls Tryd.prog 23 #[.pointer (some ⟨a, 0, none⟩), .pointer (some ⟨b, 0, none⟩)] w fun e w' => ∃ c, e = .returned (.tuple #[.pointer (some ⟨c, 0, none⟩), .int .i64 0]) ∧ IsMap w' c (andL l k) ∧ Fr (fun _ => False) w w' :=
  (and_maps a b l k w ha hb h).mono fun _ _ h => ⟨_, h⟩
theorem orm (a b : Nat) (l k : List Bool) (w : World) (ha : IsMap w a l) (hb : IsMap w b k) (h : l.length = k.length) :
    Calls Tryd.prog 24 #[.pointer (some ⟨a, 0, none⟩), .pointer (some ⟨b, 0, none⟩)] w fun e w' => ∃ c, e = .returned (.tuple #[.pointer (some ⟨c, 0, none⟩), .int .i64 0]) ∧ IsMap w' c (orL l k) ∧ Fr (fun _ => False) w w' :=
  (or_maps a b l k w ha hb h).mono fun _ _ h => ⟨_, h⟩
theorem xorm (a b : Nat) (l k : List Bool) (w : World) (ha : IsMap w a l) (hb : IsMap w b k) (h : l.length = k.length) :
    Calls Tryd.prog 25 #[.pointer (some ⟨a, 0, none⟩), .pointer (some ⟨b, 0, none⟩)] w fun e w' => ∃ c, e = .returned (.tuple #[.pointer (some ⟨c, 0, none⟩), .int .i64 0]) ∧ IsMap w' c (xorL l k) ∧ Fr (fun _ => False) w w' :=
  (xor_maps a b l k w ha hb h).mono fun _ _ h => ⟨_, h⟩
theorem samet (a b : Nat) (l k : List Bool) (w : World) (ha : IsMap w a l) (hb : IsMap w b k) (h : l = k) :
    Calls Tryd.prog 22 #[.pointer (some ⟨a, 0, none⟩), .pointer (some ⟨b, 0, none⟩)] w fun e w' => e = .returned (.bool true) ∧ ∃ q, w' = w.drewN q := by
  have := same_walk a b l k w ha hb
  rw [decide_eq_true h] at this
  exact this
theorem countN (b fr n : Nat) (l : List Bool) (w : World) (hm : IsMap w b l) (h : fr + n ≤ l.length) :
    Calls Tryd.prog 14 #[.pointer (some ⟨b, 0, none⟩), .int .i64 fr, .int .i64 n] w fun e w' => e = .returned (.tuple #[.int .i64 (cntR l fr n : Nat), .int .i64 0]) ∧ ∃ q, w' = w.drewN q := by
  have := count_walk b l fr n w hm
  rw [show countV l fr n = (cntR l fr n : Nat) by unfold countV; rw [if_pos (by omega)]; rfl, show inE l.length fr n = 0 by unfold inE; rw [if_pos (by omega)]] at this
  exact this
theorem lenm (b n : Nat) (l : List Bool) (w : World) (hm : IsMap w b l) (h : l.length = n) :
    Calls Tryd.prog 13 #[.pointer (some ⟨b, 0, none⟩)] w fun e w' => e = .returned (.int .i64 n) ∧ w = w' := by
  subst h; exact len_walk b l.length w hm.1.made hm.1.len
theorem lsamet (b a n c : Nat) (l k : List Bool) (w : World) (hm : IsMap w b l) (hk : BoolS w a k) (hn : k.length = n) (h : l = k) :
    Calls Tryd.prog 18 #[.pointer (some ⟨b, 0, none⟩), .slice (some ⟨a, 0, none⟩) n c] w fun e w' => e = .returned (.bool true) ∧ Fr (fun _ => False) w w' := by
  subst hn
  have := lsame_walk b a c l k w hm hk
  rw [decide_eq_true h] at this
  exact this

set_option maxRecDepth 100000 in
set_option maxHeartbeats 4000000 in
theorem morgan_core (n : Nat) (a0 b0 : Option Addr) (bl cl bc cc : Nat) (N : Nat) (X Y : List Bool) (w : World) (HT : Hid (Tab w)) (hX : X.length = N) (hY : Y.length = N) (hN6 : N ≤ 600)
    (HMX : Hid (∀ w0, Fr (fun _ => False) w w0 → Calls Tryd.prog 11 #[.int .u16 n, .slice a0 bl bc] w0 (Got w0 X)))
    (HMY : Hid (∀ w0, Fr (fun _ => False) w w0 → Calls Tryd.prog 11 #[.int .u16 n, .slice b0 cl cc] w0 (Got w0 Y))) :
    Calls Tryd.prog 7 #[.int .u16 n, .slice a0 bl bc, .slice b0 cl cc] w fun e w' => e = .returned (.bool true) ∧ Fr (fun _ => False) w w' := by
  have lAO : (orL X Y).length = (notL (andL X Y)).length := by rw [orL_length, notL_length, andL_length]
  have lUV : (notL X).length = (notL Y).length := by rw [notL_length, notL_length, hX, hY]
  have lXY : X.length = Y.length := by rw [hX, hY]
  have q1 := morgan1 X Y lXY
  have q2 := morgan2 X
  have q3 := morgan3 X Y lXY
  have q4 := morgan4 X Y lXY
  rw [hX] at q4
  have k1 := cntR_le X 0 N
  have k2 := cntR_le Y 0 N
  have k3 := cntR_le (andL X Y) 0 N
  have k4 := cntR_le (orL X Y) 0 N
  have c1 := fun (w0 : World) (b : Nat) (hm : IsMap w0 b X) => countN b 0 N X w0 hm (by omega)
  have c2 := fun (w0 : World) (b : Nat) (hm : IsMap w0 b Y) => countN b 0 N Y w0 hm (by omega)
  have c3 := fun (w0 : World) (b : Nat) (hm : IsMap w0 b (andL X Y)) => countN b 0 N (andL X Y) w0 hm (by rw [andL_length]; omega)
  have c4 := fun (w0 : World) (b : Nat) (hm : IsMap w0 b (orL X Y)) => countN b 0 N (orL X Y) w0 hm (by rw [orL_length]; omega)
  generalize cntR X 0 N = n1 at *
  generalize cntR Y 0 N = n2 at *
  generalize cntR (andL X Y) 0 N = n3 at *
  generalize cntR (orL X Y) 0 N = n4 at *
  have e4 : (n1 : Int) + (n2 : Int) = (n3 : Int) + (n4 : Int) := by omega
  have k1 : (n1 : Int) ≤ 600 := by omega
  have k2 : (n2 : Int) ≤ 600 := by omega
  have k3 : (n3 : Int) ≤ 600 := by omega
  have k4 : (n4 : Int) ≤ 600 := by omega
  have C1 := Lib.hid c1
  have C2 := Lib.hid c2
  have C3 := Lib.hid c3
  have C4 := Lib.hid c4
  have Q1 := Lib.hid q1
  have Q2 := Lib.hid q2
  have Q3 := Lib.hid q3
  have LXY := Lib.hid lXY
  have LUV := Lib.hid lUV
  have LAO := Lib.hid lAO
  have LX := Lib.hid hX
  clear c1 c2 c3 c4 q1 q2 q3 q4 lXY lUV lAO hX hY
  have T1 : Hid True := Lib.hid trivial
  have T2 : Hid True := Lib.hid trivial
  have T3 : Hid True := Lib.hid trivial
  have T4 : Hid True := Lib.hid trivial
  have T5 : Hid True := Lib.hid trivial
  have T6 : Hid True := Lib.hid trivial
  have T7 : Hid True := Lib.hid trivial
  have T8 : Hid True := Lib.hid trivial
  have T9 : Hid True := Lib.hid trivial
  have T10 : Hid True := Lib.hid trivial
  have T11 : Hid True := Lib.hid trivial
  have T12 : Hid True := Lib.hid trivial
  have T13 : Hid True := Lib.hid trivial
  have T14 : Hid True := Lib.hid trivial
  have T15 : Hid True := Lib.hid trivial
  have T16 : Hid True := Lib.hid trivial
  have T17 : Hid True := Lib.hid trivial
  have T18 : Hid True := Lib.hid trivial
  have T19 : Hid True := Lib.hid trivial
  have T20 : Hid True := Lib.hid trivial
  go_enter Tryd.func7, Tryd.ntmps7
  go_wp2_with (first
    | (go_at_call 11; have tok := T1.out; go_must (refine (HMX.out _ (Fr.refl _ _)).mono ?_; rintro e w1 ⟨mX, aX, cX, rfl, hM, hB, -, -, hF⟩; have HMX1 := Lib.hid hM; have HF1 := Lib.hid (hF); clear hM hB hF); clear T1)
    | (go_at_call 11; have tok := T2.out; go_must (refine (HMY.out _ (by exact HF1.out)).mono ?_; rintro e w2 ⟨mY, aY, cY, rfl, hM, hB, -, -, hF⟩; have HMY2 := Lib.hid hM; have HF2 := Lib.hid (hF); clear hM hB hF); clear T2)
    | (go_at_call 23; have tok := T3.out; go_must (refine (andm _ _ X Y _ (by have h := (IsMap.fr HMX1.out HF2.out (fun h => h)); exact h) (by have h := HMY2.out; exact h) LXY.out).mono ?_; rintro e w3 ⟨mA, rfl, hM, hF⟩; have HMA := Lib.hid hM; have HF3 := Lib.hid (hF); clear hM hF); clear T3)
    | (go_at_call 24; have tok := T4.out; go_must (refine (orm _ _ X Y _ (by have h := (IsMap.fr (IsMap.fr HMX1.out HF2.out (fun h => h)) HF3.out (fun h => h)); exact h) (by have h := (IsMap.fr HMY2.out HF3.out (fun h => h)); exact h) LXY.out).mono ?_; rintro e w4 ⟨mO, rfl, hM, hF⟩; have HMO := Lib.hid hM; have HF4 := Lib.hid (hF); clear hM hF); clear T4)
    | (go_at_call 25; have tok := T5.out; go_must (refine (xorm _ _ X Y _ (by have h := (IsMap.fr (IsMap.fr (IsMap.fr HMX1.out HF2.out (fun h => h)) HF3.out (fun h => h)) HF4.out (fun h => h)); exact h) (by have h := (IsMap.fr (IsMap.fr HMY2.out HF3.out (fun h => h)) HF4.out (fun h => h)); exact h) LXY.out).mono ?_; rintro e w5 ⟨mR, rfl, hM, hF⟩; have HMR := Lib.hid hM; have HF5 := Lib.hid (hF); clear hM hF); clear T5)
    | (go_at_call 33; have tok := T6.out; go_must (refine (notm _ X _ (by have h := (IsMap.fr (IsMap.fr (IsMap.fr (IsMap.fr HMX1.out HF2.out (fun h => h)) HF3.out (fun h => h)) HF4.out (fun h => h)) HF5.out (fun h => h)); exact h)).mono ?_; rintro e w6 ⟨mU, rfl, hM, hF⟩; have HMU := Lib.hid hM; have HF6 := Lib.hid (hF); clear hM hF); clear T6)
    | (go_at_call 33; have tok := T7.out; go_must (refine (notm _ Y _ (by have h := (IsMap.fr (IsMap.fr (IsMap.fr (IsMap.fr HMY2.out HF3.out (fun h => h)) HF4.out (fun h => h)) HF5.out (fun h => h)) HF6.out (fun h => h)); exact h)).mono ?_; rintro e w7 ⟨mV, rfl, hM, hF⟩; have HMV := Lib.hid hM; have HF7 := Lib.hid (hF); clear hM hF); clear T7)
    | (go_at_call 33; have tok := T8.out; go_must (refine (notm _ (andL X Y) _ (by have h := (IsMap.fr (IsMap.fr (IsMap.fr (IsMap.fr HMA.out HF4.out (fun h => h)) HF5.out (fun h => h)) HF6.out (fun h => h)) HF7.out (fun h => h)); exact h)).mono ?_; rintro e w8 ⟨mP, rfl, hM, hF⟩; have HMP := Lib.hid hM; have HF8 := Lib.hid (hF); clear hM hF); clear T8)
    | (go_at_call 24; have tok := T9.out; go_must (refine (orm _ _ (notL X) (notL Y) _ (by have h := (IsMap.fr (IsMap.fr HMU.out HF7.out (fun h => h)) HF8.out (fun h => h)); exact h) (by have h := (IsMap.fr HMV.out HF8.out (fun h => h)); exact h) LUV.out).mono ?_; rintro e w9 ⟨mQ, rfl, hM, hF⟩; have HMQ := Lib.hid hM; have HF9 := Lib.hid (hF); clear hM hF); clear T9)
    | (go_at_call 33; have tok := T10.out; go_must (refine (notm _ (notL X) _ (by have h := (IsMap.fr (IsMap.fr (IsMap.fr HMU.out HF7.out (fun h => h)) HF8.out (fun h => h)) HF9.out (fun h => h)); exact h)).mono ?_; rintro e w10 ⟨mB, rfl, hM, hF⟩; have HMB := Lib.hid hM; have HF10 := Lib.hid (hF); clear hM hF); clear T10)
    | (go_at_call 23; have tok := T11.out; go_must (refine (andm _ _ (orL X Y) (notL (andL X Y)) _ (by have h := (IsMap.fr (IsMap.fr (IsMap.fr (IsMap.fr (IsMap.fr (IsMap.fr HMO.out HF5.out (fun h => h)) HF6.out (fun h => h)) HF7.out (fun h => h)) HF8.out (fun h => h)) HF9.out (fun h => h)) HF10.out (fun h => h)); exact h) (by have h := (IsMap.fr (IsMap.fr HMP.out HF9.out (fun h => h)) HF10.out (fun h => h)); exact h) LAO.out).mono ?_; rintro e w11 ⟨mW, rfl, hM, hF⟩; have HMW := Lib.hid hM; have HF11 := Lib.hid (hF); clear hM hF); clear T11)
    | (go_at_call 22; have tok := T12.out; go_must (refine (samet _ _ (notL (andL X Y)) (orL (notL X) (notL Y)) _ (by have h := (IsMap.fr (IsMap.fr (IsMap.fr HMP.out HF9.out (fun h => h)) HF10.out (fun h => h)) HF11.out (fun h => h)); exact h) (by have h := (IsMap.fr (IsMap.fr HMQ.out HF10.out (fun h => h)) HF11.out (fun h => h)); exact h) Q1.out).mono ?_; rintro e w' ⟨rfl, q, rfl⟩); clear T12)
    | (go_at_call 22; have tok := T13.out; go_must (refine (samet _ _ (notL (notL X)) X _ (by have h := (IsMap.fr HMB.out HF11.out (fun h => h)); exact h) (by have h := (IsMap.fr (IsMap.fr (IsMap.fr (IsMap.fr (IsMap.fr (IsMap.fr (IsMap.fr (IsMap.fr (IsMap.fr (IsMap.fr HMX1.out HF2.out (fun h => h)) HF3.out (fun h => h)) HF4.out (fun h => h)) HF5.out (fun h => h)) HF6.out (fun h => h)) HF7.out (fun h => h)) HF8.out (fun h => h)) HF9.out (fun h => h)) HF10.out (fun h => h)) HF11.out (fun h => h)); exact h) Q2.out).mono ?_; rintro e w' ⟨rfl, q, rfl⟩); clear T13)
    | (go_at_call 22; have tok := T14.out; go_must (refine (samet _ _ (andL (orL X Y) (notL (andL X Y))) (xorL X Y) _ (by have h := HMW.out; exact h) (by have h := (IsMap.fr (IsMap.fr (IsMap.fr (IsMap.fr (IsMap.fr (IsMap.fr HMR.out HF6.out (fun h => h)) HF7.out (fun h => h)) HF8.out (fun h => h)) HF9.out (fun h => h)) HF10.out (fun h => h)) HF11.out (fun h => h)); exact h) Q3.out).mono ?_; rintro e w' ⟨rfl, q, rfl⟩); clear T14)
    | (go_at_call 13; have tok := T15.out; go_must (refine (lenm _ N X _ (by have h := (IsMap.fr (IsMap.fr (IsMap.fr (IsMap.fr (IsMap.fr (IsMap.fr (IsMap.fr (IsMap.fr (IsMap.fr (IsMap.fr HMX1.out HF2.out (fun h => h)) HF3.out (fun h => h)) HF4.out (fun h => h)) HF5.out (fun h => h)) HF6.out (fun h => h)) HF7.out (fun h => h)) HF8.out (fun h => h)) HF9.out (fun h => h)) HF10.out (fun h => h)) HF11.out (fun h => h)); exact h) LX.out).mono ?_; rintro e w' ⟨rfl, rfl⟩); clear T15)
    | (go_at_call 14; have tok := T16.out; go_must (refine (C1.out _ _ (by have h := (IsMap.fr (IsMap.fr (IsMap.fr (IsMap.fr (IsMap.fr (IsMap.fr (IsMap.fr (IsMap.fr (IsMap.fr (IsMap.fr HMX1.out HF2.out (fun h => h)) HF3.out (fun h => h)) HF4.out (fun h => h)) HF5.out (fun h => h)) HF6.out (fun h => h)) HF7.out (fun h => h)) HF8.out (fun h => h)) HF9.out (fun h => h)) HF10.out (fun h => h)) HF11.out (fun h => h)); exact h)).mono ?_; rintro e w' ⟨rfl, q, rfl⟩); clear T16)
    | (go_at_call 14; have tok := T17.out; go_must (refine (C2.out _ _ (by have h := (IsMap.fr (IsMap.fr (IsMap.fr (IsMap.fr (IsMap.fr (IsMap.fr (IsMap.fr (IsMap.fr (IsMap.fr HMY2.out HF3.out (fun h => h)) HF4.out (fun h => h)) HF5.out (fun h => h)) HF6.out (fun h => h)) HF7.out (fun h => h)) HF8.out (fun h => h)) HF9.out (fun h => h)) HF10.out (fun h => h)) HF11.out (fun h => h)); exact h)).mono ?_; rintro e w' ⟨rfl, q, rfl⟩); clear T17)
    | (go_at_call 14; have tok := T18.out; go_must (refine (C3.out _ _ (by have h := (IsMap.fr (IsMap.fr (IsMap.fr (IsMap.fr (IsMap.fr (IsMap.fr (IsMap.fr (IsMap.fr HMA.out HF4.out (fun h => h)) HF5.out (fun h => h)) HF6.out (fun h => h)) HF7.out (fun h => h)) HF8.out (fun h => h)) HF9.out (fun h => h)) HF10.out (fun h => h)) HF11.out (fun h => h)); exact h)).mono ?_; rintro e w' ⟨rfl, q, rfl⟩); clear T18)
    | (go_at_call 14; have tok := T19.out; go_must (refine (C4.out _ _ (by have h := (IsMap.fr (IsMap.fr (IsMap.fr (IsMap.fr (IsMap.fr (IsMap.fr (IsMap.fr HMO.out HF5.out (fun h => h)) HF6.out (fun h => h)) HF7.out (fun h => h)) HF8.out (fun h => h)) HF9.out (fun h => h)) HF10.out (fun h => h)) HF11.out (fun h => h)); exact h)).mono ?_; rintro e w' ⟨rfl, q, rfl⟩); clear T19)
    | (go_at_call 15; have tok := T20.out; go_must (refine (awake_walk _ (by have h := (Tab.fr (Tab.fr (Tab.fr (Tab.fr (Tab.fr (Tab.fr (Tab.fr (Tab.fr (Tab.fr (Tab.fr (Tab.fr HT.out HF1.out (fun h => h)) HF2.out (fun h => h)) HF3.out (fun h => h)) HF4.out (fun h => h)) HF5.out (fun h => h)) HF6.out (fun h => h)) HF7.out (fun h => h)) HF8.out (fun h => h)) HF9.out (fun h => h)) HF10.out (fun h => h)) HF11.out (fun h => h)); exact h)).mono ?_; rintro e w12 ⟨rfl, hF⟩; have HF12 := Lib.hid hF.of_drewN; clear hF); clear T20))
  go_ret
  exact ⟨rfl, (((((((((((HF1.out.trans HF2.out (fun _ _ h => h)).trans HF3.out (fun _ _ h => h)).trans HF4.out (fun _ _ h => h)).trans HF5.out (fun _ _ h => h)).trans HF6.out (fun _ _ h => h)).trans HF7.out (fun _ _ h => h)).trans HF8.out (fun _ _ h => h)).trans HF9.out (fun _ _ h => h)).trans HF10.out (fun _ _ h => h)).trans HF11.out (fun _ _ h => h)).trans HF12.out (fun _ _ h => h))⟩
end Go.Proofs.YtbnjeglbbadcbaaDoor
