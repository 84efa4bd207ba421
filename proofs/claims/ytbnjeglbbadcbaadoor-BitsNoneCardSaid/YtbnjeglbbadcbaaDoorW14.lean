/- The reference of layer 2: lists of bools. -/
import Derived.Test.YtbnjeglbbadcbaaDoorW13
namespace Go.Proofs.YtbnjeglbbadcbaaDoor
open Go.RowKit
open BM
set_option linter.unusedVariables false

/-- Block b begins with the bools of a list. -/
def BoolS (w : World) (b : Nat) (l : List Bool) : Prop := ∃ ex, RowB w b 4 (lvs l ++ ex)
section
variable {w : World} {b : Nat} {l : List Bool}
theorem BoolS.lt (h : BoolS w b l) : b < w.heap.size := by obtain ⟨ex, h⟩ := h; exact h.lt
theorem BoolS.cell (h : BoolS w b l) {j : Nat} (hj : j < l.length) : w.cell? ⟨b, j, none⟩ = some (.bool (bt l j)) := by
  obtain ⟨ex, h⟩ := h
  rw [h.cell j, List.getElem?_append_left (by rw [lvs_length]; exact hj), lvs_bt l j hj]
theorem BoolS.frozen (h : BoolS w b l) (j : Nat) : w.frozen? ⟨b, j, none⟩ = false := by obtain ⟨ex, h⟩ := h; exact h.frozen j
theorem BoolS.fr {S : Nat → Prop} {w' : World} (h : BoolS w b l) (f : Fr S w w') (hb : ¬ S b) : BoolS w' b l := by obtain ⟨ex, h⟩ := h; exact ⟨ex, h.fr f hb⟩
theorem BoolS.set (h : BoolS w b l) {j : Nat} (hj : j < l.length) (x : Bool) : BoolS (w.setCell ⟨b, j, none⟩ (.bool x)) b (l.set j x) := by
  obtain ⟨ex, h⟩ := h
  refine ⟨ex, ?_⟩
  have := h.set j (.bool x)
  rw [List.set_append_left _ _ (by rw [lvs_length]; exact hj), lvs_set] at this
  exact this
theorem BoolS.drewN (h : BoolS w b l) (k : Nat) : BoolS (w.drewN k) b l := h
end
theorem rep_mkL (n : Nat) : List.replicate n false = mkL n (fun _ => false) := by
  apply List.ext_getElem (by simp [mkL])
  intro j h1 h2
  simp [mkL]
theorem mkL_set (n k : Nat) (f : Nat → Bool) (x : Bool) : (mkL n f).set k x = mkL n (fun j => if j = k then x else f j) := by
  apply List.ext_getElem (by simp [mkL])
  intro j h1 h2
  rw [List.getElem_set]
  simp only [mkL, List.getElem_map, List.getElem_range]
  by_cases e : k = j
  · subst e; simp
  · have : ¬ j = k := fun e' => e e'.symm
    simp [e, this]

set_option maxRecDepth 100000 in
theorem rnew_in (n : Nat) (w : World) (hn : n ≤ 4096) :
    Calls Tryd.prog 17 #[.int .i64 n] w fun e w' => e = .returned (.tuple #[.slice (some ⟨w.heap.size, 0, none⟩) n n, .int .i64 0]) ∧ w' = w.alloc (.cells (lvs (List.replicate n false)).toArray 4) := by
  have hmk := make_bools n (by omega)
  go_enter Tryd.func17, Tryd.ntmps17
  go_wp2
  go_ret2
  exact ⟨rfl, rfl⟩
set_option maxRecDepth 100000 in
theorem rnew_out (n : Int) (w : World) (hn : n < 0 ∨ 4096 < n) :
    Calls Tryd.prog 17 #[.int .i64 n] w fun e w' => e = .returned (.tuple #[.slice none 0 0, .int .i64 7]) ∧ w = w' := by
  rcases hn with h | h
  all_goals
    go_enter Tryd.func17, Tryd.ntmps17
    go_wp2
    go_ret2
    exact ⟨rfl, rfl⟩

/-! ### in, Get, Count, Next, Last -/
def inB (n fr k : Int) : Bool := decide (0 ≤ fr ∧ 0 ≤ k ∧ fr ≤ n ∧ k ≤ n - fr)
set_option maxRecDepth 100000 in
theorem rin_walk (a0 : Option Addr) (n c : Nat) (fr k : Int) (w : World) (hn : n ≤ 4096) :
    Calls Tryd.prog 61 #[.slice a0 n c, .int .i64 fr, .int .i64 k] w fun e w' => e = .returned (.bool (inB n fr k)) ∧ w = w' := by
  by_cases h1 : 0 ≤ fr <;> by_cases h2 : 0 ≤ k <;> by_cases h3 : fr ≤ n <;> by_cases h4 : k ≤ n - fr
  all_goals
    go_enter Tryd.func61, Tryd.ntmps61
    go_wp2
    go_ret
    refine ⟨ret_bool ?_, rfl⟩
    unfold inB
    symm
    first
    | exact decide_eq_true (by omega)
    | exact decide_eq_false (by omega)

set_option maxRecDepth 100000 in
theorem rget_in (b c i : Nat) (l : List Bool) (w : World) (hb : BoolS w b l) (hl : l.length ≤ 4096) (hi : i < l.length) :
    Calls Tryd.prog 51 #[.slice (some ⟨b, 0, none⟩) l.length c, .int .i64 i] w fun e w' => e = .returned (.tuple #[.bool (bt l i), .int .i64 0]) ∧ w = w' := by
  have c1 := hb.cell hi
  clear hb
  generalize bt l i = v at *
  go_enter Tryd.func51, Tryd.ntmps51
  go_wp2
  go_ret2
  exact ⟨rfl, rfl⟩
set_option maxRecDepth 100000 in
theorem rget_out (a0 : Option Addr) (n c : Nat) (i : Int) (w : World) (hi : i < 0 ∨ n ≤ i) :
    Calls Tryd.prog 51 #[.slice a0 n c, .int .i64 i] w fun e w' => e = .returned (.tuple #[.bool false, .int .i64 7]) ∧ w = w' := by
  by_cases h : i < 0
  · go_enter Tryd.func51, Tryd.ntmps51
    go_wp2
    go_ret2
    exact ⟨rfl, rfl⟩
  · have h2 : (n : Int) ≤ i := by omega
    clear hi
    go_enter Tryd.func51, Tryd.ntmps51
    go_wp2
    go_ret2
    exact ⟨rfl, rfl⟩
/-- what Get returns -/
def getV (l : List Bool) (i : Int) : Bool := if 0 ≤ i ∧ i < l.length then bt l i.toNat else false
theorem rget_walk (b c : Nat) (l : List Bool) (i : Int) (w : World) (hb : BoolS w b l) (hl : l.length ≤ 4096) :
    Calls Tryd.prog 51 #[.slice (some ⟨b, 0, none⟩) l.length c, .int .i64 i] w fun e w' => e = .returned (.tuple #[.bool (getV l i), .int .i64 (bitE l.length i)]) ∧ w = w' := by
  by_cases h : 0 ≤ i ∧ i < l.length
  · obtain ⟨I, rfl⟩ := Int.eq_ofNat_of_zero_le h.1
    rw [show getV l I = bt l I by unfold getV; rw [if_pos h]; rfl, show bitE l.length I = 0 by unfold bitE; rw [if_pos h]]
    exact rget_in b c I l w hb hl (by omega)
  · rw [show getV l i = false by unfold getV; rw [if_neg h], show bitE l.length i = 7 by unfold bitE; rw [if_neg h]]
    exact rget_out _ _ c i w (by omega)
theorem get_walk (b : Nat) (l : List Bool) (i : Int) (w : World) (hm : IsMap w b l) :
    Calls Tryd.prog 31 #[.pointer (some ⟨b, 0, none⟩), .int .i64 i] w fun e w' => e = .returned (.tuple #[.bool (getV l i), .int .i64 (bitE l.length i)]) ∧ w = w' := by
  have hl := hm.2
  by_cases h : 0 ≤ i ∧ i < l.length
  · obtain ⟨I, rfl⟩ := Int.eq_ofNat_of_zero_le h.1
    rw [show getV l I = bt l I by unfold getV; rw [if_pos h]; rfl, show bitE l.length I = 0 by unfold bitE; rw [if_pos h], ← word_bt]
    exact get_in b l.length I _ w hl (by omega) (word_lt l _) hm.1.made hm.1.len (hm.1.word (by omega))
  · rw [show getV l i = false by unfold getV; rw [if_neg h], show bitE l.length i = 7 by unfold bitE; rw [if_neg h]]
    exact get_out b l.length i w hl h hm.1.made hm.1.len

/-! ### Copy -/
theorem copy_news (l : List Bool) : (lvs l).length = l.length * 1 := by rw [lvs_length, Nat.mul_one]
set_option maxRecDepth 100000 in
set_option maxHeartbeats 1000000 in
theorem copy_walk (b c : Nat) (l : List Bool) (w : World) (hb : BoolS w b l) (hl : l.length ≤ 4096) :
    Calls Tryd.prog 60 #[.slice (some ⟨b, 0, none⟩) l.length c] w fun e w' => ∃ b' c', e = .returned (.slice (some ⟨b', 0, none⟩) l.length c') ∧ w.heap.size ≤ b' ∧ BoolS w' b' l ∧ Fr (fun _ => False) w w' := by
  obtain ⟨i0, hi, hz0, hz1, hz2⟩ := info_parts info4
  have hown : (w.alloc (.cells #[] 4)).ownsRow w.heap.size 4 1 (.slice (some ⟨w.heap.size, 0, none⟩) 0 0) 0 [] := World.ownsRow_made w #[] 0 (Nat.le_refl _) (by decide) (by simp)
  have hnews : ∀ j u, (lvs l)[j]? = some u → (w.alloc (.cells #[] 4)).cell? ((⟨b, 0, none⟩ : Addr).add j) = some u := by
    intro j u hu
    have hj : j < l.length := by
      have := (List.getElem?_eq_some_iff.1 hu).1
      rwa [lvs_length] at this
    rw [Addr.add_mid, Nat.zero_add, (hb.fr ((Fr.refl (fun _ => False) w).alloc _) (fun h => h)).cell hj, ← hu, lvs_bt l j hj]
  have h1 : ∀ u ∈ lvs l, u.oneCell' = true := by
    intro u hu
    simp only [lvs, List.mem_map] at hu
    obtain ⟨x, _, rfl⟩ := hu
    rfl
  have HL := Lib.hid (copy_news l)
  have HO := Lib.hid hown
  have HN := Lib.hid hnews
  have H1 := Lib.hid h1
  have HI := Lib.hid hi
  have HZ0 := Lib.hid hz0
  have HZ1 := Lib.hid hz1
  have HZ2 := Lib.hid hz2
  clear hown hnews h1 hi hz0 hz1 hz2 hb
  go_enter Tryd.func60, Tryd.ntmps60
  go_wp2_with (at_builtin; refine wpList_append_own _ rfl _ _ 25 rfl w.heap.size 4 i0 (.bool false) 1 1 Tryd.underlying25 HI.out HZ0.out HZ1.out HZ2.out rfl (by decide) _ 0 [] rfl HO.out ⟨b, 0, none⟩ l.length c (lvs l) rfl HL.out HN.out H1.out ?_ ?_ ?_ ?_)
  · unfold maxLen; omega
  · omega
  · simp
  · intro v' w' ho hg hne
    obtain ⟨g, cap, hv, hgb, hB⟩ : ∃ g cap, v' = .slice (some ⟨g, 0, none⟩) l.length cap ∧ w.heap.size ≤ g ∧ BoolS w' g l := by
      obtain ⟨_, h⟩ := ho
      rcases h with ⟨h, _⟩ | ⟨g, cap, cur, hv, hgb, hh, _, _, _, htake⟩
      · exact absurd h hne
      · refine ⟨g, cap, hv, hgb, cur.toList.drop l.length, ?_⟩
        unfold RowB
        rw [Nat.mul_one] at htake
        rw [← htake, List.take_append_drop]
        exact hh
    have hF : Fr (fun _ => False) w w' := ⟨hg.os, hg.tape, hg.output, by have := hg.size; simp at this; omega, fun k hk _ => by
      rw [hg.block k (by simp; omega) (by simp [Value.ownBlock]; omega)]
      exact Below.heap_alloc _ _ _ hk⟩
    rw [hv]
    clear hv hne ho hg
    go_wp2
    go_ret
    exact ⟨g, cap, rfl, hgb, hB, hF⟩

/-! ### Set, Fill -/
set_option maxRecDepth 100000 in
theorem rset_in (b c i : Nat) (l : List Bool) (v : Bool) (w : World) (hb : BoolS w b l) (hl : l.length ≤ 4096) (hi : i < l.length) :
    Calls Tryd.prog 50 #[.slice (some ⟨b, 0, none⟩) l.length c, .int .i64 i, .bool v] w fun e w' => ∃ b' c', e = .returned (.tuple #[.slice (some ⟨b', 0, none⟩) l.length c', .int .i64 0]) ∧ BoolS w' b' (l.set i v) ∧ Fr (fun _ => False) w w' := by
  have HB := Lib.hid hb
  clear hb
  go_enter Tryd.func50, Tryd.ntmps50
  go_wp2_with fail
  refine (copy_walk b c l _ HB.out hl).mono ?_
  rintro e w1 ⟨b', c', rfl, hb', hB, hF⟩
  have c1 := hB.cell hi
  have f1 := hB.frozen i
  have HB1 := Lib.hid hB
  have HF1 := Lib.hid hF
  clear hB hF
  go_wp2
  go_ret2
  exact ⟨b', c', rfl, HB1.out.set hi v, HF1.out.setCell (a := ⟨b', i, none⟩) (fun h => absurd h (Nat.not_lt.2 hb')) _⟩
set_option maxRecDepth 100000 in
theorem rset_out (a0 : Option Addr) (n c : Nat) (i : Int) (v : Bool) (w : World) (hi : i < 0 ∨ n ≤ i) :
    Calls Tryd.prog 50 #[.slice a0 n c, .int .i64 i, .bool v] w fun e w' => e = .returned (.tuple #[.slice a0 n c, .int .i64 7]) ∧ w = w' := by
  by_cases h : i < 0
  · go_enter Tryd.func50, Tryd.ntmps50
    go_wp2
    go_ret2
    exact ⟨rfl, rfl⟩
  · have h2 : (n : Int) ≤ i := by omega
    clear hi
    go_enter Tryd.func50, Tryd.ntmps50
    go_wp2
    go_ret2
    exact ⟨rfl, rfl⟩
theorem rset_walk (b c : Nat) (l : List Bool) (i : Int) (v : Bool) (w : World) (hb : BoolS w b l) (hl : l.length ≤ 4096) :
    Calls Tryd.prog 50 #[.slice (some ⟨b, 0, none⟩) l.length c, .int .i64 i, .bool v] w fun e w' => ∃ b' c', e = .returned (.tuple #[.slice (some ⟨b', 0, none⟩) l.length c', .int .i64 (bitE l.length i)]) ∧ BoolS w' b' (setL l i v) ∧ Fr (fun _ => False) w w' := by
  by_cases h : 0 ≤ i ∧ i < l.length
  · obtain ⟨I, rfl⟩ := Int.eq_ofNat_of_zero_le h.1
    rw [show setL l I v = l.set I v by unfold setL; rw [if_pos h]; rfl, show bitE l.length I = 0 by unfold bitE; rw [if_pos h]]
    exact rset_in b c I l v w hb hl (by omega)
  · rw [show setL l i v = l by unfold setL; rw [if_neg h], show bitE l.length i = 7 by unfold bitE; rw [if_neg h]]
    refine (rset_out _ _ c i v w (by omega)).mono ?_
    rintro e w' ⟨rfl, rfl⟩
    exact ⟨b, c, rfl, hb, Fr.refl _ _⟩

set_option maxRecDepth 100000 in
set_option maxHeartbeats 1000000 in
theorem rfill_in (b c fr n : Nat) (l : List Bool) (v : Bool) (w : World) (hb : BoolS w b l) (hl : l.length ≤ 4096) (h : fr + n ≤ l.length) :
    Calls Tryd.prog 52 #[.slice (some ⟨b, 0, none⟩) l.length c, .int .i64 fr, .int .i64 n, .bool v] w fun e w' => ∃ b' c', e = .returned (.tuple #[.slice (some ⟨b', 0, none⟩) l.length c', .int .i64 0]) ∧ BoolS w' b' (mkL l.length (fun p => if (fr : Int) ≤ p ∧ (p : Int) < fr + n then v else bt l p)) ∧ Fr (fun _ => False) w w' := by
  have HB := Lib.hid hb
  have hi := rin_walk (some ⟨b, 0, none⟩) l.length c fr n w hl
  rw [show inB l.length fr n = true from decide_eq_true (by omega)] at hi
  have HI := Lib.hid hi
  clear hb hi
  go_enter Tryd.func52, Tryd.ntmps52
  go_wp2_with (go_at_call 61; refine (HI.out).mono ?_; rintro e w' ⟨rfl, rfl⟩)
  refine (copy_walk b c l _ HB.out hl).mono ?_
  rintro e w1 ⟨b', c', rfl, hb', hB, hF⟩
  have HB1 := Lib.hid hB
  have HF1 := Lib.hid hF
  clear hB hF
  go_wp2_with fail
  go_loopw [11] (fun i wr => ∃ k : Nat, fr ≤ k ∧ k ≤ fr + n ∧ i = .int .i64 k ∧ BoolS wr b' (mkL l.length (fun p => if fr ≤ p ∧ p < k then v else bt l p)) ∧ Fr (fun _ => False) w wr) (fun i _ => (fr + n - intOf i).toNat)
  case atStart => exact ⟨fr, by omega, by omega, rfl, by rw [mkL_congr (g := bt l) (fun p _ => by rw [if_neg (by omega)]), mkL_bt]; exact HB1.out, HF1.out⟩
  case round =>
    obtain ⟨k, hk1, hk2, rfl, hR, hF⟩ := hrel
    by_cases hlt : k < fr + n
    · have c1 := hR.cell (j := k) (by rw [mkL_length]; omega)
      have f1 := hR.frozen k
      have g1 : (k : Int) < (fr : Int) + (n : Int) := by omega
      have HS := hR.set (j := k) (by rw [mkL_length]; omega) v
      rw [mkL_set] at HS
      rw [mkL_congr (g := fun p => if fr ≤ p ∧ p < k + 1 then v else bt l p) (fun p hp => by
        by_cases e : p = k
        · subst e; simp [hk1]
        · have : (p < k + 1) ↔ (p < k) := by omega
          simp [e, this])] at HS
      have HS := Lib.hid HS
      have HFs := hF.setCell (a := ⟨b', k, none⟩) (fun h => absurd h (Nat.not_lt.2 hb')) (.bool v)
      have HFs := Lib.hid HFs
      clear hR hF
      go_wp2
      go_roundw
      case rel => exact ⟨k + 1, by omega, by omega, by go_num, HS.out, HFs.out⟩
      case measure => simp [intOf]; omega
    · obtain rfl : k = fr + n := by omega
      go_wp2
      go_ret2
      refine ⟨b', c', rfl, ?_, hF⟩
      rw [mkL_congr (g := fun p => if fr ≤ p ∧ p < fr + n then v else bt l p) (fun p hp => by
        by_cases e : fr ≤ p ∧ p < fr + n
        · rw [if_pos e, if_pos (by omega)]
        · rw [if_neg e, if_neg (by omega)])]
      exact hR
set_option maxRecDepth 100000 in
theorem rfill_out (a0 : Option Addr) (m c : Nat) (fr n : Int) (v : Bool) (w : World) (hl : m ≤ 4096) (h : ¬ (0 ≤ fr ∧ 0 ≤ n ∧ fr ≤ m ∧ n ≤ m - fr)) :
    Calls Tryd.prog 52 #[.slice a0 m c, .int .i64 fr, .int .i64 n, .bool v] w fun e w' => e = .returned (.tuple #[.slice a0 m c, .int .i64 7]) ∧ w = w' := by
  have hi := rin_walk a0 m c fr n w hl
  rw [show inB m fr n = false from decide_eq_false h] at hi
  have HI := Lib.hid hi
  clear h hi
  go_enter Tryd.func52, Tryd.ntmps52
  go_wp2_with (go_at_call 61; refine (HI.out).mono ?_; rintro e w' ⟨rfl, rfl⟩)
  go_ret2
  exact ⟨rfl, rfl⟩
theorem rfill_walk (b c : Nat) (l : List Bool) (fr n : Int) (v : Bool) (w : World) (hb : BoolS w b l) (hl : l.length ≤ 4096) :
    Calls Tryd.prog 52 #[.slice (some ⟨b, 0, none⟩) l.length c, .int .i64 fr, .int .i64 n, .bool v] w fun e w' => ∃ b' c', e = .returned (.tuple #[.slice (some ⟨b', 0, none⟩) l.length c', .int .i64 (inE l.length fr n)]) ∧ BoolS w' b' (fillL l fr n v) ∧ Fr (fun _ => False) w w' := by
  by_cases h : 0 ≤ fr ∧ 0 ≤ n ∧ fr ≤ l.length ∧ n ≤ l.length - fr
  · rw [show fillL l fr n v = mkL l.length (fun p => if fr ≤ p ∧ p < fr + n then v else bt l p) by unfold fillL; rw [if_pos h], show inE l.length fr n = 0 by unfold inE; rw [if_pos h]]
    obtain ⟨F, rfl⟩ := Int.eq_ofNat_of_zero_le h.1
    obtain ⟨N, rfl⟩ := Int.eq_ofNat_of_zero_le h.2.1
    exact rfill_in b c F N l v w hb hl (by omega)
  · rw [show fillL l fr n v = l by unfold fillL; rw [if_neg h], show inE l.length fr n = 7 by unfold inE; rw [if_neg h]]
    refine (rfill_out _ _ c fr n v w hl h).mono ?_
    rintro e w' ⟨rfl, rfl⟩
    exact ⟨b, c, rfl, hb, Fr.refl _ _⟩
end Go.Proofs.YtbnjeglbbadcbaaDoor
