/- This text proves contracts of the program's directories, their entries, and the size of a branch; no condition beyond those that each statement names. -/
import Derived.Test.YtogjfifpbplahaaGreatDoorJP19
import Derived.Test.YtogjfifpbplahaaGreatDoorJj
import Derived.Test.YtogjfifpbplahaaGreatDoorJR14
namespace Go.Proofs.YtogjfifpbplahaaGreatDoor
open Go.RowKit
open BR
set_option linter.unusedVariables false

set_option maxRecDepth 100000 in
set_option maxHeartbeats 4000000 in
theorem known_walk (n c d : Nat) (a0 : Option Addr) (N : Nat → BNode) (H : Nat → Hd) (w : World) (hB : BranchAt w a0 n N H) (hn : n ≤ 1000) (hs : ∀ j, j < n → Fits (N j)) (hE : branchE n N = 0) (hd : d < n) :
    Calls Tryz.prog 30 #[.slice a0 n c, .int .i64 d] w (Ret (.int .i64 0) w) := by
  have CB := Lib.hid (bcheck_walk n c a0 N H w hB hn hs)
  rw [hE] at CB
  clear hB hs hE
  have g1 : ¬ (d : Int) < 0 := by omega
  have g2 : ¬ (n : Int) ≤ (d : Int) := by omega
  go_enter Tryz.func30, Tryz.ntmps30
  go_wp2_with (go_at_call 29; go_must (refine CB.out.mono ?_; rintro e w1 ⟨ix, rfl, hG⟩; have HF1 := Lib.hid hG; clear hG))
  go_ret
  exact ⟨rfl, HF1.out⟩
set_option maxRecDepth 100000 in
set_option maxHeartbeats 4000000 in
theorem dirs_walk (n c : Nat) (a0 : Option Addr) (N : Nat → BNode) (H : Nat → Hd) (w : World) (hB : BranchAt w a0 n N H) (hn : n ≤ 1000) (hs : ∀ j, j < n → Fits (N j)) (hE : branchE n N = 0) :
    Calls Tryz.prog 18 #[.slice a0 n c] w (RetD (dirsL N n) 0 w) := by
  obtain ⟨i0, hinf, hz0, hz1, hz2⟩ := info_parts int_info
  have HI := Lib.hid (And.intro hinf (And.intro hz0 (And.intro hz1 hz2)))
  have HB := Lib.hid hB
  have CB := Lib.hid (bcheck_walk n c a0 N H w hB hn hs)
  rw [hE] at CB
  clear hB hs hE hinf hz0 hz1 hz2
  go_enter Tryz.func18, Tryz.ntmps18
  go_wp2_with (go_at_call 29; go_must (refine CB.out.mono ?_; rintro e w1 ⟨ix, rfl, hG⟩; have HF1 := Lib.hid hG; clear hG))
  go_loopw [6, 7, 8, 19] (fun v _ _ z wr => ∃ (k : Nat) (vv : Value), vv = v ∧ k ≤ n ∧ z = .int .i64 k ∧ Fr (fun _ => False) w wr ∧ Hid (wr.ownsRow w.heap.size 3 1 vv (dirsL N k).length ((dirsL N k).map (Value.int .i64)))) (fun _ _ _ z _ => n - (intOf z).toNat)
  case atStart => exact ⟨0, _, rfl, by omega, rfl, HF1.out, Lib.hid (World.ownsRow_nil _ _ _ _)⟩
  case round =>
    obtain ⟨k, v, rfl, hk, rfl, hF, HO⟩ := hrel
    by_cases hlt : k < n
    · obtain ⟨b, o, rfl, hb, hc⟩ := HB.out.get (by omega)
      obtain ⟨c0, c1, c2, c3, c4, c5, c6, c7, c8, c9⟩ := hc wr hF k hlt
      have g1 : (0 : Int) ≤ (k : Int) := by omega
      have g2 : (k : Int) < n := by omega
      have HF := Lib.hid hF
      clear hF hc
      by_cases he : (N k).kind = 1
      · have HL := Lib.hid (show dirsL N (k + 1) = dirsL N k ++ [(k : Int)] by simp only [dirsL]; rw [if_pos he])
        have e1 : ((N k).kind == 1) = true := by simpa using he
        have hlen := dirsL_len N k
        clear he
        generalize dirsL N k = L at *
        go_wp2_with (at_builtin; go_must (refine wpList_append_any rfl _ _ 53 rfl w.heap.size 3 i0 _ 1 8 Tryz.underlying53 HI.out.1 HI.out.2.1 HI.out.2.2.1 HI.out.2.2.2 rfl (by decide) v L.length (L.map (Value.int .i64)) rfl (own_fr HO.out (((Fr.refl (fun _ => False) _).alloc _).alloc _) (fun _ _ h => h)) (some ⟨wr.heap.size + 1, 0, none⟩) 1 1 [.int .i64 (k : Int)] rfl rfl (fun _ => ⟨wr.heap.size + 1, 0, rfl, fun j u hj => by { have h := (RowB.new (wr.alloc (Obj.cells #[.int .i64 (N k).depth, .string (N k).name, .int .i64 (N k).kind, .slice (H k).aA (N k).m (H k).cA, .string (N k).data, .int .i64 (N k).major, .int .i64 (N k).minor, .int .i64 (N k).cls, .bool (N k).opq, .slice (H k).aR (N k).r (H k).cR] 43)) 3 [.int .i64 (k : Int)]).cell (0 + j); rw [alloc_size] at h; exact h.trans (by rw [Nat.zero_add]; exact hj) }⟩) (fun u hu => by rw [List.mem_singleton.1 hu]; rfl) (by unfold maxLen; omega) (by omega) (by have := HF.out.size; rw [alloc_size, alloc_size]; omega) ?_; intro v' w3 hown hgrow hat; have HO3 := Lib.hid hown; have HF3 := Lib.hid (fr_grow ((HF.out.alloc _).alloc _) hgrow (fun g hg => own_block_ge HO.out g hg)); clear hown hgrow hat))
        go_roundw
        case rel => exact ⟨k + 1, _, rfl, by omega, by go_num, HF3.out, Lib.hid (by have h := HO3.out; rw [HL.out]; simpa using h)⟩
        case measure => simp [intOf]; omega
      · have HL := Lib.hid (show dirsL N (k + 1) = dirsL N k by simp only [dirsL]; rw [if_neg he])
        have e1 : ((N k).kind == 1) = false := by simpa using he
        clear he
        go_wp2_with fail
        go_roundw
        case rel => exact ⟨k + 1, _, rfl, by omega, by go_num, HF.out.alloc _, Lib.hid (by rw [HL.out]; exact own_fr HO.out ((Fr.refl (fun _ => False) _).alloc _) (fun _ _ h => h))⟩
        case measure => simp [intOf]; omega
    · obtain rfl : k = n := by omega
      have HF := Lib.hid hF
      clear hF
      go_wp2_with fail
      go_ret2
      exact ⟨v, rfl, HO.out, HF.out⟩
set_option maxRecDepth 100000 in
set_option maxHeartbeats 4000000 in
theorem dirs_bad (n c : Nat) (a0 : Option Addr) (N : Nat → BNode) (H : Nat → Hd) (w : World) (hB : BranchAt w a0 n N H) (hn : n ≤ 1000) (hs : ∀ j, j < n → Fits (N j)) (hE : branchE n N ≠ 0) :
    Calls Tryz.prog 18 #[.slice a0 n c] w (Ret (.tuple #[.slice none 0 0, .int .i64 (branchE n N)]) w) := by
  have CB := Lib.hid (bcheck_walk n c a0 N H w hB hn hs)
  have q0 : (branchE n N != 0) = true := by simpa using hE
  generalize branchE n N = E at *
  clear hB hs hE
  go_enter Tryz.func18, Tryz.ntmps18
  go_wp2_with (go_at_call 29; go_must (refine CB.out.mono ?_; rintro e w1 ⟨ix, rfl, hG⟩; have HF1 := Lib.hid hG; clear hG))
  go_ret2
  exact ⟨rfl, HF1.out⟩
end Go.Proofs.YtogjfifpbplahaaGreatDoor

namespace Go.Proofs.YtogjfifpbplahaaGreatDoor
open Go.RowKit Go.Shelf
open BR
set_option linter.unusedVariables false
attribute [local go_sem] Oper.semAt_some

/-- what stands through the rounds -/
structure KdJ (w : World) (B3 O d K : Nat) (G : Nat → Prop) (Z : Nat) (W : World) : Prop where
  fr : Fr (fun _ => False) w W
  r3 : RowB W B3 3 [.int .i64 (d : Int)]
  out : ∃ v xs, RowB W O 53 [v] ∧ W.ownsRow Z 3 1 v K xs ∧ (∀ g, v.ownBlock = some g → ¬ G g)
  low : Z ≤ W.heap.size ∧ ∀ r, G r → Z ≤ r
theorem KdJ.up {w : World} {B3 O d K : Nat} {G G' : Nat → Prop} {Z : Nat} {W W' : World} (h : KdJ w B3 O d K G Z W) {row : Option Nat} (g : W.grownBy W' row) (hr : ∀ r, row = some r → G r) (hG' : ∀ r, G' r → G r ∨ W.heap.size ≤ r)
    (hB : w.heap.size ≤ Z ∧ B3 < Z ∧ O < Z) : KdJ w B3 O d K G' Z W' := by
  obtain ⟨v, xs, h1, h2, h3⟩ := h.out
  have hlow : ∀ b, b < Z → b < W.heap.size → W'.heap[b]? = W.heap[b]? := fun b hb hl => g.block b hl (fun e => by have := h.low.2 b (hr b e.symm); omega)
  refine ⟨fr_grow h.fr g (fun r e => Nat.le_trans hB.1 (h.low.2 r (hr r e))), h.r3.of_block (hlow _ hB.2.1 h.r3.lt), ⟨v, xs, h1.of_block (hlow _ hB.2.2 h1.lt), ?_, fun q hq hG => ?_⟩, Nat.le_trans h.low.1 g.size, fun r hr' => ?_⟩
  · refine h2.kept g ?_
    cases hv : v.ownBlock with
    | none => exact Or.inl rfl
    | some q => exact Or.inr (fun e => h3 q hv (hr q e.symm))
  · rcases hG' q hG with e | e
    · exact h3 q hq e
    · have := (h2.lt q hq).2; omega
  · rcases hG' r hr' with e | e
    · exact h.low.2 r e
    · have := h.low.1; omega
theorem KdJ.put {w : World} {B3 O d K : Nat} {G : Nat → Prop} {Z : Nat} {W : World} (h : KdJ w B3 O d K G Z W) (l : Nat) (ob o' : Obj) (hl : Z ≤ l) (hlo : W.heap[l]? = some ob) (hc : ob.isCells = false) (hB : w.heap.size ≤ Z ∧ B3 < Z ∧ O < Z) : KdJ w B3 O d K G Z (W.putObj l o') := by
  obtain ⟨v, xs, h1, h2, h3⟩ := h.out
  have hsz : (W.putObj l o').heap.size = W.heap.size := by simp [World.putObj]
  refine ⟨fr_grow h.fr (grownBy_putObj' W l o') (fun r e => by cases e; omega), h.r3.of_block (World.putObj_heap_other (by omega)), ⟨v, xs, h1.of_block (World.putObj_heap_other (by omega)), ?_, h3⟩, by rw [hsz]; exact h.low.1, h.low.2⟩
  refine h2.kept (grownBy_putObj' W l o') ?_
  cases hv : v.ownBlock with
  | none => exact Or.inl rfl
  | some q =>
    refine Or.inr (fun e => ?_)
    injection e with e
    subst e
    rcases h2.2 with ⟨rfl, _⟩ | ⟨g, cap, cur, rfl, _, hg, _⟩
    · cases hv
    · injection hv with hv
      subst hv
      rw [hlo] at hg
      cases hg
      simp [Obj.isCells] at hc
theorem KdJ.then {w : World} {B3 O d K : Nat} {G : Nat → Prop} {Z : Nat} {W W' : World} (h : KdJ w B3 O d K G Z W) (f : Fr (fun _ => False) W W') : KdJ w B3 O d K G Z W' := by
  obtain ⟨v, xs, h1, h2, h3⟩ := h.out
  exact ⟨h.fr.then f, h.r3.fr f (fun h => h), ⟨v, xs, h1.fr f (fun h => h), own_fr h2 f (fun _ _ h => h), h3⟩, Nat.le_trans h.low.1 f.size, h.low.2⟩
/-- a row of another type is another block -/
theorem row_apart {w : World} {b T : Nat} {vs : List Value} {base e s n : Nat} {v : Value} {xs : List Value} (h : RowB w b T vs) (o : w.ownsRow base e s v n xs) (hne : T ≠ e) : ∀ g, v.ownBlock = some g → g ≠ b := by
  rintro g hg rfl
  rcases o.2 with ⟨rfl, _⟩ | ⟨g', cap, cur, rfl, _, h1, _⟩
  · cases hg
  · injection hg with hg
    subst hg
    unfold RowB at h
    rw [h] at h1
    injection h1 with h1
    injection h1 with _ h1
    exact hne h1
/-- one more -/
theorem KdJ.add {w : World} {B3 O d K : Nat} {G : Nat → Prop} {Z : Nat} {W w3 : World} {v v' : Value} {xs xs' : List Value} (h : KdJ w B3 O d K G Z W) (hO : RowB W O 53 [v]) (hv : W.ownsRow Z 3 1 v K xs) (hG : ∀ g, v.ownBlock = some g → ¬ G g)
    (ob : Obj) (own : w3.ownsRow Z 3 1 v' (K + 1) xs') (g : (W.alloc ob).grownBy w3 v.ownBlock) (hat : v'.ownBlock = v.ownBlock ∨ v'.ownBlock = some (W.alloc ob).heap.size) (hGl : ∀ r, G r → r < W.heap.size) (hB : w.heap.size ≤ Z ∧ B3 < Z ∧ O < Z ∧ w.heap.size ≤ O ∧ B3 ≠ O) :
    KdJ w B3 O d (K + 1) G Z (w3.setCell ⟨O, 0, none⟩ v') ∧ KeepsFrom Z W (w3.setCell ⟨O, 0, none⟩ v') ∧ KpG w.heap.size G W (w3.setCell ⟨O, 0, none⟩ v') := by
  have f1 : Fr (fun k => v.ownBlock = some k) W w3 := ((Fr.refl (fun k => v.ownBlock = some k) W).alloc ob).trans (Fr.of_grown g) (fun k _ e => e)
  have f2 : Fr (fun k => v.ownBlock = some k ∨ k = O) W (w3.setCell ⟨O, 0, none⟩ v') := Fr.setCell (S := fun k => v.ownBlock = some k ∨ k = O) (f1.mono (fun _ _ e => Or.inl e)) (a := ⟨O, 0, none⟩) (fun _ => Or.inr rfl) v'
  have hne := row_apart hO hv (by decide)
  have hb3 := hv.lt
  have hO3 : RowB w3 O 53 [v] := hO.fr f1 (fun e => hne O e rfl)
  have hO4 : RowB (w3.setCell ⟨O, 0, none⟩ v') O 53 [v'] := hO3.set 0 v'
  have hS : ∀ k, (v.ownBlock = some k ∨ k = O) → w.heap.size ≤ k ∧ k ≠ B3 ∧ ¬ G k := fun k e => by
    rcases e with e | e
    · have := hb3 k e; exact ⟨by omega, by omega, hG k e⟩
    · subst e; exact ⟨hB.2.2.2.1, Ne.symm hB.2.2.2.2, fun e => by have := h.low.2 _ e; omega⟩
  refine ⟨⟨h.fr.trans f2 (fun k hk e => by have := (hS k e).1; omega), h.r3.fr f2 (fun e => (hS _ e).2.1 rfl), ⟨v', xs', hO4, ?_, fun q hq hg => ?_⟩, Nat.le_trans h.low.1 f2.size, h.low.2⟩, ?_, ?_⟩
  · exact own_fr own ((Fr.refl (fun k => k = O) w3).setCell (a := ⟨O, 0, none⟩) (fun _ => rfl) v') (fun q hq e => by have := (own.lt q hq).1; omega)
  · rcases hat with e | e
    · exact hG q (e.symm.trans hq) hg
    · rw [e] at hq
      injection hq with hq
      rw [alloc_size] at hq
      have := hGl q hg
      omega
  · refine ⟨f2.size, fun k o hk ho hc => (f2.block k (Array.getElem?_eq_some_iff.1 ho).1 (fun e => ?_)).trans ho⟩
    rcases e with e | e
    · rcases hv.2 with ⟨rfl, _⟩ | ⟨g', cap, cur, rfl, _, h1, _⟩
      · cases e
      · injection e with e
        subst e
        rw [ho] at h1
        cases h1
        simp [Obj.isCells] at hc
    · omega
  · exact KpG.of_fr f2 (fun k e => ⟨(hS k e).2.2, (hS k e).1⟩)
set_option maxRecDepth 100000 in
set_option maxHeartbeats 8000000 in
theorem kids_walk (n c d : Nat) (a0 : Option Addr) (N : Nat → BNode) (H : Nat → Hd) (w : World) (hB : BranchAt w a0 n N H) (hn : n ≤ 1000) (hs : ∀ j, j < n → Fits (N j)) (hE : branchE n N = 0) (hd : d < n) (hk : (N d).kind = 1) :
    Calls Tryz.prog 19 #[.slice a0 n c, .int .i64 d] w (RetK (kidsN N d n) w) := by
  obtain ⟨i0, hinf, hz0, hz1, hz2⟩ := info_parts int_info
  have HI := Lib.hid (And.intro hinf (And.intro hz0 (And.intro hz1 hz2)))
  have HD := Lib.hid (treeE_deep (branchE_zero hE))
  have h120 : n ≤ 120 := (treeE_zero (branchE_zero hE)).2.1
  have CB := Lib.hid (fun w0 (hG : Fr (fun _ => False) w w0) => known_walk n c d a0 N H w0 (hB.fr hG (fun _ _ h => h)) hn hs hE hd)
  obtain ⟨b, o, rfl, hb, hc⟩ := hB.get (by omega)
  have HC := Lib.hid (fun w0 (hG : Fr (fun _ => False) w w0) => (hc w0 hG d hd).c2)
  rw [hk] at HC
  have HB := Lib.hid hB
  clear hB hs hE hinf hz0 hz1 hz2 hc hk hn
  have g1 : (0 : Int) ≤ (d : Int) := by omega
  have g2 : (d : Int) < n := by omega
  refine (callsIn_wide (n := 4)).1 ?_
  refine callsIn_of_wp_marks Tryz.func19 rfl trivial ?_ rfl
  simp only [Tryz.ntmps19, List.size_toArray, List.length_cons, List.length_nil, Nat.reduceAdd, Nat.reduceSub, Array.replicate_succ, Array.replicate_zero, List.push_toArray, List.append_toArray, List.nil_append, List.cons_append]
  refine wpIn_wide.2 ?_
  go_upto_region 1 with (fail)
  have hR3 : RowB (w.alloc (Obj.cells #[.int .i64 (d : Int)] 3)) w.heap.size 3 [.int .i64 (d : Int)] := RowB.new w _ _
  have hF0 : Fr (fun _ => False) w (w.alloc (Obj.cells #[.int .i64 (d : Int)] 3)) := (Fr.refl _ w).alloc _
  change Code.wp _ _ _ _ (w.alloc (Obj.cells #[.int .i64 (d : Int)] 3))
  generalize w.alloc (Obj.cells #[.int .i64 (d : Int)] 3) = W0 at *
  obtain ⟨B3, hB3⟩ : ∃ B3, B3 = w.heap.size := ⟨_, rfl⟩
  rw [← hB3] at hR3 ⊢
  have HB3 := Lib.hid hB3
  have t3 : W0.cell? ⟨B3, 0, none⟩ = some (.int .i64 (d : Int)) := hR3.cell 0
  have HR3 := Lib.hid hR3
  have HF0 := Lib.hid hF0
  clear hR3 hF0 hB3
  go_wp2_with (first
    | (go_at_call 30; go_must (refine (CB.out _ HF0.out).mono ?_; rintro e w1 ⟨rfl, hG⟩; have HF1 := Lib.hid hG; have k2 := HC.out w1 (HF0.out.then hG); have t31 : w1.cell? ⟨B3, 0, none⟩ = some (.int .i64 (d : Int)) := (HR3.out.fr hG (fun h => h)).cell 0; clear hG))
    | (go_at_call 31; go_must (refine (walk_make _ _ _ _).mono ?_; rintro e w' ⟨rfl, rfl⟩)))
  have hO2 : RowB ((w1.alloc (Obj.cells #[.slice none 0 0] 53)).alloc (Obj.cells #[.slice (some ⟨b, o, none⟩) n c] 24)) w1.heap.size 53 [.slice none 0 0] := (RowB.new w1 53 [.slice none 0 0]).fr ((Fr.refl (fun _ => False) _).alloc _) (fun h => h)
  have hX2 : RowB ((w1.alloc (Obj.cells #[.slice none 0 0] 53)).alloc (Obj.cells #[.slice (some ⟨b, o, none⟩) n c] 24)) (w1.heap.size + 1) 24 [.slice (some ⟨b, o, none⟩) n c] := by
    have h := RowB.new (w1.alloc (Obj.cells #[.slice none 0 0] 53)) 24 [.slice (some ⟨b, o, none⟩) n c]
    rw [alloc_size] at h
    exact h
  have hF2 : Fr (fun _ => False) w1 ((w1.alloc (Obj.cells #[.slice none 0 0] 53)).alloc (Obj.cells #[.slice (some ⟨b, o, none⟩) n c] 24)) := ((Fr.refl (fun _ => False) w1).alloc _).alloc _
  change Code.wp _ _ _ _ ((w1.alloc (Obj.cells #[.slice none 0 0] 53)).alloc (Obj.cells #[.slice (some ⟨b, o, none⟩) n c] 24))
  generalize (w1.alloc (Obj.cells #[.slice none 0 0] 53)).alloc (Obj.cells #[.slice (some ⟨b, o, none⟩) n c] 24) = W2 at *
  obtain ⟨BX, hBX⟩ : ∃ BX, BX = w1.heap.size + 1 := ⟨_, rfl⟩
  obtain ⟨O, hO⟩ : ∃ O, O = w1.heap.size := ⟨_, rfl⟩
  rw [← hBX] at hX2 ⊢
  rw [← hO] at hO2 ⊢
  have hsz1 := (HF0.out.then HF1.out).size
  have hR31 := (HR3.out.fr HF1.out (fun h => h)).lt
  have HZB := Lib.hid (show w.heap.size ≤ W2.heap.size ∧ B3 < W2.heap.size ∧ O < W2.heap.size ∧ w.heap.size ≤ O ∧ B3 ≠ O by have := hF2.size; have := hO2.lt; omega)
  have HK0 := Lib.hid (show KdJ w B3 O d (kidsN N d 0) (fun _ => False) W2.heap.size W2 from ⟨(HF0.out.then HF1.out).then hF2, (HR3.out.fr HF1.out (fun h => h)).fr hF2 (fun h => h), ⟨_, _, hO2, World.ownsRow_nil _ _ _ _, fun g h => by cases h⟩, Nat.le_refl _, fun r h => h.elim⟩)
  have HBX := Lib.hid hX2
  have n3O : ¬ B3 = O := HZB.out.2.2.2.2
  have nO3 : ¬ O = B3 := fun e => n3O e.symm
  clear hO2 hX2 hF2 hBX hO hsz1 hR31 t3 t31 k2
  refine range_walk BX n c (some ⟨b, o, none⟩) N H w rfl rfl HB.out HK0.out.fr (HBX.out.cell 0) HBX.out.lt HD.out (by omega) (fun pre G W => KdJ w B3 O d (kidsN N d pre.length) G W2.heap.size W) (fun c' pre W => False)
    (fun pre G G' W W' row h g hr hG' => h.up g hr hG' (by have := HZB.out; omega))
    (fun pre G W l ob o' hl hlo hc h => h.put l ob o' hl hlo hc (by have := HZB.out; omega))
    (fun c' pre W l ob o' hl hlo hc h => h) HK0.out (fun x z => { tmps := #[.slice (some ⟨b, o, none⟩) n c, .int .i64 (d : Int), undef, .pointer (some ⟨B3, 0, none⟩), .slice none 0 0, .int .i64 0, .int .i64 0, .pointer (some ⟨O, 0, none⟩), .int .i64 (x.i : Int), .pointer (some ⟨z, 0, none⟩), .slice (some ⟨b, o, none⟩) n c, .int .i64 (d : Int), .int .i64 0, .int .i64 0, .bool false, undef, .slice (some ⟨b, o, none⟩) n c, .int .i64 (d : Int), .pointer (some ⟨b, o + d * 10, none⟩), .pointer (some ⟨b, o + d * 10 + 2, none⟩), .int .i64 1, .bool false, .slice (some ⟨b, o, none⟩) n c, .func (.func 42) #[] #[.pointer (some ⟨BX, 0, none⟩)], .int .i64 (x.i : Int), .agg #[.int .i64 (parF N x.i), .slice x.a (N x.i).depth.toNat x.c], undef, undef, undef, undef, undef, undef, undef, undef, undef], defers := [] }) ?assign ?body ?done ?stop
  case assign =>
    intro l x W K hK
    unfold encY
    gi_wp2
    exact hK
  case body =>
    rintro l pre G ⟨k, xa, xc⟩ W z hJ hGz hz hrow ⟨hxi, hxn, _, _⟩
    dsimp only at hrow hxi hxn
    dsimp only
    rw [← hxi] at hJ
    have HLN := Lib.hid (show (pre ++ [(⟨k, xa, xc⟩ : YP)]).length = k + 1 by rw [List.length_append, ← hxi]; rfl)
    obtain ⟨v, xs, hO, hown, hG⟩ := hJ.out
    obtain ⟨av, cv, rfl, _, _⟩ := own_slice hown
    have e0 : W.cell? ⟨z, 0, none⟩ = some (.int .i64 (parF N k)) := hrow.cell 0
    have r3 : W.cell? ⟨B3, 0, none⟩ = some (.int .i64 (d : Int)) := hJ.r3.cell 0
    have o1 : W.cell? ⟨O, 0, none⟩ = some (.slice av (kidsN N d k) cv) := hO.cell 0
    have lO := hO.lt
    have hle := kidsN_le N d k
    have HL := Lib.hid (show kidsN N d (k + 1) = kidsN N d k + (if parF N k = d then 1 else 0) from rfl)
    have HJ := Lib.hid hJ
    have HO := Lib.hid hO
    have HOW := Lib.hid hown
    have HG := Lib.hid hG
    have HGZ := Lib.hid hGz
    clear hJ hO hown hG hGz hrow hz hxi
    generalize kidsN N d k = K at *
    by_cases he : parF N k = d
    · have HL2 := Lib.hid (show kidsN N d (k + 1) = K + 1 by rw [HL.out, if_pos he])
      rw [he] at e0 ⊢
      clear he
      gi_wp2_with (gi_at_builtin; go_must (refine wpListIn_append_own_at _ rfl _ _ 53 rfl W2.heap.size 3 i0 _ 1 8 Tryz.underlying53 HI.out.1 HI.out.2.1 HI.out.2.2.1 HI.out.2.2.2 rfl (by decide) (.slice av K cv) K xs rfl (HOW.out.alloc _) ⟨W.heap.size, 0, none⟩ 1 1 [.int .i64 (k : Int)] rfl rfl (fun j u hj => by rw [addr_add]; exact ((RowB.new W 3 [.int .i64 (k : Int)]).cell (0 + j)).trans (by rw [Nat.zero_add]; exact hj)) (fun u hu => by rw [List.mem_singleton.1 hu]; rfl) (by unfold maxLen; omega) (by omega) (by have := HJ.out.low.1; rw [alloc_size]; omega) ?_; intro v' w3 hown' hgrow hnil hat; obtain ⟨a', c', rfl, _, _⟩ := own_slice hown'; have HA := Lib.hid (HJ.out.add HO.out HOW.out HG.out (.cells #[.int .i64 (k : Int)] 3) hown' hgrow hat (fun r hr => (HGZ.out r hr).2.1) (by have := HZB.out; omega)); have ho3 : RowB w3 O 53 [.slice av K cv] := HO.out.fr (((Fr.refl (fun k => (Value.slice av K cv).ownBlock = some k) W).alloc (.cells #[.int .i64 (k : Int)] 3)).trans (Fr.of_grown hgrow) (fun k _ e => e)) (fun e => row_apart HO.out HOW.out (by decide) O e rfl); have p1 : w3.cell? ⟨O, 0, none⟩ = some (.slice av K cv) := ho3.cell 0; have p2 := ho3.frozen 0; clear ho3 hown' hgrow hnil hat))
      exact ⟨HA.out.2.1, HA.out.2.2, by dsimp only; rw [HLN.out, HL2.out]; exact HA.out.1⟩
    · have HL2 := Lib.hid (show kidsN N d (k + 1) = K by rw [HL.out, if_neg he]; rfl)
      have e1 : (parF N k == (d : Int)) = false := by simpa using he
      generalize parF N k = P at *
      clear he
      gi_wp2
      exact ⟨KeepsFrom.refl _ _, KpG.of_fr (Fr.refl (fun _ => False) _) (fun _ h => h.elim), by dsimp only; rw [HLN.out, HL2.out]; exact HJ.out⟩
  case done =>
    rintro D xs G W hD hlen hJ hK
    try dsimp only at hJ
    rw [hlen] at hJ
    obtain ⟨v, ys, hO, hown, _⟩ := hJ.out
    obtain ⟨a1, c1, rfl, _, _⟩ := own_slice hown
    have o1 : W.cell? ⟨O, 0, none⟩ = some (.slice a1 (kidsN N d n) c1) := hO.cell 0
    have HJ := Lib.hid hJ.fr
    have HK := Lib.hid hK
    clear hJ hK hO hown
    generalize kidsN N d n = K at *
    go_wp2_with fail
    refine leaves_marks (z := W2.heap.size) _ _ ⟨D, rfl, hD, HK.out, (fun d hd => by cases hd), trivial⟩ (fun w' f => ?_)
    refine ⟨.tuple #[.slice a1 K c1, .int .i64 0], by simp [results, Tryz.results19, go_sem], a1, c1, rfl, ?_⟩
    exact (HJ.out.up (S := fun k => w.heap.size ≤ k) |>.trans f (fun k hk h => by have := h.1; have := HZB.out; omega)).mono (fun k hk h => by omega)
  case stop =>
    rintro D c' pre W hD h hK
    exact h.elim
end Go.Proofs.YtogjfifpbplahaaGreatDoor

namespace Go.Proofs.YtogjfifpbplahaaGreatDoor
open Go.RowKit
open BR
set_option linter.unusedVariables false

set_option maxRecDepth 100000 in
set_option maxHeartbeats 4000000 in
theorem size_bad (n c : Nat) (a0 : Option Addr) (N : Nat → BNode) (H : Nat → Hd) (w : World) (hB : BranchAt w a0 n N H) (hn : n ≤ 1000) (hs : ∀ j, j < n → Fits (N j)) (hE : branchE n N ≠ 0) :
    Calls Tryz.prog 8 #[.slice a0 n c] w (Ret (sizeB (branchE n N)) w) := by
  have CD := Lib.hid (fun (w0 : World) (hG : Fr (fun _ => False) w w0) => dirs_bad n c a0 N H w0 (hB.fr hG (fun _ _ h => h)) hn hs hE)
  have HR := Lib.hid (fun w0 (hG : Fr (fun _ => False) (w.alloc (.cells #[.int .i64 0, .int .i64 0, .int .i64 0, .int .i64 0, .int .i64 0] 26)) w0) => RowB.fr (vs := szR 0 0 0 0 0) (RowB.new w 26 (szR 0 0 0 0 0)) hG (fun h => h))
  have q0 : (branchE n N != 0) = true := by simpa using hE
  unfold sizeB
  generalize branchE n N = E at *
  clear hB hs hE
  go_enter Tryz.func8, Tryz.ntmps8
  go_wp2_with (go_at_call 18; go_must (refine (CD.out _ ((Fr.refl _ w).alloc _)).mono ?_; rintro e w1 ⟨rfl, hG⟩; have HF1 := Lib.hid hG; have hr := HR.out w1 hG; have r0 : w1.cell? ⟨w.heap.size, 0, none⟩ = some (.int .i64 0) := hr.cell 0; have r1 : w1.cell? ⟨w.heap.size, 1, none⟩ = some (.int .i64 0) := hr.cell 1; have r2 : w1.cell? ⟨w.heap.size, 2, none⟩ = some (.int .i64 0) := hr.cell 2; have r3 : w1.cell? ⟨w.heap.size, 3, none⟩ = some (.int .i64 0) := hr.cell 3; have r4 : w1.cell? ⟨w.heap.size, 4, none⟩ = some (.int .i64 0) := hr.cell 4; have f0 := hr.frozen 0; have f1 := hr.frozen 1; have f2 := hr.frozen 2; have f3 := hr.frozen 3; have f4 := hr.frozen 4; clear hG hr))
  refine bodyPost_ret (v := .tuple #[.agg #[.int .i64 0, .int .i64 0, .int .i64 0, .int .i64 0, .int .i64 0], .int .i64 E]) (by simp [results, Tryz.results8, go_sem, *]) rfl ⟨rfl, ?_⟩
  have h1 : Fr (fun b => b = w.heap.size) w1 (((((w1.setCell ⟨w.heap.size, 0, none⟩ (.int .i64 0)).setCell ⟨w.heap.size, 1, none⟩ (.int .i64 0)).setCell ⟨w.heap.size, 2, none⟩ (.int .i64 0)).setCell ⟨w.heap.size, 3, none⟩ (.int .i64 0)).setCell ⟨w.heap.size, 4, none⟩ (.int .i64 0)) :=
    Fr.setCell (Fr.setCell (Fr.setCell (Fr.setCell (Fr.setCell (Fr.refl (fun b => b = w.heap.size) w1) (a := ⟨w.heap.size, 0, none⟩) (fun _ => rfl) _) (a := ⟨w.heap.size, 1, none⟩) (fun _ => rfl) _) (a := ⟨w.heap.size, 2, none⟩) (fun _ => rfl) _) (a := ⟨w.heap.size, 3, none⟩) (fun _ => rfl) _) (a := ⟨w.heap.size, 4, none⟩) (fun _ => rfl) _
  exact (((Fr.refl (fun _ => False) w).alloc _).then HF1.out).trans h1 (fun k hk e => by have e : k = w.heap.size := e; omega)
set_option maxRecDepth 100000 in
set_option maxHeartbeats 8000000 in
theorem size_ok (n c : Nat) (a0 : Option Addr) (N : Nat → BNode) (H : Nat → Hd) (w : World) (hB : BranchAt w a0 n N H) (hn : n ≤ 1000) (hs : ∀ j, j < n → Fits (N j)) (hE : branchE n N = 0) :
    Calls Tryz.prog 8 #[.slice a0 n c] w (Ret (sizeV n N) w) := by
  have HB := Lib.hid hB
  have CD := Lib.hid (fun (w0 : World) (hG : Fr (fun _ => False) w w0) => dirs_walk n c a0 N H w0 (hB.fr hG (fun _ _ h => h)) hn hs hE)
  have CK := Lib.hid (fun (d : Nat) (hd : d < n) (hk : (N d).kind = 1) (w0 : World) (hG : Fr (fun _ => False) w w0) => kids_walk n c d a0 N H w0 (hB.fr hG (fun _ _ h => h)) hn hs hE hd hk)
  have HD := Lib.hid (treeE_deep (branchE_zero hE))
  have HCL := Lib.hid (fun k (hk : k ≤ n) => mostC_bd (N := N) k (fun j hj => (nodeE_parts ((treeE_zero (branchE_zero hE)).2.2 j (by omega))).2.2.2.2))
  have HCB := Lib.hid (fun k (hk : k < n) => classE_bd (N := N) ((nodeE_parts ((treeE_zero (branchE_zero hE)).2.2 k hk)).2.2.2.2))
  have HR := Lib.hid (fun w0 (hG : Fr (fun _ => False) (w.alloc (.cells #[.int .i64 0, .int .i64 0, .int .i64 0, .int .i64 0, .int .i64 0] 26)) w0) => RowB.fr (vs := szR 0 0 0 0 0) (RowB.new w 26 (szR 0 0 0 0 0)) hG (fun h => h))
  have HAT := Lib.hid (fun j h => dirsL_at N n j h)
  have hlen := dirsL_len N n
  have HV := Lib.hid (show sizeV n N = .tuple #[.agg #[.int .i64 n, .int .i64 (dirsL N n).length, .int .i64 (widthM n N (dirsL N n) (dirsL N n).length), .int .i64 (depthM N n), .int .i64 (mostC N n)], .int .i64 0] from rfl)
  clear hB hs hE
  generalize dirsL N n = L at *
  go_enter Tryz.func8, Tryz.ntmps8
  go_wp2_with (go_at_call 18; go_must (refine (CD.out _ ((Fr.refl _ w).alloc _)).mono ?_; rintro e w1 ⟨v, rfl, hown, hG⟩; obtain ⟨a1, c1, rfl, hc1, hr1⟩ := own_ints hown; have HA1 := Lib.hid hr1; have HF1 := Lib.hid hG; clear hown hr1 hG))
  have hG2 : Fr (fun _ => False) w (w1.alloc (Obj.cells #[Value.int .i64 n, Value.int .i64 L.length, Value.int .i64 0, Value.int .i64 0, Value.int .i64 0] 26)) := (((Fr.refl _ w).alloc _).then HF1.out).alloc _
  have hR2 : RowB (w1.alloc (Obj.cells #[Value.int .i64 n, Value.int .i64 L.length, Value.int .i64 0, Value.int .i64 0, Value.int .i64 0] 26)) w1.heap.size 26 (szR n L.length 0 0 0) := RowB.new w1 _ _
  have hP2 : RowB (w1.alloc (Obj.cells #[Value.int .i64 n, Value.int .i64 L.length, Value.int .i64 0, Value.int .i64 0, Value.int .i64 0] 26)) w.heap.size 26 (szR 0 0 0 0 0) := (HR.out w1 HF1.out).fr ((Fr.refl (fun _ => False) _).alloc _) (fun h => h)
  have hA2 : Fr (fun _ => False) w1 (w1.alloc (Obj.cells #[Value.int .i64 n, Value.int .i64 L.length, Value.int .i64 0, Value.int .i64 0, Value.int .i64 0] 26)) := (Fr.refl _ _).alloc _
  have hzz : w.heap.size < w1.heap.size := by have := HF1.out.size; rw [alloc_size] at this; omega
  generalize w1.alloc (Obj.cells #[Value.int .i64 n, Value.int .i64 L.length, Value.int .i64 0, Value.int .i64 0, Value.int .i64 0] 26) = W2 at *
  obtain ⟨B, hB⟩ : ∃ B, B = w1.heap.size := ⟨_, rfl⟩
  rw [← hB] at hR2 hzz ⊢
  have HBZ := Lib.hid hB
  have HG2 := Lib.hid hG2
  have HR2 := Lib.hid hR2
  have HP2 := Lib.hid hP2
  have HA2 := Lib.hid hA2
  clear hB hG2 hR2 hP2 hA2
  go_loopw [8, 9, 10, 29] (fun _ _ _ z wr => ∃ k : Nat, k ≤ L.length ∧ z = .int .i64 k ∧ Fr (fun b => b = B) W2 wr ∧ Hid (RowB wr B 26 (szR n L.length (widthM n N L k) 0 0))) (fun _ _ _ z _ => L.length - (intOf z).toNat)
  case atStart => exact ⟨0, by omega, rfl, Fr.refl _ _, HR2⟩
  case round =>
    obtain ⟨k, hk, rfl, hF, HRw⟩ := hrel
    have hFw := frS HG2.out hF (by omega)
    by_cases hlt : k < L.length
    · have g1 : (0 : Int) ≤ (k : Int) := by omega
      have g2 : (k : Int) < L.length := by omega
      obtain ⟨d, hd1, hd2, hd3⟩ := HAT.out k hlt
      obtain ⟨g, rfl, hgb, hgl, hgc⟩ := HA1.out (by omega)
      have cg : wr.cell? ⟨g, k, none⟩ = some (.int .i64 d) := by
        rw [← hd1]
        exact hF.cell (p := ⟨g, k, none⟩) (Nat.lt_of_lt_of_le hgl HA2.out.size) (fun e => by have e : g = B := e; have := HBZ.out; omega) (HA2.out.cell (p := ⟨g, k, none⟩) hgl (fun h => h) (hgc k hlt))
      have CC := Lib.hid (CK.out d hd2 hd3 wr hFw)
      have hle := widthM_le n N L k
      have hle2 := kidsN_le N d n
      have HL := Lib.hid (show widthM n N L (k + 1) = max (widthM n N L k) (kidsN N d n) by simp only [widthM]; rw [hd1])
      have HF := Lib.hid hF
      clear hd1 hd2 hd3 hgb hgl hgc hF hFw
      generalize widthM n N L k = T at *
      generalize kidsN N d n = K at *
      have arms : True := trivial
      by_cases hm : K ≤ T
      all_goals
        go_wp2_with (go_at_call 19; go_must (refine CC.out.mono ?_; rintro e w3 ⟨a3, c3, rfl, hG⟩; have HG := Lib.hid hG; have hr := HRw.out.fr hG (fun h => h); have r2 : w3.cell? ⟨B, 2, none⟩ = some (.int .i64 T) := hr.cell 2; have f2 := hr.frozen 2; have HR3 := Lib.hid hr; clear hG hr))
        go_roundw
        case rel => exact ⟨k + 1, by omega, by go_num, Fr.setCell (HF.out.trans HG.out (fun _ _ h => h.elim)) (a := ⟨B, 2, none⟩) (fun _ => rfl) _, Lib.hid (by
          have h := HR3.out.set 2 (.int .i64 (max (T : Int) (K : Int)))
          rw [HL.out, show ((max T K : Nat) : Int) = max (T : Int) (K : Int) by omega]
          exact h)⟩
        case measure => simp [intOf]; omega
    · obtain rfl : k = L.length := by omega
      have HF := Lib.hid hF
      have HFw := Lib.hid hFw
      clear hF hFw
      generalize (widthM n N L L.length) = Wd at *
      go_wp2_with fail
      go_loopw [12, 48] (fun _ z wr => ∃ k : Nat, k ≤ n ∧ z = .int .i64 k ∧ Fr (fun b => b = B) W2 wr ∧ Hid (RowB wr B 26 (szR n L.length Wd (depthM N k) (mostC N k)))) (fun _ z _ => n - (intOf z).toNat)
      case atStart => exact ⟨0, by omega, rfl, HF.out, HRw⟩
      case round =>
        obtain ⟨k, hk, rfl, hF, HRk⟩ := hrel
        have hFw := frS HG2.out hF (by omega)
        by_cases hlt : k < n
        · have g1 : (0 : Int) ≤ (k : Int) := by omega
          have g2 : (k : Int) < n := by omega
          obtain ⟨b, o, rfl, hb, hc⟩ := HB.out.get (by omega)
          obtain ⟨c0, c1, c2, c3, c4, c5, c6, c7, c8, c9⟩ := hc wr hFw k hlt
          have hbw : b < wr.heap.size := Nat.lt_of_lt_of_le hb hFw.size
          go_upto_region 14 with (fail)
          have HX := Lib.hid (RowB.new wr 43 [.int .i64 (N k).depth, .string (N k).name, .int .i64 (N k).kind, .slice (H k).aA (N k).m (H k).cA, .string (N k).data, .int .i64 (N k).major, .int .i64 (N k).minor, .int .i64 (N k).cls, .bool (N k).opq, .slice (H k).aR (N k).r (H k).cR])
          have HFX := Lib.hid ((Fr.refl (fun _ => False) wr).alloc (Obj.cells #[.int .i64 (N k).depth, .string (N k).name, .int .i64 (N k).kind, .slice (H k).aA (N k).m (H k).cA, .string (N k).data, .int .i64 (N k).major, .int .i64 (N k).minor, .int .i64 (N k).cls, .bool (N k).opq, .slice (H k).aR (N k).r (H k).cR] 43))
          change Code.wp _ _ _ _ (wr.alloc (Obj.cells #[.int .i64 (N k).depth, .string (N k).name, .int .i64 (N k).kind, .slice (H k).aA (N k).m (H k).cA, .string (N k).data, .int .i64 (N k).major, .int .i64 (N k).minor, .int .i64 (N k).cls, .bool (N k).opq, .slice (H k).aR (N k).r (H k).cR] 43))
          generalize wr.alloc (Obj.cells #[.int .i64 (N k).depth, .string (N k).name, .int .i64 (N k).kind, .slice (H k).aA (N k).m (H k).cA, .string (N k).data, .int .i64 (N k).major, .int .i64 (N k).minor, .int .i64 (N k).cls, .bool (N k).opq, .slice (H k).aR (N k).r (H k).cR] 43) = W3 at *
          have hBX : B < wr.heap.size := HRk.out.lt
          obtain ⟨X, hX⟩ : ∃ X, X = wr.heap.size := ⟨_, rfl⟩
          rw [← hX] at HX hBX ⊢
          have n1 : ¬ B = X := by omega
          have n2 : ¬ X = B := by omega
          clear hX c0 c1 c2 c3 c4 c5 c6 c7 c8 c9
          have x0 : W3.cell? ⟨X, 0, none⟩ = some (.int .i64 (N k).depth) := HX.out.cell 0
          have x7 : W3.cell? ⟨X, 7, none⟩ = some (.int .i64 (N k).cls) := HX.out.cell 7
          obtain ⟨p1, p2⟩ := deep_bd HD.out hlt
          obtain ⟨p3, p4⟩ := depthM_bd HD.out k hk
          obtain ⟨p5, p6⟩ := HCL.out k hk
          obtain ⟨p7, p8⟩ := HCB.out k hlt
          have HR3 := Lib.hid (HRk.out.fr HFX.out (fun h => h))
          have r3 : W3.cell? ⟨B, 3, none⟩ = some (.int .i64 (depthM N k)) := HR3.out.cell 3
          have r4 : W3.cell? ⟨B, 4, none⟩ = some (.int .i64 (mostC N k)) := HR3.out.cell 4
          have f3 := HR3.out.frozen 3
          have f4 := HR3.out.frozen 4
          have HL1 := Lib.hid (show depthM N (k + 1) = max (depthM N k) (N k).depth from rfl)
          have HL2 := Lib.hid (show mostC N (k + 1) = max (mostC N k) (N k).cls from rfl)
          have HF := Lib.hid (show Fr (fun b => b = B) W2 W3 from hF.trans HFX.out (fun _ _ h => h.elim))
          clear hF hFw hc hb hbw
          generalize depthM N k = D at *
          generalize mostC N k = C at *
          generalize (N k).depth = x at *
          generalize (N k).cls = y at *
          obtain ⟨m1, hm1⟩ : ∃ m1, max D x = m1 := ⟨_, rfl⟩
          obtain ⟨m2, hm2⟩ : ∃ m2, max C y = m2 := ⟨_, rfl⟩
          rw [hm1] at HL1
          rw [hm2] at HL2
          have HRn : Hid (∀ wq : World, wq.heap = ((W3.setCell ⟨B, 3, none⟩ (.int .i64 m1)).setCell ⟨B, 4, none⟩ (.int .i64 m2)).heap → RowB wq B 26 (szR n L.length Wd m1 m2)) := Lib.hid (fun wq hq => (show RowB ((W3.setCell ⟨B, 3, none⟩ (.int .i64 m1)).setCell ⟨B, 4, none⟩ (.int .i64 m2)) B 26 (szR n L.length Wd m1 m2) from (HR3.out.set 3 (.int .i64 m1)).set 4 (.int .i64 m2)).of_block (by rw [hq]))
          by_cases hx : x ≤ D
          · obtain rfl : m1 = D := by omega
            by_cases hy : y ≤ C
            · obtain rfl : m2 = C := by omega
              go_region
              all_goals
                go_wp2_with fail
                go_roundw
                case rel => exact ⟨k + 1, by omega, by go_num, (by have hX := Fr.setCell (Fr.setCell HF.out (a := ⟨B, 3, none⟩) (fun _ => rfl) (.int .i64 m1)) (a := ⟨B, 4, none⟩) (fun _ => rfl) (.int .i64 m2); exact ⟨hX.os, hX.tape, hX.output, hX.size, hX.block⟩), Lib.hid (by rw [HL1.out, HL2.out]; exact HRn.out _ rfl)⟩
                case measure => simp [intOf]; omega
            · obtain rfl : m2 = y := by omega
              go_region
              all_goals
                go_wp2_with fail
                go_roundw
                case rel => exact ⟨k + 1, by omega, by go_num, (by have hX := Fr.setCell (Fr.setCell HF.out (a := ⟨B, 3, none⟩) (fun _ => rfl) (.int .i64 m1)) (a := ⟨B, 4, none⟩) (fun _ => rfl) (.int .i64 m2); exact ⟨hX.os, hX.tape, hX.output, hX.size, hX.block⟩), Lib.hid (by rw [HL1.out, HL2.out]; exact HRn.out _ rfl)⟩
                case measure => simp [intOf]; omega
          · obtain rfl : m1 = x := by omega
            by_cases hy : y ≤ C
            · obtain rfl : m2 = C := by omega
              go_region
              all_goals
                go_wp2_with fail
                go_roundw
                case rel => exact ⟨k + 1, by omega, by go_num, (by have hX := Fr.setCell (Fr.setCell HF.out (a := ⟨B, 3, none⟩) (fun _ => rfl) (.int .i64 m1)) (a := ⟨B, 4, none⟩) (fun _ => rfl) (.int .i64 m2); exact ⟨hX.os, hX.tape, hX.output, hX.size, hX.block⟩), Lib.hid (by rw [HL1.out, HL2.out]; exact HRn.out _ rfl)⟩
                case measure => simp [intOf]; omega
            · obtain rfl : m2 = y := by omega
              go_region
              all_goals
                go_wp2_with fail
                go_roundw
                case rel => exact ⟨k + 1, by omega, by go_num, (by have hX := Fr.setCell (Fr.setCell HF.out (a := ⟨B, 3, none⟩) (fun _ => rfl) (.int .i64 m1)) (a := ⟨B, 4, none⟩) (fun _ => rfl) (.int .i64 m2); exact ⟨hX.os, hX.tape, hX.output, hX.size, hX.block⟩), Lib.hid (by rw [HL1.out, HL2.out]; exact HRn.out _ rfl)⟩
                case measure => simp [intOf]; omega
        · obtain rfl : k = n := by omega
          have hr := HRk.out
          have r0 : wr.cell? ⟨B, 0, none⟩ = some (.int .i64 k) := hr.cell 0
          have r1 : wr.cell? ⟨B, 1, none⟩ = some (.int .i64 L.length) := hr.cell 1
          have r2 : wr.cell? ⟨B, 2, none⟩ = some (.int .i64 Wd) := hr.cell 2
          have r3 : wr.cell? ⟨B, 3, none⟩ = some (.int .i64 (depthM N k)) := hr.cell 3
          have r4 : wr.cell? ⟨B, 4, none⟩ = some (.int .i64 (mostC N k)) := hr.cell 4
          have hp := HP2.out.fr hF (fun e => by have e : w.heap.size = B := e; omega)
          have s0 : wr.cell? ⟨w.heap.size, 0, none⟩ = some (.int .i64 0) := hp.cell 0
          have s1 : wr.cell? ⟨w.heap.size, 1, none⟩ = some (.int .i64 0) := hp.cell 1
          have s2 : wr.cell? ⟨w.heap.size, 2, none⟩ = some (.int .i64 0) := hp.cell 2
          have s3 : wr.cell? ⟨w.heap.size, 3, none⟩ = some (.int .i64 0) := hp.cell 3
          have s4 : wr.cell? ⟨w.heap.size, 4, none⟩ = some (.int .i64 0) := hp.cell 4
          have f0 := hp.frozen 0
          have f1 := hp.frozen 1
          have f2 := hp.frozen 2
          have f3 := hp.frozen 3
          have f4 := hp.frozen 4
          have HFw := Lib.hid hFw
          clear hr hp hF hFw
          generalize depthM N k = D at *
          generalize mostC N k = C at *
          go_wp2_with fail
          refine bodyPost_ret (v := .tuple #[.agg #[.int .i64 k, .int .i64 L.length, .int .i64 Wd, .int .i64 D, .int .i64 C], .int .i64 0]) (by simp [results, Tryz.results8, go_sem, *]) rfl ⟨by rw [HV.out], ?_⟩
          exact HFw.out.trans (Fr.setCell (Fr.setCell (Fr.setCell (Fr.setCell (Fr.setCell (Fr.refl (fun b => b = w.heap.size) wr) (a := ⟨w.heap.size, 0, none⟩) (fun _ => rfl) _) (a := ⟨w.heap.size, 1, none⟩) (fun _ => rfl) _) (a := ⟨w.heap.size, 2, none⟩) (fun _ => rfl) _) (a := ⟨w.heap.size, 3, none⟩) (fun _ => rfl) _) (a := ⟨w.heap.size, 4, none⟩) (fun _ => rfl) _) (fun k hk e => by have e : k = w.heap.size := e; omega)
theorem pSize_walk (n c : Nat) (a0 : Option Addr) (N : Nat → BNode) (H : Nat → Hd) (w : World) (hB : BranchAt w a0 n N H) (hn : n ≤ 1000) (hs : ∀ j, j < n → Fits (N j)) :
    Calls Tryz.prog 8 #[.slice a0 n c] w (Ret (if branchE n N = 0 then sizeV n N else sizeB (branchE n N)) w) := by
  by_cases h : branchE n N = 0
  · rw [if_pos h]; exact size_ok n c a0 N H w hB hn hs h
  · rw [if_neg h]; exact size_bad n c a0 N H w hB hn hs h
end Go.Proofs.YtogjfifpbplahaaGreatDoor
