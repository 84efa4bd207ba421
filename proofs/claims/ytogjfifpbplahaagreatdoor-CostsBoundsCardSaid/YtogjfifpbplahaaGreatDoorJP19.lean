/- The program's check of branches, walked. -/
import Derived.Test.YtogjfifpbplahaaGreatDoorJn
import Derived.StringKeys
namespace Go.Proofs.YtogjfifpbplahaaGreatDoor
open Go.RowKit Go.Shelf
open BR
set_option linter.unusedVariables false
attribute [local go_sem] Oper.semAt_some

theorem keepsFrom_fr {S : Nat → Prop} {B : Nat} {W W' : World} (f : Fr S W W') (hS : ∀ k, S k → k < B) : KeepsFrom B W W' :=
  ⟨f.size, fun k o hB hk _ => (f.block k (Array.getElem?_eq_some_iff.1 hk).1 (fun h => by have := hS k h; omega)).trans hk⟩
theorem CkJ.put {w : World} {B1 B2 B3 C6 M n c : Nat} {a0 : Option Addr} {N : Nat → BNode} {k : Nat} {W W' : World} (h : CkJ w B1 B2 B3 C6 M n c a0 N k W) (g : W.grownBy W' (some M)) (hm : MapAt W' Tryz.prog 9 M (k + 1) (.bool false) (updF (metF N k) (keyL (N k)) (.bool true)))
    (hM : w.heap.size ≤ M ∧ B1 ≠ M ∧ B2 ≠ M ∧ B3 ≠ M ∧ C6 ≠ M) (hr : 0 < (N k).r) (hz : markE N k = 0) : CkJ w B1 B2 B3 C6 M n c a0 N (k + 1) W' :=
  ⟨fr_grow h.fr g (fun q e => by cases e; exact hM.1), h.r1.of_block (g.block _ h.r1.lt (fun e => hM.2.1 (by injection e))), h.r2.of_block (g.block _ h.r2.lt (fun e => hM.2.2.1 (by injection e))), h.r3.of_block (g.block _ h.r3.lt (fun e => hM.2.2.2.1 (by injection e))), h.r6.of_block (g.block _ h.r6.lt (fun e => hM.2.2.2.2 (by injection e))), hm.congr (metF_snoc hr), fun j hj => by
    by_cases e : j = k
    · subst e; exact hz
    · exact h.ok j (by omega)⟩
theorem CkJ.stop {w W0 : World} {B1 B2 B3 C6 M n c : Nat} {a0 : Option Addr} {N : Nat → BNode} {k : Nat} {W : World} {B : Nat} (h : CkJ w B1 B2 B3 C6 M n c a0 N k W) (hB : w.heap.size ≤ B2 ∧ w.heap.size ≤ B3 ∧ B2 ≠ B3) (hl : B2 < B ∧ B3 < B) (f : Fr (fun _ => False) W0 W) (ht : treeE n N = 0) (hk : k < n) {E i : Int} (he : markE N k = E) (hE : E ≠ 0) :
    KeepsFrom B W0 ((W.setCell ⟨B2, 0, none⟩ (.int .i64 i)).setCell ⟨B3, 0, none⟩ (.int .i64 E)) ∧ Code.ret = Code.ret ∧ CkX w B2 B3 n N ((W.setCell ⟨B2, 0, none⟩ (.int .i64 i)).setCell ⟨B3, 0, none⟩ (.int .i64 E)) :=
  ⟨keepsFrom_fr ((f.up.setCell (S := fun b => b = B2 ∨ b = B3) (a := ⟨B2, 0, none⟩) (fun _ => Or.inl rfl) _).setCell (a := ⟨B3, 0, none⟩) (fun _ => Or.inr rfl) _) (fun q hq => by rcases hq with e | e <;> omega), rfl, CkX.of h hB ht hk he hE⟩
theorem stop_alloc {w W0 X : World} {B B2 B3 n : Nat} {N : Nat → BNode} (h : KeepsFrom B W0 X ∧ Code.ret = Code.ret ∧ CkX w B2 B3 n N X) (o : Obj) : KeepsFrom B W0 (X.alloc o) ∧ Code.ret = Code.ret ∧ CkX w B2 B3 n N (X.alloc o) :=
  ⟨h.1.trans (keepsFrom_fr ((Fr.refl (fun _ => False) X).alloc o) (fun _ h => h.elim)), rfl, h.2.2.up (row := none) (B := w.heap.size + B2 + B3 + 1) (World.grownBy_alloc X o none) (fun r e => by cases e) (by omega)⟩
theorem leave_marks {w W : World} {B B2 B3 n D : Nat} {N : Nat → BNode} {tmps : Array Value} (h : CkX w B2 B3 n N W) (hK : W.heap[D]? = some (.deferred (some []))) (hD : B ≤ D) (hB : w.heap.size ≤ B)
    (ht : tmps[2]? = some (.pointer (some ⟨B2, 0, none⟩))) (ht3 : tmps[3]? = some (.pointer (some ⟨B3, 0, none⟩))) :
    LeavesInM Fence.wide 4 Tryz.prog Tryz.f29 tmps (RetI (branchE n N) w) [{ target := .collected D, args := #[] }] .returning W := by
  refine leaves_marks (z := B) _ _ ⟨D, rfl, hD, hK, (fun d hd => by cases hd), trivial⟩ (fun w' f => ?_)
  obtain ⟨i, hi⟩ := h.r2
  have hr2 := (hi.fr f (fun h => by unfold RowB at hi; rw [hi] at h; cases h.2)).cell 0
  have h3 := h.r3
  have hr3 := (h3.fr f (fun h => by unfold RowB at h3; rw [h3] at h; cases h.2)).cell 0
  refine ⟨.tuple #[.int .i64 i, .int .i64 (branchE n N)], ?_, i, rfl, ?_⟩
  · simp [results, Tryz.results29, go_sem, ht, ht3, hr2, hr3]
  · exact (h.fr.up (S := fun k => w.heap.size ≤ k) |>.trans f (fun k hk h => by have := h.1; omega)).mono (fun k hk h => by omega)


set_option maxRecDepth 100000 in
set_option maxHeartbeats 4000000 in
theorem bcheck_tree (n c : Nat) (a0 : Option Addr) (N : Nat → BNode) (H : Nat → Hd) (w : World) (hB : BranchAt w a0 n N H) (hn : n ≤ 1000) (hs : ∀ j, j < n → Fits (N j)) (ht : treeE n N ≠ 0) :
    Calls Tryz.prog 29 #[.slice a0 n c] w (RetI (branchE n N) w) := by
  have HE := Lib.hid (branchE_tree ht)
  have HS := Lib.hid hs
  have CT := Lib.hid (fun (w1 : World) (f : Fr (fun _ => False) w w1) => bTree_walk n c a0 N H w1 (hB.fr f (fun _ _ h => h)) hn (fun j hj => (hs j hj).1.2.2.1))
  have q0 : (treeE n N != 0) = true := by simpa using ht
  have HT : Hid (∀ (c1 : Nat) (a1 : Option Addr) (H1 : Nat → Hd) (w1 : World), TreeAt w1 a1 n N H1 → Calls Tryz.prog 38 #[.slice a1 n c1] w1 (RetI (treeE n N) w1)) := Lib.hid (fun c1 a1 H1 w1 h => tcheck_walk n c1 a1 N H1 w1 h hn (fun j hj => (hs j hj).1))
  clear hB hs ht
  generalize treeE n N = E at *
  go_enter Tryz.func29, Tryz.ntmps29
  go_upto_region 1 with (fail)
  have hR1 : RowB (((w.alloc (Obj.cells #[.slice a0 n c] 24)).alloc (Obj.cells #[.int .i64 0] 3)).alloc (Obj.cells #[.int .i64 0] 31)) w.heap.size 24 [.slice a0 n c] := (RowB.new w 24 [.slice a0 n c]).fr (((Fr.refl (fun _ => False) _).alloc _).alloc _) (fun h => h)
  have hR2 : RowB (((w.alloc (Obj.cells #[.slice a0 n c] 24)).alloc (Obj.cells #[.int .i64 0] 3)).alloc (Obj.cells #[.int .i64 0] 31)) (w.heap.size + 1) 3 [.int .i64 0] := by
    have h := (RowB.new (w.alloc (Obj.cells #[.slice a0 n c] 24)) 3 [.int .i64 0]).fr ((Fr.refl (fun _ => False) _).alloc (Obj.cells #[.int .i64 0] 31)) (fun h => h)
    rw [alloc_size] at h
    exact h
  have hR3 : RowB (((w.alloc (Obj.cells #[.slice a0 n c] 24)).alloc (Obj.cells #[.int .i64 0] 3)).alloc (Obj.cells #[.int .i64 0] 31)) (w.heap.size + 1 + 1) 31 [.int .i64 0] := by
    have h := RowB.new ((w.alloc (Obj.cells #[.slice a0 n c] 24)).alloc (Obj.cells #[.int .i64 0] 3)) 31 [.int .i64 0]
    rw [alloc_size, alloc_size] at h
    exact h
  have hF0 : Fr (fun _ => False) w (((w.alloc (Obj.cells #[.slice a0 n c] 24)).alloc (Obj.cells #[.int .i64 0] 3)).alloc (Obj.cells #[.int .i64 0] 31)) := (((Fr.refl (fun _ => False) w).alloc _).alloc _).alloc _
  change Code.wp _ _ _ _ (((w.alloc (Obj.cells #[.slice a0 n c] 24)).alloc (Obj.cells #[.int .i64 0] 3)).alloc (Obj.cells #[.int .i64 0] 31))
  generalize ((w.alloc (Obj.cells #[.slice a0 n c] 24)).alloc (Obj.cells #[.int .i64 0] 3)).alloc (Obj.cells #[.int .i64 0] 31) = W0 at *
  obtain ⟨B1, hB1⟩ : ∃ B1, B1 = w.heap.size := ⟨_, rfl⟩
  obtain ⟨B2, hB2⟩ : ∃ B2, B2 = w.heap.size + 1 := ⟨_, rfl⟩
  obtain ⟨B3, hB3⟩ : ∃ B3, B3 = w.heap.size + 1 + 1 := ⟨_, rfl⟩
  have HBs := Lib.hid (show w.heap.size ≤ B2 ∧ w.heap.size ≤ B3 ∧ B2 ≠ B3 by omega)
  have n23 : ¬ B2 = B3 := by omega
  have n32 : ¬ B3 = B2 := by omega
  rw [← hB3] at hR3 ⊢
  rw [← hB2] at hR2 ⊢
  rw [← hB1] at hR1 ⊢
  have c1 : W0.cell? ⟨B1, 0, none⟩ = some (.slice a0 n c) := hR1.cell 0
  have HR1 := Lib.hid hR1
  have HR2 := Lib.hid hR2
  have HR3 := Lib.hid hR3
  have HF0 := Lib.hid hF0
  clear hR1 hR2 hR3 hF0 hB1 hB2 hB3
  go_wp2_with (first
    | (go_at_call 39; go_must (refine (CT.out _ HF0.out).mono ?_; rintro e w1 ⟨a1, ct, H1, rfl, hT, hG⟩; have HT1 := Lib.hid hT; have HF1 := Lib.hid hG; clear hT hG))
    | (go_at_call 38; go_must (refine (HT.out _ _ _ _ HT1.out).mono ?_; rintro e w2 ⟨ix, rfl, hG⟩; have HF2 := Lib.hid (HF1.out.then hG); have HR22 := Lib.hid (HR2.out.fr HF2.out (fun h => h)); have HR32 := Lib.hid (HR3.out.fr HF2.out (fun h => h)); have y2 := HR22.out.cell 0; have y3 := HR32.out.cell 0; have z2 := HR22.out.frozen 0; have z3 := HR32.out.frozen 0; clear hG)))
  have k2 : RowB ((w2.setCell ⟨B2, 0, none⟩ (.int .i64 ix)).setCell ⟨B3, 0, none⟩ (.int .i64 E)) B2 3 [.int .i64 ix] := (HR22.out.set 0 _).fr ((Fr.refl (fun b => b = B3) _).setCell (a := ⟨B3, 0, none⟩) (fun _ => rfl) _) n23
  have k3 : RowB ((w2.setCell ⟨B2, 0, none⟩ (.int .i64 ix)).setCell ⟨B3, 0, none⟩ (.int .i64 E)) B3 31 [.int .i64 E] := (HR32.out.fr ((Fr.refl (fun b => b = B2) _).setCell (a := ⟨B2, 0, none⟩) (fun _ => rfl) _) n32).set 0 _
  have j2 := k2.cell 0
  have j3 := k3.cell 0
  clear k2 k3
  refine bodyPost_ret (v := .tuple #[.int .i64 ix, .int .i64 E]) (by simp [results, Tryz.results29, go_sem, j2, j3]) rfl ?_
  refine ⟨ix, by rw [HE.out], ?_⟩
  exact (((HF0.out.then HF2.out).up.setCell (S := fun b => b = B2 ∨ b = B3) (a := ⟨B2, 0, none⟩) (fun _ => Or.inl rfl) _).setCell (a := ⟨B3, 0, none⟩) (fun _ => Or.inr rfl) _).mono (fun b hb hS => by have := HBs.out; rcases hS with e | e <;> omega)
set_option maxRecDepth 100000 in
set_option maxHeartbeats 16000000 in
theorem bcheck_ok (n c : Nat) (a0 : Option Addr) (N : Nat → BNode) (H : Nat → Hd) (w : World) (hB : BranchAt w a0 n N H) (hn : n ≤ 1000) (hs : ∀ j, j < n → Fits (N j)) (ht : treeE n N = 0) :
    Calls Tryz.prog 29 #[.slice a0 n c] w (RetI (branchE n N) w) := by
  have HM := Lib.hid (branchE_marks ht)
  have HT0 := Lib.hid ht
  have HD := Lib.hid (treeE_deep ht)
  have HZ := Lib.hid (treeE_zero ht)
  have h120 : n ≤ 120 := HZ.out.2.1
  have HS := Lib.hid hs
  have CT := Lib.hid (fun (w1 : World) (f : Fr (fun _ => False) w w1) => bTree_walk n c a0 N H w1 (hB.fr f (fun _ _ h => h)) hn (fun j hj => (hs j hj).1.2.2.1))
  have HT : Hid (∀ (c1 : Nat) (a1 : Option Addr) (H1 : Nat → Hd) (w1 : World), TreeAt w1 a1 n N H1 → Calls Tryz.prog 38 #[.slice a1 n c1] w1 (RetI 0 w1)) := Lib.hid (fun c1 a1 H1 w1 h => by have := tcheck_walk n c1 a1 N H1 w1 h hn (fun j hj => (hs j hj).1); rw [ht] at this; exact this)
  have HB := Lib.hid hB
  clear hB hs ht hn
  have hmk : ∀ (t : TypeId) (w : World), (Instr.makeMap t none).run Tryz.prog w = .ok (.map (some w.heap.size)) (w.alloc (.map #[] 0)) := fun t w => run_makeMap t w
  refine (callsIn_wide (n := 4)).1 ?_
  refine callsIn_of_wp_marks Tryz.func29 rfl trivial ?_ rfl
  simp only [Tryz.ntmps29, List.size_toArray, List.length_cons, List.length_nil, Nat.reduceAdd, Nat.reduceSub, Array.replicate_succ, Array.replicate_zero, List.push_toArray, List.append_toArray, List.nil_append, List.cons_append]
  refine wpIn_wide.2 ?_
  go_upto_region 1 with (fail)
  have hR1 : RowB (((w.alloc (Obj.cells #[.slice a0 n c] 24)).alloc (Obj.cells #[.int .i64 0] 3)).alloc (Obj.cells #[.int .i64 0] 31)) w.heap.size 24 [.slice a0 n c] := (RowB.new w 24 [.slice a0 n c]).fr (((Fr.refl (fun _ => False) _).alloc _).alloc _) (fun h => h)
  have hR2 : RowB (((w.alloc (Obj.cells #[.slice a0 n c] 24)).alloc (Obj.cells #[.int .i64 0] 3)).alloc (Obj.cells #[.int .i64 0] 31)) (w.heap.size + 1) 3 [.int .i64 0] := by
    have h := (RowB.new (w.alloc (Obj.cells #[.slice a0 n c] 24)) 3 [.int .i64 0]).fr ((Fr.refl (fun _ => False) _).alloc (Obj.cells #[.int .i64 0] 31)) (fun h => h)
    rw [alloc_size] at h
    exact h
  have hR3 : RowB (((w.alloc (Obj.cells #[.slice a0 n c] 24)).alloc (Obj.cells #[.int .i64 0] 3)).alloc (Obj.cells #[.int .i64 0] 31)) (w.heap.size + 1 + 1) 31 [.int .i64 0] := by
    have h := RowB.new ((w.alloc (Obj.cells #[.slice a0 n c] 24)).alloc (Obj.cells #[.int .i64 0] 3)) 31 [.int .i64 0]
    rw [alloc_size, alloc_size] at h
    exact h
  have hF0 : Fr (fun _ => False) w (((w.alloc (Obj.cells #[.slice a0 n c] 24)).alloc (Obj.cells #[.int .i64 0] 3)).alloc (Obj.cells #[.int .i64 0] 31)) := (((Fr.refl (fun _ => False) w).alloc _).alloc _).alloc _
  change Code.wp _ _ _ _ (((w.alloc (Obj.cells #[.slice a0 n c] 24)).alloc (Obj.cells #[.int .i64 0] 3)).alloc (Obj.cells #[.int .i64 0] 31))
  generalize ((w.alloc (Obj.cells #[.slice a0 n c] 24)).alloc (Obj.cells #[.int .i64 0] 3)).alloc (Obj.cells #[.int .i64 0] 31) = W0 at *
  obtain ⟨B1, hB1⟩ : ∃ B1, B1 = w.heap.size := ⟨_, rfl⟩
  obtain ⟨B2, hB2⟩ : ∃ B2, B2 = w.heap.size + 1 := ⟨_, rfl⟩
  obtain ⟨B3, hB3⟩ : ∃ B3, B3 = w.heap.size + 1 + 1 := ⟨_, rfl⟩
  have HBs := Lib.hid (show w.heap.size ≤ B2 ∧ w.heap.size ≤ B3 ∧ B2 ≠ B3 by omega)
  have n23 : ¬ B2 = B3 := by omega
  have n32 : ¬ B3 = B2 := by omega
  rw [← hB3] at hR3 ⊢
  rw [← hB2] at hR2 ⊢
  rw [← hB1] at hR1 ⊢
  have c1 : W0.cell? ⟨B1, 0, none⟩ = some (.slice a0 n c) := hR1.cell 0
  have HR1 := Lib.hid hR1
  have HR2 := Lib.hid hR2
  have HR3 := Lib.hid hR3
  have HF0 := Lib.hid hF0
  clear hR1 hR2 hR3 hF0 hB1 hB2 hB3
  go_wp2_with (first
    | (go_at_call 39; go_must (refine (CT.out _ HF0.out).mono ?_; rintro e w1 ⟨a1, ct, H1, rfl, hT, hG⟩; have HT1 := Lib.hid hT; have HF1 := Lib.hid hG; clear hT hG))
    | (go_at_call 38; go_must (refine (HT.out _ _ _ _ HT1.out).mono ?_; rintro e w2 ⟨ix, rfl, hG⟩; have HF2 := Lib.hid (HF1.out.then hG); have HR12 := Lib.hid (HR1.out.fr HF2.out (fun h => h)); have HR22 := Lib.hid (HR2.out.fr HF2.out (fun h => h)); have HR32 := Lib.hid (HR3.out.fr HF2.out (fun h => h)); have y1 : w2.cell? ⟨B1, 0, none⟩ = some (.slice a0 n c) := HR12.out.cell 0; have hl1 := HR12.out.lt; clear hG))
    | (go_at_call 31; go_must (refine (walk_make _ _ _ _).mono ?_; rintro e w' ⟨rfl, rfl⟩)))
  have hR1' : RowB (((w2.alloc (Obj.map #[] 0)).alloc (Obj.cells #[.map (some w2.heap.size)] 91)).alloc (Obj.cells #[.slice a0 n c] 24)) (w2.heap.size + 1 + 1) 24 [.slice a0 n c] := by
    have h := RowB.new ((w2.alloc (Obj.map #[] 0)).alloc (Obj.cells #[.map (some w2.heap.size)] 91)) 24 [.slice a0 n c]
    rw [alloc_size, alloc_size] at h
    exact h
  have hR6 : RowB (((w2.alloc (Obj.map #[] 0)).alloc (Obj.cells #[.map (some w2.heap.size)] 91)).alloc (Obj.cells #[.slice a0 n c] 24)) (w2.heap.size + 1) 91 [.map (some w2.heap.size)] := by
    have h := (RowB.new (w2.alloc (Obj.map #[] 0)) 91 [.map (some w2.heap.size)]).fr ((Fr.refl (fun _ => False) _).alloc (Obj.cells #[.slice a0 n c] 24)) (fun h => h)
    rw [alloc_size] at h
    exact h
  have hMM : MapAt (((w2.alloc (Obj.map #[] 0)).alloc (Obj.cells #[.map (some w2.heap.size)] 91)).alloc (Obj.cells #[.slice a0 n c] 24)) Tryz.prog 9 w2.heap.size 0 (.bool false) (metF N 0) :=
    ((MapAt.new w2 Tryz.prog 9 (.bool false)).fr (((Fr.refl (fun _ => False) _).alloc _).alloc _) (fun h => h)).congr (fun kl => (metF_zero N kl).symm)
  have hF3 : Fr (fun _ => False) w2 (((w2.alloc (Obj.map #[] 0)).alloc (Obj.cells #[.map (some w2.heap.size)] 91)).alloc (Obj.cells #[.slice a0 n c] 24)) := (((Fr.refl (fun _ => False) w2).alloc _).alloc _).alloc _
  change Code.wp _ _ _ _ (((w2.alloc (Obj.map #[] 0)).alloc (Obj.cells #[.map (some w2.heap.size)] 91)).alloc (Obj.cells #[.slice a0 n c] 24))
  generalize ((w2.alloc (Obj.map #[] 0)).alloc (Obj.cells #[.map (some w2.heap.size)] 91)).alloc (Obj.cells #[.slice a0 n c] 24) = W2 at *
  obtain ⟨BX, hBX⟩ : ∃ BX, BX = w2.heap.size + 1 + 1 := ⟨_, rfl⟩
  obtain ⟨C6, hC6⟩ : ∃ C6, C6 = w2.heap.size + 1 := ⟨_, rfl⟩
  obtain ⟨M, hM⟩ : ∃ M, M = w2.heap.size := ⟨_, rfl⟩
  rw [← hBX] at hR1' ⊢
  rw [← hC6] at hR6 ⊢
  rw [← hM] at hR6 hMM ⊢
  have hJ0 : CkJ w B1 B2 B3 C6 M n c a0 N 0 W2 := ⟨(HF0.out.then HF2.out).then hF3, HR12.out.fr hF3 (fun h => h), HR22.out.fr hF3 (fun h => h), HR32.out.fr hF3 (fun h => h), hR6, hMM, fun j hj => absurd hj (Nat.not_lt_zero j)⟩
  have HJ0 := Lib.hid hJ0
  have HBX := Lib.hid hR1'
  have HB2 := Lib.hid (HB.out.fr ((HF0.out.then HF2.out).then hF3) (fun _ _ h => h))
  have HLT := Lib.hid (show w.heap.size ≤ W2.heap.size ∧ B1 < W2.heap.size ∧ B2 < W2.heap.size ∧ B3 < W2.heap.size ∧ C6 < W2.heap.size ∧ M < W2.heap.size from ⟨hJ0.fr.size, hJ0.r1.lt, hJ0.r2.lt, hJ0.r3.lt, hJ0.r6.lt, hJ0.met.lt⟩)
  have HMs := Lib.hid (show w.heap.size ≤ M ∧ B1 ≠ M ∧ B2 ≠ M ∧ B3 ≠ M ∧ C6 ≠ M from by have h1 := (HF0.out.then HF2.out).size; have h2 := HR12.out.lt; have h3 := HR22.out.lt; have h4 := HR32.out.lt; omega)
  have n26 : ¬ C6 = M := by omega
  clear hR1' hR6 hMM hF3 hJ0 hBX hC6 hM hl1 y1 c1 hmk
  refine range_walk BX n c a0 N H w rfl rfl HB.out HJ0.out.fr (HBX.out.cell 0) HBX.out.lt HD.out (by omega) (fun pre G W => CkJ w B1 B2 B3 C6 M n c a0 N pre.length W ∧ W2.heap.size ≤ W.heap.size ∧ ∀ r, G r → W2.heap.size ≤ r) (fun c' pre W => c' = .ret ∧ CkX w B2 B3 n N W)
    (fun pre G G' W W' row h g hr hG' => ⟨h.1.up g (fun r e => h.2.2 r (hr r e)) HLT.out, Nat.le_trans h.2.1 g.size, fun r hh => by rcases hG' r hh with e | e; exact h.2.2 r e; have := h.2.1; omega⟩)
    (fun pre G W l o o' hl hlo hc h => ⟨h.1.up (grownBy_putObj' W l o') (fun r e => by cases e; exact hl) HLT.out, by have := h.2.1; simpa [World.putObj] using this, h.2.2⟩)
    (fun c' pre W l o o' hl hlo hc h => ⟨h.1, h.2.up (grownBy_putObj' W l o') (fun r e => by cases e; exact hl) (by have := HLT.out; omega)⟩) ⟨HJ0.out, Nat.le_refl _, fun r h => h.elim⟩ (fun x z => { tmps := #[.slice a0 n c, .pointer (some ⟨B1, 0, none⟩), .pointer (some ⟨B2, 0, none⟩), .pointer (some ⟨B3, 0, none⟩), .int .i64 ix, .int .i64 0, .pointer (some ⟨C6, 0, none⟩), .int .i64 (x.i : Int), .pointer (some ⟨z, 0, none⟩), undef, undef, undef, undef, .tuple #[.int .i64 ix, .int .i64 0], .slice a0 n c, .slice a1 n ct, .tuple #[.int .i64 ix, .int .i64 0], .int .i64 ix, .int .i64 0, .int .i64 0, .bool false, undef, undef, .map (some M), .slice a0 n c, .func (.func 42) #[] #[.pointer (some ⟨BX, 0, none⟩)], .int .i64 (x.i : Int), .agg #[.int .i64 (parF N x.i), .slice x.a (N x.i).depth.toNat x.c], undef, undef, undef, undef, undef, undef, undef, undef, undef, undef, undef, undef, undef, undef, undef, undef, undef, undef, undef, undef, undef, undef, undef, undef, undef, undef, undef, undef, undef, undef, undef, undef, undef, undef, undef, undef, undef, undef, undef, undef, undef, undef, undef, undef, undef, undef, undef, undef, undef, undef, undef, undef, undef, undef, undef, undef, undef, undef, undef, undef, undef, undef, undef, undef, undef, undef, undef, undef, undef], defers := [] }) ?assign ?body ?done ?stop
  case assign =>
    intro l x W K hK
    unfold encY
    gi_wp2
    exact hK
  case body =>
    rintro l pre G ⟨k, xa, xc⟩ W z ⟨hJ, hWs, hG2⟩ hGz hz hrow ⟨hxi, hxn, hxc, hxs⟩
    have HGG := Lib.hid (And.intro hWs hG2)
    clear hWs hG2 hGz
    dsimp only at hrow hxi hxn hxc hxs
    dsimp only
    rw [← hxi] at hJ
    have HLN := Lib.hid (show (pre ++ [(⟨k, xa, xc⟩ : YP)]).length = k + 1 by rw [List.length_append, ← hxi]; rfl)
    obtain ⟨b, o, rfl, hb, hcc⟩ := HB.out.get (by omega)
    obtain ⟨c0, c1, c2, c3, c4, c5, c6, c7, c8, c9⟩ := hcc W hJ.fr k hxn
    have g1 : (0 : Int) ≤ (k : Int) := by omega
    have g2 : (k : Int) < n := by omega
    have y1 : W.cell? ⟨B1, 0, none⟩ = some (.slice (some ⟨b, o, none⟩) n c) := hJ.r1.cell 0
    have hbW : b < W.heap.size := Nat.lt_of_lt_of_le hb hJ.fr.size
    have HJA := Lib.hid (hJ.then ((Fr.refl (fun _ => False) W).alloc (Obj.cells #[.int .i64 (N k).depth, .string (N k).name, .int .i64 (N k).kind, .slice (H k).aA (N k).m (H k).cA, .string (N k).data, .int .i64 (N k).major, .int .i64 (N k).minor, .int .i64 (N k).cls, .bool (N k).opq, .slice (H k).aR (N k).r (H k).cR] 43)))
    have HXA := Lib.hid (RowB.new W 43 [.int .i64 (N k).depth, .string (N k).name, .int .i64 (N k).kind, .slice (H k).aA (N k).m (H k).cA, .string (N k).data, .int .i64 (N k).major, .int .i64 (N k).minor, .int .i64 (N k).cls, .bool (N k).opq, .slice (H k).aR (N k).r (H k).cR])
    have HZA := Lib.hid (hrow.fr ((Fr.refl (fun _ => False) W).alloc (Obj.cells #[.int .i64 (N k).depth, .string (N k).name, .int .i64 (N k).kind, .slice (H k).aA (N k).m (H k).cA, .string (N k).data, .int .i64 (N k).major, .int .i64 (N k).minor, .int .i64 (N k).cls, .bool (N k).opq, .slice (H k).aR (N k).r (H k).cR] 43)) (fun h => h))
    have HFA := Lib.hid ((Fr.refl (fun _ => False) W).alloc (Obj.cells #[.int .i64 (N k).depth, .string (N k).name, .int .i64 (N k).kind, .slice (H k).aA (N k).m (H k).cA, .string (N k).data, .int .i64 (N k).major, .int .i64 (N k).minor, .int .i64 (N k).cls, .bool (N k).opq, .slice (H k).aR (N k).r (H k).cR] 43))
    have y2 : W.cell? ⟨B2, 0, none⟩ = some (.int .i64 0) := hJ.r2.cell 0
    have y3 : W.cell? ⟨B3, 0, none⟩ = some (.int .i64 0) := hJ.r3.cell 0
    have z2 := hJ.r2.frozen 0
    have z3 := hJ.r3.frozen 0
    have l1 := hJ.r1.lt
    have l2 := hJ.r2.lt
    have l3 := hJ.r3.lt
    have HJ := Lib.hid hJ
    have HXS := Lib.hid hxs
    have HXI := Lib.hid hxi
    have HRW := Lib.hid hrow
    have HLB := Lib.hid (show B2 < W2.heap.size ∧ B3 < W2.heap.size by have := HLT.out; omega)
    have HFN := Lib.hid (HS.out k hxn)
    have HCC := Lib.hid hcc
    have lz := hrow.lt
    clear hJ hxs hxi hrow hcc hz hxc
    have hfn1 : Fence.wide.fn 40 := trivial
    have hfn2 : Fence.wide.fn 41 := trivial
    by_cases hr : 0 < (N k).r
    · have HR := Lib.hid hr
      have q1 : decide (0 < ((N k).r : Int)) = true := by simp; omega
      by_cases hk1 : (N k).kind = 1
      · have q2 : ((N k).kind != 1) = false := by simp [hk1]
        have q5 : ((N k).kind == 5) = false := by simp [hk1]
        have HK1 := Lib.hid hk1
        clear hk1
        by_cases hk0 : k = 0
        · have HE := Lib.hid (mark_root (N := N) (i := k) hk0 hr)
          have hq0 : ((k : Int) == 0) = true := by simp; exact hk0
          clear hk0 hr
          cases ho : (N k).opq with
          | true =>
            rw [ho] at c8 HJA HXA HZA HFA
            clear ho
            gi_wp2
            exact stop_alloc (HJ.out.stop HBs.out HLB.out (Fr.refl _ W) HT0.out hxn HE.out (by decide)) _
          | false =>
            rw [ho] at c8 HJA HXA HZA HFA
            clear ho
            gi_wp2
            exact stop_alloc (HJ.out.stop HBs.out HLB.out (Fr.refl _ W) HT0.out hxn HE.out (by decide)) _
        · have hq0 : ((k : Int) == 0) = false := by simp; exact hk0
          have HN1 := Lib.hid (show ¬ (((N k).opq = true ∨ 0 < (N k).r) ∧ (N k).kind ≠ 1 ∨ k = 0 ∧ 0 < (N k).r) from fun e => e.elim (fun e => e.2 HK1.out) (fun e => hk0 e.1))
          clear hk0
          cases ho : (N k).opq with
          | true =>
            have HE := Lib.hid (mark_both HN1.out ho hr)
            rw [ho] at c8 HJA HXA HZA HFA
            clear ho hr
            gi_wp2
            exact stop_alloc (HJ.out.stop HBs.out HLB.out (Fr.refl _ W) HT0.out hxn HE.out (by decide)) _
          | false =>
            have HN2 := Lib.hid (show ¬ ((N k).opq = true ∧ 0 < (N k).r) from fun e => by rw [ho] at e; exact absurd e.1 (by decide))
            rw [ho] at c8 HJA HXA HZA HFA
            clear ho
            have HNB := Lib.hid (HB.out.1 k hxn)
            have HRS := Lib.hid (fun (w0 : World) (f : Fr (fun _ => False) w w0) => HNB.out.2.2.1.fr f (fun _ _ h => h))
            have HR1k := Lib.hid (show (N k).r ≤ 1000 by have := HFN.out.2.1; omega)
            by_cases hp : pathE (N k).r (N k).R = 0
            · have HPR : Hid (∀ w0, Fr (fun _ => False) w w0 → Calls Tryz.prog 40 #[.slice (H k).aR (N k).r (H k).cR] w0 (RetT2 (keyB (N k)) 0 w0)) := Lib.hid (fun w0 f => print_walk (N k).r (H k).cR (H k).aR (N k).R w0 (HRS.out w0 f) HFN.out.2.2 HR1k.out HNB.out.2.2.2 hp hr)
              have HKS := Lib.hid (show (keyB (N k)).size ≤ maxLen by have := keyB_size hp; unfold maxLen; omega)
              have HP := Lib.hid hp
              have hD0 := (deep_bd HD.out hxn)
              have HD8 := Lib.hid (show (N k).depth.toNat ≤ 1000 by omega)
              clear hp hD0
              by_cases hs : samePath (N k).r (N k).R (N k).depth.toNat (pathF N k)
              · have HE := Lib.hid (mark_self HN1.out HN2.out hr HP.out hs)
                have HEQ : Hid (∀ w0, Fr (fun _ => False) W w0 → Calls Tryz.prog 41 #[.slice (H k).aR (N k).r (H k).cR, .slice xa (N k).depth.toNat xc] w0 (Ret (.bool true) w0)) := Lib.hid (fun w0 f => equalS_walk (N k).r (H k).cR (N k).depth.toNat xc (H k).aR xa (N k).R (pathF N k) w0 (HRS.out w0 (HJ.out.fr.then f)) (HXS.out.fr f (fun _ _ h => h)) HR1k.out HD8.out true ⟨fun _ => hs, fun _ => rfl⟩)
                clear hs hr
                gi_wp2_with (first | (gi_at_call 40; go_must (refine (CallsIn.inRound l (callsIn_wide.2 (HPR.out _ HJA.out.fr))).mono ?_; rintro e w4 ⟨rfl, hG⟩; have HF4 := Lib.hid (HFA.out.then hG); have HJ4 := Lib.hid (HJA.out.then hG); have HX4 := Lib.hid (HXA.out.fr hG (fun h => h)); have HZ4 := Lib.hid (HZA.out.fr hG (fun h => h)); have x49 : w4.cell? ⟨W.heap.size, 9, none⟩ = some (.slice (H k).aR (N k).r (H k).cR) := HX4.out.cell 9; have z41 : w4.cell? ⟨z, 1, none⟩ = some (.slice xa (N k).depth.toNat xc) := HZ4.out.cell 1; have s42 := HJ4.out.r2.cell 0; have s43 := HJ4.out.r3.cell 0; have f42 := HJ4.out.r2.frozen 0; have f43 := HJ4.out.r3.frozen 0; clear hG)) | (gi_at_call 41; go_must (refine (CallsIn.inRound l (callsIn_wide.2 (HEQ.out _ HF4.out))).mono ?_; rintro e w5 ⟨rfl, hG⟩; have HF5 := Lib.hid (HF4.out.then hG); have HJ5 := Lib.hid (HJ4.out.then hG); have HX5 := Lib.hid (HX4.out.fr hG (fun h => h)); have s52 := HJ5.out.r2.cell 0; have s53 := HJ5.out.r3.cell 0; have f52 := HJ5.out.r2.frozen 0; have f53 := HJ5.out.r3.frozen 0; have s56 : w5.cell? ⟨C6, 0, none⟩ = some (.map (some M)) := HJ5.out.r6.cell 0; clear hG)))
                exact HJ5.out.stop HBs.out HLB.out HF5.out HT0.out hxn HE.out (by decide)
              · have HEQ : Hid (∀ w0, Fr (fun _ => False) W w0 → Calls Tryz.prog 41 #[.slice (H k).aR (N k).r (H k).cR, .slice xa (N k).depth.toNat xc] w0 (Ret (.bool false) w0)) := Lib.hid (fun w0 f => equalS_walk (N k).r (H k).cR (N k).depth.toNat xc (H k).aR xa (N k).R (pathF N k) w0 (HRS.out w0 (HJ.out.fr.then f)) (HXS.out.fr f (fun _ _ h => h)) HR1k.out HD8.out false ⟨(fun h => by cases h), fun h => absurd h hs⟩)
                have HNS := Lib.hid hs
                clear hs
                by_cases he : ∃ j, j < k ∧ samePath (N k).r (N k).R (N j).r (N j).R
                · have HE := Lib.hid (mark_twice HN1.out HN2.out hr HP.out HNS.out he)
                  have HMF := Lib.hid (metF_yes HJ.out.ok hr HP.out he)
                  clear he hr
                  gi_wp2_with (first | (gi_at_call 40; go_must (refine (CallsIn.inRound l (callsIn_wide.2 (HPR.out _ HJA.out.fr))).mono ?_; rintro e w4 ⟨rfl, hG⟩; have HF4 := Lib.hid (HFA.out.then hG); have HJ4 := Lib.hid (HJA.out.then hG); have HX4 := Lib.hid (HXA.out.fr hG (fun h => h)); have HZ4 := Lib.hid (HZA.out.fr hG (fun h => h)); have x49 : w4.cell? ⟨W.heap.size, 9, none⟩ = some (.slice (H k).aR (N k).r (H k).cR) := HX4.out.cell 9; have z41 : w4.cell? ⟨z, 1, none⟩ = some (.slice xa (N k).depth.toNat xc) := HZ4.out.cell 1; have s42 := HJ4.out.r2.cell 0; have s43 := HJ4.out.r3.cell 0; have f42 := HJ4.out.r2.frozen 0; have f43 := HJ4.out.r3.frozen 0; clear hG)) | (gi_at_call 41; go_must (refine (CallsIn.inRound l (callsIn_wide.2 (HEQ.out _ HF4.out))).mono ?_; rintro e w5 ⟨rfl, hG⟩; have HF5 := Lib.hid (HF4.out.then hG); have HJ5 := Lib.hid (HJ4.out.then hG); have HX5 := Lib.hid (HX4.out.fr hG (fun h => h)); have s52 := HJ5.out.r2.cell 0; have s53 := HJ5.out.r3.cell 0; have f52 := HJ5.out.r2.frozen 0; have f53 := HJ5.out.r3.frozen 0; have s56 : w5.cell? ⟨C6, 0, none⟩ = some (.map (some M)) := HJ5.out.r6.cell 0; have lk : (Instr.lookup 91 (.map (some M)) (.string (keyB (N k))) false).run Tryz.prog w5 = .ok (.bool true) w5 := by { rw [← HMF.out]; exact HJ5.out.met.look (Maps.string_keyed Tryz.underlying9) Tryz.underlying91 (by kernel_rfl) (WideMaps.keyOf_string_mk Tryz.underlying9 HKS.out) }; clear hG)))
                  exact HJ5.out.stop HBs.out HLB.out HF5.out HT0.out hxn HE.out (by decide)
                · have HMF := Lib.hid (metF_no HJ.out.ok hr HP.out he)
                  have HW := Lib.hid (show markE N k = 0 by
                    rw [mark_rest HN1.out HN2.out (fun _ => HP.out) (fun _ => HNS.out) (fun _ => he), if_neg (fun e => by rw [HK1.out] at e; exact absurd e.1 (by decide))])
                  clear he hr
                  gi_wp2_with (first | (gi_at_call 40; go_must (refine (CallsIn.inRound l (callsIn_wide.2 (HPR.out _ HJA.out.fr))).mono ?_; rintro e w4 ⟨rfl, hG⟩; have HF4 := Lib.hid (HFA.out.then hG); have HJ4 := Lib.hid (HJA.out.then hG); have HX4 := Lib.hid (HXA.out.fr hG (fun h => h)); have HZ4 := Lib.hid (HZA.out.fr hG (fun h => h)); have x49 : w4.cell? ⟨W.heap.size, 9, none⟩ = some (.slice (H k).aR (N k).r (H k).cR) := HX4.out.cell 9; have z41 : w4.cell? ⟨z, 1, none⟩ = some (.slice xa (N k).depth.toNat xc) := HZ4.out.cell 1; have s42 := HJ4.out.r2.cell 0; have s43 := HJ4.out.r3.cell 0; have f42 := HJ4.out.r2.frozen 0; have f43 := HJ4.out.r3.frozen 0; clear hG)) | (gi_at_call 41; go_must (refine (CallsIn.inRound l (callsIn_wide.2 (HEQ.out _ HF4.out))).mono ?_; rintro e w5 ⟨rfl, hG⟩; have HF5 := Lib.hid (HF4.out.then hG); have HJ5 := Lib.hid (HJ4.out.then hG); have HX5 := Lib.hid (HX4.out.fr hG (fun h => h)); have s52 := HJ5.out.r2.cell 0; have s53 := HJ5.out.r3.cell 0; have f52 := HJ5.out.r2.frozen 0; have f53 := HJ5.out.r3.frozen 0; have s56 : w5.cell? ⟨C6, 0, none⟩ = some (.map (some M)) := HJ5.out.r6.cell 0; have lk : (Instr.lookup 91 (.map (some M)) (.string (keyB (N k))) false).run Tryz.prog w5 = .ok (.bool false) w5 := by { rw [← HMF.out]; exact HJ5.out.met.look (Maps.string_keyed Tryz.underlying9) Tryz.underlying91 (by kernel_rfl) (WideMaps.keyOf_string_mk Tryz.underlying9 HKS.out) }; obtain ⟨w6, pu, hM6, hG6⟩ := HJ5.out.met.put (v := .bool true) (Maps.string_keyed Tryz.underlying9) Tryz.underlying91 (by unfold maxLen; omega) (WideMaps.keyOf_string_mk Tryz.underlying9 HKS.out) (by trivial); have HM6 := Lib.hid hM6; have HG6 := Lib.hid hG6; have x62 : w6.cell? ⟨W.heap.size, 2, none⟩ = some (.int .i64 (N k).kind) := (World.cell?_of_block (hG6.block W.heap.size HX5.out.lt (fun e => by have := HLT.out; have := HX5.out.lt; have hm := HJ.out.met.lt; injection e with e; omega))).trans (HX5.out.cell 2); clear hM6 hG6; clear hG)))
                  exact ⟨(keepsFrom_fr HF5.out (fun _ h => h.elim)).trans (KeepsFrom.of_grownBy HG6.out (fun j e => by cases e; exact HLT.out.2.2.2.2.2)), (KpG.of_fr HF5.out (fun _ h => h.elim)).t (KpG.of_fr (Fr.of_grown HG6.out) (fun q e => by cases e; exact ⟨fun h => by have := HGG.out.2 _ h; have := HLT.out; omega, HMs.out.1⟩)), by dsimp only; rw [HLN.out]; exact ⟨HJ5.out.put HG6.out HM6.out HMs.out HR.out HW.out, Nat.le_trans HGG.out.1 (Nat.le_trans HF5.out.size HG6.out.size), HGG.out.2⟩⟩
            · have q7 : (pathE (N k).r (N k).R != 0) = true := by simpa using hp
              have HE := Lib.hid (mark_path HN1.out HN2.out hr hp)
              have HPR : Hid (∀ w0, Fr (fun _ => False) w w0 → Calls Tryz.prog 40 #[.slice (H k).aR (N k).r (H k).cR] w0 (RetT2 ⟨#[]⟩ (pathE (N k).r (N k).R) w0)) := Lib.hid (fun w0 f => print_bad (N k).r (H k).cR (H k).aR (N k).R w0 (HRS.out w0 f) HFN.out.2.2 HR1k.out hp)
              have HP := Lib.hid hp
              clear hp hr
              generalize pathE (N k).r (N k).R = E at *
              gi_wp2_with (first | (gi_at_call 40; go_must (refine (CallsIn.inRound l (callsIn_wide.2 (HPR.out _ HJA.out.fr))).mono ?_; rintro e w4 ⟨rfl, hG⟩; have HF4 := Lib.hid (HFA.out.then hG); have HJ4 := Lib.hid (HJA.out.then hG); have HX4 := Lib.hid (HXA.out.fr hG (fun h => h)); have HZ4 := Lib.hid (HZA.out.fr hG (fun h => h)); have x49 : w4.cell? ⟨W.heap.size, 9, none⟩ = some (.slice (H k).aR (N k).r (H k).cR) := HX4.out.cell 9; have z41 : w4.cell? ⟨z, 1, none⟩ = some (.slice xa (N k).depth.toNat xc) := HZ4.out.cell 1; have s42 := HJ4.out.r2.cell 0; have s43 := HJ4.out.r3.cell 0; have f42 := HJ4.out.r2.frozen 0; have f43 := HJ4.out.r3.frozen 0; clear hG)))
              exact HJ4.out.stop HBs.out HLB.out HF4.out HT0.out hxn HE.out HP.out
      · have q2 : ((N k).kind != 1) = true := by simp [hk1]
        have HE := Lib.hid (mark_kind (N := N) (i := k) ⟨Or.inr hr, hk1⟩)
        clear hk1 hr
        cases ho : (N k).opq with
        | true =>
          rw [ho] at c8 HJA HXA HZA HFA
          clear ho
          gi_wp2
          exact stop_alloc (HJ.out.stop HBs.out HLB.out (Fr.refl _ W) HT0.out hxn HE.out (by decide)) _
        | false =>
          rw [ho] at c8 HJA HXA HZA HFA
          clear ho
          gi_wp2
          exact stop_alloc (HJ.out.stop HBs.out HLB.out (Fr.refl _ W) HT0.out hxn HE.out (by decide)) _
    · have HR := Lib.hid hr
      have q1 : decide (0 < ((N k).r : Int)) = false := by simp; omega
      have HNR := Lib.hid (fun (h1 : ¬ (((N k).opq = true ∨ 0 < (N k).r) ∧ (N k).kind ≠ 1 ∨ k = 0 ∧ 0 < (N k).r)) => mark_rest (N := N) (i := k) h1 (fun e => hr e.2) (fun h => absurd h hr) (fun h => absurd h hr) (fun h => absurd h hr))
      by_cases hk1 : (N k).kind = 1
      · have q2 : ((N k).kind != 1) = false := by simp [hk1]
        have q5 : ((N k).kind == 5) = false := by simp [hk1]
        have HW := Lib.hid (show markE N k = 0 by
          rw [HNR.out (fun e => e.elim (fun e => e.2 hk1) (fun e => hr e.2)), if_neg (fun e => by rw [hk1] at e; exact absurd e.1 (by decide))])
        clear hr hk1
        cases ho : (N k).opq with
        | true =>
          rw [ho] at c8 HJA HXA HZA HFA
          clear ho
          cases hq0 : ((k : Int) == 0) with
          | true =>
            gi_wp2
            exact ⟨keepsFrom_fr HFA.out (fun _ h => h.elim), KpG.of_fr HFA.out (fun _ h => h.elim), by dsimp only; rw [HLN.out]; exact ⟨HJA.out.skip HR.out HW.out, Nat.le_trans HGG.out.1 HFA.out.size, HGG.out.2⟩⟩
          | false =>
            gi_wp2
            exact ⟨keepsFrom_fr HFA.out (fun _ h => h.elim), KpG.of_fr HFA.out (fun _ h => h.elim), by dsimp only; rw [HLN.out]; exact ⟨HJA.out.skip HR.out HW.out, Nat.le_trans HGG.out.1 HFA.out.size, HGG.out.2⟩⟩
        | false =>
          rw [ho] at c8 HJA HXA HZA HFA
          clear ho
          cases hq0 : ((k : Int) == 0) with
          | true =>
            gi_wp2
            exact ⟨keepsFrom_fr HFA.out (fun _ h => h.elim), KpG.of_fr HFA.out (fun _ h => h.elim), by dsimp only; rw [HLN.out]; exact ⟨HJA.out.skip HR.out HW.out, Nat.le_trans HGG.out.1 HFA.out.size, HGG.out.2⟩⟩
          | false =>
            gi_wp2
            exact ⟨keepsFrom_fr HFA.out (fun _ h => h.elim), KpG.of_fr HFA.out (fun _ h => h.elim), by dsimp only; rw [HLN.out]; exact ⟨HJA.out.skip HR.out HW.out, Nat.le_trans HGG.out.1 HFA.out.size, HGG.out.2⟩⟩
      · have q2 : ((N k).kind != 1) = true := by simp [hk1]
        cases ho : (N k).opq with
        | true =>
          have HE := Lib.hid (mark_kind (N := N) (i := k) ⟨Or.inl ho, hk1⟩)
          rw [ho] at c8 HJA HXA HZA HFA
          clear ho hk1 hr
          gi_wp2
          exact stop_alloc (HJ.out.stop HBs.out HLB.out (Fr.refl _ W) HT0.out hxn HE.out (by decide)) _
        | false =>
          have HNS := Lib.hid (HNR.out (fun e => e.elim (fun e => e.1.elim (fun e => by rw [ho] at e; cases e) hr) (fun e => hr e.2)))
          rw [ho] at c8 HJA HXA HZA HFA
          clear ho hr
          by_cases hk5 : (N k).kind = 5
          · have q5 : ((N k).kind == 5) = true := by simp [hk5]
            have hk0 : k ≠ 0 := fun e => by
              subst e
              have h0 := (nodeE_parts (HZ.out.2.2 0 hxn)).1
              unfold shapeE at h0
              rw [if_pos rfl] at h0
              by_cases hh : (N 0).depth ≠ 0 ∨ (N 0).name.toList ≠ [] ∨ (N 0).kind ≠ 1
              · rw [if_pos hh] at h0; cases h0
              · exact hh (Or.inr (Or.inr (by rw [hk5]; decide)))
            obtain ⟨p, hp, hpar⟩ := par_some HD.out hxn hk0
            have hq0 : ((k : Int) == 0) = false := by simp; exact hk0
            have HK5 := Lib.hid hk5
            have HPA := Lib.hid hpar
            have HNO := Lib.hid (show (nodeAt N (parF N k)).opq = (N p).opq by rw [hpar]; rfl)
            have d8 := (HCC.out W HJ.out.fr p (by omega)).c8
            have e0 : W.cell? ⟨z, 0, none⟩ = some (.int .i64 (p : Int)) := by rw [← hpar]; exact HRW.out.cell 0
            have g3 : (0 : Int) ≤ (p : Int) := by omega
            have g4 : (p : Int) < n := by omega
            cases hop : (N p).opq with
            | true =>
              have HE := Lib.hid (show markE N k = 6 by rw [HNS.out, if_pos ⟨hk5, by omega, by rw [HNO.out, hop]⟩])
              rw [hop] at d8
              clear hop hk5 hk1 hpar hk0 hp
              gi_wp2
              exact stop_alloc (HJ.out.stop HBs.out HLB.out (Fr.refl _ W) HT0.out hxn HE.out (by decide)) _
            | false =>
              have HW := Lib.hid (show markE N k = 0 by rw [HNS.out, if_neg (fun e => by rw [HNO.out, hop] at e; exact absurd e.2.2 (by decide))])
              rw [hop] at d8
              clear hop hk5 hk1 hpar hk0 hp
              gi_wp2
              exact ⟨keepsFrom_fr HFA.out (fun _ h => h.elim), KpG.of_fr HFA.out (fun _ h => h.elim), by dsimp only; rw [HLN.out]; exact ⟨HJA.out.skip HR.out HW.out, Nat.le_trans HGG.out.1 HFA.out.size, HGG.out.2⟩⟩
          · have q5 : ((N k).kind == 5) = false := by simp [hk5]
            have HW := Lib.hid (show markE N k = 0 by rw [HNS.out, if_neg (fun e => hk5 e.1)])
            clear hk5 hk1
            cases hq0 : ((k : Int) == 0) with
            | true =>
              gi_wp2
              exact ⟨keepsFrom_fr HFA.out (fun _ h => h.elim), KpG.of_fr HFA.out (fun _ h => h.elim), by dsimp only; rw [HLN.out]; exact ⟨HJA.out.skip HR.out HW.out, Nat.le_trans HGG.out.1 HFA.out.size, HGG.out.2⟩⟩
            | false =>
              gi_wp2
              exact ⟨keepsFrom_fr HFA.out (fun _ h => h.elim), KpG.of_fr HFA.out (fun _ h => h.elim), by dsimp only; rw [HLN.out]; exact ⟨HJA.out.skip HR.out HW.out, Nat.le_trans HGG.out.1 HFA.out.size, HGG.out.2⟩⟩
  case done =>
    rintro D xs G W hD hlen ⟨hJ, _⟩ hK
    try dsimp only at hJ
    rw [hlen] at hJ
    have s2 := hJ.r2.cell 0
    have s3 := hJ.r3.cell 0
    have f2 := hJ.r2.frozen 0
    have f3 := hJ.r3.frozen 0
    have HE := Lib.hid (show branchE n N = 0 by rw [HM.out, firstE_all hJ.ok])
    have HX := Lib.hid (show CkX w B2 B3 n N ((W.setCell ⟨B2, 0, none⟩ (.int .i64 0)).setCell ⟨B3, 0, none⟩ (.int .i64 0)) from by
      have h2 := hJ.r2.set 0 (.int .i64 0)
      have h3 := (hJ.r3.fr ((Fr.refl (fun b => b = B2) W).setCell (a := ⟨B2, 0, none⟩) (fun _ => rfl) (.int .i64 0)) n32).set 0 (.int .i64 0)
      refine ⟨((hJ.fr.up.setCell (S := fun b => b = B2 ∨ b = B3) (a := ⟨B2, 0, none⟩) (fun _ => Or.inl rfl) _).setCell (a := ⟨B3, 0, none⟩) (fun _ => Or.inr rfl) _).mono (fun b hb hS => by have := HBs.out; rcases hS with e | e <;> omega), ⟨0, h2.fr ((Fr.refl (fun b => b = B3) _).setCell (a := ⟨B3, 0, none⟩) (fun _ => rfl) (.int .i64 0)) n23⟩, by rw [HE.out]; exact h3⟩)
    have HK := Lib.hid (show ((W.setCell ⟨B2, 0, none⟩ (.int .i64 0)).setCell ⟨B3, 0, none⟩ (.int .i64 0)).heap[D]? = some (.deferred (some [])) from
      ((((Fr.refl (fun b => b = B2 ∨ b = B3) W).setCell (a := ⟨B2, 0, none⟩) (fun _ => Or.inl rfl) (.int .i64 0)).setCell (a := ⟨B3, 0, none⟩) (fun _ => Or.inr rfl) (.int .i64 0)).block D (Array.getElem?_eq_some_iff.1 hK).1 (fun e => by have := HLT.out; rcases e with e | e <;> omega)).trans hK)
    clear hJ hK
    go_wp2_with fail
    generalize (W.setCell ⟨B2, 0, none⟩ (.int .i64 0)).setCell ⟨B3, 0, none⟩ (.int .i64 0) = W5 at *
    exact leave_marks HX.out HK.out hD HLT.out.1 rfl rfl
  case stop =>
    rintro D c' pre W hD ⟨rfl, hX⟩ hK
    have HX := Lib.hid hX
    have HK := Lib.hid hK
    clear hX hK
    go_wp2_with fail
    exact leave_marks HX.out HK.out hD HLT.out.1 rfl rfl
theorem bcheck_walk (n c : Nat) (a0 : Option Addr) (N : Nat → BNode) (H : Nat → Hd) (w : World) (hB : BranchAt w a0 n N H) (hn : n ≤ 1000) (hs : ∀ j, j < n → Fits (N j)) :
    Calls Tryz.prog 29 #[.slice a0 n c] w (RetI (branchE n N) w) := by
  by_cases ht : treeE n N = 0
  · exact bcheck_ok n c a0 N H w hB hn hs ht
  · exact bcheck_tree n c a0 N H w hB hn hs ht
end Go.Proofs.YtogjfifpbplahaaGreatDoor
