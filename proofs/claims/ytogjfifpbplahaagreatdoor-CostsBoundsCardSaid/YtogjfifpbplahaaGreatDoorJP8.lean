/- The program's checker of trees, walked: place of the first node; class. -/
import Derived.Test.YtogjfifpbplahaaGreatDoorJP7
namespace Go.Proofs.YtogjfifpbplahaaGreatDoor
open Go.RowKit
open BR
open Go.Op (bytesLess)
set_option linter.unusedVariables false

set_option maxRecDepth 100000 in
set_option maxHeartbeats 4000000 in
theorem place_first (base C : Nat) (m1 m2 : Value) (cl : Int) (x : BNode) (h : Hd) (w : World) (hR : RowB w C 104 [.slice none 0 0, .bool false, m1, m2, .int .i64 cl]) (hC : C < base) (hb : base ≤ w.heap.size)
    (hd : x.depth = 0) (hn : x.name.toList = []) (hk : x.kind = 1) :
    Calls Tryz.prog 69 #[.pointer (some ⟨C, 0, none⟩), trA x h] w (RetPl base none C 0 false m1 m2 cl (fun n v ys => n = 1 ∧ ys = [.int .i64 0, .string ⟨#[]⟩]) w) := by
  obtain ⟨i0, hinf, hz0, hz1, hz2⟩ := info_parts op_info
  have HI := Lib.hid (And.intro hinf (And.intro hz0 (And.intro hz1 hz2)))
  obtain ⟨d, nm, kd, m, A, dt, mj, mi, cls, op, r, R⟩ := x
  dsimp only at *
  subst hd
  subst hk
  have e0 : nm.toList.isEmpty = true := by rw [hn]; rfl
  unfold trA
  dsimp only
  have c0 := hR.cell 0
  have c1 := hR.cell 1
  have f0 := hR.frozen 0
  have hCl := hR.lt
  have HR := Lib.hid hR
  have HB := Lib.hid hb
  clear hR hinf hz0 hz1 hz2 hn
  go_enter Tryz.func69, Tryz.ntmps69
  go_upto_region 4 with fail
  have HF0 := Lib.hid ((Fr.refl (fun _ => False) w).alloc (Obj.cells #[.int .i64 0, .string nm, .int .i64 1, .slice h.aA m h.cA, .string dt, .int .i64 mj, .int .i64 mi, .int .i64 cls] 106))
  generalize w.alloc (Obj.cells #[.int .i64 0, .string nm, .int .i64 1, .slice h.aA m h.cA, .string dt, .int .i64 mj, .int .i64 mi, .int .i64 cls] 106) = W at *
  have HR1 := Lib.hid (HR.out.fr HF0.out (fun h => h))
  have c0 : W.cell? ⟨C, 0, none⟩ = some (.slice none 0 0) := HR1.out.cell 0
  have f0 := HR1.out.frozen 0
  have hCl := HR1.out.lt
  have HB1 := Lib.hid (Nat.le_trans HB.out HF0.out.size)
  go_wp2_with (at_builtin; go_must (refine wpList_append_any rfl _ _ 102 rfl base 137 i0 _ 2 24 Tryz.underlying102 HI.out.1 HI.out.2.1 HI.out.2.2.1 HI.out.2.2.2 rfl (by decide) (.slice none 0 0) 0 [] rfl (World.ownsRow_nil _ _ _ _) (some ⟨W.heap.size, 0, none⟩) 1 1 [.int .i64 0, .string ⟨#[]⟩] rfl rfl (fun _ => ⟨W.heap.size, 0, rfl, fun j u hj => ((RowB.new W 137 [.int .i64 0, .string ⟨#[]⟩]).cell (0 + j)).trans (by rw [Nat.zero_add]; exact hj)⟩) (by intro u hu; simp at hu; rcases hu with rfl | rfl <;> rfl) (by unfold maxLen; omega) (by omega) (by rw [alloc_size]; exact Nat.le_succ_of_le HB1.out) ?_; intro v3 w3 hown hgrow hat; have hFr : Fr (fun _ => False) W w3 := fr_grow ((Fr.refl (fun _ => False) W).alloc _) hgrow (fun g hg => by simp [Value.ownBlock] at hg); obtain ⟨a3, cc, rfl, _, _⟩ := own_slice hown; have hR3 := HR1.out.fr hFr (fun h => h); have c3 : w3.cell? ⟨C, 0, none⟩ = some (.slice none 0 0) := hR3.cell 0; have f3 := hR3.frozen 0; have HO3 := Lib.hid (own_fr hown ((Fr.refl (fun b => b = C) w3).setCell (a := ⟨C, 0, none⟩) (fun _ => rfl) (.slice a3 1 cc)) (fun k hk e => by have := own_block_ge hown k hk; omega)); have HR3 := Lib.hid (hR3.set 0 (.slice a3 1 cc)); have HF3 := Lib.hid hFr; clear hFr hR3 hown hgrow hat))
  go_ret
  exact ⟨rfl, Fr.setCell (S := fun b => b = C ∨ none = some b) ((HF0.out.then HF3.out).up) (a := ⟨C, 0, none⟩) (fun _ => Or.inl rfl) _, fun _ => ⟨_, _, _, HR3.out, HO3.out, rfl, rfl⟩⟩
set_option maxRecDepth 100000 in
set_option maxHeartbeats 4000000 in
theorem place_zero (base C : Nat) (m1 m2 : Value) (cl : Int) (x : BNode) (h : Hd) (w : World) (K : Nat → Value → List Value → Prop) (hR : RowB w C 104 [.slice none 0 0, .bool false, m1, m2, .int .i64 cl])
    (hd : x.depth ≠ 0 ∨ x.name.toList ≠ [] ∨ x.kind ≠ 1) :
    Calls Tryz.prog 69 #[.pointer (some ⟨C, 0, none⟩), trA x h] w (RetPl base none C 6 false m1 m2 cl K w) := by
  obtain ⟨d, nm, kd, m, A, dt, mj, mi, cls, op, r, R⟩ := x
  dsimp only at *
  unfold trA
  dsimp only
  have c0 := hR.cell 0
  have c1 := hR.cell 1
  have hCl := hR.lt
  clear hR
  by_cases h1 : d = 0
  · have q1 : (d != 0) = false := by simpa using h1
    cases e0 : nm.toList.isEmpty
    · clear h1 hd
      go_enter Tryz.func69, Tryz.ntmps69
      go_wp2_with fail
      go_ret
      exact ⟨rfl, (Fr.refl _ w).alloc _, fun h => by cases h⟩
    · have hk : kd ≠ 1 := by
        rcases hd with hd | hd | hd
        · exact absurd h1 hd
        · exact absurd (List.isEmpty_iff.1 e0) hd
        · exact hd
      have q2 : (kd != 1) = true := by simpa using hk
      clear h1 hd hk
      go_enter Tryz.func69, Tryz.ntmps69
      go_wp2_with fail
      go_ret
      exact ⟨rfl, (Fr.refl _ w).alloc _, fun h => by cases h⟩
  · have q1 : (d != 0) = true := by simpa using h1
    clear h1 hd
    go_enter Tryz.func69, Tryz.ntmps69
    go_wp2_with fail
    go_ret
    exact ⟨rfl, (Fr.refl _ w).alloc _, fun h => by cases h⟩
end Go.Proofs.YtogjfifpbplahaaGreatDoor
