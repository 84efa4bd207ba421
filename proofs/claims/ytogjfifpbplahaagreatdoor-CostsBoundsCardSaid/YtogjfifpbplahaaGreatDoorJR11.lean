/- The reference's check of a node's marks, walked. -/
import Derived.Test.YtogjfifpbplahaaGreatDoorJi
namespace Go.Proofs.YtogjfifpbplahaaGreatDoor
open Go.RowKit
open BR
set_option linter.unusedVariables false

theorem lastAt_cases (N : Nat → BNode) (d : Int) : ∀ k, lastAt N k d = -1 ∨ ∃ p, p < k ∧ lastAt N k d = (p : Int)
  | 0 => Or.inl rfl
  | k + 1 => by
    simp only [lastAt]
    split
    · exact Or.inr ⟨k, by omega, rfl⟩
    · rcases lastAt_cases N d k with h | ⟨p, h1, h2⟩
      · exact Or.inl h
      · exact Or.inr ⟨p, by omega, h2⟩
section
variable {N : Nat → BNode} {i : Nat}
theorem mark_kind (h : ((N i).opq = true ∨ 0 < (N i).r) ∧ (N i).kind ≠ 1) : markE N i = 14 := by unfold markE; rw [if_pos (Or.inl h)]
theorem mark_root (h : i = 0) (h2 : 0 < (N i).r) : markE N i = 14 := by unfold markE; rw [if_pos (Or.inr ⟨h, h2⟩)]
theorem mark_both (h1 : ¬ (((N i).opq = true ∨ 0 < (N i).r) ∧ (N i).kind ≠ 1 ∨ i = 0 ∧ 0 < (N i).r)) (h : (N i).opq = true) (h2 : 0 < (N i).r) : markE N i = 6 := by
  unfold markE; rw [if_neg h1, if_pos ⟨h, h2⟩]
theorem mark_path (h1 : ¬ (((N i).opq = true ∨ 0 < (N i).r) ∧ (N i).kind ≠ 1 ∨ i = 0 ∧ 0 < (N i).r)) (h2 : ¬ ((N i).opq = true ∧ 0 < (N i).r)) (h : 0 < (N i).r) (h3 : pathE (N i).r (N i).R ≠ 0) : markE N i = pathE (N i).r (N i).R := by
  unfold markE; rw [if_neg h1, if_neg h2, if_pos ⟨h, h3⟩]
theorem mark_self (h1 : ¬ (((N i).opq = true ∨ 0 < (N i).r) ∧ (N i).kind ≠ 1 ∨ i = 0 ∧ 0 < (N i).r)) (h2 : ¬ ((N i).opq = true ∧ 0 < (N i).r)) (h : 0 < (N i).r) (h3 : pathE (N i).r (N i).R = 0) (h4 : samePath (N i).r (N i).R (N i).depth.toNat (pathF N i)) : markE N i = 6 := by
  unfold markE; rw [if_neg h1, if_neg h2, if_neg (fun e => e.2 h3), if_pos ⟨h, h4⟩]
theorem mark_twice (h1 : ¬ (((N i).opq = true ∨ 0 < (N i).r) ∧ (N i).kind ≠ 1 ∨ i = 0 ∧ 0 < (N i).r)) (h2 : ¬ ((N i).opq = true ∧ 0 < (N i).r)) (h : 0 < (N i).r) (h3 : pathE (N i).r (N i).R = 0) (h4 : ¬ samePath (N i).r (N i).R (N i).depth.toNat (pathF N i))
    (h5 : ∃ k, k < i ∧ samePath (N i).r (N i).R (N k).r (N k).R) : markE N i = 8 := by
  unfold markE; rw [if_neg h1, if_neg h2, if_neg (fun e => e.2 h3), if_neg (fun e => h4 e.2), if_pos ⟨h, h5⟩]
theorem mark_rest (h1 : ¬ (((N i).opq = true ∨ 0 < (N i).r) ∧ (N i).kind ≠ 1 ∨ i = 0 ∧ 0 < (N i).r)) (h2 : ¬ ((N i).opq = true ∧ 0 < (N i).r)) (h3 : 0 < (N i).r → pathE (N i).r (N i).R = 0) (h4 : 0 < (N i).r → ¬ samePath (N i).r (N i).R (N i).depth.toNat (pathF N i))
    (h5 : 0 < (N i).r → ¬ ∃ k, k < i ∧ samePath (N i).r (N i).R (N k).r (N k).R) : markE N i = if (N i).kind = 5 ∧ 0 ≤ parF N i ∧ (nodeAt N (parF N i)).opq = true then 6 else 0 := by
  unfold markE; rw [if_neg h1, if_neg h2, if_neg (fun e => e.2 (h3 e.1)), if_neg (fun e => h4 e.1 e.2), if_neg (fun e => h5 e.1 e.2)]
end
set_option maxRecDepth 100000 in
set_option maxHeartbeats 8000000 in
theorem rmarks_walk (n c i : Nat) (a0 : Option Addr) (N : Nat → BNode) (H : Nat → Hd) (w : World) (hB : BranchAt w a0 n N H) (hn : n ≤ 1000) (hi : i < n) (hD : Deep N n)
    (hs : ∀ j, j < n → (N j).m ≤ 100 ∧ (N j).r ≤ 100 ∧ ∀ k, k < (N j).r → ((N j).R k).size ≤ 1000) :
    Calls Tryz.prog 46 #[.slice a0 n c, .int .i64 i] w (Ret (.int .i64 (markE N i)) w) := by
  have HB := Lib.hid hB
  obtain ⟨b, o, rfl, hb, hc⟩ := hB.get (by omega)
  obtain ⟨c0, c1, c2, c3, c4, c5, c6, c7, c8, c9⟩ := hc w (Fr.refl _ _) i hi
  have HC := Lib.hid hc
  have HD := Lib.hid hD
  have HS := Lib.hid hs
  have HNB := Lib.hid hB.1
  clear hB hc hD hs
  have g1 : (0 : Int) ≤ (i : Int) := by omega
  have g2 : (i : Int) < n := by omega
  obtain ⟨x, hx⟩ : ∃ x, x = N i := ⟨_, rfl⟩
  obtain ⟨h, hh⟩ : ∃ h, h = H i := ⟨_, rfl⟩
  rw [← hx] at c0 c1 c2 c3 c4 c5 c6 c7 c8 c9
  rw [← hh] at c3 c9
  obtain ⟨op, hop⟩ : ∃ op, op = x.opq := ⟨_, rfl⟩
  rw [← hop] at c8
  have HO := Lib.hid hop
  have HX := Lib.hid hx
  have HH := Lib.hid hh
  have hr100 : x.r ≤ 100 := by rw [hx]; exact (HS.out i hi).2.1
  have CP := Lib.hid (fun w0 (hG : Fr (fun _ => False) w w0) => rpath_walk x.r h.cR h.aR x.R w0 (by rw [hx, hh]; exact (HNB.out i hi).2.2.1.fr hG (fun _ _ h => h)) (by rw [hx]; exact fun k hk => (HS.out i hi).2.2 k hk) hr100)
  have CT := Lib.hid (fun w0 (hG : Fr (fun _ => False) w w0) => rTree_walk n c _ N H w0 (HB.out.fr hG (fun _ _ h => h)) hn (fun j hj => (HS.out j hj).1))
  have CA := Lib.hid (fun w0 (hG : Fr (fun _ => False) w w0) => rabove_walk n c i _ N H w0 (HB.out.fr hG (fun _ _ h => h)) hn hi HD.out)
  have HRX := Lib.hid (fun w0 (hG : Fr (fun _ => False) (w.alloc (.cells #[.int .i64 x.depth, .string x.name, .int .i64 x.kind, .slice h.aA x.m h.cA, .string x.data, .int .i64 x.major, .int .i64 x.minor, .int .i64 x.cls, .bool op, .slice h.aR x.r h.cR] 43)) w0) => RowB.fr (vs := [.int .i64 x.depth, .string x.name, .int .i64 x.kind, .slice h.aA x.m h.cA, .string x.data, .int .i64 x.major, .int .i64 x.minor, .int .i64 x.cls, .bool op, .slice h.aR x.r h.cR]) (RowB.new w 43 [.int .i64 x.depth, .string x.name, .int .i64 x.kind, .slice h.aA x.m h.cA, .string x.data, .int .i64 x.major, .int .i64 x.minor, .int .i64 x.cls, .bool op, .slice h.aR x.r h.cR]) hG (fun h => h))
  have HST := Lib.hid (fun w0 (hG : Fr (fun _ => False) w w0) => (show StrsAt w0 h.aR x.r x.R by rw [hx, hh]; exact (HNB.out i hi).2.2.1.fr hG (fun _ _ h => h)))
  clear hx hh hop
  have MK := Lib.hid (show markE N i = markE N i from rfl)
  cases op
  · by_cases hr0 : 0 < x.r
    · have q0 : (0 : Int) < (x.r : Int) := by omega
      by_cases hk1 : x.kind = 1
      · have e1 : (x.kind != 1) = false := by simpa using hk1
        have e5 : (x.kind == 5) = false := by rw [hk1]; rfl
        by_cases hi0 : i = 0
        · have HE := Lib.hid (mark_root (N := N) hi0 (by rw [← HX.out]; exact hr0))
          have e0 : ((i : Int) == 0) = true := by simpa using hi0
          have HI0 := Lib.hid hi0
          clear hi0 hk1
          go_enter Tryz.func46, Tryz.ntmps46
          go_wp2_with fail
          go_ret
          exact ⟨by rw [HE.out] <;> rfl, ((Fr.refl _ w).alloc _)⟩
        · have e0 : ((i : Int) == 0) = false := by simpa using hi0
          have HN1 := Lib.hid (show ¬ (((N i).opq = true ∨ 0 < (N i).r) ∧ (N i).kind ≠ 1 ∨ i = 0 ∧ 0 < (N i).r) by rw [← HX.out]; intro e; rcases e with e | e; exact e.2 hk1; exact hi0 e.1)
          have HN2 := Lib.hid (show ¬ ((N i).opq = true ∧ 0 < (N i).r) by rw [← HX.out, ← HO.out]; intro e; cases e.1)
          have HR0 := Lib.hid (show 0 < (N i).r by rw [← HX.out]; exact hr0)
          have HK1 := Lib.hid (show (N i).kind = 1 by rw [← HX.out]; exact hk1)
          have HI0 := Lib.hid hi0
          clear hi0 hk1
          by_cases hp : pathE x.r x.R = 0
          · have HP0 := Lib.hid (show pathE (N i).r (N i).R = 0 by rw [← HX.out]; exact hp)
            rw [hp] at CP
            clear hp
            have HDB := Lib.hid (show (N i).depth.toNat ≤ 1000 by have := deep_bd HD.out hi; omega)
            by_cases hsp : samePath x.r x.R (N i).depth.toNat (pathF N i)
            · have HE := Lib.hid (mark_self HN1.out HN2.out HR0.out HP0.out (by rw [← HX.out] at hsp ⊢; exact hsp))
              have HQ := Lib.hid hsp
              clear hsp
              go_enter Tryz.func46, Tryz.ntmps46
              go_wp2_with (go_at_call 62; go_must (refine (CP.out _ ((Fr.refl _ w).alloc _)).mono ?_; rintro e w1 ⟨rfl, hF⟩; have HF1 := Lib.hid hF; have hrr := HRX.out w1 HF1.out; have k2 : w1.cell? ⟨w.heap.size, 2, none⟩ = some (.int .i64 x.kind) := hrr.cell 2; have k8 : w1.cell? ⟨w.heap.size, 8, none⟩ = some (.bool false) := hrr.cell 8; have k9 : w1.cell? ⟨w.heap.size, 9, none⟩ = some (.slice h.aR x.r h.cR) := hrr.cell 9; clear hrr; clear hF))
              go_region_held3 (fun w' => w'.cell? ⟨w.heap.size, 9, none⟩ = some (.slice h.aR x.r h.cR)) (go_keep) (first
                | (go_at_call 45; go_must (refine (CT.out w1.drew (((Fr.refl _ w).alloc _).then HF1.out.drew)).mono ?_; rintro e w2 ⟨a2, c2', H2, rfl, hT, hG⟩; have HT2 := Lib.hid hT; have HF2 := Lib.hid (HF1.out.drew.then hG); have hrr := HRX.out w2 HF2.out; have m2 : w2.cell? ⟨w.heap.size, 2, none⟩ = some (.int .i64 x.kind) := hrr.cell 2; have m8 : w2.cell? ⟨w.heap.size, 8, none⟩ = some (.bool false) := hrr.cell 8; have m9 : w2.cell? ⟨w.heap.size, 9, none⟩ = some (.slice h.aR x.r h.cR) := hrr.cell 9; clear hrr; clear hT hG))
                | (go_at_call 64; go_must (refine (rpathF_walk n c2' a2 N H2 w2 HT2.out hn HD.out i i (Nat.le_refl _) hi w2 (Fr.refl _ _)).mono ?_; rintro e w3 ⟨v3, rfl, hown, hG⟩; obtain ⟨a3, c3', rfl, _, hS3⟩ := own_strs hown; have HS3 := Lib.hid hS3; have HF3 := Lib.hid (HF2.out.then hG); have hrr := HRX.out w3 HF3.out; have n2 : w3.cell? ⟨w.heap.size, 2, none⟩ = some (.int .i64 x.kind) := hrr.cell 2; have n8 : w3.cell? ⟨w.heap.size, 8, none⟩ = some (.bool false) := hrr.cell 8; have n9 : w3.cell? ⟨w.heap.size, 9, none⟩ = some (.slice h.aR x.r h.cR) := hrr.cell 9; clear hrr; clear hown hS3 hG))
                | (go_at_call 63; go_must (refine (rsame_walk x.r h.cR _ c3' h.aR a3 x.R (pathF N i) w3 (HST.out w3 (((Fr.refl _ w).alloc _).then HF3.out)) HS3.out (by omega) HDB.out true ⟨fun _ => HQ.out, fun _ => rfl⟩).mono ?_; rintro e w4 ⟨rfl, hG⟩; have HF4 := Lib.hid (HF3.out.then hG); have hrr := HRX.out w4 HF4.out; have s2 : w4.cell? ⟨w.heap.size, 2, none⟩ = some (.int .i64 x.kind) := hrr.cell 2; have s8 : w4.cell? ⟨w.heap.size, 8, none⟩ = some (.bool false) := hrr.cell 8; have s9 : w4.cell? ⟨w.heap.size, 9, none⟩ = some (.slice h.aR x.r h.cR) := hrr.cell 9; clear hrr; clear hG))
                | fail)
              go_wp2_with fail
              go_ret
              exact ⟨by rw [HE.out] <;> rfl, ((Fr.refl _ w).alloc _).then HF4.out⟩
            · have HN4 := Lib.hid (show ¬ samePath (N i).r (N i).R (N i).depth.toNat (pathF N i) by rw [← HX.out] at hsp ⊢; exact hsp)
              have HQ := Lib.hid hsp
              clear hsp
              go_enter Tryz.func46, Tryz.ntmps46
              go_wp2_with (go_at_call 62; go_must (refine (CP.out _ ((Fr.refl _ w).alloc _)).mono ?_; rintro e w1 ⟨rfl, hF⟩; have HF1 := Lib.hid hF; have hrr := HRX.out w1 HF1.out; have k2 : w1.cell? ⟨w.heap.size, 2, none⟩ = some (.int .i64 x.kind) := hrr.cell 2; have k8 : w1.cell? ⟨w.heap.size, 8, none⟩ = some (.bool false) := hrr.cell 8; have k9 : w1.cell? ⟨w.heap.size, 9, none⟩ = some (.slice h.aR x.r h.cR) := hrr.cell 9; clear hrr; clear hF))
              go_region_held3 (fun w' => w'.cell? ⟨w.heap.size, 9, none⟩ = some (.slice h.aR x.r h.cR)) (go_keep) (first
                | (go_at_call 45; go_must (refine (CT.out w1.drew (((Fr.refl _ w).alloc _).then HF1.out.drew)).mono ?_; rintro e w2 ⟨a2, c2', H2, rfl, hT, hG⟩; have HT2 := Lib.hid hT; have HF2 := Lib.hid (HF1.out.drew.then hG); have hrr := HRX.out w2 HF2.out; have m2 : w2.cell? ⟨w.heap.size, 2, none⟩ = some (.int .i64 x.kind) := hrr.cell 2; have m8 : w2.cell? ⟨w.heap.size, 8, none⟩ = some (.bool false) := hrr.cell 8; have m9 : w2.cell? ⟨w.heap.size, 9, none⟩ = some (.slice h.aR x.r h.cR) := hrr.cell 9; clear hrr; clear hT hG))
                | (go_at_call 64; go_must (refine (rpathF_walk n c2' a2 N H2 w2 HT2.out hn HD.out i i (Nat.le_refl _) hi w2 (Fr.refl _ _)).mono ?_; rintro e w3 ⟨v3, rfl, hown, hG⟩; obtain ⟨a3, c3', rfl, _, hS3⟩ := own_strs hown; have HS3 := Lib.hid hS3; have HF3 := Lib.hid (HF2.out.then hG); have hrr := HRX.out w3 HF3.out; have n2 : w3.cell? ⟨w.heap.size, 2, none⟩ = some (.int .i64 x.kind) := hrr.cell 2; have n8 : w3.cell? ⟨w.heap.size, 8, none⟩ = some (.bool false) := hrr.cell 8; have n9 : w3.cell? ⟨w.heap.size, 9, none⟩ = some (.slice h.aR x.r h.cR) := hrr.cell 9; clear hrr; clear hown hS3 hG))
                | (go_at_call 63; go_must (refine (rsame_walk x.r h.cR _ c3' h.aR a3 x.R (pathF N i) w3 (HST.out w3 (((Fr.refl _ w).alloc _).then HF3.out)) HS3.out (by omega) HDB.out false ⟨(fun h => by cases h), fun h => absurd h HQ.out⟩).mono ?_; rintro e w4 ⟨rfl, hG⟩; have HF4 := Lib.hid (HF3.out.then hG); have hrr := HRX.out w4 HF4.out; have s2 : w4.cell? ⟨w.heap.size, 2, none⟩ = some (.int .i64 x.kind) := hrr.cell 2; have s8 : w4.cell? ⟨w.heap.size, 8, none⟩ = some (.bool false) := hrr.cell 8; have s9 : w4.cell? ⟨w.heap.size, 9, none⟩ = some (.slice h.aR x.r h.cR) := hrr.cell 9; clear hrr; clear hG))
                | fail)
              go_wp2_with fail
              go_loopw [7] (fun z wr => ∃ k : Nat, k ≤ i ∧ z = .int .i64 k ∧ Fr (fun _ => False) w4 wr ∧ Hid (∀ j, j < k → ¬ samePath x.r x.R (N j).r (N j).R)) (fun z _ => i - (intOf z).toNat)
              case atStart => exact ⟨0, by omega, rfl, Fr.refl _ _, Lib.hid (fun j hj => by omega)⟩
              case round =>
                obtain ⟨k, hk, rfl, hF, HJ⟩ := hrel
                have HF5 := Lib.hid (HF4.out.then hF)
                have HG5 := Lib.hid hF
                have hrr := HRX.out wr HF5.out; have k2 : wr.cell? ⟨w.heap.size, 2, none⟩ = some (.int .i64 x.kind) := hrr.cell 2; have k8 : wr.cell? ⟨w.heap.size, 8, none⟩ = some (.bool false) := hrr.cell 8; have k9 : wr.cell? ⟨w.heap.size, 9, none⟩ = some (.slice h.aR x.r h.cR) := hrr.cell 9; clear hrr
                clear hF
                by_cases hlt : k < i
                · have g3 : (0 : Int) ≤ (k : Int) := by omega
                  have g4 : (k : Int) < n := by omega
                  have r9 := (HC.out wr (((Fr.refl _ w).alloc _).then HF5.out) k (by omega)).c9
                  have CS := Lib.hid (fun w0 (hG : Fr (fun _ => False) wr w0) q hq => rsame_walk x.r h.cR (N k).r (H k).cR h.aR (H k).aR x.R (N k).R w0 (HST.out w0 ((((Fr.refl _ w).alloc _).then HF5.out).then hG)) ((HNB.out k (by omega)).2.2.1.fr ((((Fr.refl _ w).alloc _).then HF5.out).then hG) (fun _ _ h => h)) (by omega) (Nat.le_trans (HS.out k (by omega)).2.1 (by omega)) q hq)
                  by_cases he : samePath x.r x.R (N k).r (N k).R
                  · have HE := Lib.hid (mark_twice HN1.out HN2.out HR0.out HP0.out HN4.out ⟨k, hlt, by rw [← HX.out]; exact he⟩)
                    have CS := Lib.hid (fun w0 hG => CS.out w0 hG true ⟨fun _ => he, fun _ => rfl⟩)
                    clear he
                    go_wp2_with fail
                    go_region_held3 (fun w' => w'.cell? ⟨w.heap.size, 9, none⟩ = some (.slice h.aR x.r h.cR) ∧ w'.cell? ⟨b, o + k * 10 + 9, none⟩ = some (.slice (H k).aR (N k).r (H k).cR)) (go_keep) (first | (go_at_call 63; go_must (refine (CS.out wr.drew (Fr.refl _ wr).drew).mono ?_; rintro e w6 ⟨rfl, hG⟩; have HF6 := Lib.hid (HF5.out.then ((Fr.refl _ wr).drew.then hG)); have HF65 := Lib.hid ((HG5.out.then ((Fr.refl _ wr).drew)).then hG); have t9 := (HC.out w6 (((Fr.refl _ w).alloc _).then HF6.out) k (by omega)).c9; have hrr := HRX.out w6 HF6.out; have u2 : w6.cell? ⟨w.heap.size, 2, none⟩ = some (.int .i64 x.kind) := hrr.cell 2; have u8 : w6.cell? ⟨w.heap.size, 8, none⟩ = some (.bool false) := hrr.cell 8; have u9 : w6.cell? ⟨w.heap.size, 9, none⟩ = some (.slice h.aR x.r h.cR) := hrr.cell 9; clear hrr; clear hG)) | fail)
                    go_wp2_with fail
                    go_ret
                    exact ⟨by rw [HE.out] <;> rfl, ((Fr.refl _ w).alloc _).then HF6.out⟩
                  · have HN := Lib.hid he
                    have CS := Lib.hid (fun w0 hG => CS.out w0 hG false ⟨(fun h => by cases h), fun h => absurd h he⟩)
                    clear he
                    go_wp2_with fail
                    go_region_held3 (fun w' => w'.cell? ⟨w.heap.size, 9, none⟩ = some (.slice h.aR x.r h.cR) ∧ w'.cell? ⟨b, o + k * 10 + 9, none⟩ = some (.slice (H k).aR (N k).r (H k).cR)) (go_keep) (first | (go_at_call 63; go_must (refine (CS.out wr.drew (Fr.refl _ wr).drew).mono ?_; rintro e w6 ⟨rfl, hG⟩; have HF6 := Lib.hid (HF5.out.then ((Fr.refl _ wr).drew.then hG)); have HF65 := Lib.hid ((HG5.out.then ((Fr.refl _ wr).drew)).then hG); have t9 := (HC.out w6 (((Fr.refl _ w).alloc _).then HF6.out) k (by omega)).c9; have hrr := HRX.out w6 HF6.out; have u2 : w6.cell? ⟨w.heap.size, 2, none⟩ = some (.int .i64 x.kind) := hrr.cell 2; have u8 : w6.cell? ⟨w.heap.size, 8, none⟩ = some (.bool false) := hrr.cell 8; have u9 : w6.cell? ⟨w.heap.size, 9, none⟩ = some (.slice h.aR x.r h.cR) := hrr.cell 9; clear hrr; clear hG)) | fail)
                    go_wp2_with fail
                    go_roundw
                    case rel => exact ⟨k + 1, by omega, by go_num, HF65.out, Lib.hid (fun j hj => by
                      by_cases e : j = k
                      · subst e; exact HN.out
                      · exact HJ.out j (by omega))⟩
                    case measure => simp [intOf]; omega
                · obtain rfl : k = i := by omega
                  have HE := Lib.hid ((mark_rest HN1.out HN2.out (fun _ => HP0.out) (fun _ => HN4.out) (fun _ ⟨j, hj, e⟩ => HJ.out j hj (by rw [← HX.out] at e; exact e))).trans (if_neg (fun e => by rw [HK1.out] at e; omega)))
                  go_wp2_with (go_at_call 34; go_must (refine (CA.out _ (((Fr.refl _ w).alloc _).then HF5.out)).mono ?_; rintro e wa ⟨rfl, hF⟩; have HFa := Lib.hid (HF5.out.then hF); have hrr := HRX.out wa HFa.out; have k2 : wa.cell? ⟨w.heap.size, 2, none⟩ = some (.int .i64 x.kind) := hrr.cell 2; have k8 : wa.cell? ⟨w.heap.size, 8, none⟩ = some (.bool false) := hrr.cell 8; have k9 : wa.cell? ⟨w.heap.size, 9, none⟩ = some (.slice h.aR x.r h.cR) := hrr.cell 9; clear hrr; clear hF))
                  go_ret
                  exact ⟨by rw [HE.out] <;> rfl, ((Fr.refl _ w).alloc _).then HFa.out⟩
          · have HE := Lib.hid (mark_path HN1.out HN2.out HR0.out (by rw [← HX.out]; exact hp))
            rw [← HX.out] at HE
            have q1 : (pathE x.r x.R != 0) = true := by simpa using hp
            generalize pathE x.r x.R = E at *
            clear hp
            go_enter Tryz.func46, Tryz.ntmps46
            go_wp2_with (go_at_call 62; go_must (refine (CP.out _ ((Fr.refl _ w).alloc _)).mono ?_; rintro e w1 ⟨rfl, hF⟩; have HF1 := Lib.hid hF; have hrr := HRX.out w1 HF1.out; have k2 : w1.cell? ⟨w.heap.size, 2, none⟩ = some (.int .i64 x.kind) := hrr.cell 2; have k8 : w1.cell? ⟨w.heap.size, 8, none⟩ = some (.bool false) := hrr.cell 8; have k9 : w1.cell? ⟨w.heap.size, 9, none⟩ = some (.slice h.aR x.r h.cR) := hrr.cell 9; clear hrr; clear hF))
            go_ret
            exact ⟨by rw [HE.out] <;> rfl, ((Fr.refl _ w).alloc _).then HF1.out⟩
      · have e1 : (x.kind != 1) = true := by simpa using hk1
        have HE := Lib.hid (mark_kind (N := N) (i := i) (by rw [← HX.out]; exact ⟨Or.inr hr0, hk1⟩))
        clear hk1
        go_enter Tryz.func46, Tryz.ntmps46
        go_wp2_with fail
        go_ret
        exact ⟨by rw [HE.out] <;> rfl, ((Fr.refl _ w).alloc _)⟩
    · have hr00 : x.r = 0 := by omega
      clear hr00
      have q0 : ¬ (0 : Int) < (x.r : Int) := by omega
      have HR := Lib.hid (mark_rest (N := N) (i := i) (by rw [← HX.out]; rw [← HO.out]; intro e; rcases e with ⟨e, k⟩ | e; (rcases e with e | e; cases e; omega); omega) (by rw [← HX.out]; omega) (by rw [← HX.out]; omega) (by rw [← HX.out]; omega) (by rw [← HX.out]; omega))
      rw [← HX.out] at HR
      cases e0 : ((i : Int) == 0)
      all_goals
        rcases lastAt_cases N ((N i).depth - 1) i with hp | ⟨p, hp1, hp⟩
        · have hpar : parF N i = -1 := hp
          have HE := Lib.hid (HR.out.trans (if_neg (fun e => by rw [hpar] at e; omega)))
          rw [hpar] at CA
          clear hp hpar
          by_cases h5 : x.kind = 5
          · have e5 : (x.kind == 5) = true := by simpa using h5
            clear h5
            go_enter Tryz.func46, Tryz.ntmps46
            go_wp2_with (go_at_call 34; go_must (refine (CA.out _ ((Fr.refl _ w).alloc _)).mono ?_; rintro e wa ⟨rfl, hF⟩; have HFa := Lib.hid hF; have hrr := HRX.out wa HFa.out; have k2 : wa.cell? ⟨w.heap.size, 2, none⟩ = some (.int .i64 x.kind) := hrr.cell 2; have k8 : wa.cell? ⟨w.heap.size, 8, none⟩ = some (.bool false) := hrr.cell 8; have k9 : wa.cell? ⟨w.heap.size, 9, none⟩ = some (.slice h.aR x.r h.cR) := hrr.cell 9; clear hrr; clear hF))
            all_goals go_ret
            all_goals exact ⟨by rw [HE.out] <;> rfl, ((Fr.refl _ w).alloc _).then HFa.out⟩
          · have e5 : (x.kind == 5) = false := by simpa using h5
            clear h5
            go_enter Tryz.func46, Tryz.ntmps46
            go_wp2_with (go_at_call 34; go_must (refine (CA.out _ ((Fr.refl _ w).alloc _)).mono ?_; rintro e wa ⟨rfl, hF⟩; have HFa := Lib.hid hF; have hrr := HRX.out wa HFa.out; have k2 : wa.cell? ⟨w.heap.size, 2, none⟩ = some (.int .i64 x.kind) := hrr.cell 2; have k8 : wa.cell? ⟨w.heap.size, 8, none⟩ = some (.bool false) := hrr.cell 8; have k9 : wa.cell? ⟨w.heap.size, 9, none⟩ = some (.slice h.aR x.r h.cR) := hrr.cell 9; clear hrr; clear hF))
            all_goals go_ret
            all_goals exact ⟨by rw [HE.out] <;> rfl, ((Fr.refl _ w).alloc _).then HFa.out⟩
        · have hpar : parF N i = p := hp
          have HPB := Lib.hid (fun w0 (hG : Fr (fun _ => False) w w0) => (HC.out w0 hG p (by omega)).c8)
          have HQ := Lib.hid (show (nodeAt N (parF N i)).opq = (N p).opq by rw [hpar]; rfl)
          rw [hpar] at CA
          have g3 : (p : Int) < n := by omega
          have g4 : (0 : Int) ≤ (p : Int) := by omega
          by_cases h5 : x.kind = 5
          · have e5 : (x.kind == 5) = true := by simpa using h5
            cases hq : (N p).opq
            · have HE := Lib.hid (HR.out.trans (if_neg (fun e => by rw [HQ.out, hq] at e; cases e.2.2)))
              rw [hq] at HPB
              clear hp hpar h5 hq
              go_enter Tryz.func46, Tryz.ntmps46
              go_wp2_with (go_at_call 34; go_must (refine (CA.out _ ((Fr.refl _ w).alloc _)).mono ?_; rintro e wa ⟨rfl, hF⟩; have HFa := Lib.hid hF; have hrr := HRX.out wa HFa.out; have k2 : wa.cell? ⟨w.heap.size, 2, none⟩ = some (.int .i64 x.kind) := hrr.cell 2; have k8 : wa.cell? ⟨w.heap.size, 8, none⟩ = some (.bool false) := hrr.cell 8; have k9 : wa.cell? ⟨w.heap.size, 9, none⟩ = some (.slice h.aR x.r h.cR) := hrr.cell 9; clear hrr; have p8 := HPB.out wa (((Fr.refl _ w).alloc _).then hF); clear hF))
              all_goals go_ret
              all_goals exact ⟨by rw [HE.out] <;> rfl, ((Fr.refl _ w).alloc _).then HFa.out⟩
            · have HE := Lib.hid (HR.out.trans (if_pos ⟨h5, by rw [hpar]; omega, by rw [HQ.out, hq]⟩))
              rw [hq] at HPB
              clear hp hpar h5 hq
              go_enter Tryz.func46, Tryz.ntmps46
              go_wp2_with (go_at_call 34; go_must (refine (CA.out _ ((Fr.refl _ w).alloc _)).mono ?_; rintro e wa ⟨rfl, hF⟩; have HFa := Lib.hid hF; have hrr := HRX.out wa HFa.out; have k2 : wa.cell? ⟨w.heap.size, 2, none⟩ = some (.int .i64 x.kind) := hrr.cell 2; have k8 : wa.cell? ⟨w.heap.size, 8, none⟩ = some (.bool false) := hrr.cell 8; have k9 : wa.cell? ⟨w.heap.size, 9, none⟩ = some (.slice h.aR x.r h.cR) := hrr.cell 9; clear hrr; have p8 := HPB.out wa (((Fr.refl _ w).alloc _).then hF); clear hF))
              all_goals go_ret
              all_goals exact ⟨by rw [HE.out] <;> rfl, ((Fr.refl _ w).alloc _).then HFa.out⟩
          · have HE := Lib.hid (HR.out.trans (if_neg (fun e => h5 e.1)))
            have e5 : (x.kind == 5) = false := by simpa using h5
            clear hp hpar h5
            go_enter Tryz.func46, Tryz.ntmps46
            go_wp2_with (go_at_call 34; go_must (refine (CA.out _ ((Fr.refl _ w).alloc _)).mono ?_; rintro e wa ⟨rfl, hF⟩; have HFa := Lib.hid hF; have hrr := HRX.out wa HFa.out; have k2 : wa.cell? ⟨w.heap.size, 2, none⟩ = some (.int .i64 x.kind) := hrr.cell 2; have k8 : wa.cell? ⟨w.heap.size, 8, none⟩ = some (.bool false) := hrr.cell 8; have k9 : wa.cell? ⟨w.heap.size, 9, none⟩ = some (.slice h.aR x.r h.cR) := hrr.cell 9; clear hrr; clear hF))
            all_goals go_ret
            all_goals exact ⟨by rw [HE.out] <;> rfl, ((Fr.refl _ w).alloc _).then HFa.out⟩
  · by_cases hk1 : x.kind = 1
    · have e1 : (x.kind != 1) = false := by simpa using hk1
      by_cases hr0 : 0 < x.r
      · have q0 : (0 : Int) < (x.r : Int) := by omega
        by_cases hi0 : i = 0
        · have HE := Lib.hid (mark_root (N := N) hi0 (by rw [← HX.out]; exact hr0))
          have e0 : ((i : Int) == 0) = true := by simpa using hi0
          have HI0 := Lib.hid hi0
          clear hi0 hk1
          go_enter Tryz.func46, Tryz.ntmps46
          go_wp2_with fail
          go_ret
          exact ⟨by rw [HE.out] <;> rfl, ((Fr.refl _ w).alloc _)⟩
        · have e0 : ((i : Int) == 0) = false := by simpa using hi0
          have HE := Lib.hid (mark_both (N := N) (i := i) (by rw [← HX.out]; intro e; rcases e with e | e; exact e.2 hk1; exact hi0 e.1) (by rw [← HX.out]; exact HO.out.symm) (by rw [← HX.out]; exact hr0))
          clear hi0 hk1
          go_enter Tryz.func46, Tryz.ntmps46
          go_wp2_with fail
          go_ret
          exact ⟨by rw [HE.out] <;> rfl, ((Fr.refl _ w).alloc _)⟩
      · skip
        have q0 : ¬ (0 : Int) < (x.r : Int) := by omega
        have HR := Lib.hid (mark_rest (N := N) (i := i) (by rw [← HX.out]; rw [← HO.out]; intro e; rcases e with ⟨e, k⟩ | e; exact k hk1; omega) (by rw [← HX.out]; omega) (by rw [← HX.out]; omega) (by rw [← HX.out]; omega) (by rw [← HX.out]; omega))
        rw [← HX.out] at HR
        cases e0 : ((i : Int) == 0)
        all_goals
          rcases lastAt_cases N ((N i).depth - 1) i with hp | ⟨p, hp1, hp⟩
          · have hpar : parF N i = -1 := hp
            have HE := Lib.hid (HR.out.trans (if_neg (fun e => by rw [hpar] at e; omega)))
            rw [hpar] at CA
            clear hp hpar
            have e5 : (x.kind == 5) = false := by rw [hk1]; rfl
            clear hk1
            go_enter Tryz.func46, Tryz.ntmps46
            go_wp2_with (go_at_call 34; go_must (refine (CA.out _ ((Fr.refl _ w).alloc _)).mono ?_; rintro e wa ⟨rfl, hF⟩; have HFa := Lib.hid hF; have hrr := HRX.out wa HFa.out; have k2 : wa.cell? ⟨w.heap.size, 2, none⟩ = some (.int .i64 x.kind) := hrr.cell 2; have k8 : wa.cell? ⟨w.heap.size, 8, none⟩ = some (.bool true) := hrr.cell 8; have k9 : wa.cell? ⟨w.heap.size, 9, none⟩ = some (.slice h.aR x.r h.cR) := hrr.cell 9; clear hrr; clear hF))
            all_goals go_ret
            all_goals exact ⟨by rw [HE.out] <;> rfl, ((Fr.refl _ w).alloc _).then HFa.out⟩
          · have hpar : parF N i = p := hp
            have HPB := Lib.hid (fun w0 (hG : Fr (fun _ => False) w w0) => (HC.out w0 hG p (by omega)).c8)
            have HQ := Lib.hid (show (nodeAt N (parF N i)).opq = (N p).opq by rw [hpar]; rfl)
            rw [hpar] at CA
            have g3 : (p : Int) < n := by omega
            have g4 : (0 : Int) ≤ (p : Int) := by omega
            have HE := Lib.hid (HR.out.trans (if_neg (fun e => by rw [hk1] at e; omega)))
            have e5 : (x.kind == 5) = false := by rw [hk1]; rfl
            clear hp hpar hk1
            go_enter Tryz.func46, Tryz.ntmps46
            go_wp2_with (go_at_call 34; go_must (refine (CA.out _ ((Fr.refl _ w).alloc _)).mono ?_; rintro e wa ⟨rfl, hF⟩; have HFa := Lib.hid hF; have hrr := HRX.out wa HFa.out; have k2 : wa.cell? ⟨w.heap.size, 2, none⟩ = some (.int .i64 x.kind) := hrr.cell 2; have k8 : wa.cell? ⟨w.heap.size, 8, none⟩ = some (.bool true) := hrr.cell 8; have k9 : wa.cell? ⟨w.heap.size, 9, none⟩ = some (.slice h.aR x.r h.cR) := hrr.cell 9; clear hrr; clear hF))
            all_goals go_ret
            all_goals exact ⟨by rw [HE.out] <;> rfl, ((Fr.refl _ w).alloc _).then HFa.out⟩
    · have e1 : (x.kind != 1) = true := by simpa using hk1
      have HE := Lib.hid (mark_kind (N := N) (i := i) (by rw [← HX.out]; exact ⟨Or.inl HO.out.symm, hk1⟩))
      clear hk1
      go_enter Tryz.func46, Tryz.ntmps46
      go_wp2_with fail
      go_ret
      exact ⟨by rw [HE.out] <;> rfl, ((Fr.refl _ w).alloc _)⟩
end Go.Proofs.YtogjfifpbplahaaGreatDoor
