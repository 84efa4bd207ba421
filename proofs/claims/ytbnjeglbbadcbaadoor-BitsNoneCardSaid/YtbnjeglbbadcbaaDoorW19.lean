/- The law's helpers: made, example. -/
import Derived.Test.YtbnjeglbbadcbaaDoorW18
namespace Go.Proofs.YtbnjeglbbadcbaaDoor
open Go.RowKit
open BM
set_option linter.unusedVariables false

theorem bb_bytesN (l : List Bool) (p : Nat) : bb (bytesN l) p = bt l p := by
  unfold bb
  by_cases h : p / 8 < (l.length + 7) / 8
  · rw [List.getD_eq_getElem?_getD, List.getElem?_eq_getElem (by rw [bytesN_length]; exact h)]
    simp only [bytesN, List.getElem_map, List.getElem_range, Option.getD_some, byteN_testBit]
    rw [show 8 * (p / 8) + p % 8 = p by omega]
    have : p % 8 < 8 := by omega
    simp [this]
  · rw [List.getD_eq_getElem?_getD, List.getElem?_eq_none (by rw [bytesN_length]; omega)]
    rw [bt_out (by omega)]
    simp
theorem mkL_bytesN (l : List Bool) : mkL l.length (bb (bytesN l)) = l := by
  rw [mkL_congr (g := bt l) (fun p _ => bb_bytesN l p), mkL_bt]
theorem loadE_bytesN (l : List Bool) (h : l.length ≤ 4096) : loadE (l.length : Int) (bytesN l) = 0 := by
  unfold loadE
  rw [if_pos (by omega), Int.toNat_natCast, mkL_bytesN, if_pos rfl]
theorem RowB.arg {w : World} {b : Nat} {bs : List Nat} (h : RowB w b 5 (bvs bs)) : Arg w (some ⟨b, 0, none⟩) bs := by
  refine Or.inr ⟨b, 0, rfl, h.lt, fun j hj => ?_⟩
  rw [Nat.zero_add, h.cell j]
  simp [bvs, hj]
/-- the bits that `made` draws -/
def drawn (bs : List Nat) (i : Nat) : Bool := (bs.getD (i / 8 % bs.length) 0).testBit (i % 8)
def madeL (n : Nat) (bs : List Nat) : List Bool := mkL (n % 601) (drawn bs)
theorem madeL_length (n : Nat) (bs : List Nat) : (madeL n bs).length = n % 601 := mkL_length _ _
/-- a map and its list -/
def Pair (w w' : World) (l : List Bool) (e : Ending) : Prop :=
  ∃ m a c, e = .returned (.tuple #[.pointer (some ⟨m, 0, none⟩), .slice (some ⟨a, 0, none⟩) l.length c]) ∧ IsMap w' m l ∧ BoolS w' a l ∧ w.heap.size ≤ m ∧ w.heap.size ≤ a ∧ Fr (fun _ => False) w w'
def Got (w : World) (l : List Bool) (e : Ending) (w' : World) : Prop := Pair w w' l e
theorem IsMap.fr {S : Nat → Prop} {w w' : World} {b : Nat} {l : List Bool} (h : IsMap w b l) (f : Fr S w w') (hb : ¬ S b) : IsMap w' b l := ⟨h.1.fr f hb, h.2⟩
theorem IsMap.drewN {w : World} {b : Nat} {l : List Bool} (h : IsMap w b l) (k : Nat) : IsMap (w.drewN k) b l := ⟨h.1.drewN k, h.2⟩
theorem IsMap.lt {w : World} {b : Nat} {l : List Bool} (h : IsMap w b l) : b < w.heap.size := h.1.lt
theorem IsMap.ne_bools {w : World} {b a : Nat} {l k : List Bool} (hm : IsMap w b l) (hk : BoolS w a k) : a ≠ b := by
  rintro rfl
  obtain ⟨ex, hk⟩ := hk
  have h1 := hm.1
  unfold MapB at h1
  unfold RowB at hk
  rw [h1] at hk
  injection hk with hk
  injection hk with _ h2
  cases h2
theorem load_bytesN (n b c : Nat) (l : List Bool) (w : World) (hn : l.length = n) (h : RowB w b 5 (bvs (bytesN l))) (hl : n ≤ 4096) :
    Calls Tryd.prog 19 #[.int .i64 n, .slice (some ⟨b, 0, none⟩) ((n + 7) / 8) c] w fun e w' => e = .returned (.tuple #[.pointer (some ⟨w.heap.size, 0, none⟩), .int .i64 0]) ∧ IsMap w' w.heap.size l ∧ Fr (fun _ => False) w w' := by
  subst hn
  have := load_walk (l.length : Int) (some ⟨b, 0, none⟩) (bytesN l) c w h.arg (bytesN_lt l) (fun h => by cases h)
  rw [bytesN_length, loadE_bytesN l hl, Int.toNat_natCast, mkL_bytesN] at this
  refine this.mono ?_
  rintro e w' ⟨hF, h⟩
  rw [if_pos rfl] at h
  exact ⟨h.1, h.2, hF⟩

set_option maxRecDepth 100000 in
set_option maxHeartbeats 2000000 in
theorem made_some (n N m b o c : Nat) (bs : List Nat) (w : World) (hn16 : n < 65536) (hN : n % 601 = N) (hm : bs.length = m) (hm0 : 0 < m) (hm2 : m ≤ 9223372036854775807) (hlt0 : b < w.heap.size)
    (hc : ∀ j, j < m → w.cell? ⟨b, o + j, none⟩ = some (.int .u8 ((bs.getD j 0 : Nat) : Int))) (L : List Bool) (hL : L = mkL N (drawn bs)) :
    Calls Tryd.prog 11 #[.int .u16 n, .slice (some ⟨b, o, none⟩) m c] w (Got w L) := by
  have hmk := make_bools N (by omega)
  have HC := Lib.hid hc
  have HLN := Lib.hid (show L.length = N by rw [hL, mkL_length])
  have HL := Lib.hid hL
  have hmod : (n : Int).tmod 601 = (N : Int) := by rw [Int.tmod_eq_emod_of_nonneg (by omega)]; omega
  have hmod2 : (n : Int) % 601 = (N : Int) := by omega
  have hN6 : N ≤ 600 := by omega
  clear hc hL hN
  go_enter Tryd.func11, Tryd.ntmps11
  go_wp2
  have hM0 : BoolS (w.alloc (.cells (lvs (List.replicate N false)).toArray 4)) w.heap.size (mkL N (fun _ => false)) := ⟨[], by rw [List.append_nil, ← rep_mkL]; exact RowB.new w 4 _⟩
  have hF0 : Fr (fun _ => False) w (w.alloc (.cells (lvs (List.replicate N false)).toArray 4)) := (Fr.refl _ w).alloc _
  generalize w.alloc (.cells (lvs (List.replicate N false)).toArray 4) = W0 at *
  have HM0 := Lib.hid hM0
  have HF0 := Lib.hid hF0
  clear hM0 hF0
  go_loopw [7] (fun i wr => ∃ k : Nat, k ≤ N ∧ i = .int .i64 k ∧ BoolS wr w.heap.size (mkL N (fun p => if p < k then drawn bs p else false)) ∧ Fr (fun _ => False) w wr) (fun i _ => (N - intOf i).toNat)
  case atStart => exact ⟨0, by omega, rfl, by simpa using HM0.out, HF0.out⟩
  case round =>
    obtain ⟨k, hk, rfl, hR, hF⟩ := hrel
    by_cases hlt : k < N
    · have hjm : k / 8 % m < m := Nat.mod_lt _ hm0
      have c1 : wr.cell? ⟨b, o + k / 8 % m, none⟩ = some (.int .u8 ((bs.getD (k / 8 % m) 0 : Nat) : Int)) := by
        rw [← HC.out (k / 8 % m) hjm]; exact World.cell?_of_block (hF.block b hlt0 (fun h => h))
      have hbit := bit_of (bs.getD (k / 8 % m) 0) (k % 8)
      have hbb : drawn bs k = (bs.getD (k / 8 % m) 0).testBit (k % 8) := by rw [← hm]; rfl
      rw [← hbb] at hbit
      clear hbb
      have hi0 : ((k : Int) / 8).tmod (m : Int) = ((k / 8 % m : Nat) : Int) := by rw [Int.tmod_eq_emod_of_nonneg (by omega), Int.natCast_emod, Int.natCast_ediv]; rfl
      have c3 := hR.cell (j := k) (by rw [mkL_length]; exact hlt)
      have f1 := hR.frozen k
      have HS := hR.set (j := k) (by rw [mkL_length]; exact hlt) (drawn bs k)
      rw [mkL_set] at HS
      rw [mkL_congr (g := fun p => if p < k + 1 then drawn bs p else false) (fun p hp => by
        by_cases e : p = k
        · subst e; simp
        · have : (p < k + 1) ↔ (p < k) := by omega
          simp [e, this])] at HS
      have HS := Lib.hid HS
      have HFs := Lib.hid (hF.setCell (a := ⟨w.heap.size, k, none⟩) (fun h => absurd h (Nat.lt_irrefl _)) (.bool (drawn bs k)))
      clear hR hF
      generalize drawn bs k = x at *
      generalize bs.getD (k / 8 % m) 0 = y at *
      generalize k / 8 % m = j at *
      go_wp2
      go_roundw
      case rel => exact ⟨k + 1, by omega, by go_num, HS.out, HFs.out⟩
      case measure => simp [intOf]; omega
    · obtain rfl : k = N := by omega
      rw [mkL_congr (g := drawn bs) (fun p hp => by rw [if_pos hp])] at hR
      have HBX : Hid (BoolS wr w.heap.size L) := Lib.hid (by rw [HL.out]; exact hR)
      have HF := Lib.hid hF
      have hle := hF.size
      have HLE := Lib.hid hle
      have hL4 : L.length ≤ 4096 := by rw [HLN.out]; omega
      have hN4 : k ≤ 4096 := by omega
      have h600 : (k : Int) ≤ 9223372036854775807 := by omega
      have e0 := HLN.out
      clear hR hF hle
      go_wp2_with (first
        | (go_at_call 29; go_must (rw [← HLN.out]; refine (rbytes_walk _ _ L _ _ (by exact HBX.out.choose_spec) (by exact hL4)).mono ?_; rintro e w1 ⟨rfl, hR1, hF1⟩; have HR1 := Lib.hid hR1; have HF1 := Lib.hid hF1; rw [HLN.out]; clear hR1 hF1))
        | (go_at_call 19; go_must (refine (load_bytesN _ _ _ L _ (by exact HLN.out) (by exact HR1.out) (by exact hN4)).mono ?_; rintro e w2 ⟨rfl, hM2, hF2⟩; have HM2 := Lib.hid hM2; have HF2 := Lib.hid hF2; clear hM2 hF2))
        | (go_at_call 18; go_must (rw [← HLN.out]; refine (lsame_walk _ _ _ L L _ (by exact HM2.out) (by exact (HBX.out.fr HF1.out (fun h => h)).fr HF2.out (fun h => h))).mono ?_; rintro e w3 ⟨rfl, hF3⟩; have HF3 := Lib.hid hF3; clear hF3)))
      go_ret2
      refine ⟨_, _, k, ?_, IsMap.fr HM2.out HF3.out (fun h => h), ((HBX.out.fr HF1.out (fun h => h)).fr HF2.out (fun h => h)).fr HF3.out (fun h => h), ?_, Nat.le_refl _, ?_⟩
      · rw [HLN.out]; first | rfl | skip
      · exact Nat.le_trans HLE.out HF1.out.size
      · exact ((HF.out.trans HF1.out (fun _ _ h => h)).trans HF2.out (fun _ _ h => h)).trans HF3.out (fun _ _ h => h)


set_option maxRecDepth 100000 in
set_option maxHeartbeats 2000000 in
theorem made_none (n k c : Nat) (a0 : Option Addr) (w : World) (hn16 : n < 65536) (hN : n % 601 = k) (L : List Bool) (hL : L = mkL k (fun _ => false)) :
    Calls Tryd.prog 11 #[.int .u16 n, .slice a0 0 c] w (Got w L) := by
  have hmk := make_bools k (by omega)
  have HLN := Lib.hid (show L.length = k by rw [hL, mkL_length])
  have HL := Lib.hid hL
  have hmod : (n : Int).tmod 601 = (k : Int) := by rw [Int.tmod_eq_emod_of_nonneg (by omega)]; omega
  have hmod2 : (n : Int) % 601 = (k : Int) := by omega
  have hN6 : k ≤ 600 := by omega
  clear hL hN
  go_enter Tryd.func11, Tryd.ntmps11
  go_wp2
  have hM0 : BoolS (w.alloc (.cells (lvs (List.replicate k false)).toArray 4)) w.heap.size (mkL k (fun _ => false)) := ⟨[], by rw [List.append_nil, ← rep_mkL]; exact RowB.new w 4 _⟩
  have hF0 : Fr (fun _ => False) w (w.alloc (.cells (lvs (List.replicate k false)).toArray 4)) := (Fr.refl _ w).alloc _
  generalize w.alloc (.cells (lvs (List.replicate k false)).toArray 4) = wr at *
  have HBX : Hid (BoolS wr w.heap.size L) := Lib.hid (by rw [HL.out]; exact hM0)
  have HF := Lib.hid hF0
  have HLE := Lib.hid hF0.size
  clear hM0 hF0
  have hL4 : L.length ≤ 4096 := by rw [HLN.out]; omega
  have hN4 : k ≤ 4096 := by omega
  refine wp_loop_once ?_
  rcases Nat.eq_zero_or_pos k with h0 | h0
  · have hk0 : (k : Int) ≤ 0 := by omega
    have e0 := HLN.out
    clear h0
    go_wp2_with (first
      | (go_at_call 29; go_must (rw [← HLN.out]; refine (rbytes_walk _ _ L _ _ (by exact HBX.out.choose_spec) (by exact hL4)).mono ?_; rintro e w1 ⟨rfl, hR1, hF1⟩; have HR1 := Lib.hid hR1; have HF1 := Lib.hid hF1; rw [HLN.out]; clear hR1 hF1))
      | (go_at_call 19; go_must (refine (load_bytesN _ _ _ L _ (by exact HLN.out) (by exact HR1.out) (by exact hN4)).mono ?_; rintro e w2 ⟨rfl, hM2, hF2⟩; have HM2 := Lib.hid hM2; have HF2 := Lib.hid hF2; clear hM2 hF2))
      | (go_at_call 18; go_must (rw [← HLN.out]; refine (lsame_walk _ _ _ L L _ (by exact HM2.out) (by exact (HBX.out.fr HF1.out (fun h => h)).fr HF2.out (fun h => h))).mono ?_; rintro e w3 ⟨rfl, hF3⟩; have HF3 := Lib.hid hF3; clear hF3)))
    go_ret2
    refine ⟨_, _, k, ?_, IsMap.fr HM2.out HF3.out (fun h => h), ((HBX.out.fr HF1.out (fun h => h)).fr HF2.out (fun h => h)).fr HF3.out (fun h => h), ?_, Nat.le_refl _, ?_⟩
    · rw [HLN.out]; first | rfl | skip
    · exact Nat.le_trans HLE.out HF1.out.size
    · exact ((HF.out.trans HF1.out (fun _ _ h => h)).trans HF2.out (fun _ _ h => h)).trans HF3.out (fun _ _ h => h)

  · have hk0 : (0 : Int) < (k : Int) := by omega
    have h600 : (k : Int) ≤ 9223372036854775807 := by omega
    have e0 := HLN.out
    go_wp2_with (first
      | (go_at_call 29; go_must (rw [← HLN.out]; refine (rbytes_walk _ _ L _ _ (by exact HBX.out.choose_spec) (by exact hL4)).mono ?_; rintro e w1 ⟨rfl, hR1, hF1⟩; have HR1 := Lib.hid hR1; have HF1 := Lib.hid hF1; rw [HLN.out]; clear hR1 hF1))
      | (go_at_call 19; go_must (refine (load_bytesN _ _ _ L _ (by exact HLN.out) (by exact HR1.out) (by exact hN4)).mono ?_; rintro e w2 ⟨rfl, hM2, hF2⟩; have HM2 := Lib.hid hM2; have HF2 := Lib.hid hF2; clear hM2 hF2))
      | (go_at_call 18; go_must (rw [← HLN.out]; refine (lsame_walk _ _ _ L L _ (by exact HM2.out) (by exact (HBX.out.fr HF1.out (fun h => h)).fr HF2.out (fun h => h))).mono ?_; rintro e w3 ⟨rfl, hF3⟩; have HF3 := Lib.hid hF3; clear hF3)))
    go_ret2
    refine ⟨_, _, k, ?_, IsMap.fr HM2.out HF3.out (fun h => h), ((HBX.out.fr HF1.out (fun h => h)).fr HF2.out (fun h => h)).fr HF3.out (fun h => h), ?_, Nat.le_refl _, ?_⟩
    · rw [HLN.out]; first | rfl | skip
    · exact Nat.le_trans HLE.out HF1.out.size
    · exact ((HF.out.trans HF1.out (fun _ _ h => h)).trans HF2.out (fun _ _ h => h)).trans HF3.out (fun _ _ h => h)

/-- **made** -/
theorem made_walk (n c : Nat) (a0 : Option Addr) (bs : List Nat) (w : World) (hn : n < 65536) (hA : Arg w a0 bs) (hlen : bs.length ≤ 9223372036854775807) :
    Calls Tryd.prog 11 #[.int .u16 n, .slice a0 bs.length c] w (Got w (madeL n bs)) := by
  by_cases h : bs = []
  · subst h
    exact made_none n (n % 601) c a0 w hn rfl _ (mkL_congr (fun p _ => by simp [drawn]))
  · rcases hA with ⟨_, h2⟩ | ⟨b, o, rfl, h2, h3⟩
    · exact absurd h2 h
    · exact made_some n (n % 601) bs.length b o c bs w hn rfl rfl (List.length_pos_iff.2 h) hlen h2 h3 _ rfl
end Go.Proofs.YtbnjeglbbadcbaaDoor
