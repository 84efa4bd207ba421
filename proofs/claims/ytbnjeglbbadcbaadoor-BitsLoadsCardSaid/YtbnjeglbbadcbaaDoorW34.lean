/- Load of an argument that is empty, wherever it lies; New and Load as the law BitsLoads wants them. -/
import Derived.Test.YtbnjeglbbadcbaaDoorW22
import Derived.Test.YtbnjeglbbadcbaaDoorW21
namespace Go.Proofs.YtbnjeglbbadcbaaDoor
open Go.RowKit
open BM
set_option linter.unusedVariables false

set_option maxRecDepth 100000 in
set_option maxHeartbeats 1000000 in
theorem load_zero (n : Nat) (a0 : Option Addr) (c : Nat) (w : World) (hn : n ≤ 4096) (hl : 0 = (n + 7) / 8) :
    Calls Tryd.prog 19 #[.int .i64 n, .slice a0 0 c] w (LoadP w (eqW (trimW (wP [] 0) n) (wP [] 0) 0 64) w.heap.size n (trimW (wP [] 0) n)) := by
  have hN := new_in n w hn
  have HN := Lib.hid hN
  have HL := Lib.hid hl
  have t1 : ((0 : Int) != ((n : Int) + 7) / 8) = false := by simp; omega
  have t2 : ((0 : Int) == ((n : Int) + 7) / 8) = true := by simp; omega
  clear hN hl
  go_enter Tryd.func19, Tryd.ntmps19
  go_wp2_with (first | (go_at_call 16; refine (HN.out).mono ?_; rintro e w' ⟨rfl, rfl⟩))
  have hM0 : MapB (w.alloc (.cells (mcells (fun _ => 0) n true) 68)) w.heap.size (fun _ => 0) n true := MapB.new w _ n true
  have hF0 : Fr (fun _ => False) w (w.alloc (.cells (mcells (fun _ => 0) n true) 68)) := (Fr.refl _ w).alloc _
  generalize w.alloc (.cells (mcells (fun _ => 0) n true) 68) = W0 at *
  have HM0 := Lib.hid hM0
  have HF0 := Lib.hid hF0
  clear hM0 hF0 t1 t2
  go_loopw [27] (fun i wr => ∃ k : Nat, k ≤ 0 ∧ i = .int .i64 k ∧ MapB wr w.heap.size (wP [] 0) n true ∧ Fr (fun _ => False) w wr) (fun i _ => (0 - intOf i).toNat)
  case atStart => exact ⟨0, by omega, rfl, HM0.out.congr (fun j _ => (wP_zero [] j).symm), HF0.out⟩
  case round =>
    obtain ⟨k, hk, rfl, hM, hF⟩ := hrel
    obtain rfl : k = 0 := by omega
    have hr := Lib.hid hM.range
    have hi66 := Lib.hid (show (Tryd.prog.info? 66).map (·.size) = some (wlist (wP [] 0)).length by rw [wlist_length]; exact info66)
    have HM := Lib.hid hM
    have HF := Lib.hid hF
    clear hM hF
    go_wp2_with (first | (refine wpList_load_mid rfl 66 _ rfl w.heap.size 0 rfl (wlist (wP [] 0)) _ hr.out Tryd.underlying66 rfl hi66.out ?_) | (refine wpList_alloc_given rfl 66 rfl _ (zero66 _) ?_) | (refine wpList_store_row rfl 66 _ _ rfl wr.heap.size (wlist (wP [] 0)).toArray rfl rfl 66 (wlist (fun _ => 0)).toArray (heap_alloc_last wr _) (info66' _) (wlist_size _ _) (wlist_one _) ?_; rw [World.setRow_alloc_new wr]))
    have hW1 : MapB (wr.alloc (.cells (wlist (wP [] 0)).toArray 66)) w.heap.size (wP [] 0) n true := HM.out.fr ((Fr.refl (fun _ => False) wr).alloc _) (fun h => h)
    have hW2 : RowB (wr.alloc (.cells (wlist (wP [] 0)).toArray 66)) wr.heap.size 66 (wlist (wP [] 0)) := RowB.new wr 66 _
    have hW3 : Fr (fun _ => False) w (wr.alloc (.cells (wlist (wP [] 0)).toArray 66)) := HF.out.alloc _
    generalize wr.alloc (.cells (wlist (wP [] 0)).toArray 66) = W1 at *
    refine (trim_walk w.heap.size n (wP [] 0) true _ hW1 hn (fun j _ => wP_lt _ _ _)).mono ?_
    rintro e W2 ⟨rfl, ht1, ht2⟩
    have hW4 : RowB W2 wr.heap.size 66 (wlist (wP [] 0)) := hW2.fr ht2 (fun h => by have := HM.out.lt; omega)
    have hW5 : Fr (fun _ => False) w W2 := hW3.trans ht2 (fun k h1 h2 => by omega)
    have la := Lib.hid ht1.range
    have lb := Lib.hid (wlist_range _ _ _ _ hW4)
    have HM2 := Lib.hid ht1
    have HF2 := Lib.hid hW5
    have we := fun W => words_neq (trimW (wP [] 0) n) (wP [] 0) W
    have la1 := Lib.hid (wlist_length (trimW (wP [] 0) n))
    have lb1 := Lib.hid (wlist_length (wP [] 0))
    clear hW1 hW2 hW3 hW4 hW5 ht1 ht2 hr hi66
    generalize wlist (trimW (wP [] 0) n) = xs at *
    generalize wlist (wP [] 0) = ys at *
    generalize hr : eqW (trimW (wP [] 0) n) (wP [] 0) 0 64 = r at *
    clear hr
    cases r
    all_goals
      simp only [Bool.not_true, Bool.not_false] at we
      go_wp2
      refine wp_region_quiet_lit (by kernel_rfl) (by kernel_rfl) ?_
      repeat (go_big_quiet_step (fail))
      refine wpQuiet_load_mid rfl 66 _ rfl w.heap.size 0 rfl xs _ (fun W hW => by obtain ⟨n, rfl⟩ := hW; exact la.out) Tryd.underlying66 rfl (by rw [la1.out]; exact info66) ?_
      go_simp
      repeat (go_big_quiet_step (fail))
      refine wpQuiet_load_mid rfl 66 _ rfl wr.heap.size 0 rfl ys _ (fun W hW => by obtain ⟨n, rfl⟩ := hW; exact lb.out) Tryd.underlying66 rfl (by rw [lb1.out]; exact info66) ?_
      go_simp
      repeat (go_big_quiet_step (fail))
      refine wpQuiet_nil ?_
      go_simp
      intro nq
      go_wp2
      go_ret2
      first
      | exact ⟨HF2.out.drewN _, by rw [if_pos rfl]; exact ⟨rfl, HM2.out⟩⟩
      | exact ⟨HF2.out.drewN _, by rw [if_neg (by decide)]; rfl⟩
set_option maxRecDepth 100000 in
set_option maxHeartbeats 2000000 in
theorem rload_zero (a0 : Option Addr) (c : Nat) (w : World) :
    Calls Tryd.prog 20 #[.int .i64 0, .slice a0 0 c] w (RMade w 0 0 []) := by
  have HN := Lib.hid (rnew_in 0 w (by omega))
  go_enter Tryd.func20, Tryd.ntmps20
  go_wp2_with (first | (go_at_call 17; refine (HN.out).mono ?_; rintro e w' ⟨rfl, rfl⟩))
  refine wp_loop_once ?_
  go_wp2
  go_ret2
  refine ⟨(Fr.refl _ w).alloc _, ?_⟩
  rw [if_pos rfl]
  exact ⟨rfl, [], RowB.new w 4 _⟩


theorem ArgW.arg {w : World} {a0 : Option Addr} {bs : List Nat} (h : ArgW w a0 bs) (hn : bs ≠ []) : Arg w a0 bs := by
  rcases h with h | h
  · exact absurd h hn
  · exact Or.inr h
/-- **Load**, of whatever bytes -/
theorem loadW (n : Int) (a0 : Option Addr) (bs : List Nat) (c : Nat) (w : World) (hA : ArgW w a0 bs) (hb : ∀ x ∈ bs, x < 256) :
    Calls Tryd.prog 19 #[.int .i64 n, .slice a0 bs.length c] w (Made w (loadE n bs) w.heap.size (mkL n.toNat (bb bs))) := by
  by_cases he : bs = []
  · subst he
    by_cases hn : 0 ≤ n ∧ n ≤ 4096
    · obtain ⟨N, rfl⟩ := Int.eq_ofNat_of_zero_le hn.1
      by_cases h0 : N = 0
      · subst h0
        have e1 : loadE ((0 : Nat) : Int) [] = 0 := by unfold loadE; rw [if_pos hn]; rfl
        rw [e1]
        refine (load_zero 0 a0 c w (by omega) rfl).mono ?_
        rintro e w' ⟨h1, h2⟩
        have hx : bytesN (mkL 0 (bb [])) = [] := rfl
        have hxx : eqW (trimW (wP [] 0) 0) (wP [] 0) 0 64 = true := (load_iff [] 0 (by omega) rfl (fun _ h => by cases h)).2 hx
        rw [if_pos hxx] at h2
        refine ⟨h1, ?_⟩
        rw [if_pos rfl]
        exact ⟨h2.1, h2.2.congr (fun k _ => wP_trim [] 0 _ rfl (by omega) k), by simp [mkL_length]⟩
      · have hl : ([] : List Nat).length ≠ (N + 7) / 8 := by simp; omega
        have hx : ¬ bytesN (mkL N (bb [])) = [] := fun h => hl (by rw [← h, bytesN_length, mkL_length])
        have e1 : loadE (N : Int) [] = 6 := by unfold loadE; rw [if_pos hn, Int.toNat_natCast, if_neg hx]
        rw [e1]
        refine (load_len N a0 0 c w (by omega) (by simpa using hl)).mono ?_
        rintro e w' ⟨rfl, h⟩
        exact ⟨h, by rw [if_neg (by decide)]⟩
    · have e1 : loadE n [] = 7 := by unfold loadE; rw [if_neg hn]
      rw [e1]
      refine (load_range n a0 0 c w (by omega)).mono ?_
      rintro e w' ⟨rfl, rfl⟩
      exact ⟨Fr.refl _ _, by rw [if_neg (by decide)]⟩
  · have hA' := hA.arg he
    exact load_walk n a0 bs c w hA' hb (fun h => by
      rcases hA' with ⟨_, h2⟩ | ⟨b, o, h2, _⟩
      · exact absurd h2 he
      · rw [h] at h2; cases h2)
/-- **the reference's Load**, of whatever bytes -/
theorem rloadW (n : Int) (a0 : Option Addr) (bs : List Nat) (c : Nat) (w : World) (hA : ArgW w a0 bs) (hb : ∀ x ∈ bs, x < 256) :
    Calls Tryd.prog 20 #[.int .i64 n, .slice a0 bs.length c] w (RMade w (loadE n bs) n.toNat (mkL n.toNat (bb bs))) := by
  by_cases he : bs = []
  · subst he
    by_cases hn : 0 ≤ n ∧ n ≤ 4096
    · obtain ⟨N, rfl⟩ := Int.eq_ofNat_of_zero_le hn.1
      by_cases h0 : N = 0
      · subst h0
        have e1 : loadE ((0 : Nat) : Int) [] = 0 := by unfold loadE; rw [if_pos hn]; rfl
        rw [e1]
        exact rload_zero a0 c w
      · have hl : ([] : List Nat).length ≠ (N + 7) / 8 := by simp; omega
        have hx : ¬ bytesN (mkL N (bb [])) = [] := fun h => hl (by rw [← h, bytesN_length, mkL_length])
        have e1 : loadE (N : Int) [] = 6 := by unfold loadE; rw [if_pos hn, Int.toNat_natCast, if_neg hx]
        rw [e1]
        refine (rload_len N a0 0 c w (by omega) (by simpa using hl)).mono ?_
        rintro e w' ⟨rfl, h⟩
        exact ⟨h, by rw [if_neg (by decide)]⟩
    · have e1 : loadE n [] = 7 := by unfold loadE; rw [if_neg hn]
      rw [e1]
      refine (rload_range n a0 0 c w (by omega)).mono ?_
      rintro e w' ⟨rfl, rfl⟩
      exact ⟨Fr.refl _ _, by rw [if_neg (by decide)]⟩
  · have hA' := hA.arg he
    exact rload_walk n a0 bs c w hA' hb (fun h => by
      rcases hA' with ⟨_, h2⟩ | ⟨b, o, h2, _⟩
      · exact absurd h2 he
      · rw [h] at h2; cases h2)

theorem word_false (n k : Nat) : word (mkL n (fun _ => false)) k = 0 := by
  symm
  apply eq_word (by decide)
  intro j _
  rw [bt_mkL]
  simp
theorem newm (N : Nat) (w : World) (hN : N ≤ 4096) :
    Calls Tryd.prog 16 #[.int .i64 N] w fun e w' => ∃ b, e = .returned (.tuple #[.pointer (some ⟨b, 0, none⟩), .int .i64 0]) ∧ IsMap w' b (mkL N (fun _ => false)) ∧ Fr (fun _ => False) w w' := by
  refine (new_in N w hN).mono ?_
  rintro e w' ⟨rfl, rfl⟩
  refine ⟨_, rfl, ⟨?_, by rw [mkL_length]; exact hN⟩, (Fr.refl _ w).alloc _⟩
  rw [mkL_length]
  exact (MapB.new w _ N true).congr (fun k _ => (word_false N k).symm)
theorem rnewm (N : Nat) (w : World) (hN : N ≤ 4096) :
    Calls Tryd.prog 17 #[.int .i64 N] w fun e w' => ∃ b, e = .returned (.tuple #[.slice (some ⟨b, 0, none⟩) N N, .int .i64 0]) ∧ BoolS w' b (mkL N (fun _ => false)) ∧ Fr (fun _ => False) w w' := by
  refine (rnew_in N w hN).mono ?_
  rintro e w' ⟨rfl, rfl⟩
  exact ⟨_, rfl, ⟨[], by rw [List.append_nil, ← rep_mkL]; exact RowB.new w 4 _⟩, (Fr.refl _ w).alloc _⟩
end Go.Proofs.YtbnjeglbbadcbaaDoor
