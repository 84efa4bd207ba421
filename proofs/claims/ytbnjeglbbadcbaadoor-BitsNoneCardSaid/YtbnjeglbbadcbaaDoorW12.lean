/- Load of package bits. -/
import Derived.Test.YtbnjeglbbadcbaaDoorW11
namespace Go.Proofs.YtbnjeglbbadcbaaDoor
open Go.RowKit
open BM
set_option linter.unusedVariables false

/-- A slice of bytes that came in, or was made. -/
def Arg (w : World) (a0 : Option Addr) (bs : List Nat) : Prop :=
  (a0 = none ∧ bs = []) ∨ ∃ b o, a0 = some ⟨b, o, none⟩ ∧ b < w.heap.size ∧ ∀ j, j < bs.length → w.cell? ⟨b, o + j, none⟩ = some (.int .u8 ((bs.getD j 0 : Nat) : Int))
theorem Arg.fr {S : Nat → Prop} {w w' : World} {a0 : Option Addr} {bs : List Nat} (h : Arg w a0 bs) (f : Fr S w w') (hS : ∀ b, b < w.heap.size → ¬ S b) : Arg w' a0 bs := by
  rcases h with h | ⟨b, o, h1, h2, h3⟩
  · exact .inl h
  · refine .inr ⟨b, o, h1, Nat.lt_of_lt_of_le h2 f.size, fun j hj => ?_⟩
    rw [← h3 j hj]
    exact World.cell?_of_block (f.block b h2 (hS b h2))

/-- the bit p of some bytes -/
def bb (bs : List Nat) (p : Nat) : Bool := (bs.getD (p / 8) 0).testBit (p % 8)
/-- the words of the first k bytes -/
def wP (bs : List Nat) (k i : Nat) : Nat := bitsOf (fun j => decide (64 * i + j < 8 * k) && bb bs (64 * i + j)) 64
theorem wP_lt (bs : List Nat) (k i : Nat) : wP bs k i < 18446744073709551616 := bitsOf_lt _ 64
theorem wP_testBit (bs : List Nat) (k i j : Nat) : (wP bs k i).testBit j = (decide (j < 64) && (decide (64 * i + j < 8 * k) && bb bs (64 * i + j))) := testBit_bitsOf _ _ _
theorem wP_zero (bs : List Nat) (i : Nat) : wP bs 0 i = 0 := by
  symm; apply eq_bitsOf (by decide)
  intro j hj; simp
theorem getD_byte {bs : List Nat} (hb : ∀ x ∈ bs, x < 256) (k : Nat) : bs.getD k 0 < 256 := by
  rw [List.getD_eq_getElem?_getD]
  rcases Nat.lt_or_ge k bs.length with h | h
  · rw [List.getElem?_eq_getElem h]; exact hb _ (List.getElem_mem h)
  · rw [List.getElem?_eq_none h]; simp
theorem wP_step (bs : List Nat) (hb : ∀ x ∈ bs, x < 256) (k : Nat) (i : Nat) : upd (wP bs k) (k / 8) (wP bs k (k / 8) ||| bs.getD k 0 * 2 ^ (k % 8 * 8)) i = wP bs (k + 1) i := by
  have hx := getD_byte hb k
  unfold upd
  by_cases e : i = k / 8
  · rw [if_pos e]
    have hlt : bs.getD k 0 * 2 ^ (k % 8 * 8) < 2 ^ 64 := by
      have h1 : bs.getD k 0 * 2 ^ (k % 8 * 8) < 2 ^ 8 * 2 ^ (k % 8 * 8) := Nat.mul_lt_mul_of_pos_right hx (Nat.two_pow_pos _)
      rw [← Nat.pow_add] at h1
      exact Nat.lt_of_lt_of_le h1 (Nat.pow_le_pow_right (by omega) (by omega))
    apply eq_bitsOf (Nat.or_lt_two_pow (wP_lt _ _ _) hlt)
    intro j hj
    rw [Nat.testBit_or, wP_testBit, Nat.testBit_mul_two_pow]
    subst e
    by_cases h1 : k % 8 * 8 ≤ j
    · by_cases h2 : j < k % 8 * 8 + 8
      · have e1 : (64 * (k / 8) + j) / 8 = k := by omega
        have e2 : (64 * (k / 8) + j) % 8 = j - k % 8 * 8 := by omega
        have e3 : ¬ 64 * (k / 8) + j < 8 * k := by omega
        have e4 : 64 * (k / 8) + j < 8 * (k + 1) := by omega
        simp only [bb, e1, e2]
        simp [h1, e3, e4]
      · have e3 : ¬ 64 * (k / 8) + j < 8 * k := by omega
        have e4 : ¬ 64 * (k / 8) + j < 8 * (k + 1) := by omega
        have e5 : (bs.getD k 0).testBit (j - k % 8 * 8) = false := Nat.testBit_lt_two_pow (Nat.lt_of_lt_of_le hx (show 2 ^ 8 ≤ _ from Nat.pow_le_pow_right (by omega) (by omega)))
        rw [e5]
        simp [e3, e4]
    · have e3 : 64 * (k / 8) + j < 8 * k := by omega
      have e4 : 64 * (k / 8) + j < 8 * (k + 1) := by omega
      simp [h1, e3, e4, hj]
  · rw [if_neg e]
    apply bitsOf_congr
    intro j hj
    have : (64 * i + j < 8 * (k + 1)) ↔ (64 * i + j < 8 * k) := by omega
    simp [this]
theorem shl_byte (x y k : Nat) (hx : x < 18446744073709551616) (hy : y < 256) : bits BinOp.or IntKind.u64 (x : Int) (IntKind.u64.wrap ((y : Int) * 2 ^ (k % 8 * 8))) = ((x ||| y * 2 ^ (k % 8 * 8) : Nat) : Int) := by
  have hlt : y * 2 ^ (k % 8 * 8) < 2 ^ 64 := by
    have h1 : y * 2 ^ (k % 8 * 8) < 2 ^ 8 * 2 ^ (k % 8 * 8) := Nat.mul_lt_mul_of_pos_right hy (Nat.two_pow_pos _)
    rw [← Nat.pow_add] at h1
    exact Nat.lt_of_lt_of_le h1 (Nat.pow_le_pow_right (by omega) (by omega))
  have e : (y : Int) * 2 ^ (k % 8 * 8) = ((y * 2 ^ (k % 8 * 8) : Nat) : Int) := by rw [Int.natCast_mul, Int.natCast_pow]; rfl
  rw [e, wrap_u64_nat rfl hlt]
  exact u64_or_nat _ _ hx hlt

theorem zero66 (w : World) : (zeroValue 66).run Tryd.prog w = .ok (.agg (wlist (fun _ => 0)).toArray) w := by
  rw [Tryd.zeroValue66]
  congr 2
theorem wpList_alloc_given {P : Program} {ops : Array Oper} {rest : List Oper} {o : Oper} {a : Act} {w : World} {Q : Exit → Act → World → Prop} (hg : o.guard = none) (t : TypeId) (ho : o.op = .alloc t) (z : Array Value)
    (hz : (zeroValue t).run P w = .ok (.agg z) w) (h : wpList P ops Q rest (a.put o.dst (.pointer (some ⟨w.heap.size, 0, none⟩))) (w.alloc (.cells z t))) : wpList P ops Q (o :: rest) a w := by
  refine wpList_plain hg fun K hK => ?_
  have hr : (execOp a.eval o).run P w = .ok (.value (.pointer (some ⟨w.heap.size, 0, none⟩))) (w.alloc (.cells z t)) := by
    unfold execOp
    simp [ho, Instr.alloc, hz, go_sem, newVar, Value.cells]
  unfold Oper.wp
  rw [hr]
  exact hK _ _ h
theorem wlist_one (ws : Nat → Nat) : (wlist ws).toArray.all (·.oneCell') = true := by
  apply all_oneCell_toArray
  intro v hv
  simp only [wlist, List.mem_map] at hv
  obtain ⟨i, _, rfl⟩ := hv
  rfl
theorem wlist_size (ws ws' : Nat → Nat) : (wlist ws).toArray.size = (wlist ws').toArray.size := by simp [wlist]
theorem info66' (ws : Nat → Nat) : (Tryd.prog.info? 66).map (·.size) = some (wlist ws).toArray.size := by simp only [List.size_toArray, wlist_length]; exact info66
theorem wlist_range (w : World) (b : Nat) (ws : Nat → Nat) (T : TypeId) (h : RowB w b T (wlist ws)) : w.rangeAt b 0 (wlist ws) := by
  intro j v hv
  rw [Nat.zero_add, h.cell j]; exact hv

def LoadP (w : World) (ok : Bool) (b n : Nat) (ws : Nat → Nat) (e : Ending) (w' : World) : Prop :=
  Fr (fun _ => False) w w' ∧ (if ok then e = .returned (.tuple #[.pointer (some ⟨b, 0, none⟩), .int .i64 0]) ∧ MapB w' b ws n true else e = .returned (.tuple #[.pointer none, .int .i64 6]))
set_option maxRecDepth 100000 in
set_option maxHeartbeats 1000000 in
theorem load_some (n m : Nat) (b o c : Nat) (bs : List Nat) (w : World) (hn : n ≤ 4096) (hl : m = (n + 7) / 8) (hlt0 : b < w.heap.size) (hb : ∀ x ∈ bs, x < 256)
    (hc : ∀ j, j < m → w.cell? ⟨b, o + j, none⟩ = some (.int .u8 ((bs.getD j 0 : Nat) : Int))) :
    Calls Tryd.prog 19 #[.int .i64 n, .slice (some ⟨b, o, none⟩) m c] w (LoadP w (eqW (trimW (wP bs m) n) (wP bs m) 0 64) w.heap.size n (trimW (wP bs m) n)) := by
  have hN := new_in n w hn
  have HN := Lib.hid hN
  have HC := Lib.hid hc
  have HL := Lib.hid hl
  have HBB := Lib.hid hb
  have t1 : ((m : Int) != ((n : Int) + 7) / 8) = false := by simp; omega
  have t2 : ((m : Int) == ((n : Int) + 7) / 8) = true := by simp; omega
  have hm4 : m ≤ 512 := by omega
  clear hN hc hl hb
  go_enter Tryd.func19, Tryd.ntmps19
  go_wp2_with (first | (go_at_call 16; refine (HN.out).mono ?_; rintro e w' ⟨rfl, rfl⟩))
  have hM0 : MapB (w.alloc (.cells (mcells (fun _ => 0) n true) 68)) w.heap.size (fun _ => 0) n true := MapB.new w _ n true
  have hF0 : Fr (fun _ => False) w (w.alloc (.cells (mcells (fun _ => 0) n true) 68)) := (Fr.refl _ w).alloc _
  generalize w.alloc (.cells (mcells (fun _ => 0) n true) 68) = W0 at *
  have HM0 := Lib.hid hM0
  have HF0 := Lib.hid hF0
  clear hM0 hF0 t1 t2
  go_loopw [27] (fun i wr => ∃ k : Nat, k ≤ m ∧ i = .int .i64 k ∧ MapB wr w.heap.size (wP bs k) n true ∧ Fr (fun _ => False) w wr) (fun i _ => (m - intOf i).toNat)
  case atStart => exact ⟨0, by omega, rfl, HM0.out.congr (fun j _ => (wP_zero bs j).symm), HF0.out⟩
  case round =>
    obtain ⟨k, hk, rfl, hM, hF⟩ := hrel
    by_cases hlt : k < m
    · have c1 : wr.cell? ⟨b, o + k, none⟩ = some (.int .u8 ((bs.getD k 0 : Nat) : Int)) := by
        rw [← HC.out k hlt]; exact World.cell?_of_block (hF.block b hlt0 (fun h => h))
      have c2 := hM.word (i := k / 8) (by omega)
      have f1 := hM.frozen (k / 8)
      have g1 : (0 : Int) ≤ (k : Int) := by omega
      have g2 : (k : Int) < m := by omega
      have g3 : (m : Int) ≤ 512 := by omega
      have hy := getD_byte HBB.out k
      have HT := Lib.hid (shl_byte (wP bs k (k / 8)) (bs.getD k 0) k (wP_lt _ _ _) hy)
      have HSt := Lib.hid (wP_step bs HBB.out k)
      generalize bs.getD k 0 = y at *
      go_wp2
      go_region
      all_goals
        go_wp2
        rw [HT.out]
        go_roundw
        case rel => exact ⟨k + 1, by omega, by go_num, (hM.set (i := k / 8) (by omega) _).congr (fun j _ => HSt.out j), (hF.setCell (a := ⟨w.heap.size, k / 8, none⟩) (fun h => absurd h (Nat.lt_irrefl _)) _).drew⟩
        case measure => simp [intOf]; omega
    · obtain rfl : k = m := by omega
      have hr := Lib.hid hM.range
      have hi66 := Lib.hid (show (Tryd.prog.info? 66).map (·.size) = some (wlist (wP bs k)).length by rw [wlist_length]; exact info66)
      have HM := Lib.hid hM
      have HF := Lib.hid hF
      clear hM hF
      go_wp2_with (first | (refine wpList_load_mid rfl 66 _ rfl w.heap.size 0 rfl (wlist (wP bs k)) _ hr.out Tryd.underlying66 rfl hi66.out ?_) | (refine wpList_alloc_given rfl 66 rfl _ (zero66 _) ?_) | (refine wpList_store_row rfl 66 _ _ rfl wr.heap.size (wlist (wP bs k)).toArray rfl rfl 66 (wlist (fun _ => 0)).toArray (heap_alloc_last wr _) (info66' _) (wlist_size _ _) (wlist_one _) ?_; rw [World.setRow_alloc_new wr]))
      have hW1 : MapB (wr.alloc (.cells (wlist (wP bs k)).toArray 66)) w.heap.size (wP bs k) n true := HM.out.fr ((Fr.refl (fun _ => False) wr).alloc _) (fun h => h)
      have hW2 : RowB (wr.alloc (.cells (wlist (wP bs k)).toArray 66)) wr.heap.size 66 (wlist (wP bs k)) := RowB.new wr 66 _
      have hW3 : Fr (fun _ => False) w (wr.alloc (.cells (wlist (wP bs k)).toArray 66)) := HF.out.alloc _
      generalize wr.alloc (.cells (wlist (wP bs k)).toArray 66) = W1 at *
      refine (trim_walk w.heap.size n (wP bs k) true _ hW1 hn (fun j _ => wP_lt _ _ _)).mono ?_
      rintro e W2 ⟨rfl, ht1, ht2⟩
      have hW4 : RowB W2 wr.heap.size 66 (wlist (wP bs k)) := hW2.fr ht2 (fun h => by have := HM.out.lt; omega)
      have hW5 : Fr (fun _ => False) w W2 := hW3.trans ht2 (fun k h1 h2 => by omega)
      have la := Lib.hid ht1.range
      have lb := Lib.hid (wlist_range _ _ _ _ hW4)
      have HM2 := Lib.hid ht1
      have HF2 := Lib.hid hW5
      have we := fun W => words_neq (trimW (wP bs k) n) (wP bs k) W
      have la1 := Lib.hid (wlist_length (trimW (wP bs k) n))
      have lb1 := Lib.hid (wlist_length (wP bs k))
      clear hW1 hW2 hW3 hW4 hW5 ht1 ht2 hr hi66
      generalize wlist (trimW (wP bs k) n) = xs at *
      generalize wlist (wP bs k) = ys at *
      generalize hr : eqW (trimW (wP bs k) n) (wP bs k) 0 64 = r at *
      clear hr
      cases r
      all_goals
        simp only [Bool.not_true, Bool.not_false] at we
        go_wp2
        refine wp_region_quiet_lit (by kernel_rfl) (by kernel_rfl) ?_
        repeat (go_big_quiet_step (fail))
        refine wpQuiet_load_mid rfl 66 _ rfl w.heap.size 0 rfl xs _ (fun W hW => by obtain ⟨n, rfl⟩ := hW; exact la.out) Tryd.underlying66 rfl (by rw [la1.out]; exact info66) ?_
        go_simp
        repeat (go_big_quiet_step (fail))
        refine wpQuiet_load_mid rfl 66 _ rfl wr.heap.size 0 rfl ys _ (fun W hW => by obtain ⟨n, rfl⟩ := hW; exact lb.out) Tryd.underlying66 rfl (by rw [lb1.out]; exact info66) ?_
        go_simp
        repeat (go_big_quiet_step (fail))
        refine wpQuiet_nil ?_
        go_simp
        intro nq
        go_wp2
        go_ret2
        first
        | exact ⟨HF2.out.drewN _, by rw [if_pos rfl]; exact ⟨rfl, HM2.out⟩⟩
        | exact ⟨HF2.out.drewN _, by rw [if_neg (by decide)]; rfl⟩
set_option maxRecDepth 100000 in
set_option maxHeartbeats 1000000 in
theorem load_none (n : Nat) (w : World) (hn : n ≤ 4096) (hl : 0 = (n + 7) / 8) :
    Calls Tryd.prog 19 #[.int .i64 n, .slice none 0 0] w (LoadP w (eqW (trimW (wP [] 0) n) (wP [] 0) 0 64) w.heap.size n (trimW (wP [] 0) n)) := by
  have hN := new_in n w hn
  have HN := Lib.hid hN
  have HL := Lib.hid hl
  have t1 : ((0 : Int) != ((n : Int) + 7) / 8) = false := by simp; omega
  have t2 : ((0 : Int) == ((n : Int) + 7) / 8) = true := by simp; omega
  clear hN hl
  go_enter Tryd.func19, Tryd.ntmps19
  go_wp2_with (first | (go_at_call 16; refine (HN.out).mono ?_; rintro e w' ⟨rfl, rfl⟩))
  have hM0 : MapB (w.alloc (.cells (mcells (fun _ => 0) n true) 68)) w.heap.size (fun _ => 0) n true := MapB.new w _ n true
  have hF0 : Fr (fun _ => False) w (w.alloc (.cells (mcells (fun _ => 0) n true) 68)) := (Fr.refl _ w).alloc _
  generalize w.alloc (.cells (mcells (fun _ => 0) n true) 68) = W0 at *
  have HM0 := Lib.hid hM0
  have HF0 := Lib.hid hF0
  clear hM0 hF0 t1 t2
  go_loopw [27] (fun i wr => ∃ k : Nat, k ≤ 0 ∧ i = .int .i64 k ∧ MapB wr w.heap.size (wP [] 0) n true ∧ Fr (fun _ => False) w wr) (fun i _ => (0 - intOf i).toNat)
  case atStart => exact ⟨0, by omega, rfl, HM0.out.congr (fun j _ => (wP_zero [] j).symm), HF0.out⟩
  case round =>
    obtain ⟨k, hk, rfl, hM, hF⟩ := hrel
    obtain rfl : k = 0 := by omega
    have hr := Lib.hid hM.range
    have hi66 := Lib.hid (show (Tryd.prog.info? 66).map (·.size) = some (wlist (wP [] 0)).length by rw [wlist_length]; exact info66)
    have HM := Lib.hid hM
    have HF := Lib.hid hF
    clear hM hF
    go_wp2_with (first | (refine wpList_load_mid rfl 66 _ rfl w.heap.size 0 rfl (wlist (wP [] 0)) _ hr.out Tryd.underlying66 rfl hi66.out ?_) | (refine wpList_alloc_given rfl 66 rfl _ (zero66 _) ?_) | (refine wpList_store_row rfl 66 _ _ rfl wr.heap.size (wlist (wP [] 0)).toArray rfl rfl 66 (wlist (fun _ => 0)).toArray (heap_alloc_last wr _) (info66' _) (wlist_size _ _) (wlist_one _) ?_; rw [World.setRow_alloc_new wr]))
    have hW1 : MapB (wr.alloc (.cells (wlist (wP [] 0)).toArray 66)) w.heap.size (wP [] 0) n true := HM.out.fr ((Fr.refl (fun _ => False) wr).alloc _) (fun h => h)
    have hW2 : RowB (wr.alloc (.cells (wlist (wP [] 0)).toArray 66)) wr.heap.size 66 (wlist (wP [] 0)) := RowB.new wr 66 _
    have hW3 : Fr (fun _ => False) w (wr.alloc (.cells (wlist (wP [] 0)).toArray 66)) := HF.out.alloc _
    generalize wr.alloc (.cells (wlist (wP [] 0)).toArray 66) = W1 at *
    refine (trim_walk w.heap.size n (wP [] 0) true _ hW1 hn (fun j _ => wP_lt _ _ _)).mono ?_
    rintro e W2 ⟨rfl, ht1, ht2⟩
    have hW4 : RowB W2 wr.heap.size 66 (wlist (wP [] 0)) := hW2.fr ht2 (fun h => by have := HM.out.lt; omega)
    have hW5 : Fr (fun _ => False) w W2 := hW3.trans ht2 (fun k h1 h2 => by omega)
    have la := Lib.hid ht1.range
    have lb := Lib.hid (wlist_range _ _ _ _ hW4)
    have HM2 := Lib.hid ht1
    have HF2 := Lib.hid hW5
    have we := fun W => words_neq (trimW (wP [] 0) n) (wP [] 0) W
    have la1 := Lib.hid (wlist_length (trimW (wP [] 0) n))
    have lb1 := Lib.hid (wlist_length (wP [] 0))
    clear hW1 hW2 hW3 hW4 hW5 ht1 ht2 hr hi66
    generalize wlist (trimW (wP [] 0) n) = xs at *
    generalize wlist (wP [] 0) = ys at *
    generalize hr : eqW (trimW (wP [] 0) n) (wP [] 0) 0 64 = r at *
    clear hr
    cases r
    all_goals
      simp only [Bool.not_true, Bool.not_false] at we
      go_wp2
      refine wp_region_quiet_lit (by kernel_rfl) (by kernel_rfl) ?_
      repeat (go_big_quiet_step (fail))
      refine wpQuiet_load_mid rfl 66 _ rfl w.heap.size 0 rfl xs _ (fun W hW => by obtain ⟨n, rfl⟩ := hW; exact la.out) Tryd.underlying66 rfl (by rw [la1.out]; exact info66) ?_
      go_simp
      repeat (go_big_quiet_step (fail))
      refine wpQuiet_load_mid rfl 66 _ rfl wr.heap.size 0 rfl ys _ (fun W hW => by obtain ⟨n, rfl⟩ := hW; exact lb.out) Tryd.underlying66 rfl (by rw [lb1.out]; exact info66) ?_
      go_simp
      repeat (go_big_quiet_step (fail))
      refine wpQuiet_nil ?_
      go_simp
      intro nq
      go_wp2
      go_ret2
      first
      | exact ⟨HF2.out.drewN _, by rw [if_pos rfl]; exact ⟨rfl, HM2.out⟩⟩
      | exact ⟨HF2.out.drewN _, by rw [if_neg (by decide)]; rfl⟩
end Go.Proofs.YtbnjeglbbadcbaaDoor
