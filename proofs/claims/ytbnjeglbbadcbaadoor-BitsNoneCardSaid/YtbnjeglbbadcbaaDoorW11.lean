/- Rows of bytes and bools: what a walk needs of them; Bytes of package bits and of the reference. -/
import Derived.Test.YtbnjeglbbadcbaaDoorW10
import Derived.Deep.OwnRows
import Derived.Laws.BytesString
namespace Go.Proofs.YtbnjeglbbadcbaaDoor
open Go.RowKit
open BM
set_option linter.unusedVariables false

/-- Block b holds these values (of type T), and may be written. -/
def RowB (w : World) (b : Nat) (T : TypeId) (vs : List Value) : Prop := w.heap[b]? = some (.cells vs.toArray T (0, 0))
section
variable {w : World} {b T : Nat} {vs : List Value}
theorem RowB.lt (h : RowB w b T vs) : b < w.heap.size := by
  unfold RowB at h
  exact (Array.getElem?_eq_some_iff.1 h).1
theorem RowB.cell (h : RowB w b T vs) (i : Nat) : w.cell? ⟨b, i, none⟩ = vs[i]? := by
  unfold RowB at h; simp [World.cell?, h]
theorem RowB.frozen (h : RowB w b T vs) (i : Nat) : w.frozen? ⟨b, i, none⟩ = false := by
  unfold RowB at h; simp [World.frozen?, h]
theorem RowB.of_block {w' : World} (h : RowB w b T vs) (e : w'.heap[b]? = w.heap[b]?) : RowB w' b T vs := by
  unfold RowB at *; rw [e]; exact h
theorem RowB.fr {S : Nat → Prop} {w' : World} (h : RowB w b T vs) (f : Fr S w w') (hb : ¬ S b) : RowB w' b T vs := h.of_block (f.block b h.lt hb)
theorem RowB.set (h : RowB w b T vs) (i : Nat) (v : Value) : RowB (w.setCell ⟨b, i, none⟩ v) b T (vs.set i v) := by
  unfold RowB at *
  show (w.heap.modify b _)[b]? = _
  rw [Array.getElem?_modify, if_pos rfl, h]
  simp
theorem RowB.new (w : World) (T : TypeId) (vs : List Value) : RowB (w.alloc (.cells vs.toArray T)) w.heap.size T vs := by
  unfold RowB
  show (w.heap.push _)[w.heap.size]? = _
  rw [Array.getElem?_push_size]
end

/-! ### bytes -/
def bvs (bs : List Nat) : List Value := bs.map (fun x : Nat => Value.int .u8 (x : Int))
theorem bvs_length (bs : List Nat) : (bvs bs).length = bs.length := by simp [bvs]
theorem bvs_get (bs : List Nat) (i : Nat) (h : i < bs.length) : (bvs bs)[i]? = some (.int .u8 (bs[i] : Int)) := by simp [bvs, h]
theorem bvs_set (bs : List Nat) (i x : Nat) : (bvs bs).set i (.int .u8 (x : Int)) = bvs (bs.set i x) := by unfold bvs; rw [List.map_set]
theorem info5 : (Tryd.prog.info? 5).map (fun i => (i.zero, i.size, i.bytes)) = some (some (.int .u8 0), 1, 1) := by kernel_rfl
theorem info4 : (Tryd.prog.info? 4).map (fun i => (i.zero, i.size, i.bytes)) = some (some (.bool false), 1, 1) := by kernel_rfl
theorem make_bytes (n : Nat) (hn : n ≤ 281474976710656) (w : World) :
    (Instr.makeSlice 23 (.int .i64 (n : Int)) (.int .i64 (n : Int))).run Tryd.prog w = .ok (.slice (some ⟨w.heap.size, 0, none⟩) n n) (w.alloc (.cells (bvs (List.replicate n 0)).toArray 5)) := by
  rw [run_make_row' 23 5 (.int .u8 0) 1 Tryd.underlying23 info5 rfl .i64 .i64 n (by omega) (by omega) w]
  congr 4
  apply Array.toList_inj.1
  rw [toList_madeCells_one]
  simp [bvs]
def lvs (l : List Bool) : List Value := l.map Value.bool
theorem lvs_length (l : List Bool) : (lvs l).length = l.length := by simp [lvs]
theorem lvs_get (l : List Bool) (i : Nat) (h : i < l.length) : (lvs l)[i]? = some (.bool l[i]) := by simp [lvs, h]
theorem lvs_bt (l : List Bool) (i : Nat) (h : i < l.length) : (lvs l)[i]? = some (.bool (bt l i)) := by rw [lvs_get l i h, bt_in h]
theorem lvs_set (l : List Bool) (i : Nat) (x : Bool) : (lvs l).set i (.bool x) = lvs (l.set i x) := by unfold lvs; rw [List.map_set]
theorem make_bools (n : Nat) (hn : n ≤ 281474976710656) (w : World) :
    (Instr.makeSlice 25 (.int .i64 (n : Int)) (.int .i64 (n : Int))).run Tryd.prog w = .ok (.slice (some ⟨w.heap.size, 0, none⟩) n n) (w.alloc (.cells (lvs (List.replicate n false)).toArray 4)) := by
  rw [run_make_row' 25 4 (.bool false) 1 Tryd.underlying25 info4 rfl .i64 .i64 n (by omega) (by omega) w]
  congr 4
  apply Array.toList_inj.1
  rw [toList_madeCells_one]
  simp [lvs]

/-- the string of some bytes -/
def strOf (bs : List Nat) : ByteArray := ⟨(bs.map UInt8.ofNat).toArray⟩
theorem foldl_push (ns : List Nat) : ∀ s : ByteArray, ((ns.map (fun x : Nat => (x : Int))).foldl (fun r n => r.push (UInt8.ofNat n.toNat)) s).data.toList = s.data.toList ++ ns.map UInt8.ofNat := by
  induction ns with
  | nil => intro s; simp
  | cons n ns ih =>
    intro s
    simp only [List.map_cons, List.foldl_cons]
    rw [ih]
    simp [ByteArray.push]
theorem convert_bytes (b c : Nat) (bs : List Nat) (ex : List Value) (w : World) (h : RowB w b 5 (bvs bs ++ ex)) :
    (convert 23 9 (.slice (some ⟨b, 0, none⟩) bs.length c)).run Tryd.prog w = .ok (.string (strOf bs)) w := by
  rw [run_convert_bytes_string w 23 9 5 _ _ _ Tryd.underlying23 Tryd.underlying5 Tryd.underlying9]
  have hl : (loadCells ⟨b, 0, none⟩ bs.length).run Tryd.prog w = .ok ((bs.map (fun x : Nat => (x : Int))).map (Value.int .u8)).toArray w := by
    have := run_loadCells_list (P := Tryd.prog) w ⟨b, 0, none⟩ (bvs bs) (fun j v hv => by
      rw [Addr.add_mid, Nat.zero_add, h.cell j]
      have hj : j < (bvs bs).length := (List.getElem?_eq_some_iff.1 hv).1
      rw [List.getElem?_append_left hj]; exact hv)
    rw [bvs_length] at this
    rw [this]
    simp [bvs, List.map_map, Function.comp_def]
  rw [run_bytesToString w _ _ _ _ hl]
  congr 2
  apply ByteArray.ext
  apply Array.toList_inj.1
  rw [foldl_push]
  simp [strOf, ByteArray.empty, ByteArray.emptyWithCapacity]
  rfl
theorem strOf_eq (a b : List Nat) (ha : ∀ x ∈ a, x < 256) (hb : ∀ x ∈ b, x < 256) : ((strOf a).toList == (strOf b).toList) = decide (a = b) := by
  rw [ByteArray.toList_eq, ByteArray.toList_eq, Bool.eq_iff_iff, beq_iff_eq, decide_eq_true_eq]
  unfold strOf
  simp only
  constructor
  · intro h
    have h2 := congrArg (List.map UInt8.toNat) h
    simp only [List.map_map] at h2
    have e : ∀ l : List Nat, (∀ x ∈ l, x < 256) → l.map (UInt8.toNat ∘ UInt8.ofNat) = l := by
      intro l hl
      conv => rhs; rw [← List.map_id l]
      apply List.map_congr_left
      intro x hx
      have := hl x hx
      simp [UInt8.toNat_ofNat']
      omega
    rw [e a ha, e b hb] at h2
    exact h2
  · rintro rfl; rfl

/-! ### the bytes of a map -/
def byteN (l : List Bool) (i : Nat) : Nat := bitsOf (fun j => bt l (8 * i + j)) 8
theorem byteN_lt (l : List Bool) (i : Nat) : byteN l i < 256 := bitsOf_lt _ 8
theorem byteN_testBit (l : List Bool) (i j : Nat) : (byteN l i).testBit j = (decide (j < 8) && bt l (8 * i + j)) := testBit_bitsOf _ _ _
def bytesN (l : List Bool) : List Nat := (List.range ((l.length + 7) / 8)).map (byteN l)
theorem bytesN_length (l : List Bool) : (bytesN l).length = (l.length + 7) / 8 := by simp [bytesN]
theorem bytesN_lt (l : List Bool) : ∀ x ∈ bytesN l, x < 256 := by
  intro x hx
  simp only [bytesN, List.mem_map, List.mem_range] at hx
  obtain ⟨i, _, rfl⟩ := hx
  exact byteN_lt l i
theorem byte_of_word (l : List Bool) (i : Nat) : word l (i / 8) / 2 ^ (i % 8 * 8) % 256 = byteN l i := by
  apply Nat.eq_of_testBit_eq
  intro j
  have e : (256 : Nat) = 2 ^ 8 := by decide
  rw [e, Nat.testBit_mod_two_pow, Nat.testBit_div_two_pow, word_testBit, byteN_testBit]
  by_cases hj : j < 8
  · have h1 : j + i % 8 * 8 < 64 := by omega
    have h2 : 64 * (i / 8) + (j + i % 8 * 8) = 8 * i + j := by omega
    simp [hj, h1, h2]
  · simp [hj]
theorem byte_int (l : List Bool) (k : Nat) : ((word l (k / 8) : Nat) : Int) / 2 ^ (k % 8 * 8) % 256 = ((byteN l k : Nat) : Int) := by
  rw [← byte_of_word, Int.natCast_emod, Int.natCast_ediv, Int.natCast_pow]
  rfl

def mkN (n : Nat) (f : Nat → Nat) : List Nat := (List.range n).map f
theorem mkN_length (n : Nat) (f : Nat → Nat) : (mkN n f).length = n := by simp [mkN]
theorem mkN_congr {n : Nat} {f g : Nat → Nat} (h : ∀ j, j < n → f j = g j) : mkN n f = mkN n g := by
  unfold mkN
  apply List.map_congr_left
  intro j hj
  exact h j (by simpa using hj)
theorem mkN_set (n k : Nat) (f : Nat → Nat) (hk : k < n) (x : Nat) : (mkN n f).set k x = mkN n (fun j => if j = k then x else f j) := by
  apply List.ext_getElem (by simp [mkN])
  intro j h1 h2
  rw [List.getElem_set]
  simp only [mkN, List.getElem_map, List.getElem_range]
  by_cases e : k = j
  · subst e; simp
  · have : ¬ j = k := fun e' => e e'.symm
    simp [e, this]
theorem mkN_get (n : Nat) (f : Nat → Nat) (j : Nat) (h : j < n) : (bvs (mkN n f))[j]? = some (.int .u8 (f j : Int)) := by
  rw [bvs_get _ _ (by rw [mkN_length]; exact h)]
  simp [mkN]
theorem mkN_zero (n : Nat) : List.replicate n 0 = mkN n (fun _ => 0) := by
  apply List.ext_getElem (by simp [mkN])
  intro j h1 h2
  simp [mkN]
theorem bytesN_mkN (l : List Bool) : bytesN l = mkN ((l.length + 7) / 8) (byteN l) := rfl

set_option maxRecDepth 100000 in
set_option maxHeartbeats 1000000 in
theorem bytes_walk (a : Nat) (l : List Bool) (w : World) (ha : IsMap w a l) :
    Calls Tryd.prog 21 #[.pointer (some ⟨a, 0, none⟩)] w fun e w' => e = .returned (.slice (some ⟨w.heap.size, 0, none⟩) ((l.length + 7) / 8) ((l.length + 7) / 8)) ∧ RowB w' w.heap.size 5 (bvs (bytesN l)) ∧ Fr (fun _ => False) w w' := by
  have a1 := ha.1.made
  have a2 := ha.1.len
  have hl := ha.2
  have HA := Lib.hid ha.1
  have hlt0 := ha.1.lt
  clear ha
  obtain ⟨m, hm⟩ : ∃ m, (l.length + 7) / 8 = m := ⟨_, rfl⟩
  have hm2 : ((l.length : Int) + 7) / 8 = (m : Int) := by omega
  have hmk := make_bytes m (by omega)
  rw [mkN_zero] at hmk
  rw [bytesN_mkN, hm]
  have HM := Lib.hid hm
  have hm4 : m ≤ 512 := by omega
  clear hm
  go_enter Tryd.func21, Tryd.ntmps21
  go_wp2_with (first | (go_at_call 42; refine (ok_walk a true _ a1).mono ?_; rintro e w' ⟨rfl, rfl⟩))
  have hM0 : RowB (w.alloc (.cells (bvs (mkN m (fun _ => 0))).toArray 5)) w.heap.size 5 (bvs (mkN m (fun _ => 0))) := RowB.new w 5 _
  have hF0 : Fr (fun _ => False) w (w.alloc (.cells (bvs (mkN m (fun _ => 0))).toArray 5)) := (Fr.refl _ w).alloc _
  generalize w.alloc (.cells (bvs (mkN m (fun _ => 0))).toArray 5) = W0 at *
  have HM0 := Lib.hid hM0
  have HF0 := Lib.hid hF0
  clear hM0 hF0 hmk hm2 a1 a2
  go_loopw [17] (fun i wr => ∃ k : Nat, k ≤ m ∧ i = .int .i64 k ∧ RowB wr w.heap.size 5 (bvs (mkN m (fun j => if j < k then byteN l j else 0))) ∧ Fr (fun _ => False) w wr) (fun i _ => (m - intOf i).toNat)
  case atStart => exact ⟨0, by omega, rfl, by simpa using HM0.out, HF0.out⟩
  case round =>
    obtain ⟨k, hk, rfl, hR, hF⟩ := hrel
    by_cases hlt : k < m
    · have c1 := (HA.out.fr hF (fun h => h)).word (i := k / 8) (by omega)
      have c2 := hR.cell k
      rw [mkN_get _ _ _ hlt] at c2
      have f1 := hR.frozen k
      have g1 : (0 : Int) ≤ (k : Int) := by omega
      have g2 : (k : Int) < m := by omega
      have g3 : (k : Int) ≤ 512 := by omega
      have HT := Lib.hid (byte_int l k)
      go_wp2
      rw [HT.out]
      go_roundw
      case rel =>
        refine ⟨k + 1, by omega, by go_num, ?_, hF.setCell (a := ⟨w.heap.size, k, none⟩) (fun h => absurd h (Nat.lt_irrefl _)) _⟩
        have := hR.set k (.int .u8 ((byteN l k : Nat) : Int))
        rw [bvs_set, mkN_set _ _ _ hlt] at this
        rw [mkN_congr (g := fun j => if j = k then byteN l k else if j < k then byteN l j else 0)]
        · exact this
        · intro j hj
          by_cases e : j = k
          · subst e; simp
          · have : (j < k + 1) ↔ (j < k) := by omega
            simp [e, this]
      case measure => simp [intOf]; omega
    · obtain rfl : k = m := by omega
      go_wp2
      go_ret
      refine ⟨rfl, ?_, hF⟩
      have e : mkN k (fun j => if j < k then byteN l j else 0) = mkN k (byteN l) := mkN_congr (fun j hj => by simp [hj])
      rw [← e]
      exact hR
/-! ### the reference's Bytes -/
/-- the bytes of the first k bits -/
def byteP (l : List Bool) (k i : Nat) : Nat := bitsOf (fun j => decide (8 * i + j < k) && bt l (8 * i + j)) 8
theorem byteP_lt (l : List Bool) (k i : Nat) : byteP l k i < 256 := bitsOf_lt _ 8
theorem byteP_testBit (l : List Bool) (k i j : Nat) : (byteP l k i).testBit j = (decide (j < 8) && (decide (8 * i + j < k) && bt l (8 * i + j))) := testBit_bitsOf _ _ _
theorem byteP_zero (l : List Bool) (i : Nat) : byteP l 0 i = 0 := by
  symm; apply eq_bitsOf (by decide)
  intro j hj; simp
theorem byteP_all (l : List Bool) (i : Nat) : byteP l l.length i = byteN l i := by
  apply bitsOf_congr
  intro j hj
  by_cases h : 8 * i + j < l.length
  · simp [h]
  · simp [h, bt_out (Nat.le_of_not_lt h)]
theorem byteP_same (l : List Bool) (k i : Nat) (h : bt l k = false ∨ i ≠ k / 8) : byteP l (k + 1) i = byteP l k i := by
  apply bitsOf_congr
  intro j hj
  by_cases e : 8 * i + j = k
  · rcases h with h | h
    · rw [e, h]; simp
    · exfalso; apply h; omega
  · have : (8 * i + j < k + 1) ↔ (8 * i + j < k) := by omega
    simp [this]
theorem byteP_lt' (l : List Bool) (k : Nat) : byteP l k (k / 8) < 2 ^ (k % 8) := by
  apply Nat.lt_pow_two_of_testBit
  intro j hj
  rw [byteP_testBit]
  have : ¬ 8 * (k / 8) + j < k := by omega
  simp [this]
theorem byteP_step (l : List Bool) (k : Nat) (h : bt l k = true) : byteP l (k + 1) (k / 8) = byteP l k (k / 8) + 2 ^ (k % 8) := by
  have e : byteP l k (k / 8) + 2 ^ (k % 8) = 2 ^ (k % 8) ||| byteP l k (k / 8) := by
    have := Nat.two_pow_add_eq_or_of_lt (byteP_lt' l k) 1
    rw [Nat.mul_one] at this
    omega
  rw [e]
  symm
  have h8 : 2 ^ (k % 8) < 2 ^ 8 := Nat.pow_lt_pow_right (by omega) (by omega)
  apply eq_bitsOf (Nat.or_lt_two_pow h8 (byteP_lt l k _))
  intro j hj
  rw [Nat.testBit_or, Nat.testBit_two_pow, byteP_testBit]
  by_cases e : k % 8 = j
  · subst e
    have : 8 * (k / 8) + k % 8 = k := by omega
    simp [this, h]
  · have : (8 * (k / 8) + j < k + 1) ↔ (8 * (k / 8) + j < k) := by omega
    simp [e, this, hj]
theorem byte_add (x k : Nat) (hx : x + 2 ^ (k % 8) < 256) : ((x : Int) + 2 ^ (k % 8)) % 256 = ((x + 2 ^ (k % 8) : Nat) : Int) := by
  have e : (2 : Int) ^ (k % 8) = ((2 ^ (k % 8) : Nat) : Int) := by rw [Int.natCast_pow]; rfl
  rw [e]
  generalize 2 ^ (k % 8) = y at *
  omega

set_option maxRecDepth 100000 in
set_option maxHeartbeats 1000000 in
theorem rbytes_walk (b c : Nat) (l : List Bool) (ex : List Value) (w : World) (hb : RowB w b 4 (lvs l ++ ex)) (hl : l.length ≤ 4096) :
    Calls Tryd.prog 29 #[.slice (some ⟨b, 0, none⟩) l.length c] w fun e w' => e = .returned (.slice (some ⟨w.heap.size, 0, none⟩) ((l.length + 7) / 8) ((l.length + 7) / 8)) ∧ RowB w' w.heap.size 5 (bvs (bytesN l)) ∧ Fr (fun _ => False) w w' := by
  have HA := Lib.hid hb
  have hlt0 := hb.lt
  clear hb
  obtain ⟨m, hm⟩ : ∃ m, (l.length + 7) / 8 = m := ⟨_, rfl⟩
  have hm2 : ((l.length : Int) + 7) / 8 = (m : Int) := by omega
  have hmk := make_bytes m (by omega)
  rw [mkN_zero] at hmk
  rw [bytesN_mkN, hm]
  have HM := Lib.hid hm
  have hm4 : m ≤ 512 := by omega
  have hm8 : l.length ≤ 8 * m := by omega
  clear hm
  go_enter Tryd.func29, Tryd.ntmps29
  go_wp2
  have hM0 : RowB (w.alloc (.cells (bvs (mkN m (fun _ => 0))).toArray 5)) w.heap.size 5 (bvs (mkN m (fun _ => 0))) := RowB.new w 5 _
  have hF0 : Fr (fun _ => False) w (w.alloc (.cells (bvs (mkN m (fun _ => 0))).toArray 5)) := (Fr.refl _ w).alloc _
  generalize w.alloc (.cells (bvs (mkN m (fun _ => 0))).toArray 5) = W0 at *
  have HM0 := Lib.hid hM0
  have HF0 := Lib.hid hF0
  clear hM0 hF0 hmk hm2
  go_loopw [4] (fun i wr => ∃ k : Nat, k ≤ l.length ∧ i = .int .i64 k ∧ RowB wr w.heap.size 5 (bvs (mkN m (byteP l k))) ∧ Fr (fun _ => False) w wr) (fun i _ => (l.length - intOf i).toNat)
  case atStart => exact ⟨0, by omega, rfl, by rw [show byteP l 0 = fun _ => 0 from funext (byteP_zero l)]; exact HM0.out, HF0.out⟩
  case round =>
    obtain ⟨k, hk, rfl, hR, hF⟩ := hrel
    by_cases hlt : k < l.length
    · have c1 := (HA.out.fr hF (fun h => h)).cell k
      rw [List.getElem?_append_left (by rw [lvs_length]; exact hlt), lvs_bt l k hlt] at c1
      have c2 := hR.cell (k / 8)
      rw [mkN_get _ _ _ (by omega)] at c2
      have f1 := hR.frozen (k / 8)
      have g1 : (0 : Int) ≤ (k : Int) := by omega
      have g3 : (k : Int) ≤ 4096 := by omega
      have g4 : (k : Int) / 8 < m := by omega
      by_cases hv : bt l k = true
      · rw [hv] at c1
        have hst := byteP_step l k hv
        have hlt8 := byteP_lt l (k + 1) (k / 8)
        rw [hst] at hlt8
        have HT := Lib.hid (byte_add (byteP l k (k / 8)) k hlt8)
        have HS := Lib.hid hst
        have HV := Lib.hid hv
        clear hst hv hlt8
        go_wp2
        rw [HT.out]
        go_roundw
        case rel =>
          refine ⟨k + 1, by omega, by go_num, ?_, hF.setCell (a := ⟨w.heap.size, k / 8, none⟩) (fun h => absurd h (Nat.lt_irrefl _)) _⟩
          have := hR.set (k / 8) (.int .u8 ((byteP l k (k / 8) + 2 ^ (k % 8) : Nat) : Int))
          rw [bvs_set, mkN_set _ _ _ (by omega)] at this
          rw [mkN_congr (g := fun i => if i = k / 8 then byteP l k (k / 8) + 2 ^ (k % 8) else byteP l k i)]
          · exact this
          · intro i hi
            by_cases e : i = k / 8
            · subst e; simp [HS.out]
            · rw [if_neg e, byteP_same l k i (.inr e)]
        case measure => simp [intOf]; omega
      · have hv' : bt l k = false := by simpa using hv
        rw [hv'] at c1
        have HV := Lib.hid hv'
        clear hv hv'
        go_wp2
        go_roundw
        case rel => exact ⟨k + 1, by omega, by go_num, by rw [mkN_congr (fun i _ => byteP_same l k i (.inl HV.out))]; exact hR, hF⟩
        case measure => simp [intOf]; omega
    · obtain rfl : k = l.length := by omega
      go_wp2
      go_ret
      refine ⟨rfl, ?_, hF⟩
      rw [show byteP l l.length = byteN l from funext (byteP_all l)] at hR
      exact hR
end Go.Proofs.YtbnjeglbbadcbaaDoor
