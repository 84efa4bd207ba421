/- The evaluator is sound: what it shows holds of every run of the model. -/
import Derived.CallsIn
import Derived.RangeFuncIn
import Derived.OrdersIn
import Derived.DefersIn
import Derived.Laws.Sem
import Derived.Test.YtfdhdhmeahdpbaaGreatDoorVA
/-! Ropes: what the functions on them do. -/
namespace Ev
open Go

theorem fz_eq (n : Nat) (k : Nat → R) : fz n k = k n := by cases n <;> rfl

theorem blt_t {i n : Nat} (h : Nat.blt i n = true) : i < n := by rwa [Nat.blt_eq] at h
theorem blt_f {i n : Nat} (h : Nat.blt i n = false) : n ≤ i := Nat.le_of_not_lt fun hl => by rw [← Nat.blt_eq] at hl; rw [hl] at h; cases h
theorem ble_t {i n : Nat} (h : Nat.ble i n = true) : i ≤ n := Nat.le_of_ble_eq_true h
theorem ble_f {i n : Nat} (h : Nat.ble i n = false) : n < i := Nat.lt_of_not_le fun hl => by rw [Nat.ble_eq_true_of_le hl] at h; cases h
theorem beq_t {i n : Nat} (h : Nat.beq i n = true) : i = n := Nat.eq_of_beq_eq_true h
theorem beq_f {i n : Nat} (h : Nat.beq i n = false) : i ≠ n := Nat.ne_of_beq_eq_false h
/-- a test in front of two ways -/
theorem bcase {b : Bool} {f t : R} (h : (Bool.casesOn b f t : R) = .ok) : (b = false ∧ f = .ok) ∨ (b = true ∧ t = .ok) := by
  cases b
  · exact .inl ⟨rfl, h⟩
  · exact .inr ⟨rfl, h⟩

/-! ### packed lanes -/
theorem lane_def (w x i : Nat) : lane w x i = x / 2 ^ (w * i) % 2 ^ w := by
  show (x >>> (w * i)) % 2 ^ w = _
  rw [Nat.shiftRight_eq_div_pow]
theorem lanes_def (w x off n : Nat) : lanes w x off n = x / 2 ^ (w * off) % 2 ^ (w * n) := by
  show (x >>> (w * off)) % 2 ^ (w * n) = _
  rw [Nat.shiftRight_eq_div_pow]
theorem lane_lt (w x i : Nat) : lane w x i < 2 ^ w := by rw [lane_def]; exact Nat.mod_lt _ (Nat.two_pow_pos w)
/-- a lane of the lower part -/
theorem lane_mod (w x n i : Nat) (h : i < n) : lane w (x % 2 ^ (w * n)) i = lane w x i := by
  rw [lane_def, lane_def]
  have e : w * n = w * i + (w + w * (n - i - 1)) := by
    have : n = i + (1 + (n - i - 1)) := by omega
    rw [this, Nat.mul_add, Nat.mul_add, Nat.mul_one]
    have : i + (1 + (n - i - 1)) - i - 1 = n - i - 1 := by omega
    rw [this]
  rw [e, Nat.pow_add, Nat.mod_mul_right_div_self, Nat.pow_add, Nat.mod_mul_right_mod]
/-- a lane of the upper part -/
theorem lane_div (w x m i : Nat) : lane w (x / 2 ^ (w * m)) i = lane w x (m + i) := by
  rw [lane_def, lane_def, Nat.div_div_eq_div_mul, ← Nat.pow_add, Nat.mul_add]
theorem lane_lanes (w x off n i : Nat) (h : i < n) : lane w (lanes w x off n) i = lane w x (off + i) := by
  rw [lanes_def, lane_mod _ _ _ _ h, lane_div]
theorem lanes_lt (w x off n : Nat) : lanes w x off n < 2 ^ (w * n) := by rw [lanes_def]; exact Nat.mod_lt _ (Nat.two_pow_pos _)
/-- low part below, another part above -/
theorem lane_add_lo (w x y n i : Nat) (h : i < n) : lane w (x + y * 2 ^ (w * n)) i = lane w x i := by
  rw [← lane_mod w (x + y * 2 ^ (w * n)) n i h, Nat.add_mul_mod_self_right, lane_mod w x n i h]
theorem lane_add_hi (w x y n i : Nat) (hx : x < 2 ^ (w * n)) : lane w (x + y * 2 ^ (w * n)) (n + i) = lane w y i := by
  rw [← lane_div, Nat.add_mul_div_right _ _ (Nat.two_pow_pos _), Nat.div_eq_of_lt hx, Nat.zero_add]
theorem app_lt (w x y n m : Nat) (hx : x < 2 ^ (w * n)) (hy : y < 2 ^ (w * m)) : x + y * 2 ^ (w * n) < 2 ^ (w * (n + m)) := by
  rw [Nat.mul_add, Nat.pow_add]
  calc x + y * 2 ^ (w * n) < 2 ^ (w * n) + y * 2 ^ (w * n) := Nat.add_lt_add_right hx _
    _ = (y + 1) * 2 ^ (w * n) := by rw [Nat.add_mul, Nat.one_mul, Nat.add_comm]
    _ ≤ 2 ^ (w * m) * 2 ^ (w * n) := Nat.mul_le_mul_right _ hy
    _ = 2 ^ (w * n) * 2 ^ (w * m) := Nat.mul_comm _ _
theorem setLane_def (w x i v : Nat) : setLane w x i v = lanes w x 0 i + (v + (x / 2 ^ (w * (i + 1))) * 2 ^ w) * 2 ^ (w * i) := by
  show lanes w x 0 i + v <<< (w * i) + (x >>> (w * (i + 1))) <<< (w * (i + 1)) = _
  rw [Nat.shiftLeft_eq, Nat.shiftLeft_eq, Nat.shiftRight_eq_div_pow, Nat.add_mul, Nat.mul_assoc, ← Nat.pow_add, Nat.add_assoc]
  congr 3
  rw [Nat.mul_add, Nat.mul_one, Nat.add_comm]
theorem lane_setLane (w x i v j : Nat) (hv : v < 2 ^ w) : lane w (setLane w x i v) j = if j = i then v else lane w x j := by
  rw [setLane_def]
  rcases Nat.lt_trichotomy j i with h | h | h
  · rw [lane_add_lo _ _ _ _ _ h, lane_lanes _ _ _ _ _ h, Nat.zero_add, if_neg (by omega)]
  · subst h
    have h0 := lane_add_hi w (lanes w x 0 j) (v + (x / 2 ^ (w * (j + 1))) * 2 ^ w) j 0 (by simpa using lanes_lt w x 0 j)
    simp only [Nat.add_zero] at h0
    rw [h0, if_pos rfl]
    have := lane_add_lo w v (x / 2 ^ (w * (j + 1))) 1 0 (by omega)
    rw [Nat.mul_one] at this
    rw [this, lane_def, Nat.mul_zero, Nat.pow_zero, Nat.div_one, Nat.mod_eq_of_lt hv]
  · obtain ⟨d, rfl⟩ : ∃ d, j = i + (1 + d) := ⟨j - i - 1, by omega⟩
    rw [lane_add_hi _ _ _ _ _ (by simpa using lanes_lt w x 0 i), if_neg (by omega)]
    have := lane_add_hi w v (x / 2 ^ (w * (i + 1))) 1 d (by simpa using hv)
    rw [Nat.mul_one] at this
    rw [this, lane_div]
    congr 1; omega
theorem setLane_lt (w x i v n : Nat) (hi : i < n) (hx : x < 2 ^ (w * n)) (hv : v < 2 ^ w) : setLane w x i v < 2 ^ (w * n) := by
  rw [setLane_def]
  obtain ⟨d, rfl⟩ : ∃ d, n = i + (1 + d) := ⟨n - i - 1, by omega⟩
  refine app_lt w _ _ i (1 + d) (by simpa using lanes_lt w x 0 i) ?_
  have h1 := app_lt w v (x / 2 ^ (w * (i + 1))) 1 d (by simpa using hv) ?_
  · simpa [Nat.mul_one] using h1
  · rw [Nat.div_lt_iff_lt_mul (Nat.two_pow_pos _), ← Nat.pow_add, ← Nat.mul_add]
    have : d + (i + 1) = i + (1 + d) := by omega
    rw [this]; exact hx

/-! ### ropes as lists -/
/-- sizes are told rightly; packed runs have no bits above -/
def Rope.wf : Rope → Prop
  | .nil => True
  | .l n cs => n = cs.length
  | .p k n x => x < 2 ^ (k.w * n)
  | .cat n a b => n = a.size ∧ a.wf ∧ b.wf
theorem spill_length (k : PK) (n x : Nat) : (spill k n x).length = n := by simp [spill]
theorem spill_get (k : PK) (n x i : Nat) (h : i < n) : (spill k n x)[i]? = some (k.dec (lane k.w x i)) := by
  simp [spill, h]
theorem Rope.length_toL (r : Rope) (h : r.wf) : r.toL.length = r.size := by
  induction r with
  | nil => rfl
  | l n cs => exact h.symm
  | p k n x => exact spill_length k n x
  | cat n a b iha ihb => simp [Rope.toL, Rope.size, iha h.2.1, ihb h.2.2, h.1]
theorem spill_ext {k : PK} {n x : Nat} {l : List Cell} (hl : l.length = n) (h : ∀ i, i < n → l[i]? = some (k.dec (lane k.w x i))) : spill k n x = l := by
  apply List.ext_getElem?
  intro i
  by_cases hi : i < n
  · rw [spill_get k n x i hi, h i hi]
  · rw [List.getElem?_eq_none (by simp [spill]; omega), List.getElem?_eq_none (by omega)]
theorem Rope.sz_eq (r : Rope) (k : Nat → R) : r.sz k = k r.size := by
  induction r generalizing k with
  | nil => rfl
  | l n cs => rfl
  | p j n x => rfl
  | cat n a b iha ihb =>
    show Rope.sz b (fun m => fz (Nat.add n m) k) = _
    rw [ihb, fz_eq]; rfl
theorem nth_ok {l : List Cell} {i : Nat} {k : Cell → R} (h : nth l i k = .ok) : ∃ c, l[i]? = some c ∧ k c = .ok := by
  induction l generalizing i with
  | nil => cases h
  | cons x xs ih =>
    cases i with
    | zero => exact ⟨x, rfl, h⟩
    | succ j => exact ih (i := j) h
theorem setNth_ok {l : List Cell} {i : Nat} {v : Cell} {k : List Cell → R} (h : setNth l i v k = .ok) : i < l.length ∧ k (l.set i v) = .ok := by
  induction l generalizing i k with
  | nil => cases h
  | cons x xs ih =>
    cases i with
    | zero => exact ⟨by simp, h⟩
    | succ j =>
      obtain ⟨h1, h2⟩ := ih (i := j) (k := fun l => k (x :: l)) h
      exact ⟨by simp; omega, h2⟩
theorem takeL_eq (l : List Cell) (n : Nat) (k : List Cell → R) : takeL l n k = k (l.take n) := by
  induction l generalizing n k with
  | nil => simp; rfl
  | cons x xs ih =>
    cases n with
    | zero => rfl
    | succ j => exact ih j (fun l => k (x :: l))
theorem dropL_eq (l : List Cell) (n : Nat) (k : List Cell → R) : dropL l n k = k (l.drop n) := by
  induction l generalizing n with
  | nil => simp; rfl
  | cons x xs ih =>
    cases n with
    | zero => rfl
    | succ j => exact ih j
theorem Rope.get_ok {r : Rope} (hr : r.wf) {i : Nat} {k : Cell → R} (h : r.get i k = .ok) : ∃ c, r.toL[i]? = some c ∧ k c = .ok := by
  induction r generalizing i with
  | nil => cases h
  | l n cs => exact nth_ok h
  | p j n x =>
    rcases bcase (h : (Bool.casesOn (Nat.blt i n) (.bad 2) (fz (lane j.w x i) (fun v => k (j.dec v))) : R) = .ok) with ⟨_, h⟩ | ⟨hb, h⟩
    · cases h
    · rw [fz_eq] at h
      exact ⟨_, spill_get j n x i (blt_t hb), h⟩
  | cat n a b iha ihb =>
    have hl := a.length_toL hr.2.1
    rcases bcase (h : (Bool.casesOn (Nat.blt i n) (fz (Nat.sub i n) (fun j => b.get j k)) (a.get i k) : R) = .ok) with ⟨hb, h⟩ | ⟨hb, h⟩
    · rw [fz_eq] at h
      obtain ⟨c, h1, h2⟩ := ihb hr.2.2 h
      have hb' := blt_f hb
      refine ⟨c, ?_, h2⟩
      show (a.toL ++ b.toL)[i]? = _
      rw [List.getElem?_append_right (by rw [hl, ← hr.1]; exact hb'), hl, ← hr.1]; exact h1
    · obtain ⟨c, h1, h2⟩ := iha hr.2.1 h
      refine ⟨c, ?_, h2⟩
      show (a.toL ++ b.toL)[i]? = _
      have := (List.getElem?_eq_some_iff.1 h1).1
      rw [List.getElem?_append_left this]; exact h1
theorem dec_laneOf {j : PK} {c : Cell} {v : Nat} (h : laneOf j c = some v) : j.dec v = c ∧ v < 2 ^ j.w := by
  cases j <;> cases c <;> simp only [laneOf] at h <;> try cases h
  · rename_i n
    cases hb : Nat.ble n 255 with
    | false => rw [hb] at h; cases h
    | true => rw [hb] at h; cases h; exact ⟨rfl, Nat.lt_succ_of_le (ble_t hb)⟩
  · rename_i b
    cases b <;> cases h <;> exact ⟨rfl, by decide⟩
theorem Rope.set_ok {r : Rope} (hr : r.wf) {i : Nat} {v : Cell} {k : Rope → R} (h : r.set i v k = .ok) : ∃ r' : Rope, r'.wf ∧ i < r.size ∧ r'.size = r.size ∧ r'.toL = r.toL.set i v ∧ k r' = .ok := by
  induction r generalizing i k with
  | nil => cases h
  | l n cs =>
    obtain ⟨h1, h2⟩ := setNth_ok (k := fun cs => k (.l n cs)) h
    have hn : n = cs.length := hr
    exact ⟨.l n (cs.set i v), by simp [Rope.wf, hn], by simp [Rope.size, hn, h1], rfl, rfl, h2⟩
  | p j n x =>
    rcases bcase (h : (Bool.casesOn (Nat.blt i n) (.bad 5) (match laneOf j v with | none => setNth (spill j n x) i v (fun cs => k (.l n cs)) | some w => fz (setLane j.w x i w) (fun y => k (.p j n y))) : R) = .ok) with ⟨_, h⟩ | ⟨hb, h⟩
    · cases h
    · have hi := blt_t hb
      cases hl : laneOf j v with
      | none =>
        rw [hl] at h
        obtain ⟨_, h2⟩ := setNth_ok (k := fun cs => k (.l n cs)) h
        exact ⟨.l n ((spill j n x).set i v), by simp [Rope.wf, spill_length], hi, rfl, rfl, h2⟩
      | some w =>
        rw [hl] at h
        have h : fz (setLane j.w x i w) (fun y => k (.p j n y)) = .ok := h
        rw [fz_eq] at h
        obtain ⟨hd, hw⟩ := dec_laneOf hl
        refine ⟨.p j n (setLane j.w x i w), setLane_lt _ _ _ _ _ hi hr hw, hi, rfl, ?_, h⟩
        refine spill_ext (by simp [Rope.toL, spill_length]) fun q hq => ?_
        rw [lane_setLane _ _ _ _ _ hw, List.getElem?_set]
        by_cases hqi : i = q
        · subst hqi; simp [Rope.toL, spill_length, hi, hd]
        · rw [if_neg hqi, if_neg (fun e => hqi e.symm)]; exact spill_get j n x q hq
  | cat n a b iha ihb =>
    have hl := a.length_toL hr.2.1
    rcases bcase (h : (Bool.casesOn (Nat.blt i n) (fz (Nat.sub i n) (fun j => b.set j v (fun b => k (.cat n a b)))) (a.set i v (fun a => k (.cat n a b))) : R) = .ok) with ⟨hb, h⟩ | ⟨hb, h⟩
    · rw [fz_eq] at h
      obtain ⟨b', h1, h2, h3, h4, h5⟩ := ihb hr.2.2 h
      have hb' := blt_f hb
      have h2 : i - n < b.size := h2
      refine ⟨.cat n a b', ⟨hr.1, hr.2.1, h1⟩, ?_, ?_, ?_, h5⟩
      · show i < n + b.size; omega
      · show n + b'.size = n + b.size; rw [h3]
      · show a.toL ++ b'.toL = (a.toL ++ b.toL).set i v
        rw [h4, List.set_append, if_neg (by rw [hl, ← hr.1]; omega), hl, ← hr.1]; rfl
    · obtain ⟨a', h1, h2, h3, h4, h5⟩ := iha hr.2.1 h
      have hb' := blt_t hb
      refine ⟨.cat n a' b, ⟨by rw [h3]; exact hr.1, h1, hr.2.2⟩, ?_, rfl, ?_, h5⟩
      · show i < n + b.size; omega
      · show a'.toL ++ b.toL = (a.toL ++ b.toL).set i v
        rw [h4, List.set_append, if_pos (by rw [hl]; exact h2)]
theorem PK.eq_t {j k : PK} (h : j.eq k = true) : j = k := by cases j <;> cases k <;> first | rfl | cases h
theorem app_p (j : PK) (n m x y : Nat) (hx : x < 2 ^ (j.w * n)) :
    spill j (n + m) (x + y <<< (j.w * n)) = spill j n x ++ spill j m y := by
  rw [Nat.shiftLeft_eq]
  refine spill_ext (by simp [spill_length]) fun i hi => ?_
  by_cases h : i < n
  · rw [List.getElem?_append_left (by rw [spill_length]; exact h), spill_get j n x i h, lane_add_lo _ _ _ _ _ h]
  · obtain ⟨d, rfl⟩ : ∃ d, i = n + d := ⟨i - n, by omega⟩
    rw [List.getElem?_append_right (by rw [spill_length]; omega), spill_length, lane_add_hi _ _ _ _ _ hx]
    have : n + d - n = d := by omega
    rw [this, spill_get j m y d (by omega)]
/-- what 'app' gives -/
def AppR (a b r : Rope) : Prop := r.wf ∧ r.size = a.size + b.size ∧ r.toL = a.toL ++ b.toL
theorem appR_cat {a b : Rope} (ha : a.wf) (hb : b.wf) : AppR a b (.cat a.size a b) := ⟨⟨rfl, ha, hb⟩, rfl, rfl⟩
theorem Rope.app_ok {a b : Rope} (ha : a.wf) (hb : b.wf) {k : Rope → R} (h : Rope.app a b k = .ok) : ∃ r, AppR a b r ∧ k r = .ok := by
  unfold Rope.app at h
  split at h
  · exact ⟨_, ⟨hb, by simp [Rope.size], by simp [Rope.toL]⟩, h⟩
  · rename_i n
    have hn : n = 0 := ha
    subst hn
    exact ⟨_, ⟨hb, by simp [Rope.size], by simp [Rope.toL]⟩, h⟩
  · exact ⟨_, ⟨ha, by simp [Rope.size], by simp [Rope.toL]⟩, h⟩
  · rename_i n _ _
    have hn : n = 0 := hb
    subst hn
    exact ⟨_, ⟨ha, by simp [Rope.size], by simp [Rope.toL]⟩, h⟩
  · rename_i j n x j' m y
    split at h
    · rename_i hj
      obtain rfl := PK.eq_t hj
      rw [fz_eq, fz_eq] at h
      refine ⟨.p j (Nat.add n m) (Nat.add x (Nat.shiftLeft y (Nat.mul j.w n))), ⟨?_, rfl, ?_⟩, h⟩
      · show Nat.add x (Nat.shiftLeft y (Nat.mul j.w n)) < 2 ^ (j.w * (n + m))
        show x + y <<< (j.w * n) < _
        rw [Nat.shiftLeft_eq]; exact app_lt _ _ _ _ _ ha hb
      · exact app_p j n m x y ha
    · exact ⟨_, appR_cat ha hb, h⟩
  · rename_i n a j nb x j' m y
    split at h
    · rename_i hj
      obtain rfl := PK.eq_t hj
      rw [fz_eq, fz_eq] at h
      refine ⟨.cat n a (.p j (Nat.add nb m) (Nat.add x (Nat.shiftLeft y (Nat.mul j.w nb)))), ⟨⟨ha.1, ha.2.1, ?_⟩, ?_, ?_⟩, h⟩
      · show x + y <<< (j.w * nb) < 2 ^ (j.w * (nb + m))
        rw [Nat.shiftLeft_eq]; exact app_lt _ _ _ _ _ ha.2.2 hb
      · show n + (nb + m) = n + nb + m; omega
      · show a.toL ++ spill j (nb + m) (x + y <<< (j.w * nb)) = (a.toL ++ spill j nb x) ++ spill j m y
        rw [app_p j nb m x y ha.2.2, List.append_assoc]
    · rw [Rope.sz_eq] at h
      exact ⟨_, appR_cat ha hb, h⟩
  · rw [Rope.sz_eq] at h
    exact ⟨_, appR_cat ha hb, h⟩
theorem Rope.take_ok {r : Rope} (hr : r.wf) {n : Nat} {k : Rope → R} (h : r.take n k = .ok) : ∃ r', r'.wf ∧ r'.size = min n r.size ∧ r'.toL = r.toL.take n ∧ k r' = .ok := by
  induction r generalizing n k with
  | nil => exact ⟨.nil, trivial, by simp [Rope.size], by simp [Rope.toL], h⟩
  | l m cs =>
    have hm : m = cs.length := hr
    rcases bcase (h : (Bool.casesOn (Nat.blt n m) (k (.l m cs)) (takeL cs n (fun cs => k (.l n cs))) : R) = .ok) with ⟨hb, h⟩ | ⟨hb, h⟩
    · have := blt_f hb
      exact ⟨_, hr, by simp [Rope.size]; omega, by simp [Rope.toL]; rw [List.take_of_length_le (by omega)], h⟩
    · have := blt_t hb
      rw [takeL_eq] at h
      exact ⟨.l n (cs.take n), by simp [Rope.wf]; omega, by simp [Rope.size]; omega, rfl, h⟩
  | p j m x =>
    rcases bcase (h : (Bool.casesOn (Nat.blt n m) (k (.p j m x)) (fz (lanes j.w x 0 n) (fun y => k (.p j n y))) : R) = .ok) with ⟨hb, h⟩ | ⟨hb, h⟩
    · have := blt_f hb
      exact ⟨_, hr, by simp [Rope.size]; omega, by simp [Rope.toL]; rw [List.take_of_length_le (by rw [spill_length]; omega)], h⟩
    · have := blt_t hb
      rw [fz_eq] at h
      refine ⟨.p j n (lanes j.w x 0 n), lanes_lt _ _ _ _, by simp [Rope.size]; omega, ?_, h⟩
      refine spill_ext (by simp [Rope.toL, spill_length]; omega) fun i hi => ?_
      rw [List.getElem?_take_of_lt hi, lane_lanes _ _ _ _ _ hi, Nat.zero_add]
      exact spill_get j m x i (by omega)
  | cat m a b iha ihb =>
    have hl := a.length_toL hr.2.1
    rcases bcase (h : (Bool.casesOn (Nat.ble n m) (fz (Nat.sub n m) (fun j => b.take j (fun b => Rope.app a b k))) (a.take n k) : R) = .ok) with ⟨hb, h⟩ | ⟨hb, h⟩
    · rw [fz_eq] at h
      obtain ⟨b', h1, h2, h3, h4⟩ := ihb hr.2.2 h
      obtain ⟨r, ⟨w, s, t⟩, h5⟩ := Rope.app_ok hr.2.1 h1 h4
      have := ble_f hb
      have hm := hr.1
      refine ⟨r, w, ?_, ?_, h5⟩
      · rw [s, h2]; show a.size + min (n - m) b.size = min n (m + b.size); omega
      · rw [t, h3]; show a.toL ++ b.toL.take (n - m) = (a.toL ++ b.toL).take n
        rw [List.take_append, hl, ← hm, List.take_of_length_le (l := a.toL) (by omega)]
    · obtain ⟨a', h1, h2, h3, h4⟩ := iha hr.2.1 h
      have := ble_t hb
      have hm := hr.1
      refine ⟨a', h1, ?_, ?_, h4⟩
      · rw [h2]; show min n a.size = min n (m + b.size); omega
      · rw [h3]; show _ = (a.toL ++ b.toL).take n
        rw [List.take_append_of_le_length (by omega)]
theorem Rope.drop_ok {r : Rope} (hr : r.wf) {n : Nat} {k : Rope → R} (h : r.drop n k = .ok) : ∃ r', r'.wf ∧ r'.size = r.size - n ∧ r'.toL = r.toL.drop n ∧ k r' = .ok := by
  induction r generalizing n k with
  | nil => exact ⟨.nil, trivial, by simp [Rope.size], by simp [Rope.toL], h⟩
  | l m cs =>
    have hm : m = cs.length := hr
    have h : dropL cs n (fun cs => fz (Nat.sub m n) (fun t => k (.l t cs))) = .ok := h
    rw [dropL_eq, fz_eq] at h
    exact ⟨.l (Nat.sub m n) (cs.drop n), by show m - n = _; simp; omega, rfl, rfl, h⟩
  | p j m x =>
    have h : fz (Nat.sub m n) (fun t => fz (Nat.shiftRight x (Nat.mul j.w n)) (fun y => k (.p j t y))) = .ok := h
    rw [fz_eq, fz_eq] at h
    refine ⟨.p j (Nat.sub m n) (Nat.shiftRight x (Nat.mul j.w n)), ?_, rfl, ?_, h⟩
    · show x >>> (j.w * n) < 2 ^ (j.w * (m - n))
      rw [Nat.shiftRight_eq_div_pow]
      by_cases hn : n ≤ m
      · rw [Nat.div_lt_iff_lt_mul (Nat.two_pow_pos _), ← Nat.pow_add, ← Nat.mul_add, Nat.sub_add_cancel hn]; exact hr
      · have h0 : x / 2 ^ (j.w * n) = 0 := Nat.div_eq_of_lt (Nat.lt_of_lt_of_le hr (Nat.pow_le_pow_right (by decide) (Nat.mul_le_mul_left _ (by omega))))
        rw [h0]; exact Nat.two_pow_pos _
    · show spill j (m - n) (x >>> (j.w * n)) = (spill j m x).drop n
      refine spill_ext (by simp [spill_length]) fun i hi => ?_
      rw [List.getElem?_drop, spill_get j m x (n + i) (by omega), Nat.shiftRight_eq_div_pow, lane_div]
  | cat m a b iha ihb =>
    have hl := a.length_toL hr.2.1
    have hm := hr.1
    rcases bcase (h : (Bool.casesOn (Nat.beq n 0) (Bool.casesOn (Nat.ble m n) (a.drop n (fun a => Rope.app a b k)) (fz (Nat.sub n m) (fun j => b.drop j k))) (k (.cat m a b)) : R) = .ok) with ⟨_, h⟩ | ⟨hb, h⟩
    · rcases bcase h with ⟨hb, h⟩ | ⟨hb, h⟩
      · obtain ⟨a', h1, h2, h3, h4⟩ := iha hr.2.1 h
        obtain ⟨r, ⟨w, s, t⟩, h5⟩ := Rope.app_ok h1 hr.2.2 h4
        have := ble_f hb
        refine ⟨r, w, ?_, ?_, h5⟩
        · rw [s, h2]; show a.size - n + b.size = m + b.size - n; omega
        · rw [t, h3]; show _ = (a.toL ++ b.toL).drop n
          rw [List.drop_append_of_le_length (by omega)]
      · rw [fz_eq] at h
        obtain ⟨b', h1, h2, h3, h4⟩ := ihb hr.2.2 h
        have := ble_t hb
        refine ⟨b', h1, ?_, ?_, h4⟩
        · rw [h2]; show b.size - (n - m) = m + b.size - n; omega
        · rw [h3]; show b.toL.drop (n - m) = (a.toL ++ b.toL).drop n
          rw [List.drop_append, hl, ← hm, List.drop_of_length_le (l := a.toL) (by omega), List.nil_append]
    · obtain rfl := beq_t hb
      exact ⟨_, hr, rfl, rfl, h⟩
theorem Rope.ext_ok {r : Rope} (hr : r.wf) {off n : Nat} {k : Rope → R} (h : r.ext off n k = .ok) :
    ∃ r', r'.wf ∧ r'.size = n ∧ off + n ≤ r.size ∧ r'.toL = (r.toL.drop off).take n ∧ k r' = .ok := by
  unfold Rope.ext at h
  rw [Rope.sz_eq] at h
  rcases bcase h with ⟨_, h⟩ | ⟨hb, h⟩
  · cases h
  · have hle : off + n ≤ r.size := ble_t hb
    obtain ⟨d, d1, d2, d3, d4⟩ := Rope.drop_ok hr h
    obtain ⟨t, t1, t2, t3, t4⟩ := Rope.take_ok d1 d4
    exact ⟨t, t1, by rw [t2, d2]; omega, hle, by rw [t3, d3], t4⟩
theorem Rope.splice_ok {r x : Rope} (hr : r.wf) (hx : x.wf) {off n : Nat} (hn : x.size = n) {k : Rope → R} (h : r.splice off x n k = .ok) :
    ∃ r' : Rope, r'.wf ∧ r'.size = r.size ∧ off + n ≤ r.size ∧ r'.toL = r.toL.take off ++ x.toL ++ r.toL.drop (off + n) ∧ k r' = .ok := by
  unfold Rope.splice at h
  rw [Rope.sz_eq] at h
  rcases bcase h with ⟨_, h⟩ | ⟨hb, h⟩
  · cases h
  · have hle : off + n ≤ r.size := ble_t hb
    obtain ⟨a, a1, a2, a3, a4⟩ := Rope.take_ok hr h
    rw [fz_eq] at a4
    obtain ⟨b, b1, b2, b3, b4⟩ := Rope.drop_ok hr a4
    have b2 : b.size = r.size - (off + n) := b2
    have b3 : b.toL = r.toL.drop (off + n) := b3
    obtain ⟨c, ⟨c1, c2, c3⟩, c4⟩ := Rope.app_ok a1 hx b4
    obtain ⟨d, ⟨d1, d2, d3⟩, d4⟩ := Rope.app_ok c1 b1 c4
    exact ⟨d, d1, by rw [d2, c2, a2, b2, hn]; omega, hle, by rw [d3, c3, a3, b3], d4⟩
end Ev
/-! How abstract values and memory stand for the model's. -/
namespace Ev
open Go

/-- where an abstract row lies: the block, the first cell, the number of cells from there to the block's end -/
structure Loc where
  b : Nat
  base : Nat
  tot : Nat
abbrev Emb := Pos → Option Loc
def Emb.le (φ ψ : Emb) : Prop := ∀ p l, φ p = some l → ψ p = some l
theorem Emb.le_refl (φ : Emb) : φ.le φ := fun _ _ h => h
theorem Emb.le.trans {φ ψ χ : Emb} (h : φ.le ψ) (h' : ψ.le χ) : φ.le χ := fun p l e => h' p l (h p l e)

/-- the bytes of a packed string -/
def bytesL (n x : Nat) : List UInt8 := (List.range n).map fun i => UInt8.ofNat (lane 8 x i)
def bytesOf (n x : Nat) : ByteArray := ⟨(bytesL n x).toArray⟩

def nkVal : NK → Value | .p => .pointer none | .s => .slice none 0 0 | .m => .map none | .f => .nilFunc | .i => .nilIface

/-- (a cell stands for a value; nested pairs stand for a list of values) -/
def R2 (φ : Emb) : Cell → (Value → Prop) × (List Value → Prop)
  | .i n => (fun v => v = .int .i64 (.ofNat n), fun _ => False)
  | .u n => (fun v => v = .int .u8 (.ofNat n), fun _ => False)
  | .nat k n => (fun v => v = .int k (.ofNat n), fun _ => False)
  | .neg k n => (fun v => v = .int k (.negSucc n), fun _ => False)
  | .bool b => (fun v => v = .bool b, fun _ => False)
  | .ptr p o => (fun v => ∃ l, φ p = some l ∧ v = .pointer (some ⟨l.b, l.base + o, none⟩), fun _ => False)
  | .str n x => (fun v => x < 2 ^ (8 * n) ∧ v = .string (bytesOf n x), fun _ => False)
  | .sl p o len cap => (fun v => ∃ l, φ p = some l ∧ v = .slice (some ⟨l.b, l.base + o, none⟩) len cap, fun _ => False)
  | .slu p o len e => (fun v => ∃ l c o', φ p = some l ∧ v = .slice (some ⟨l.b, o', none⟩) len c ∧ o + c * e = l.tot ∧ len ≤ c ∧ (c = 0 ∨ o' = l.base + o), fun _ => False)
  | .nil k => (fun v => v = nkVal k, fun _ => False)
  | .map p => (fun v => ∃ l, φ p = some l ∧ v = .map (some l.b), fun _ => False)
  | .fn (.func f) nf env => (fun v => ∃ a b : Array Value, v = .func (.func f) a b ∧ a.size = nf ∧ (R2 φ env).2 (a.toList ++ b.toList), fun _ => False)
  | .fn (.yield p) _ _ => (fun v => ∃ l, φ p = some l ∧ v = .func (.yield l.b) #[] #[], fun _ => False)
  | .cns h t => (fun _ => False, fun vs => ∃ v rest, vs = v :: rest ∧ (R2 φ h).1 v ∧ (R2 φ t).2 rest)
  | .iface t c => (fun v => ∃ x, v = .iface t x ∧ (R2 φ c).1 x, fun _ => False)
  | .undef => (fun _ => False, fun vs => vs = [])
def relC (φ : Emb) (c : Cell) (v : Value) : Prop := (R2 φ c).1 v
def relN (φ : Emb) (c : Cell) (vs : List Value) : Prop := (R2 φ c).2 vs

theorem R2_mono {φ ψ : Emb} (h : φ.le ψ) (c : Cell) : (∀ v, (R2 φ c).1 v → (R2 ψ c).1 v) ∧ (∀ vs, (R2 φ c).2 vs → (R2 ψ c).2 vs) := by
  induction c with
  | i n => exact ⟨fun _ h => h, fun _ h => h⟩
  | u n => exact ⟨fun _ h => h, fun _ h => h⟩
  | nat k n => exact ⟨fun _ h => h, fun _ h => h⟩
  | neg k n => exact ⟨fun _ h => h, fun _ h => h⟩
  | bool b => exact ⟨fun _ h => h, fun _ h => h⟩
  | ptr p o => exact ⟨fun v ⟨l, h1, h2⟩ => ⟨l, h _ _ h1, h2⟩, fun _ h => h⟩
  | str n x => exact ⟨fun _ h => h, fun _ h => h⟩
  | sl p o len cap => exact ⟨fun v ⟨l, h1, h2⟩ => ⟨l, h _ _ h1, h2⟩, fun _ h => h⟩
  | slu p o len e => exact ⟨fun v ⟨l, c, o', h1, h2⟩ => ⟨l, c, o', h _ _ h1, h2⟩, fun _ h => h⟩
  | nil k => exact ⟨fun _ h => h, fun _ h => h⟩
  | map p => exact ⟨fun v ⟨l, h1, h2⟩ => ⟨l, h _ _ h1, h2⟩, fun _ h => h⟩
  | fn f nf env ih =>
    cases f with
    | func f => exact ⟨fun v ⟨a, b, h1, h2, h3⟩ => ⟨a, b, h1, h2, ih.2 _ h3⟩, fun _ h => h⟩
    | yield p => exact ⟨fun v ⟨l, h1, h2⟩ => ⟨l, h _ _ h1, h2⟩, fun _ h => h⟩
  | cns a b iha ihb => exact ⟨fun _ h => h, fun vs ⟨v, rest, h1, h2, h3⟩ => ⟨v, rest, h1, iha.1 _ h2, ihb.2 _ h3⟩⟩
  | iface t c ih => exact ⟨fun v ⟨x, h1, h2⟩ => ⟨x, h1, ih.1 _ h2⟩, fun _ h => h⟩
  | undef => exact ⟨fun _ h => h, fun _ h => h⟩
theorem relC_mono {φ ψ : Emb} (h : φ.le ψ) {c : Cell} {v : Value} (r : relC φ c v) : relC ψ c v := (R2_mono h c).1 v r

/-- two lists, one by one -/
inductive Rel2 {α β : Type} (R : α → β → Prop) : List α → List β → Prop
  | nil : Rel2 R [] []
  | cons {a : α} {b : β} {l : List α} {m : List β} : R a b → Rel2 R l m → Rel2 R (a :: l) (b :: m)
theorem Rel2.mono {α β : Type} {R S : α → β → Prop} (h : ∀ a b, R a b → S a b) {l : List α} {m : List β} (r : Rel2 R l m) : Rel2 S l m := by
  induction r with
  | nil => exact .nil
  | cons h1 _ ih => exact .cons (h _ _ h1) ih
theorem Rel2.length {α β : Type} {R : α → β → Prop} {l : List α} {m : List β} (r : Rel2 R l m) : l.length = m.length := by
  induction r with
  | nil => rfl
  | cons _ _ ih => simp [ih]
theorem Rel2.get {α β : Type} {R : α → β → Prop} {l : List α} {m : List β} (r : Rel2 R l m) {i : Nat} {a : α} (h : l[i]? = some a) : ∃ b, m[i]? = some b ∧ R a b := by
  induction r generalizing i with
  | nil => simp at h
  | cons h1 _ ih =>
    cases i with
    | zero => simp at h; subst h; exact ⟨_, rfl, h1⟩
    | succ j => exact ih (by simpa using h)
theorem Rel2.append {α β : Type} {R : α → β → Prop} {l l' : List α} {m m' : List β} (r : Rel2 R l m) (r' : Rel2 R l' m') : Rel2 R (l ++ l') (m ++ m') := by
  induction r with
  | nil => exact r'
  | cons h1 _ ih => exact .cons h1 ih
theorem Rel2.take {α β : Type} {R : α → β → Prop} {l : List α} {m : List β} (r : Rel2 R l m) (n : Nat) : Rel2 R (l.take n) (m.take n) := by
  induction r generalizing n with
  | nil => simpa using Rel2.nil
  | cons h1 _ ih => cases n with | zero => exact .nil | succ j => exact .cons h1 (ih j)
theorem Rel2.drop {α β : Type} {R : α → β → Prop} {l : List α} {m : List β} (r : Rel2 R l m) (n : Nat) : Rel2 R (l.drop n) (m.drop n) := by
  induction r generalizing n with
  | nil => simpa using Rel2.nil
  | cons h1 h2 ih => cases n with | zero => exact .cons h1 h2 | succ j => exact ih j
theorem Rel2.set {α β : Type} {R : α → β → Prop} {l : List α} {m : List β} (r : Rel2 R l m) (n : Nat) {a : α} {b : β} (h : R a b) : Rel2 R (l.set n a) (m.set n b) := by
  induction r generalizing n with
  | nil => exact .nil
  | cons h1 h2 ih => cases n with | zero => exact .cons h h2 | succ j => exact .cons h1 (ih j)

/-- a rope stands for cells -/
def relRope (φ : Emb) (r : Rope) (vs : List Value) : Prop := r.wf ∧ Rel2 (relC φ) r.toL vs
def relEl (φ : Emb) : El → Value → Prop
  | .c c, v => relC φ c v
  | .a r, v => ∃ cs, v = .agg cs ∧ relRope φ r cs.toList
def relV (φ : Emb) : RV → Value → Prop
  | .c c, v => relC φ c v
  | .a r, v => ∃ cs, v = .agg cs ∧ relRope φ r cs.toList
  | .t l, v => ∃ vs, v = .tuple vs ∧ Rel2 (relEl φ) l vs.toList
theorem relRope_mono {φ ψ : Emb} (h : φ.le ψ) {r : Rope} {vs : List Value} (x : relRope φ r vs) : relRope ψ r vs := ⟨x.1, x.2.mono fun _ _ => relC_mono h⟩
theorem relEl_mono {φ ψ : Emb} (h : φ.le ψ) {e : El} {v : Value} (x : relEl φ e v) : relEl ψ e v := by
  cases e with
  | c c => exact relC_mono h x
  | a r => obtain ⟨cs, h1, h2⟩ := x; exact ⟨cs, h1, relRope_mono h h2⟩
theorem relV_mono {φ ψ : Emb} (h : φ.le ψ) {e : RV} {v : Value} (x : relV φ e v) : relV ψ e v := by
  cases e with
  | c c => exact relC_mono h x
  | a r => obtain ⟨cs, h1, h2⟩ := x; exact ⟨cs, h1, relRope_mono h h2⟩
  | t l => obtain ⟨vs, h1, h2⟩ := x; exact ⟨vs, h1, h2.mono fun _ _ => relEl_mono h⟩
theorem relV_rv {φ : Emb} {e : El} {v : Value} (x : relEl φ e v) : relV φ e.rv v := by cases e <;> exact x

/-! ### frames -/
/-- the frame's value of a rank -/
def Fr.get (f : Fr) (r : Nat) : Option RV :=
  match r with
  | 0 => some f.q0.a | 1 => some f.q0.b | 2 => some f.q0.c | 3 => some f.q0.d
  | 4 => some f.q1.a | 5 => some f.q1.b | 6 => some f.q1.c | 7 => some f.q1.d
  | 8 => some f.q2.a | 9 => some f.q2.b | 10 => some f.q2.c | 11 => some f.q2.d
  | 12 => some f.q3.a | 13 => some f.q3.b | 14 => some f.q3.c | 15 => some f.q3.d
  | r + 16 => f.more[r]?
/-- slot 'gl[r]' holds what the frame has at r -/
def relFr (φ : Emb) (gl : List Nat) (f : Fr) (tmps : Array Value) : Prop :=
  ∀ r t v, idx t gl 0 = some r → f.get r = some v → relV φ v (tmps.getD t undef)
/-- the slots named in 'ds' (plus one; the first place counts) hold what 'e' has there -/
def relEnv (φ : Emb) (ds : List Nat) (e : List RV) (tmps : Array Value) : Prop :=
  ∀ t d v, idx (t + 1) ds 0 = some d → e[d]? = some v → relV φ v (tmps.getD t undef)
def relDef (φ : Emb) : ADef → Deferred → Prop
  | .call (.func f) args, d => ∃ cap as, d.target = .fn (.func f) cap ∧ d.args = as ∧ Rel2 (relEl φ) args (as ++ cap).toList
  | .call (.yield _) _, _ => False
  | .mark p, d => ∃ l, φ p = some l ∧ d = { target := .collected l.b, args := #[] }

/-! ### memory -/
def relEnt (φ : Emb) (e : MEnt) (m : MapEntry) : Prop := relC φ e.key m.key ∧ relEl φ e.val m.val ∧ e.born = m.born
def relOP (φ : Emb) : Option Pos → Option Nat → Prop
  | none, none => True
  | some p, some b => ∃ l, φ p = some l ∧ b = l.b
  | _, _ => False
def relOD (φ : Emb) : Option (List ADef) → Option (List Deferred) → Prop
  | none, none => True
  | some ds, some ms => Rel2 (relDef φ) ds ms
  | _, _ => False
def relBlk (slots : Nat → List Nat) (nts : Nat → Nat) (φ : Emb) : Blk → Obj → Loc → Prop
  | .cells r exact ro t, .cells c t' fz, l => (ro = false → t = t') ∧ c.size = l.base + l.tot ∧ r.size ≤ l.tot ∧ (exact = true → r.size = l.tot ∧ l.base = 0) ∧ relRope φ r ((c.toList.drop l.base).take r.size) ∧
      (ro = false → ∀ o, l.base ≤ o → o < l.base + l.tot → ¬ (fz.1 ≤ o ∧ o < fz.2))
  | .map es clock, .map entries clock', _ => clock = clock' ∧ Rel2 (relEnt φ) es entries.toList
  | .strIter n x pos, .stringIter s pos', l => l.base = 0 ∧ x < 2 ^ (8 * n) ∧ s = bytesOf n x ∧ pos = pos'
  | .mapIter m since seen stepped, .mapIter b since' seen' stepped', l => l.base = 0 ∧ relOP φ m b ∧ since = since' ∧ seen = seen'.toList ∧ stepped = stepped'
  | .loop L, .loop M, _ => L.state = M.state ∧ L.pending = M.pending ∧ nts L.fn ≤ M.tmps.size ∧ L.params = M.params.toList ∧ L.assign = M.assign ∧ L.body = M.body ∧ (∃ l, φ L.defers = some l ∧ M.defers = l.b) ∧ relFr φ (slots L.fn) L.fr M.tmps
  | .deferred ds, .deferred ms, _ => relOD φ ds ms
  | _, _, _ => False
def Blk.isRo : Blk → Bool | .cells _ _ ro _ => ro | _ => false
/-- the package-level variables lie where the model has them -/
def GlobOk (P : Program) (φ : Emb) : Prop := ∀ g, g < P.globals.size → ∃ l, φ (Pos.ofNat g) = some l ∧ l.b = g ∧ l.base = 0
theorem GlobOk.mono {P : Program} {φ ψ : Emb} (h : φ.le ψ) (x : GlobOk P φ) : GlobOk P ψ := fun g hg => let ⟨l, h1, h2⟩ := x g hg; ⟨l, h _ _ h1, h2⟩
/-- the layers: the heap's own one, then those that can't be turned -/
def lookL : List HT → Pos → Option Blk
  | [], _ => none
  | h :: t, p => match h.at p with | some b => some b | none => lookL t p
def St.look (st : St) (p : Pos) : Option Blk := lookL (st.heap :: st.old) p
theorem look_own {st : St} {p : Pos} {b : Blk} (h : st.heap.at p = some b) : st.look p = some b := by unfold St.look lookL; rw [h]
structure relW (slots : Nat → List Nat) (nts : Nat → Nat) (φ : Emb) (st : St) (w : World) : Prop where
  blk : ∀ p b, st.look p = some b → ∃ l o, φ p = some l ∧ w.heap[l.b]? = some o ∧ relBlk slots nts φ b o l
  apart : ∀ p q b c l m, st.heap.at p = some b → st.look q = some c → φ p = some l → φ q = some m → p ≠ q → b.isRo = false → l.b ≠ m.b
  old : ∀ p l, φ p = some l → l.b < w.heap.size
  free : ∀ p l, φ p = some l → p.num < st.next.num
  sep : ∀ p b, st.heap.at p = some b → lookL st.old p = none
end Ev
/-! The trie of blocks. -/
namespace Ev
open Go

theorem hGet_ok {p : Pos} {t : HT} {k : Blk → R} (h : hGet p t k = .ok) : ∃ b, t.at p = some b ∧ k b = .ok := by
  unfold HT.at
  induction p generalizing t with
  | z =>
    cases t with
    | e => cases h
    | n v =>
      cases v with
      | none => cases h
      | some b => exact ⟨b, rfl, h⟩
  | d0 p ih => cases t with | e => cases h | n v c0 c1 c2 c3 c4 c5 c6 c7 => exact ih (t := c0) h
  | d1 p ih => cases t with | e => cases h | n v c0 c1 c2 c3 c4 c5 c6 c7 => exact ih (t := c1) h
  | d2 p ih => cases t with | e => cases h | n v c0 c1 c2 c3 c4 c5 c6 c7 => exact ih (t := c2) h
  | d3 p ih => cases t with | e => cases h | n v c0 c1 c2 c3 c4 c5 c6 c7 => exact ih (t := c3) h
  | d4 p ih => cases t with | e => cases h | n v c0 c1 c2 c3 c4 c5 c6 c7 => exact ih (t := c4) h
  | d5 p ih => cases t with | e => cases h | n v c0 c1 c2 c3 c4 c5 c6 c7 => exact ih (t := c5) h
  | d6 p ih => cases t with | e => cases h | n v c0 c1 c2 c3 c4 c5 c6 c7 => exact ih (t := c6) h
  | d7 p ih => cases t with | e => cases h | n v c0 c1 c2 c3 c4 c5 c6 c7 => exact ih (t := c7) h
theorem at_e (q : Pos) : HT.e.at q = none := by cases q <;> rfl
/-- what 'hSet' gives -/
def SetR (p : Pos) (t : HT) (x : Option Blk) (t' : HT) : Prop := t'.at p = x ∧ ∀ q, q ≠ p → t'.at q = t.at q
theorem hSet_ok {p : Pos} {t : HT} {x : Option Blk} {k : HT → R} (h : hSet p t x k = .ok) : ∃ t', SetR p t x t' ∧ k t' = .ok := by
  induction p generalizing t k with
  | z =>
    cases t with
    | e => exact ⟨_, ⟨rfl, fun q hq => by rw [at_e]; cases q <;> first | exact absurd rfl hq | exact at_e _⟩, h⟩
    | n v => exact ⟨_, ⟨rfl, fun q hq => by cases q <;> first | exact absurd rfl hq | rfl⟩, h⟩
  | d0 p ih =>
    cases t with
    | e =>
      obtain ⟨t', ⟨h1, h2⟩, h3⟩ := ih (t := .e) (k := fun t => k (.n none t .e .e .e .e .e .e .e)) h
      exact ⟨_, ⟨h1, fun q hq => by rw [at_e]; cases q <;> first | rfl | exact at_e _ | exact (h2 _ (fun e => hq (by rw [e]))).trans (at_e _)⟩, h3⟩
    | n v c0 c1 c2 c3 c4 c5 c6 c7 =>
      obtain ⟨t', ⟨h1, h2⟩, h3⟩ := ih (t := c0) (k := fun t => k (.n v t c1 c2 c3 c4 c5 c6 c7)) h
      exact ⟨_, ⟨h1, fun q hq => by cases q <;> first | rfl | exact h2 _ (fun e => hq (by rw [e]))⟩, h3⟩
  | d1 p ih =>
    cases t with
    | e =>
      obtain ⟨t', ⟨h1, h2⟩, h3⟩ := ih (t := .e) (k := fun t => k (.n none .e t .e .e .e .e .e .e)) h
      exact ⟨_, ⟨h1, fun q hq => by rw [at_e]; cases q <;> first | rfl | exact at_e _ | exact (h2 _ (fun e => hq (by rw [e]))).trans (at_e _)⟩, h3⟩
    | n v c0 c1 c2 c3 c4 c5 c6 c7 =>
      obtain ⟨t', ⟨h1, h2⟩, h3⟩ := ih (t := c1) (k := fun t => k (.n v c0 t c2 c3 c4 c5 c6 c7)) h
      exact ⟨_, ⟨h1, fun q hq => by cases q <;> first | rfl | exact h2 _ (fun e => hq (by rw [e]))⟩, h3⟩
  | d2 p ih =>
    cases t with
    | e =>
      obtain ⟨t', ⟨h1, h2⟩, h3⟩ := ih (t := .e) (k := fun t => k (.n none .e .e t .e .e .e .e .e)) h
      exact ⟨_, ⟨h1, fun q hq => by rw [at_e]; cases q <;> first | rfl | exact at_e _ | exact (h2 _ (fun e => hq (by rw [e]))).trans (at_e _)⟩, h3⟩
    | n v c0 c1 c2 c3 c4 c5 c6 c7 =>
      obtain ⟨t', ⟨h1, h2⟩, h3⟩ := ih (t := c2) (k := fun t => k (.n v c0 c1 t c3 c4 c5 c6 c7)) h
      exact ⟨_, ⟨h1, fun q hq => by cases q <;> first | rfl | exact h2 _ (fun e => hq (by rw [e]))⟩, h3⟩
  | d3 p ih =>
    cases t with
    | e =>
      obtain ⟨t', ⟨h1, h2⟩, h3⟩ := ih (t := .e) (k := fun t => k (.n none .e .e .e t .e .e .e .e)) h
      exact ⟨_, ⟨h1, fun q hq => by rw [at_e]; cases q <;> first | rfl | exact at_e _ | exact (h2 _ (fun e => hq (by rw [e]))).trans (at_e _)⟩, h3⟩
    | n v c0 c1 c2 c3 c4 c5 c6 c7 =>
      obtain ⟨t', ⟨h1, h2⟩, h3⟩ := ih (t := c3) (k := fun t => k (.n v c0 c1 c2 t c4 c5 c6 c7)) h
      exact ⟨_, ⟨h1, fun q hq => by cases q <;> first | rfl | exact h2 _ (fun e => hq (by rw [e]))⟩, h3⟩
  | d4 p ih =>
    cases t with
    | e =>
      obtain ⟨t', ⟨h1, h2⟩, h3⟩ := ih (t := .e) (k := fun t => k (.n none .e .e .e .e t .e .e .e)) h
      exact ⟨_, ⟨h1, fun q hq => by rw [at_e]; cases q <;> first | rfl | exact at_e _ | exact (h2 _ (fun e => hq (by rw [e]))).trans (at_e _)⟩, h3⟩
    | n v c0 c1 c2 c3 c4 c5 c6 c7 =>
      obtain ⟨t', ⟨h1, h2⟩, h3⟩ := ih (t := c4) (k := fun t => k (.n v c0 c1 c2 c3 t c5 c6 c7)) h
      exact ⟨_, ⟨h1, fun q hq => by cases q <;> first | rfl | exact h2 _ (fun e => hq (by rw [e]))⟩, h3⟩
  | d5 p ih =>
    cases t with
    | e =>
      obtain ⟨t', ⟨h1, h2⟩, h3⟩ := ih (t := .e) (k := fun t => k (.n none .e .e .e .e .e t .e .e)) h
      exact ⟨_, ⟨h1, fun q hq => by rw [at_e]; cases q <;> first | rfl | exact at_e _ | exact (h2 _ (fun e => hq (by rw [e]))).trans (at_e _)⟩, h3⟩
    | n v c0 c1 c2 c3 c4 c5 c6 c7 =>
      obtain ⟨t', ⟨h1, h2⟩, h3⟩ := ih (t := c5) (k := fun t => k (.n v c0 c1 c2 c3 c4 t c6 c7)) h
      exact ⟨_, ⟨h1, fun q hq => by cases q <;> first | rfl | exact h2 _ (fun e => hq (by rw [e]))⟩, h3⟩
  | d6 p ih =>
    cases t with
    | e =>
      obtain ⟨t', ⟨h1, h2⟩, h3⟩ := ih (t := .e) (k := fun t => k (.n none .e .e .e .e .e .e t .e)) h
      exact ⟨_, ⟨h1, fun q hq => by rw [at_e]; cases q <;> first | rfl | exact at_e _ | exact (h2 _ (fun e => hq (by rw [e]))).trans (at_e _)⟩, h3⟩
    | n v c0 c1 c2 c3 c4 c5 c6 c7 =>
      obtain ⟨t', ⟨h1, h2⟩, h3⟩ := ih (t := c6) (k := fun t => k (.n v c0 c1 c2 c3 c4 c5 t c7)) h
      exact ⟨_, ⟨h1, fun q hq => by cases q <;> first | rfl | exact h2 _ (fun e => hq (by rw [e]))⟩, h3⟩
  | d7 p ih =>
    cases t with
    | e =>
      obtain ⟨t', ⟨h1, h2⟩, h3⟩ := ih (t := .e) (k := fun t => k (.n none .e .e .e .e .e .e .e t)) h
      exact ⟨_, ⟨h1, fun q hq => by rw [at_e]; cases q <;> first | rfl | exact at_e _ | exact (h2 _ (fun e => hq (by rw [e]))).trans (at_e _)⟩, h3⟩
    | n v c0 c1 c2 c3 c4 c5 c6 c7 =>
      obtain ⟨t', ⟨h1, h2⟩, h3⟩ := ih (t := c7) (k := fun t => k (.n v c0 c1 c2 c3 c4 c5 c6 t)) h
      exact ⟨_, ⟨h1, fun q hq => by cases q <;> first | rfl | exact h2 _ (fun e => hq (by rw [e]))⟩, h3⟩
theorem psucc_ok {p : Pos} {k : Pos → R} (h : psucc p k = .ok) : ∃ q, q.num = p.num + 1 ∧ k q = .ok := by
  induction p generalizing k with
  | z => exact ⟨_, rfl, h⟩
  | d7 p ih =>
    obtain ⟨q, h1, h2⟩ := ih (k := fun q => k (.d0 q)) h
    exact ⟨_, by simp only [Pos.num]; omega, h2⟩
  | _ p ih => exact ⟨_, by simp only [Pos.num], h⟩
theorem hGetE_ok {p : Pos} {t : HT} {k : Blk → R} {m : Unit → R} (h : hGetE p t k m = .ok) : (∃ b, t.at p = some b ∧ k b = .ok) ∨ (t.at p = none ∧ m () = .ok) := by
  unfold HT.at
  induction p generalizing t with
  | z =>
    cases t with
    | e => exact .inr ⟨rfl, h⟩
    | n v =>
      cases v with
      | none => exact .inr ⟨rfl, h⟩
      | some b => exact .inl ⟨b, rfl, h⟩
  | d0 p ih => cases t with | e => exact .inr ⟨rfl, h⟩ | n v c0 c1 c2 c3 c4 c5 c6 c7 => exact ih (t := c0) h
  | d1 p ih => cases t with | e => exact .inr ⟨rfl, h⟩ | n v c0 c1 c2 c3 c4 c5 c6 c7 => exact ih (t := c1) h
  | d2 p ih => cases t with | e => exact .inr ⟨rfl, h⟩ | n v c0 c1 c2 c3 c4 c5 c6 c7 => exact ih (t := c2) h
  | d3 p ih => cases t with | e => exact .inr ⟨rfl, h⟩ | n v c0 c1 c2 c3 c4 c5 c6 c7 => exact ih (t := c3) h
  | d4 p ih => cases t with | e => exact .inr ⟨rfl, h⟩ | n v c0 c1 c2 c3 c4 c5 c6 c7 => exact ih (t := c4) h
  | d5 p ih => cases t with | e => exact .inr ⟨rfl, h⟩ | n v c0 c1 c2 c3 c4 c5 c6 c7 => exact ih (t := c5) h
  | d6 p ih => cases t with | e => exact .inr ⟨rfl, h⟩ | n v c0 c1 c2 c3 c4 c5 c6 c7 => exact ih (t := c6) h
  | d7 p ih => cases t with | e => exact .inr ⟨rfl, h⟩ | n v c0 c1 c2 c3 c4 c5 c6 c7 => exact ih (t := c7) h
theorem oldGet_ok {l : List HT} {p : Pos} {k : Blk → R} (h : oldGet l p k = .ok) : ∃ b, lookL l p = some b ∧ k b = .ok := by
  induction l with
  | nil => cases h
  | cons t l ih =>
    unfold lookL
    rcases hGetE_ok (h : hGetE p t k (fun _ => oldGet l p k) = .ok) with ⟨b, h1, h2⟩ | ⟨h1, h2⟩
    · rw [h1]; exact ⟨b, rfl, h2⟩
    · rw [h1]; exact ih h2
theorem gGet_ok {st : St} {p : Pos} {k : Blk → R} (h : gGet st p k = .ok) : ∃ b, st.look p = some b ∧ k b = .ok := by
  unfold St.look lookL
  rcases hGetE_ok (h : hGetE p st.heap k (fun _ => oldGet st.old p k) = .ok) with ⟨b, h1, h2⟩ | ⟨h1, h2⟩
  · rw [h1]; exact ⟨b, rfl, h2⟩
  · rw [h1]; exact oldGet_ok h2
theorem look_set {st st' : St} {p q : Pos} {x : Option Blk} (h : SetR p st.heap x st'.heap) (hl : st'.old = st.old) (hq : q ≠ p) : st'.look q = st.look q := by
  unfold St.look lookL
  rw [h.2 q hq, hl]
end Ev
/-! Steps of the memory. -/
namespace Ev
open Go
set_option linter.unusedVariables false
variable {slots : Nat → List Nat} {nts : Nat → Nat}

theorem relFr_mono {φ ψ : Emb} (h : φ.le ψ) {gl : List Nat} {f : Fr} {t : Array Value} (r : relFr φ gl f t) : relFr ψ gl f t :=
  fun i s v h1 h2 => relV_mono h (r i s v h1 h2)
theorem relDef_mono {φ ψ : Emb} (h : φ.le ψ) {d : ADef} {e : Deferred} (r : relDef φ d e) : relDef ψ d e := by
  cases d with
  | call f args =>
    cases f with
    | func f => obtain ⟨cap, as, h1, h2, h3⟩ := r; exact ⟨cap, as, h1, h2, h3.mono fun _ _ => relEl_mono h⟩
    | yield _ => exact r.elim
  | mark p => obtain ⟨l, h1, h2⟩ := r; exact ⟨l, h _ _ h1, h2⟩
theorem relEnt_mono {φ ψ : Emb} (h : φ.le ψ) {e : MEnt} {m : MapEntry} (r : relEnt φ e m) : relEnt ψ e m := ⟨relC_mono h r.1, relEl_mono h r.2.1, r.2.2⟩
theorem relOP_mono {φ ψ : Emb} (h : φ.le ψ) {m : Option Pos} {b : Option Nat} (r : relOP φ m b) : relOP ψ m b := by
  cases m <;> cases b <;> try exact r
  obtain ⟨l, h1, h2⟩ := r
  exact ⟨l, h _ _ h1, h2⟩
theorem relOD_mono {φ ψ : Emb} (h : φ.le ψ) {m : Option (List ADef)} {b : Option (List Deferred)} (r : relOD φ m b) : relOD ψ m b := by
  cases m <;> cases b <;> try exact r
  exact Rel2.mono (fun _ _ => relDef_mono h) r
theorem relBlk_mono {φ ψ : Emb} (h : φ.le ψ) {b : Blk} {o : Obj} {l : Loc} (r : relBlk slots nts φ b o l) : relBlk slots nts ψ b o l := by
  cases b with
  | cells rp ex ro t => cases o <;> try exact r.elim
                        exact ⟨r.1, r.2.1, r.2.2.1, r.2.2.2.1, relRope_mono h r.2.2.2.2.1, r.2.2.2.2.2⟩
  | map es c => cases o <;> try exact r.elim
                exact ⟨r.1, r.2.mono fun _ _ => relEnt_mono h⟩
  | strIter n x p => cases o <;> exact r
  | mapIter m a b c =>
    cases o <;> try exact r.elim
    exact ⟨r.1, relOP_mono h r.2.1, r.2.2⟩
  | loop L =>
    cases o <;> try exact r.elim
    obtain ⟨a1, a2, a3, a4, a5, a6, ⟨l', h1, h2⟩, a7⟩ := r
    exact ⟨a1, a2, a3, a4, a5, a6, ⟨l', h _ _ h1, h2⟩, relFr_mono h a7⟩
  | deferred ds =>
    cases o <;> try exact r.elim
    exact relOD_mono h r

/-- a block that an abstract row, not read-only, has -/
def Own (φ : Emb) (st : St) (b : Nat) : Prop := ∃ p blk l, st.heap.at p = some blk ∧ blk.isRo = false ∧ φ p = some l ∧ l.b = b
/-- a step: from one abstract state to another, from one world to another -/
structure Ext (slots : Nat → List Nat) (nts : Nat → Nat) (φ : Emb) (st : St) (w : World) (ψ : Emb) (st' : St) (w' : World) : Prop where
  le : φ.le ψ
  rel : relW slots nts ψ st' w'
  size : w.heap.size ≤ w'.heap.size
  own : ∀ b, b < w.heap.size → Own ψ st' b → Own φ st b
  keep : ∀ b, b < w.heap.size → ¬ Own φ st b → w'.heap[b]? = w.heap[b]?
  new : ∀ p l, ψ p = some l → φ p = none → st.next.num ≤ p.num ∧ (w.heap.size ≤ l.b ∨ Own φ st l.b)
  next : st.next.num ≤ st'.next.num
  tape : w'.tape = w.tape
  os : w'.os = w.os
  out : w'.output = w.output
  lay : st'.old = st.old
theorem Ext.refl {φ : Emb} {st : St} {w : World} (h : relW slots nts φ st w) : Ext slots nts φ st w φ st w :=
  ⟨φ.le_refl, h, Nat.le_refl _, fun _ _ h => h, fun _ _ _ => rfl, fun p l h1 h2 => (by rw [h1] at h2; cases h2), Nat.le_refl _, rfl, rfl, rfl, rfl⟩
theorem Ext.trans {φ ψ χ : Emb} {st st' st'' : St} {w w' w'' : World} (a : Ext slots nts φ st w ψ st' w') (b : Ext slots nts ψ st' w' χ st'' w'') : Ext slots nts φ st w χ st'' w'' where
  le := a.le.trans b.le
  rel := b.rel
  size := Nat.le_trans a.size b.size
  own := fun x hx h => a.own x hx (b.own x (Nat.lt_of_lt_of_le hx a.size) h)
  keep := fun x hx h => (b.keep x (Nat.lt_of_lt_of_le hx a.size) fun h' => h (a.own x hx h')).trans (a.keep x hx h)
  new := fun p l h1 h2 => by
    cases h : ψ p with
    | none =>
      have := b.new p l h1 h
      refine ⟨Nat.le_trans a.next this.1, ?_⟩
      rcases this.2 with h3 | h3
      · exact .inl (Nat.le_trans a.size h3)
      · by_cases h4 : l.b < w.heap.size
        · exact .inr (a.own _ h4 h3)
        · exact .inl (Nat.le_of_not_lt h4)
    | some m =>
      have := b.le p m h
      rw [h1] at this; cases this
      exact a.new p l h h2
  next := Nat.le_trans a.next b.next
  tape := b.tape.trans a.tape
  os := b.os.trans a.os
  out := b.out.trans a.out
  lay := b.lay.trans a.lay
/-- draws of the tape -/
theorem relW.drawn {φ : Emb} {st : St} {w : World} (h : relW slots nts φ st w) (d : Nat) : relW slots nts φ st { w with drawn := d } := ⟨h.blk, h.apart, h.old, h.free, h.sep⟩
theorem Ext.draws {φ : Emb} {st : St} {w : World} (h : relW slots nts φ st w) (d : Nat) : Ext slots nts φ st w φ st { w with drawn := d } :=
  ⟨φ.le_refl, h.drawn d, Nat.le_refl _, fun _ _ h => h, fun _ _ _ => rfl, fun p l h1 h2 => (by rw [h1] at h2; cases h2), Nat.le_refl _, rfl, rfl, rfl, rfl⟩
theorem Ext.drew {φ : Emb} {st : St} {w : World} (h : relW slots nts φ st w) : Ext slots nts φ st w φ st { w with drawn := w.drawn + 1 } := Ext.draws h _

def Emb.put (φ : Emb) (p : Pos) (l : Loc) : Emb := fun q => if q = p then some l else φ q
theorem Emb.put_same (φ : Emb) (p : Pos) (l : Loc) : φ.put p l p = some l := by simp [Emb.put]
theorem Emb.put_le {φ : Emb} {p : Pos} {l : Loc} (h : φ p = none) : φ.le (φ.put p l) := fun q m hq => by
  unfold Emb.put
  by_cases e : q = p
  · subst e; rw [h] at hq; cases hq
  · rw [if_neg e]; exact hq
theorem next_free {φ : Emb} {st : St} {w : World} (h : relW slots nts φ st w) : φ st.next = none := by
  cases e : φ st.next with
  | none => rfl
  | some l => exact absurd (h.free _ _ e) (Nat.lt_irrefl _)
theorem next_look {φ : Emb} {st : St} {w : World} (h : relW slots nts φ st w) : st.look st.next = none := by
  cases e : st.look st.next with
  | none => rfl
  | some b => obtain ⟨l, o, h1, _⟩ := h.blk _ _ e; rw [next_free h] at h1; cases h1
theorem next_none {φ : Emb} {st : St} {w : World} (h : relW slots nts φ st w) : st.heap.at st.next = none := by
  cases e : st.heap.at st.next with
  | none => rfl
  | some b => have := next_look h; rw [look_own e] at this; cases this
theorem next_old {φ : Emb} {st : St} {w : World} (h : relW slots nts φ st w) : lookL st.old st.next = none := by
  have h1 := next_look h
  unfold St.look lookL at h1
  rw [next_none h] at h1; exact h1
theorem emb_put_cases {φ : Emb} {n p : Pos} {l m : Loc} (h : φ.put n l p = some m) : p = n ∧ m = l ∨ p ≠ n ∧ φ p = some m := by
  unfold Emb.put at h
  by_cases e : p = n
  · rw [if_pos e] at h; cases h; exact .inl ⟨e, rfl⟩
  · rw [if_neg e] at h; exact .inr ⟨e, h⟩
/-- a world that has grown -/
theorem relW.grow {φ : Emb} {st : St} {w w' : World} (h : relW slots nts φ st w) (hsz : w.heap.size ≤ w'.heap.size) (hkeep : ∀ x, x < w.heap.size → w'.heap[x]? = w.heap[x]?) : relW slots nts φ st w' :=
  ⟨fun p x hx => let ⟨l, o, h1, h2, h3⟩ := h.blk p x hx; ⟨l, o, h1, by rw [hkeep _ (h.old _ _ h1)]; exact h2, h3⟩, h.apart, fun p l hl => Nat.lt_of_lt_of_le (h.old p l hl) hsz, h.free, h.sep⟩
/-- a block that lies there already, seen by nobody, is taken in -/
theorem relW.bind {φ : Emb} {st st' : St} {w : World} (h : relW slots nts φ st w) {b : Blk} {o : Obj} {l : Loc}
    (hs : SetR st.next st.heap (some b) st'.heap) (hn : st'.next.num = st.next.num + 1) (hl : st'.old = st.old)
    (hwb : w.heap[l.b]? = some o) (hnew : ∀ p m, φ p = some m → m.b ≠ l.b) (hb : relBlk slots nts (φ.put st.next l) b o l) :
    relW slots nts (φ.put st.next l) st' w := by
  have hle : φ.le (φ.put st.next l) := Emb.put_le (next_free h)
  refine ⟨?_, ?_, ?_, ?_, ?_⟩
  · intro p x hx
    by_cases e : p = st.next
    · subst e
      rw [look_own hs.1] at hx
      cases hx
      exact ⟨l, o, Emb.put_same _ _ _, hwb, hb⟩
    · rw [look_set hs hl e] at hx
      obtain ⟨m, ob, h1, h2, h3⟩ := h.blk p x hx
      exact ⟨m, ob, hle _ _ h1, h2, relBlk_mono hle h3⟩
  · intro p q x y m n hx hy hm hn' hpq hro
    rcases emb_put_cases hm with ⟨e1, rfl⟩ | ⟨e1, e2⟩ <;> rcases emb_put_cases hn' with ⟨e3, rfl⟩ | ⟨e3, e4⟩
    · exact absurd (e1.trans e3.symm) hpq
    · exact (hnew _ _ e4).symm
    · exact hnew _ _ e2
    · rw [hs.2 p e1] at hx
      rw [look_set hs hl e3] at hy
      exact h.apart p q x y m n hx hy e2 e4 hpq hro
  · intro p m hm
    rcases emb_put_cases hm with ⟨_, rfl⟩ | ⟨_, e2⟩
    · exact (Array.getElem?_eq_some_iff.1 hwb).1
    · exact h.old _ _ e2
  · intro p m hm
    rcases emb_put_cases hm with ⟨rfl, _⟩ | ⟨_, e2⟩
    · omega
    · have := h.free _ _ e2; omega
  · intro p x hx
    rw [hl]
    by_cases e : p = st.next
    · subst e; exact next_old h
    · rw [hs.2 p e] at hx; exact h.sep p x hx
/-- (the step: seen from where the block did not lie yet) -/
theorem Ext.bind {φ₀ φ : Emb} {st₀ st st' : St} {w₀ w w' : World} (x : Ext slots nts φ₀ st₀ w₀ φ st w) {b : Blk} {o : Obj} {l : Loc}
    (hs : SetR st.next st.heap (some b) st'.heap) (hn : st'.next.num = st.next.num + 1) (hl : st'.old = st.old)
    (hsz : w.heap.size ≤ w'.heap.size) (hkeep : ∀ x, x < w.heap.size → w'.heap[x]? = w.heap[x]?) (hw2 : w'.tape = w.tape ∧ w'.os = w.os ∧ w'.output = w.output)
    (hwb : w'.heap[l.b]? = some o) (hnew : ∀ p m, φ p = some m → m.b ≠ l.b) (hfresh : w₀.heap.size ≤ l.b) (hb : relBlk slots nts (φ.put st.next l) b o l) :
    Ext slots nts φ₀ st₀ w₀ (φ.put st.next l) st' w' := by
  have hle : φ.le (φ.put st.next l) := Emb.put_le (next_free x.rel)
  refine ⟨x.le.trans hle, (x.rel.grow hsz hkeep).bind hs hn hl hwb hnew hb, Nat.le_trans x.size hsz, ?_, fun y hy hno => (hkeep y (Nat.lt_of_lt_of_le hy x.size)).trans (x.keep y hy hno), ?_, by have := x.next; omega, hw2.1.trans x.tape, hw2.2.1.trans x.os, hw2.2.2.trans x.out, hl.trans x.lay⟩
  · rintro y hy ⟨p, blk, m, h1, h2, h3, h4⟩
    rcases emb_put_cases h3 with ⟨rfl, rfl⟩ | ⟨e1, e2⟩
    · omega
    · rw [hs.2 p e1] at h1
      exact x.own y hy ⟨p, blk, m, h1, h2, e2, h4⟩
  · intro p m h1 h2
    rcases emb_put_cases h1 with ⟨rfl, rfl⟩ | ⟨_, e2⟩
    · exact ⟨x.next, .inl hfresh⟩
    · exact x.new p m e2 h2
/-- a new block -/
theorem Ext.alloc {φ : Emb} {st st' : St} {w : World} (h : relW slots nts φ st w) {b : Blk} {o : Obj} {tot : Nat}
    (hs : SetR st.next st.heap (some b) st'.heap) (hn : st'.next.num = st.next.num + 1) (hl : st'.old = st.old) (hb : relBlk slots nts (φ.put st.next ⟨w.heap.size, 0, tot⟩) b o ⟨w.heap.size, 0, tot⟩) :
    Ext slots nts φ st w (φ.put st.next ⟨w.heap.size, 0, tot⟩) st' { w with heap := w.heap.push o } :=
  Ext.bind (Ext.refl h) hs hn hl (by simp) (fun x hx => by simp [Array.getElem?_push, Nat.ne_of_lt hx]) ⟨rfl, rfl, rfl⟩ (by simp) (fun p m hm e => absurd (h.old p m hm) (by rw [e]; exact Nat.lt_irrefl _)) (Nat.le_refl _) hb
/-- a block turned -/
theorem Ext.turn {φ : Emb} {st st' : St} {w w' : World} (h : relW slots nts φ st w) {p : Pos} {b b' : Blk} {o' : Obj} {l : Loc}
    (hp : st.heap.at p = some b) (hl : φ p = some l) (hro : b.isRo = false)
    (hs : SetR p st.heap (some b') st'.heap) (hn : st'.next = st.next) (ho : st'.old = st.old) (hw : w'.heap = w.heap.setIfInBounds l.b o') (hw2 : w'.tape = w.tape ∧ w'.os = w.os ∧ w'.output = w.output) (hb : relBlk slots nts φ b' o' l) :
    Ext slots nts φ st w φ st' w' := by
  have hlb := h.old _ _ hl
  refine ⟨φ.le_refl, ⟨?_, ?_, ?_, ?_, ?_⟩, by simp [hw], ?_, ?_, ?_, by rw [hn]; exact Nat.le_refl _, hw2.1, hw2.2.1, hw2.2.2, ho⟩
  · intro q x hx
    by_cases e : q = p
    · subst e
      rw [look_own hs.1] at hx
      cases hx
      exact ⟨l, o', hl, by rw [hw]; simp [hlb], hb⟩
    · rw [look_set hs ho e] at hx
      obtain ⟨m, ob, h1, h2, h3⟩ := h.blk q x hx
      refine ⟨m, ob, h1, ?_, h3⟩
      have hne := h.apart p q b x l m hp hx hl h1 (Ne.symm e) hro
      rw [hw, Array.getElem?_setIfInBounds_ne hne]; exact h2
  · intro q r x y m n hx hy hm hn' hqr hr
    have hx0 : ∃ x0, st.heap.at q = some x0 ∧ (x.isRo = false → x0.isRo = false) := by
      by_cases e : q = p
      · subst e; exact ⟨b, hp, fun _ => hro⟩
      · rw [hs.2 q e] at hx; exact ⟨x, hx, id⟩
    have hy0 : ∃ y0, st.look r = some y0 := by
      by_cases e : r = p
      · subst e; exact ⟨b, look_own hp⟩
      · rw [look_set hs ho e] at hy; exact ⟨y, hy⟩
    obtain ⟨x0, hx0, hxr⟩ := hx0
    obtain ⟨y0, hy0⟩ := hy0
    exact h.apart q r x0 y0 m n hx0 hy0 hm hn' hqr (hxr hr)
  · intro q m hm; rw [hw]; simp; exact h.old _ _ hm
  · intro q m hm; rw [hn]; exact h.free _ _ hm
  · intro q x hx
    rw [ho]
    by_cases e : q = p
    · subst e; exact h.sep _ _ hp
    · rw [hs.2 q e] at hx; exact h.sep q x hx
  · rintro x hx ⟨q, blk, m, h1, h2, h3, h4⟩
    by_cases e : q = p
    · subst e; rw [hl] at h3; cases h3; exact ⟨q, b, l, hp, hro, hl, h4⟩
    · rw [hs.2 q e] at h1; exact ⟨q, blk, m, h1, h2, h3, h4⟩
  · intro x hx hno
    have : l.b ≠ x := fun e => hno ⟨p, b, l, hp, hro, hl, e⟩
    rw [hw, Array.getElem?_setIfInBounds_ne this]
  · intro q m h1 h2; rw [h1] at h2; cases h2
end Ev
/-! Operands; an operation that yields a value. -/
namespace Ev
open Go
set_option linter.unusedVariables false

theorem sel0_ok {e : List RV} {k : RV → R} (h : sel0 e k = .ok) : ∃ v, e[0]? = some v ∧ k v = .ok := by
  cases e with
  | nil => cases h
  | cons v l => exact ⟨v, rfl, h⟩
theorem selN_ok {d : Nat} {e : List RV} {k : RV → R} (h : selN d e k = .ok) : ∃ v, e[d]? = some v ∧ k v = .ok := by
  induction d generalizing e with
  | zero => exact sel0_ok h
  | succ d ih =>
    cases e with
    | nil => cases h
    | cons v l => exact ih (e := l) h
theorem updN_ok {d : Nat} {e : List RV} {x : RV} {k : List RV → R} (h : updN d e x k = .ok) : d < e.length ∧ k (e.set d x) = .ok := by
  induction d generalizing e k with
  | zero =>
    cases e with
    | nil => cases h
    | cons v l => exact ⟨by simp, h⟩
  | succ d ih =>
    cases e with
    | nil => cases h
    | cons v l =>
      obtain ⟨h1, h2⟩ := ih (e := l) (k := fun l => k (v :: l)) h
      exact ⟨by simp; omega, h2⟩
theorem frGet_ok {r : Nat} {f : Fr} {k : RV → R} (h : (frGet r).run f k = .ok) : ∃ v, f.get r = some v ∧ k v = .ok := by
  obtain ⟨⟨a0, a1, a2, a3⟩, ⟨b0, b1, b2, b3⟩, ⟨c0, c1, c2, c3⟩, ⟨d0, d1, d2, d3⟩, m, ds⟩ := f
  match r, h with
  | 0, h => exact ⟨_, rfl, h⟩ | 1, h => exact ⟨_, rfl, h⟩ | 2, h => exact ⟨_, rfl, h⟩ | 3, h => exact ⟨_, rfl, h⟩
  | 4, h => exact ⟨_, rfl, h⟩ | 5, h => exact ⟨_, rfl, h⟩ | 6, h => exact ⟨_, rfl, h⟩ | 7, h => exact ⟨_, rfl, h⟩
  | 8, h => exact ⟨_, rfl, h⟩ | 9, h => exact ⟨_, rfl, h⟩ | 10, h => exact ⟨_, rfl, h⟩ | 11, h => exact ⟨_, rfl, h⟩
  | 12, h => exact ⟨_, rfl, h⟩ | 13, h => exact ⟨_, rfl, h⟩ | 14, h => exact ⟨_, rfl, h⟩ | 15, h => exact ⟨_, rfl, h⟩
  | r + 16, h =>
    have e : frGet (r + 16) = ⟨fgM (selN r)⟩ := by
      unfold frGet
      have : (r + 16) / 4 = r / 4 + 4 := by omega
      rw [this]
      rfl
    rw [e] at h
    have h : selN r m k = .ok := h
    obtain ⟨v, h1, h2⟩ := selN_ok h
    exact ⟨v, h1, h2⟩
theorem frSet_ok {r : Nat} {f : Fr} {x : RV} {k : Fr → R} (h : (frSet r).run f x k = .ok) : ∃ f' : Fr, (∀ j, f'.get j = if j = r then some x else f.get j) ∧ f'.defs = f.defs ∧ k f' = .ok := by
  obtain ⟨⟨a0, a1, a2, a3⟩, ⟨b0, b1, b2, b3⟩, ⟨c0, c1, c2, c3⟩, ⟨d0, d1, d2, d3⟩, m, ds⟩ := f
  match r, h with
  | 0, h => exact ⟨⟨⟨x, a1, a2, a3⟩, ⟨b0, b1, b2, b3⟩, ⟨c0, c1, c2, c3⟩, ⟨d0, d1, d2, d3⟩, m, ds⟩, fun j => (by match j with
      | 0 | 1 | 2 | 3 | 4 | 5 | 6 | 7 | 8 | 9 | 10 | 11 | 12 | 13 | 14 | 15 => rfl
      | j + 16 => rw [if_neg (by omega)]; rfl), rfl, h⟩
  | 1, h => exact ⟨⟨⟨a0, x, a2, a3⟩, ⟨b0, b1, b2, b3⟩, ⟨c0, c1, c2, c3⟩, ⟨d0, d1, d2, d3⟩, m, ds⟩, fun j => (by match j with
      | 0 | 1 | 2 | 3 | 4 | 5 | 6 | 7 | 8 | 9 | 10 | 11 | 12 | 13 | 14 | 15 => rfl
      | j + 16 => rw [if_neg (by omega)]; rfl), rfl, h⟩
  | 2, h => exact ⟨⟨⟨a0, a1, x, a3⟩, ⟨b0, b1, b2, b3⟩, ⟨c0, c1, c2, c3⟩, ⟨d0, d1, d2, d3⟩, m, ds⟩, fun j => (by match j with
      | 0 | 1 | 2 | 3 | 4 | 5 | 6 | 7 | 8 | 9 | 10 | 11 | 12 | 13 | 14 | 15 => rfl
      | j + 16 => rw [if_neg (by omega)]; rfl), rfl, h⟩
  | 3, h => exact ⟨⟨⟨a0, a1, a2, x⟩, ⟨b0, b1, b2, b3⟩, ⟨c0, c1, c2, c3⟩, ⟨d0, d1, d2, d3⟩, m, ds⟩, fun j => (by match j with
      | 0 | 1 | 2 | 3 | 4 | 5 | 6 | 7 | 8 | 9 | 10 | 11 | 12 | 13 | 14 | 15 => rfl
      | j + 16 => rw [if_neg (by omega)]; rfl), rfl, h⟩
  | 4, h => exact ⟨⟨⟨a0, a1, a2, a3⟩, ⟨x, b1, b2, b3⟩, ⟨c0, c1, c2, c3⟩, ⟨d0, d1, d2, d3⟩, m, ds⟩, fun j => (by match j with
      | 0 | 1 | 2 | 3 | 4 | 5 | 6 | 7 | 8 | 9 | 10 | 11 | 12 | 13 | 14 | 15 => rfl
      | j + 16 => rw [if_neg (by omega)]; rfl), rfl, h⟩
  | 5, h => exact ⟨⟨⟨a0, a1, a2, a3⟩, ⟨b0, x, b2, b3⟩, ⟨c0, c1, c2, c3⟩, ⟨d0, d1, d2, d3⟩, m, ds⟩, fun j => (by match j with
      | 0 | 1 | 2 | 3 | 4 | 5 | 6 | 7 | 8 | 9 | 10 | 11 | 12 | 13 | 14 | 15 => rfl
      | j + 16 => rw [if_neg (by omega)]; rfl), rfl, h⟩
  | 6, h => exact ⟨⟨⟨a0, a1, a2, a3⟩, ⟨b0, b1, x, b3⟩, ⟨c0, c1, c2, c3⟩, ⟨d0, d1, d2, d3⟩, m, ds⟩, fun j => (by match j with
      | 0 | 1 | 2 | 3 | 4 | 5 | 6 | 7 | 8 | 9 | 10 | 11 | 12 | 13 | 14 | 15 => rfl
      | j + 16 => rw [if_neg (by omega)]; rfl), rfl, h⟩
  | 7, h => exact ⟨⟨⟨a0, a1, a2, a3⟩, ⟨b0, b1, b2, x⟩, ⟨c0, c1, c2, c3⟩, ⟨d0, d1, d2, d3⟩, m, ds⟩, fun j => (by match j with
      | 0 | 1 | 2 | 3 | 4 | 5 | 6 | 7 | 8 | 9 | 10 | 11 | 12 | 13 | 14 | 15 => rfl
      | j + 16 => rw [if_neg (by omega)]; rfl), rfl, h⟩
  | 8, h => exact ⟨⟨⟨a0, a1, a2, a3⟩, ⟨b0, b1, b2, b3⟩, ⟨x, c1, c2, c3⟩, ⟨d0, d1, d2, d3⟩, m, ds⟩, fun j => (by match j with
      | 0 | 1 | 2 | 3 | 4 | 5 | 6 | 7 | 8 | 9 | 10 | 11 | 12 | 13 | 14 | 15 => rfl
      | j + 16 => rw [if_neg (by omega)]; rfl), rfl, h⟩
  | 9, h => exact ⟨⟨⟨a0, a1, a2, a3⟩, ⟨b0, b1, b2, b3⟩, ⟨c0, x, c2, c3⟩, ⟨d0, d1, d2, d3⟩, m, ds⟩, fun j => (by match j with
      | 0 | 1 | 2 | 3 | 4 | 5 | 6 | 7 | 8 | 9 | 10 | 11 | 12 | 13 | 14 | 15 => rfl
      | j + 16 => rw [if_neg (by omega)]; rfl), rfl, h⟩
  | 10, h => exact ⟨⟨⟨a0, a1, a2, a3⟩, ⟨b0, b1, b2, b3⟩, ⟨c0, c1, x, c3⟩, ⟨d0, d1, d2, d3⟩, m, ds⟩, fun j => (by match j with
      | 0 | 1 | 2 | 3 | 4 | 5 | 6 | 7 | 8 | 9 | 10 | 11 | 12 | 13 | 14 | 15 => rfl
      | j + 16 => rw [if_neg (by omega)]; rfl), rfl, h⟩
  | 11, h => exact ⟨⟨⟨a0, a1, a2, a3⟩, ⟨b0, b1, b2, b3⟩, ⟨c0, c1, c2, x⟩, ⟨d0, d1, d2, d3⟩, m, ds⟩, fun j => (by match j with
      | 0 | 1 | 2 | 3 | 4 | 5 | 6 | 7 | 8 | 9 | 10 | 11 | 12 | 13 | 14 | 15 => rfl
      | j + 16 => rw [if_neg (by omega)]; rfl), rfl, h⟩
  | 12, h => exact ⟨⟨⟨a0, a1, a2, a3⟩, ⟨b0, b1, b2, b3⟩, ⟨c0, c1, c2, c3⟩, ⟨x, d1, d2, d3⟩, m, ds⟩, fun j => (by match j with
      | 0 | 1 | 2 | 3 | 4 | 5 | 6 | 7 | 8 | 9 | 10 | 11 | 12 | 13 | 14 | 15 => rfl
      | j + 16 => rw [if_neg (by omega)]; rfl), rfl, h⟩
  | 13, h => exact ⟨⟨⟨a0, a1, a2, a3⟩, ⟨b0, b1, b2, b3⟩, ⟨c0, c1, c2, c3⟩, ⟨d0, x, d2, d3⟩, m, ds⟩, fun j => (by match j with
      | 0 | 1 | 2 | 3 | 4 | 5 | 6 | 7 | 8 | 9 | 10 | 11 | 12 | 13 | 14 | 15 => rfl
      | j + 16 => rw [if_neg (by omega)]; rfl), rfl, h⟩
  | 14, h => exact ⟨⟨⟨a0, a1, a2, a3⟩, ⟨b0, b1, b2, b3⟩, ⟨c0, c1, c2, c3⟩, ⟨d0, d1, x, d3⟩, m, ds⟩, fun j => (by match j with
      | 0 | 1 | 2 | 3 | 4 | 5 | 6 | 7 | 8 | 9 | 10 | 11 | 12 | 13 | 14 | 15 => rfl
      | j + 16 => rw [if_neg (by omega)]; rfl), rfl, h⟩
  | 15, h => exact ⟨⟨⟨a0, a1, a2, a3⟩, ⟨b0, b1, b2, b3⟩, ⟨c0, c1, c2, c3⟩, ⟨d0, d1, d2, x⟩, m, ds⟩, fun j => (by match j with
      | 0 | 1 | 2 | 3 | 4 | 5 | 6 | 7 | 8 | 9 | 10 | 11 | 12 | 13 | 14 | 15 => rfl
      | j + 16 => rw [if_neg (by omega)]; rfl), rfl, h⟩
  | r + 16, h =>
    have e : frSet (r + 16) = ⟨fsM (updN r)⟩ := by
      unfold frSet
      have : (r + 16) / 4 = r / 4 + 4 := by omega
      rw [this]
      rfl
    rw [e] at h
    obtain ⟨h1, h2⟩ := updN_ok (k := fun m => k ⟨⟨a0, a1, a2, a3⟩, ⟨b0, b1, b2, b3⟩, ⟨c0, c1, c2, c3⟩, ⟨d0, d1, d2, d3⟩, m, ds⟩) (h : updN r m x _ = .ok)
    refine ⟨⟨⟨a0, a1, a2, a3⟩, ⟨b0, b1, b2, b3⟩, ⟨c0, c1, c2, c3⟩, ⟨d0, d1, d2, d3⟩, m.set r x, ds⟩, fun j => ?_, rfl, h2⟩
    match j with
    | 0 | 1 | 2 | 3 | 4 | 5 | 6 | 7 | 8 | 9 | 10 | 11 | 12 | 13 | 14 | 15 => rw [if_neg (by omega)]; rfl
    | j + 16 =>
      show (m.set r x)[j]? = if j + 16 = r + 16 then some x else m[j]?
      rw [List.getElem?_set]
      by_cases e : r = j
      · subst e; simp [h1]
      · rw [if_neg e, if_neg (by omega)]
theorem idx_get {t : Nat} {l : List Nat} {i r : Nat} (h : idx t l i = some r) : ∃ j, r = i + j ∧ l[j]? = some t := by
  induction l generalizing i with
  | nil => cases h
  | cons x xs ih =>
    have h : (Bool.rec (idx t xs (i + 1)) (some i) (Nat.beq x t) : Option Nat) = some r := h
    cases hb : Nat.beq x t with
    | false =>
      rw [hb] at h
      obtain ⟨j, h1, h2⟩ := ih h
      exact ⟨j + 1, by omega, h2⟩
    | true =>
      rw [hb] at h
      cases h
      exact ⟨0, rfl, by rw [beq_t hb]; rfl⟩

/-! ### constants -/
def val8 (l : List UInt8) : Nat := l.foldr (fun b acc => b.toNat + 256 * acc) 0
theorem val8_lt (l : List UInt8) : val8 l < 2 ^ (8 * l.length) := by
  induction l with
  | nil => exact Nat.one_pos
  | cons b l ih =>
    have h := app_lt 8 b.toNat (val8 l) 1 l.length (by simpa using b.toNat_lt) ih
    have e : val8 (b :: l) = b.toNat + val8 l * 2 ^ (8 * 1) := by show b.toNat + 256 * val8 l = _; rw [Nat.mul_comm 256]
    rw [e]; simpa [Nat.add_comm] using h
theorem val8_lane (l : List UInt8) (i : Nat) (h : i < l.length) : UInt8.ofNat (lane 8 (val8 l) i) = l[i] := by
  induction l generalizing i with
  | nil => simp at h
  | cons b l ih =>
    have e : val8 (b :: l) = b.toNat + val8 l * 2 ^ (8 * 1) := by show b.toNat + 256 * val8 l = _; rw [Nat.mul_comm 256]
    rw [e]
    cases i with
    | zero =>
      rw [lane_add_lo 8 _ _ 1 0 (by omega), lane_def]
      simp
    | succ j =>
      have h1 := lane_add_hi 8 b.toNat (val8 l) 1 j (by simpa using b.toNat_lt)
      rw [Nat.add_comm 1 j] at h1
      rw [h1]
      exact ih j (by simpa using h)
theorem bytesL_val8 (l : List UInt8) : bytesL l.length (val8 l) = l := by
  apply List.ext_getElem
  · simp [bytesL]
  · intro i h1 h2
    simp only [bytesL, List.getElem_map, List.getElem_range]
    exact val8_lane l i h2
theorem bytesOf_val8 (s : ByteArray) : bytesOf s.size (val8 s.data.toList) = s := by
  obtain ⟨⟨l⟩⟩ := s
  show (⟨(bytesL l.length (val8 l)).toArray⟩ : ByteArray) = _
  rw [bytesL_val8]
theorem relC_const {φ : Emb} {v : Value} {c : Cell} (h : cellOfV v = some c) : relC φ c v := by
  cases v with
  | bool b => cases h; rfl
  | int k n =>
    cases n with
    | ofNat n => cases k <;> cases h <;> rfl
    | negSucc n => cases k <;> cases h <;> rfl
  | string s =>
    cases h
    exact ⟨val8_lt s.data.toList, congrArg Value.string (bytesOf_val8 s).symm⟩
  | pointer a => cases a <;> cases h; rfl
  | slice a l c =>
    cases a with
    | none => cases l <;> cases c <;> cases h; rfl
    | some a => cases h
  | map r => cases r <;> cases h; rfl
  | func fn a b =>
    cases fn with
    | func f =>
      have h : (if a.size = 0 ∧ b.size = 0 then some (Cell.fn (.func f) 0 .undef) else none) = some c := h
      split at h
      · rename_i e
        cases h
        obtain rfl := Array.eq_empty_of_size_eq_zero e.1
        obtain rfl := Array.eq_empty_of_size_eq_zero e.2
        exact ⟨#[], #[], rfl, rfl, rfl⟩
      · cases h
    | _ => cases h
  | nilFunc => cases h; rfl
  | nilIface => cases h; rfl
  | _ => cases h
end Ev
/-! Constants as ropes. -/
namespace Ev
open Go
set_option linter.unusedVariables false

/-- the ropes of a list, one behind the other -/
def toLs (l : List Rope) : List Cell := l.flatMap Rope.toL
def wfs (l : List Rope) : Prop := ∀ r ∈ l, r.wf
theorem spanL_app (f : Cell → Bool) (l : List Cell) : (spanL f l).1 ++ (spanL f l).2 = l := by
  induction l with
  | nil => rfl
  | cons c cs ih =>
    unfold spanL
    split
    · simp [ih]
    · rfl
theorem spanL_all (f : Cell → Bool) (l : List Cell) : ∀ c ∈ (spanL f l).1, f c = true := by
  induction l with
  | nil => intro c h; cases h
  | cons c cs ih =>
    unfold spanL
    split
    · rename_i h
      intro x hx
      rcases List.mem_cons.1 hx with rfl | hx
      · exact h
      · exact ih x hx
    · intro x hx; cases hx
/-- lanes laid from a list -/
def laneVal (w : Nat) (l : List Cell) : Nat := l.foldr (fun c acc => laneN c + 2 ^ w * acc) 0
theorem laneVal_lt (w : Nat) (l : List Cell) (h : ∀ c ∈ l, laneN c < 2 ^ w) : laneVal w l < 2 ^ (w * l.length) := by
  induction l with
  | nil => exact Nat.one_pos
  | cons c l ih =>
    have h1 := app_lt w (laneN c) (laneVal w l) 1 l.length (by simpa using h c (by simp)) (ih fun x hx => h x (by simp [hx]))
    have e : laneVal w (c :: l) = laneN c + laneVal w l * 2 ^ (w * 1) := by show laneN c + 2 ^ w * laneVal w l = _; rw [Nat.mul_one, Nat.mul_comm]
    rw [e]; simpa [Nat.add_comm] using h1
theorem laneVal_lane (w : Nat) (l : List Cell) (h : ∀ c ∈ l, laneN c < 2 ^ w) (i : Nat) (c : Cell) (hi : l[i]? = some c) : lane w (laneVal w l) i = laneN c := by
  induction l generalizing i with
  | nil => simp at hi
  | cons x l ih =>
    have e : laneVal w (x :: l) = laneN x + laneVal w l * 2 ^ (w * 1) := by show laneN x + 2 ^ w * laneVal w l = _; rw [Nat.mul_one, Nat.mul_comm]
    rw [e]
    have hx : laneN x < 2 ^ (w * 1) := by simpa using h x (by simp)
    cases i with
    | zero =>
      simp at hi; subst hi
      rw [lane_add_lo w _ _ 1 0 (by omega), lane_def]
      simp only [Nat.mul_zero, Nat.pow_zero, Nat.div_one]
      exact Nat.mod_eq_of_lt (by simpa using hx)
    | succ j =>
      have h1 := lane_add_hi w (laneN x) (laneVal w l) 1 j hx
      rw [Nat.add_comm 1 j] at h1
      rw [h1]
      exact ih (fun y hy => h y (by simp [hy])) j (by simpa using hi)
theorem packR_ok (pk : PK) (a : List Cell) (h : ∀ c ∈ a, laneN c < 2 ^ pk.w ∧ pk.dec (laneN c) = c) : (packR pk a).wf ∧ (packR pk a).toL = a := by
  unfold packR
  split
  · exact ⟨rfl, rfl⟩
  · refine ⟨laneVal_lt pk.w a fun c hc => (h c hc).1, ?_⟩
    refine spill_ext rfl fun i hi => ?_
    have hg : a[i]? = some a[i] := by simp [hi]
    have e : lane pk.w (List.foldr (fun c acc => laneN c + 2 ^ pk.w * acc) 0 a) i = laneN a[i] := laneVal_lane pk.w a (fun c hc => (h c hc).1) i _ hg
    rw [e, (h a[i] (List.getElem_mem hi)).2]
    exact hg
theorem isU8_lane {c : Cell} (h : isU8 c = true) : laneN c < 2 ^ PK.u8.w ∧ PK.u8.dec (laneN c) = c := by
  cases c <;> try (cases h; done)
  exact ⟨blt_t h, rfl⟩
theorem isB_lane {c : Cell} (h : isB c = true) : laneN c < 2 ^ PK.b.w ∧ PK.b.dec (laneN c) = c := by
  cases c <;> try (cases h; done)
  rename_i b
  cases b <;> exact ⟨by decide, rfl⟩
theorem runs_ok (fuel : Nat) (cs : List Cell) : wfs (runs fuel cs) ∧ toLs (runs fuel cs) = cs := by
  induction fuel generalizing cs with
  | zero => exact ⟨fun r hr => by simp [runs] at hr; subst hr; rfl, by simp [runs, toLs, Rope.toL]⟩
  | succ f ih =>
    have step : ∀ (r : Rope) (a b : List Cell), r.wf → r.toL = a → a ++ b = cs → wfs (r :: runs f b) ∧ toLs (r :: runs f b) = cs := by
      intro r a b hr ha hb
      refine ⟨fun x hx => ?_, ?_⟩
      · rcases List.mem_cons.1 hx with rfl | hx
        · exact hr
        · exact (ih b).1 x hx
      · show r.toL ++ toLs (runs f b) = cs
        rw [(ih b).2, ha, hb]
    cases cs with
    | nil => exact ⟨fun r hr => (by simp [runs] at hr), rfl⟩
    | cons c cs =>
      have e : runs (f + 1) (c :: cs) = if isU8 c then packR .u8 (spanL isU8 (c :: cs)).1 :: runs f (spanL isU8 (c :: cs)).2
        else if isB c then packR .b (spanL isB (c :: cs)).1 :: runs f (spanL isB (c :: cs)).2
        else .l (spanL isO (c :: cs)).1.length (spanL isO (c :: cs)).1 :: runs f (spanL isO (c :: cs)).2 := rfl
      rw [e]
      split
      · obtain ⟨h1, h2⟩ := packR_ok .u8 (spanL isU8 (c :: cs)).1 fun x hx => isU8_lane (spanL_all _ _ x hx)
        exact step _ _ _ h1 h2 (spanL_app _ _)
      · split
        · obtain ⟨h1, h2⟩ := packR_ok .b (spanL isB (c :: cs)).1 fun x hx => isB_lane (spanL_all _ _ x hx)
          exact step _ _ _ h1 h2 (spanL_app _ _)
        · exact step (.l (spanL isO (c :: cs)).1.length (spanL isO (c :: cs)).1) _ _ rfl rfl (spanL_app _ _)
theorem cutL_ok (fuel : Nat) (l : List Rope) (h : wfs l) : wfs (cutL fuel l) ∧ toLs (cutL fuel l) = toLs l := by
  induction fuel generalizing l with
  | zero => exact ⟨h, rfl⟩
  | succ f ih =>
    have step : ∀ (r : Rope) (b : List Rope), r.wf → wfs b → wfs (r :: cutL f b) ∧ toLs (r :: cutL f b) = r.toL ++ toLs b := by
      intro r b hr hb
      refine ⟨fun x hx => ?_, ?_⟩
      · rcases List.mem_cons.1 hx with rfl | hx
        · exact hr
        · exact (ih b hb).1 x hx
      · show r.toL ++ toLs (cutL f b) = _
        rw [(ih b hb).2]
    cases l with
    | nil => exact ⟨h, rfl⟩
    | cons r rest =>
      have hr := h r (by simp)
      have hrest : wfs rest := fun x hx => h x (by simp [hx])
      cases r with
      | l n cs =>
        have hn : n = cs.length := hr
        have e : cutL (f + 1) (.l n cs :: rest) = if n ≤ 8 then .l n cs :: cutL f rest else .l 8 (cs.take 8) :: cutL f (.l (n - 8) (cs.drop 8) :: rest) := rfl
        rw [e]
        split
        · exact step _ _ hr hrest
        · obtain ⟨h1, h2⟩ := step (.l 8 (cs.take 8)) (.l (n - 8) (cs.drop 8) :: rest) (by show 8 = _; simp; omega) (fun x hx => by
            rcases List.mem_cons.1 hx with rfl | hx
            · show n - 8 = _; simp [hn]
            · exact hrest x hx)
          refine ⟨h1, h2.trans ?_⟩
          show cs.take 8 ++ (cs.drop 8 ++ toLs rest) = cs ++ toLs rest
          rw [← List.append_assoc, List.take_append_drop]
      | nil => exact step _ _ hr hrest
      | p k n x => exact step _ _ hr hrest
      | cat n a b => exact step _ _ hr hrest
theorem joinL_ok (l : List Rope) (h : wfs l) : wfs (joinL l) ∧ toLs (joinL l) = toLs l := by
  match l, h with
  | [], h => exact ⟨h, rfl⟩
  | [a], h => exact ⟨h, rfl⟩
  | a :: b :: rest, h =>
    have ha := h a (by simp)
    have hb := h b (by simp)
    obtain ⟨h1, h2⟩ := joinL_ok rest fun x hx => h x (by simp [hx])
    have step : ∀ r : Rope, r.wf → r.toL = a.toL ++ b.toL → wfs (r :: joinL rest) ∧ toLs (r :: joinL rest) = toLs (a :: b :: rest) := by
      intro r hr ht
      refine ⟨fun x hx => ?_, ?_⟩
      · rcases List.mem_cons.1 hx with rfl | hx
        · exact hr
        · exact h1 x hx
      · show r.toL ++ toLs (joinL rest) = a.toL ++ (b.toL ++ toLs rest)
        rw [h2, ht, List.append_assoc]
    unfold joinL
    split
    · rename_i n x m y
      split
      · exact step _ (by show n + m = (x ++ y).length; have h1 : n = x.length := ha; have h2 : m = y.length := hb; simp [h1, h2]) rfl
      · exact step _ ⟨rfl, ha, hb⟩ rfl
    · exact step _ ⟨rfl, ha, hb⟩ rfl
theorem joinAll_ok (f : Nat) (l : List Rope) (h : wfs l) : (joinAll f l).wf ∧ (joinAll f l).toL = toLs l := by
  induction f generalizing l with
  | zero =>
    match l, h with
    | [], h => exact ⟨trivial, rfl⟩
    | [a], h => exact ⟨h a (by simp), by simp [joinAll, toLs]⟩
    | a :: b :: rest, h =>
      have : ∀ l : List Rope, wfs l → (l.foldr (fun a b => Rope.cat a.size a b) .nil).wf ∧ (l.foldr (fun a b => Rope.cat a.size a b) .nil).toL = toLs l := by
        intro l
        induction l with
        | nil => exact fun _ => ⟨trivial, rfl⟩
        | cons x xs ih =>
          intro h
          obtain ⟨h1, h2⟩ := ih fun y hy => h y (by simp [hy])
          exact ⟨⟨rfl, h x (by simp), h1⟩, by show x.toL ++ _ = x.toL ++ toLs xs; rw [h2]⟩
      exact this _ h
  | succ f ih =>
    match l, h with
    | [], h => exact ⟨trivial, rfl⟩
    | [a], h => exact ⟨h a (by simp), by simp [joinAll, toLs]⟩
    | a :: b :: rest, h =>
      obtain ⟨h1, h2⟩ := joinL_ok _ h
      obtain ⟨h3, h4⟩ := ih _ h1
      exact ⟨h3, h4.trans h2⟩
theorem ropeOfCells_ok (cs : List Cell) : (ropeOfCells cs).wf ∧ (ropeOfCells cs).toL = cs := by
  obtain ⟨h1, h2⟩ := runs_ok (cs.length + 1) cs
  obtain ⟨h3, h4⟩ := cutL_ok (2 * cs.length) _ h1
  obtain ⟨h5, h6⟩ := joinAll_ok 40 _ h3
  exact ⟨h5, h6.trans (h4.trans h2)⟩
theorem mapM_rel {φ : Emb} (vs : List Value) {cs : List Cell} (h : vs.mapM cellOfV = some cs) : Rel2 (relC φ) cs vs := by
  induction vs generalizing cs with
  | nil => simp at h; subst h; exact .nil
  | cons v vs ih =>
    rw [List.mapM_cons] at h
    cases hc : cellOfV v with
    | none => rw [hc] at h; cases h
    | some c =>
      rw [hc] at h
      cases hr : vs.mapM cellOfV with
      | none => rw [hr] at h; cases h
      | some cs' => rw [hr] at h; cases h; exact .cons (relC_const hc) (ih hr)
theorem ropeOfV_rel {φ : Emb} {v : Value} {r : Rope} (h : ropeOfV v = some r) : relRope φ r v.cells.toList := by
  unfold ropeOfV at h
  cases hm : v.cells.toList.mapM cellOfV with
  | none => rw [hm] at h; cases h
  | some cs =>
    rw [hm] at h
    cases h
    obtain ⟨h1, h2⟩ := ropeOfCells_ok cs
    exact ⟨h1, by rw [h2]; exact mapM_rel _ hm⟩
theorem rvOf_rel {φ : Emb} {v : Value} {x : RV} (h : rvOf v = some x) : relV φ x v := by
  have gen : ∀ v : Value, (∀ cs, v ≠ .agg cs) → (∀ vs, v ≠ .tuple vs) → rvOf v = (cellOfV v).map .c := by
    intro v h1 h2
    cases v <;> first | rfl | exact absurd rfl (h1 _) | exact absurd rfl (h2 _)
  by_cases ha : ∃ cs, v = .agg cs
  · obtain ⟨cs, rfl⟩ := ha
    have h : (ropeOfV (.agg cs)).map RV.a = some x := h
    cases hr : ropeOfV (.agg cs) with
    | none => rw [hr] at h; cases h
    | some r => rw [hr] at h; cases h; exact ⟨cs, rfl, ropeOfV_rel hr⟩
  · by_cases ht : ∃ vs, v = .tuple vs
    · obtain ⟨vs, rfl⟩ := ht
      have h : (if vs.size = 0 then some (RV.t []) else none) = some x := h
      split at h
      · rename_i e
        cases h
        obtain rfl := Array.eq_empty_of_size_eq_zero e
        exact ⟨#[], rfl, .nil⟩
      · cases h
    · rw [gen v (fun cs e => ha ⟨cs, e⟩) (fun vs e => ht ⟨vs, e⟩)] at h
      cases hc : cellOfV v with
      | none => rw [hc] at h; cases h
      | some c => rw [hc] at h; cases h; exact relC_const hc
end Ev
/-! Operands. -/
namespace Ev
open Go
set_option linter.unusedVariables false
variable {P : Program}

/-- what is known where an operation stands -/
structure Here (P : Program) (φ : Emb) (gl ds : List Nat) (e : Env) (fr : Fr) (tmps : Array Value) : Prop where
  fr : ∀ r t v, idx t gl 0 = some r → idx (t + 1) ds 0 = none → fr.get r = some v → relV φ v (tmps.getD t undef)
  env : relEnv φ ds e tmps
  glob : GlobOk P φ

theorem src_ok {gl ds : List Nat} {x : Operand} {e : Env} {fr : Fr} {k : RV → R} (h : (src P gl ds x).run e fr k = .ok) :
    ∃ v, k v = .ok ∧ ∀ φ (a : Act), Here P φ gl ds e fr a.tmps → relV φ v (a.eval x) := by
  cases x with
  | tmp t =>
    unfold src at h
    simp only [] at h
    cases hd : idx (t + 1) ds 0 with
    | some d =>
      rw [hd] at h
      obtain ⟨v, h1, h2⟩ := selN_ok h
      exact ⟨v, h2, fun φ a hh => hh.env t d v hd h1⟩
    | none =>
      rw [hd] at h
      simp only [] at h
      cases hr : idx t gl 0 with
      | some r =>
        rw [hr] at h
        simp only [] at h
        have h : (frGet r).run fr k = .ok := h
        obtain ⟨v, h1, h2⟩ := frGet_ok h
        exact ⟨v, h2, fun φ a hh => hh.fr r t v hr hd h1⟩
      | none => rw [hr] at h; cases h
  | const c =>
    unfold src at h
    simp only [] at h
    cases hc : rvOf c with
    | none => rw [hc] at h; cases h
    | some v => rw [hc] at h; exact ⟨v, h, fun φ a hh => rvOf_rel hc⟩
  | global g =>
    unfold src at h
    simp only [] at h
    split at h
    · rename_i hg
      refine ⟨_, h, fun φ a hh => ?_⟩
      obtain ⟨l, h1, h2, h3⟩ := hh.glob g (blt_t hg)
      exact ⟨l, h1, by rw [h2, h3]; rfl⟩
    · cases h
  | func f => exact ⟨_, h, fun φ a hh => ⟨#[], #[], rfl, rfl, rfl⟩⟩
theorem rvC_ok {v : RV} {k : Cell → R} (h : rvC v k = .ok) : ∃ c, v = .c c ∧ k c = .ok := by cases v <;> first | exact ⟨_, rfl, h⟩ | cases h
theorem rvEl_ok {v : RV} {k : El → R} (h : rvEl v k = .ok) : ∃ x : El, k x = .ok ∧ ∀ φ y, relV φ v y → relEl φ x y := by
  cases v with
  | c c => exact ⟨_, h, fun _ _ h => h⟩
  | a r => exact ⟨_, h, fun _ _ h => h⟩
  | t l => cases h
/-- a value of one cell -/
theorem cells_one {φ : Emb} {c : Cell} {v : Value} (h : relC φ c v) : v.cells = #[v] ∧ (∀ cs, v ≠ .agg cs) ∧ (∀ cs, v ≠ .tuple cs) := by
  have done : ∀ v : Value, (∀ cs, v ≠ .agg cs) → v.cells = #[v] := fun v hv => by cases v <;> first | rfl | exact absurd rfl (hv _)
  suffices hs : (∀ cs, v ≠ .agg cs) ∧ (∀ cs, v ≠ .tuple cs) from ⟨done v hs.1, hs⟩
  cases c with
  | i n => have h : v = _ := h; subst h; exact ⟨fun _ e => (by cases e), fun _ e => (by cases e)⟩
  | u n => have h : v = _ := h; subst h; exact ⟨fun _ e => (by cases e), fun _ e => (by cases e)⟩
  | nat k n => have h : v = _ := h; subst h; exact ⟨fun _ e => (by cases e), fun _ e => (by cases e)⟩
  | neg k n => have h : v = _ := h; subst h; exact ⟨fun _ e => (by cases e), fun _ e => (by cases e)⟩
  | bool b => have h : v = _ := h; subst h; exact ⟨fun _ e => (by cases e), fun _ e => (by cases e)⟩
  | ptr p o => obtain ⟨l, _, h⟩ := h; subst h; exact ⟨fun _ e => (by cases e), fun _ e => (by cases e)⟩
  | str n x => obtain ⟨_, h⟩ := h; subst h; exact ⟨fun _ e => (by cases e), fun _ e => (by cases e)⟩
  | sl p o l c => obtain ⟨l, _, h⟩ := h; subst h; exact ⟨fun _ e => (by cases e), fun _ e => (by cases e)⟩
  | slu p o l c => obtain ⟨l, _, _, _, h, _⟩ := h; subst h; exact ⟨fun _ e => (by cases e), fun _ e => (by cases e)⟩
  | nil k => have h : v = nkVal k := h; subst h; cases k <;> exact ⟨fun _ e => (by cases e), fun _ e => (by cases e)⟩
  | map p => obtain ⟨l, _, h⟩ := h; subst h; exact ⟨fun _ e => (by cases e), fun _ e => (by cases e)⟩
  | fn f nf env =>
    cases f with
    | func f => obtain ⟨a, b, h, _⟩ := h; subst h; exact ⟨fun _ e => (by cases e), fun _ e => (by cases e)⟩
    | yield p => obtain ⟨l, _, h⟩ := h; subst h; exact ⟨fun _ e => (by cases e), fun _ e => (by cases e)⟩
  | cns a b => exact h.elim
  | iface t c => obtain ⟨x, h, _⟩ := h; subst h; exact ⟨fun _ e => (by cases e), fun _ e => (by cases e)⟩
  | undef => exact h.elim
/-- a rope of a value's cells -/
theorem rvRope_ok {v : RV} {k : Rope → R} (h : rvRope v k = .ok) : ∃ r, k r = .ok ∧ ∀ φ y, relV φ v y → relRope φ r y.cells.toList := by
  cases v with
  | c c =>
    refine ⟨.l 1 [c], h, fun φ y hy => ?_⟩
    rw [(cells_one (φ := φ) hy).1]
    exact ⟨rfl, .cons hy .nil⟩
  | a r => exact ⟨r, h, fun φ y ⟨cs, h1, h2⟩ => by subst h1; exact h2⟩
  | t l => cases h
theorem srcs_ok {gl ds : List Nat} {xs : List Operand} {e : Env} {fr : Fr} {k : List El → R} (h : (srcs P gl ds xs).run e fr k = .ok) :
    ∃ vs, k vs = .ok ∧ ∀ φ (a : Act), Here P φ gl ds e fr a.tmps → Rel2 (relEl φ) vs (xs.map a.eval) := by
  induction xs generalizing k with
  | nil => exact ⟨[], h, fun _ _ _ => .nil⟩
  | cons x xs ih =>
    have h : (src P gl ds x).run e fr (fun v => rvEl v fun v => (srcs P gl ds xs).run e fr fun vs => k (v :: vs)) = .ok := h
    obtain ⟨v, h1, h2⟩ := src_ok h
    obtain ⟨y, h3, h4⟩ := rvEl_ok h1
    obtain ⟨vs, h5, h6⟩ := ih h3
    exact ⟨y :: vs, h5, fun φ a hh => .cons (h4 φ _ (h2 φ a hh)) (h6 φ a hh)⟩
end Ev
/-! Operations: what the evaluator's closures promise. -/
namespace Ev
open Go
set_option linter.unusedVariables false
variable {P : Program}

/-- the walk's fence: none, in a round's frame or not -/
def FF (r : Option Nat) : Fence := { fn := fun _ => True, depth := none, alive := false, round := r }
theorem run_bind_ok {α β : Type} {m : Sem α} {f : α → Sem β} {w w' : World} {a : α} (h : m.run P w = .ok a w') : (m >>= f).run P w = (f a).run P w' := by
  rw [Sem.run_bind, h]; rfl
noncomputable abbrev Sl (P : Program) : Nat → List Nat := slotsOfF P
noncomputable abbrev Nt (P : Program) : Nat → Nat := ntOfF P
/-- an operation at a world that stands for 'st': it yields what stands for v, and a world that stands for st' -/
def OpAt (P : Program) (r : Option Nat) (o : Oper) (φ : Emb) (a : Act) (w : World) (st : St) (v : RV) (st' : St) : Prop :=
  ∀ (n : Nat) (K : Act → World → Prop) (Q : Exit → Act → World → Prop),
    (∀ ψ w' cv, Ext (Sl P) (Nt P) φ st w ψ st' w' → relV ψ v cv → K (a.put o.dst cv) w') → o.wpIn (FF r) n P a w K Q
/-- one that runs to a value (or to none) -/
theorem OpAt.of_run {r : Option Nat} {o : Oper} {φ ψ : Emb} {a : Act} {w w' : World} {st st' : St} {v : RV} {cv : Value} (hd : ∀ c, o.op ≠ .defer c)
    (h1 : Ext (Sl P) (Nt P) φ st w ψ st' w') (h2 : relV ψ v cv) (h3 : (execOp a.eval o).run P w = .ok (.value cv) w' ∨ (execOp a.eval o).run P w = .ok .skip w' ∧ cv = undef) :
    OpAt P r o φ a w st v st' := by
  intro n K Q hK
  refine ⟨fun _ _ => trivial, ?_⟩
  rw [Oper.semAt_eq _ _ _ hd]
  rcases h3 with h3 | ⟨h3, rfl⟩
  · rw [h3]; exact hK ψ w' cv h1 h2
  · rw [h3]; exact hK ψ w' _ h1 h2
/-- what a closure of an operation promises -/
def OCok (P : Program) (r : Option Nat) (gl ds : List Nat) (o : Oper) (f : OC) (cl : Caller) : Prop :=
  ∀ (φ : Emb) (a : Act) (w : World) e fr st k, Here P φ gl ds e fr a.tmps → relW (Sl P) (Nt P) φ st w → f.run cl e fr st k = .ok → ∃ v st', k v st' = .ok ∧ OpAt P r o φ a w st v st'
/-- one that leaves the memory as it is -/
def OCr (P : Program) (gl ds : List Nat) (o : Oper) (f : OC) (cl : Caller) : Prop :=
  ∀ (φ : Emb) (a : Act) (w : World) e fr st k, Here P φ gl ds e fr a.tmps → relW (Sl P) (Nt P) φ st w → f.run cl e fr st k = .ok → ∃ v cv, k v st = .ok ∧ relV φ v cv ∧ (execOp a.eval o).run P w = .ok (.value cv) w
theorem OCr.ok {r : Option Nat} {gl ds : List Nat} {o : Oper} {f : OC} {cl : Caller} (h : OCr P gl ds o f cl) (hd : ∀ c, o.op ≠ .defer c) : OCok P r gl ds o f cl := fun φ a w e fr st k hh hw hk =>
  let ⟨v, cv, h1, h2, h3⟩ := h φ a w e fr st k hh hw hk
  ⟨v, st, h1, .of_run hd (Ext.refl hw) h2 (.inl h3)⟩
theorem badO_r {gl ds : List Nat} {o : Oper} {cl : Caller} (n : Nat) : OCr P gl ds o (badO n) cl := fun φ a w e fr st k _ _ h => by cases h
theorem badO_ok {r : Option Nat} {gl ds : List Nat} {o : Oper} {cl : Caller} (n : Nat) : OCok P r gl ds o (badO n) cl := fun φ a w e fr st k _ _ h => by cases h
theorem noVal_rel {φ : Emb} : relV φ noVal undef := ⟨#[], rfl, .nil⟩
section
variable {r : Option Nat} {gl ds : List Nat} {o : Oper} {cl : Caller}
theorem move_ok {x : Operand} (ho : o.op = .move x ∨ o.op = .assign x) : OCr P gl ds o ⟨fun _ e fr st k => (src P gl ds x).run e fr fun v => k v st⟩ cl := by
  intro φ a w e fr st k hh hw h
  obtain ⟨v, h1, h2⟩ := src_ok (h : (src P gl ds x).run e fr _ = .ok)
  refine ⟨v, _, h1, (h2 φ a hh), ?_⟩
  rcases ho with ho | ho <;> simp only [execOp, ho] <;> rfl
end
end Ev
/-! The tables of types and functions, in pieces. -/
namespace Ev
open Go
set_option linter.unusedVariables false
variable {P : Program}

theorem lget_eq {α : Type} (l : List α) (i : Nat) : lget l i = l[i]? := by
  induction l generalizing i with
  | nil => rfl
  | cons x xs ih =>
    cases i with
    | zero => rfl
    | succ j => exact ih j
theorem chunks_get {α : Type} (f : Nat) (l : List α) (q r : Nat) (hr : r < 32) {x : α} {c : List α} (h1 : (chunks f l)[q]? = some c) (h2 : c[r]? = some x) : l[32 * q + r]? = some x := by
  induction f generalizing l q with
  | zero => simp [chunks] at h1
  | succ f ih =>
    cases l with
    | nil => simp [chunks] at h1
    | cons y ys =>
      have e : chunks (f + 1) (y :: ys) = (y :: ys).take 32 :: chunks f ((y :: ys).drop 32) := rfl
      rw [e] at h1
      cases q with
      | zero =>
        simp only [List.getElem?_cons_zero, Option.some.injEq] at h1
        subst h1
        rw [List.getElem?_take_of_lt hr] at h2
        simpa using h2
      | succ q =>
        rw [List.getElem?_cons_succ] at h1
        have := ih _ q h1
        rw [List.getElem?_drop] at this
        rw [← this]; congr 1; omega
theorem tab_get {α : Type} {l : List α} {f n : Nat} {x : α} (h : tabI (chunks f l) n = some x) : l[n]? = some x := by
  unfold tabI at h
  cases hc : lget (chunks f l) (Nat.div n 32) with
  | none => rw [hc] at h; cases h
  | some c =>
    rw [hc] at h
    simp only [] at h
    rw [lget_eq] at h hc
    have := chunks_get f l (n / 32) (n % 32) (Nat.mod_lt _ (by decide)) hc h
    rwa [Nat.div_add_mod] at this
theorem fnI_ok {n : Nat} {fn : Func} (h : fnI P n = some fn) : P.funcs[n]? = some fn := by
  have h : tabI (chunks 200 P.funcs.toList) n = some fn := h
  have := tab_get h
  simpa using this
theorem tyI_ok {t : Nat} {i : TypeInfo} (h : tyI P t = some i) : P.info? t = some i := by
  have h : tabI (chunks 200 P.types.toList) t = some i := h
  have h1 : P.types[t]? = some i := by have := tab_get h; simpa using this
  show (if t < P.types.size then P.types[t]? else _) = _
  rw [if_pos (Array.getElem?_eq_some_iff.1 h1).1]; exact h1
theorem und_ok {t : Nat} {d : TypeDesc} (h : und P t = some d) : P.underlying t = some d := by
  unfold und at h
  unfold Program.underlying
  cases hi : tyI P t with
  | none => rw [hi] at h; cases h
  | some i =>
    rw [hi] at h
    rw [tyI_ok hi]
    obtain ⟨desc, s, sz, by_, hp, al, fa, z, cm, ms⟩ := i
    cases desc with
    | named nm u =>
      simp only [] at h
      cases hu : tyI P u with
      | none => rw [hu] at h; cases h
      | some j => rw [hu] at h; cases h; simp [tyI_ok hu]
    | _ => simp only [] at h ⊢; exact h
theorem run_underlying {t : Nat} {d : TypeDesc} {w : World} (h : P.underlying t = some d) : (underlying t).run P w = .ok d w := by
  unfold underlying program
  show Sem.run P ((Sem.program .pure) >>= _) w = _
  rw [Sem.run_bind]
  simp only [Sem.run, Result.andThen_ok, h]
  rfl
theorem run_typeInfo {t : Nat} {i : TypeInfo} {w : World} (h : P.info? t = some i) : (typeInfo t).run P w = .ok i w := by
  unfold typeInfo program
  show Sem.run P ((Sem.program .pure) >>= _) w = _
  rw [Sem.run_bind]
  simp only [Sem.run, Result.andThen_ok, h]
  rfl
theorem run_sizeOf {t : Nat} {i : TypeInfo} {w : World} (h : P.info? t = some i) : (Go.sizeOf t).run P w = .ok i.size w := by
  unfold Go.sizeOf
  rw [run_bind_ok (run_typeInfo h)]; rfl
/-- what the static table says of a type -/
structure TIok (P : Program) (t : Nat) (ti : TI) : Prop where
  info : ∃ i, P.info? t = some i ∧ i.size = ti.size ∧ i.bytes = ti.bytes ∧ ∃ z, i.zero = some z ∧ ropeOfV z = some ti.zero
  und : P.underlying t = some ti.und
  agg : ti.agg = (match ti.und with | .struct _ | .array _ _ => true | _ => false)
  zsize : ti.zero.size = ti.size
theorem tinfo_ok {t : Nat} {ti : TI} (h : tinfo P t = some ti) : TIok P t ti := by
  unfold tinfo at h
  cases hi : tyI P t with
  | none => rw [hi] at h; cases h
  | some i =>
    cases hu : und P t with
    | none => rw [hi, hu] at h; cases h
    | some u =>
      rw [hi, hu] at h
      simp only [] at h
      cases hz : i.zero with
      | none => rw [hz] at h; cases h
      | some z =>
        rw [hz] at h
        simp only [Option.bind_some] at h
        cases hr : ropeOfV z with
        | none => rw [hr] at h; cases h
        | some rz =>
          rw [hr] at h
          simp only [] at h
          split at h
          · rename_i hb
            cases h
            exact ⟨⟨i, tyI_ok hi, rfl, rfl, z, hz, hr⟩, und_ok hu, rfl, beq_t hb⟩
          · cases h
theorem run_isAgg {t : Nat} {ti : TI} {w : World} (h : TIok P t ti) : (isAgg t).run P w = .ok ti.agg w := by
  unfold isAgg
  rw [run_bind_ok (run_underlying h.und), h.agg]
  cases ti.und <;> rfl
theorem run_zeroValue {t : Nat} {i : TypeInfo} {z : Value} {w : World} (h : P.info? t = some i) (hz : i.zero = some z) : (zeroValue t).run P w = .ok z w := by
  unfold zeroValue
  rw [run_bind_ok (run_typeInfo h), hz]; rfl
end Ev
/-! Reading and writing memory. -/
namespace Ev
open Go
set_option linter.unusedVariables false
variable {P : Program}

theorem add_eq (b o n : Nat) : (⟨b, o, none⟩ : Addr).add n = ⟨b, o + n, none⟩ := by
  unfold Addr.add
  split
  · rename_i h; subst h; rfl
  · rfl
theorem run_load {w : World} {a : Addr} {v : Value} (h : w.cell? a = some v) : (load a).run P w = .ok v w := by
  simp only [load, Sem.run, h]
/-- a row read -/
theorem run_loadCellsFrom {w : World} {b o : Nat} (vs : List Value) : ∀ (i : Nat) (acc : Array Value), (∀ j v, vs[j]? = some v → w.cell? ⟨b, o + (i + j), none⟩ = some v) →
    (loadCellsFrom ⟨b, o, none⟩ i vs.length acc).run P w = .ok (acc ++ vs.toArray) w := by
  induction vs with
  | nil => intro i acc h; simp [loadCellsFrom]; try rfl
  | cons v vs ih =>
    intro i acc h
    show (loadCellsFrom ⟨b, o, none⟩ i (vs.length + 1) acc).run P w = _
    unfold loadCellsFrom
    have h0 : w.cell? ((⟨b, o, none⟩ : Addr).add i) = some v := by rw [add_eq]; exact h 0 v rfl
    rw [run_bind_ok (run_load h0), ih (i + 1) (acc.push v) fun j x hx => by have := h (j + 1) x (by simpa using hx); rwa [show i + (j + 1) = i + 1 + j by omega] at this]
    simp
theorem run_loadCells {w : World} {b o : Nat} {vs : List Value} {n : Nat} (hn : vs.length = n) (h : ∀ j v, vs[j]? = some v → w.cell? ⟨b, o + j, none⟩ = some v) :
    (loadCells ⟨b, o, none⟩ n).run P w = .ok vs.toArray w := by
  subst hn
  unfold loadCells
  rw [run_loadCellsFrom vs 0 #[] fun j v hv => by simpa using h j v hv]
  simp
/-- the row behind an abstract block of cells -/
theorem row_cell {φ : Emb} {st : St} {w : World} {p : Pos} {r : Rope} {ex ro : Bool} {t : Nat} (hw : relW (Sl P) (Nt P) φ st w) (hp : st.look p = some (.cells r ex ro t)) :
    ∃ l c t' fz, φ p = some l ∧ w.heap[l.b]? = some (.cells c t' fz) ∧ relBlk (Sl P) (Nt P) φ (.cells r ex ro t) (.cells c t' fz) l ∧
      (∀ i v, r.toL[i]? = some v → ∃ x, c[l.base + i]? = some x ∧ w.cell? ⟨l.b, l.base + i, none⟩ = some x ∧ relC φ v x) := by
  obtain ⟨l, o, h1, h2, h3⟩ := hw.blk p _ hp
  cases o <;> try exact h3.elim
  rename_i c t' fz
  obtain ⟨a1, a2, a3, a4, a5, a6⟩ := h3
  refine ⟨l, c, t', fz, h1, h2, ⟨a1, a2, a3, a4, a5, a6⟩, fun i v hv => ?_⟩
  obtain ⟨x, hx, hr⟩ := a5.2.get hv
  have hi : i < r.size := by rw [← r.length_toL a5.1]; exact (List.getElem?_eq_some_iff.1 hv).1
  rw [List.getElem?_take_of_lt hi, List.getElem?_drop] at hx
  have hx : c[l.base + i]? = some x := by simpa using hx
  exact ⟨x, hx, by simp [World.cell?, h2, hx], hr⟩
theorem row_own {φ : Emb} {st : St} {w : World} {p : Pos} {r : Rope} {ex : Bool} {t : Nat} (hw : relW (Sl P) (Nt P) φ st w) (hp : st.look p = some (.cells r ex false t)) :
    ∃ l c fz, φ p = some l ∧ w.heap[l.b]? = some (.cells c t fz) ∧ relBlk (Sl P) (Nt P) φ (.cells r ex false t) (.cells c t fz) l ∧
      (∀ i v, r.toL[i]? = some v → ∃ x, c[l.base + i]? = some x ∧ w.cell? ⟨l.b, l.base + i, none⟩ = some x ∧ relC φ v x) := by
  obtain ⟨l, c, t', fz, h1, h2, h3, h4⟩ := row_cell hw hp
  obtain rfl := h3.1 rfl
  exact ⟨l, c, fz, h1, h2, h3, h4⟩
theorem bCells_ok {b : Blk} {k : Rope → Bool → Bool → Nat → R} (h : bCells b k = .ok) : ∃ r ex ro t, b = .cells r ex ro t ∧ k r ex ro t = .ok := by
  cases b <;> first | exact ⟨_, _, _, _, rfl, h⟩ | cases h
theorem row_wf {φ : Emb} {st : St} {w : World} {p : Pos} {r : Rope} {ex ro : Bool} {t : Nat} (hw : relW (Sl P) (Nt P) φ st w) (hp : st.look p = some (.cells r ex ro t)) : r.wf := by
  obtain ⟨l, c, _, fz, _, _, h, _⟩ := row_cell hw hp
  exact h.2.2.2.2.1.1
/-- what a load of one cell promises -/
theorem load1_ok {φ : Emb} {st : St} {w : World} (hw : relW (Sl P) (Nt P) φ st w) {p : Pos} {l : Loc} (hl : φ p = some l) {off : Nat} {k : RV → R} (h : load1 st p off k = .ok) :
    ∃ c x, k (.c c) = .ok ∧ relC φ c x ∧ (load ⟨l.b, l.base + off, none⟩).run P w = .ok x w := by
  obtain ⟨b, hb, h⟩ := gGet_ok h
  obtain ⟨r, ex, ro, t, rfl, h⟩ := bCells_ok h
  obtain ⟨c, hc, h⟩ := Rope.get_ok (row_wf hw hb) h
  obtain ⟨l', cs, _, fz, h1, h2, h3, h4⟩ := row_cell hw hb
  rw [hl] at h1; cases h1
  obtain ⟨x, _, hx, hr⟩ := h4 off c hc
  exact ⟨c, x, h, hr, run_load hx⟩
theorem loadA_ok {φ : Emb} {st : St} {w : World} (hw : relW (Sl P) (Nt P) φ st w) {p : Pos} {l : Loc} (hl : φ p = some l) {off sz : Nat} {k : RV → R} (h : loadA sz st p off k = .ok) :
    ∃ r cs, k (.a r) = .ok ∧ relRope φ r cs.toList ∧ (loadCells ⟨l.b, l.base + off, none⟩ sz).run P w = .ok cs w := by
  obtain ⟨b, hb, h⟩ := gGet_ok h
  obtain ⟨r, ex, ro, t, rfl, h⟩ := bCells_ok h
  obtain ⟨r', w1, w2, w3, w4, h⟩ := Rope.ext_ok (row_wf hw hb) h
  obtain ⟨l', cs, _, fz, h1, h2, h3, h4⟩ := row_cell hw hb
  rw [hl] at h1; cases h1
  obtain ⟨_, a2, a3, a4, a5, a6⟩ := h3
  have rel : Rel2 (relC φ) r'.toL ((((cs.toList.drop l.base).take r.size).drop off).take sz) := by rw [w4]; exact (a5.2.drop off).take sz
  have hlen := rel.length
  rw [r'.length_toL w1, w2] at hlen
  refine ⟨r', ((((cs.toList.drop l.base).take r.size).drop off).take sz).toArray, h, ⟨w1, by simpa using rel⟩, run_loadCells hlen.symm fun j v hv => ?_⟩
  have hj : j < sz := by rw [hlen]; exact (List.getElem?_eq_some_iff.1 hv).1
  rw [List.getElem?_take_of_lt hj, List.getElem?_drop, List.getElem?_take_of_lt (by omega), List.getElem?_drop] at hv
  have hv : cs[l.base + (off + j)]? = some v := by simpa using hv
  show w.cell? ⟨l.b, l.base + off + j, none⟩ = some v
  rw [Nat.add_assoc]
  simp [World.cell?, h2, hv]
theorem vPtr_ok {v : RV} {k : Pos → Nat → R} (h : vPtr v k = .ok) : ∃ p o, v = .c (.ptr p o) ∧ k p o = .ok := by
  cases v with
  | c c => cases c <;> first | exact ⟨_, _, rfl, h⟩ | cases h
  | a r => cases h
  | t l => cases h
section
variable {r : Option Nat} {gl ds : List Nat} {o : Oper} {cl : Caller}
theorem load_op1 {t : Nat} {x : Operand} {ti : TI} (ho : o.op = .load t x) (ht : TIok P t ti) (ha : ti.agg = false) :
    OCr P gl ds o ⟨fun _ e fr st k => (src P gl ds x).run e fr fun v => vPtr v fun p off => load1 st p off fun v => k v st⟩ cl := by
  intro φ a w e fr st k hh hw h
  obtain ⟨v, h1, h2⟩ := src_ok (h : (src P gl ds x).run e fr _ = .ok)
  obtain ⟨p, off, rfl, h3⟩ := vPtr_ok h1
  obtain ⟨l, hl, hv⟩ := h2 φ a hh
  obtain ⟨c, y, h4, h5, h6⟩ := load1_ok hw hl h3
  refine ⟨.c c, _, h4, h5, ?_⟩
  simp only [execOp, ho, Instr.loadAt, hv, Instr.sureAddr, loadVar]
  have e1 : (do let a ← (pure (⟨l.b, l.base + off, none⟩ : Addr) : Sem Addr); if (← isAgg t) = true then pure (Value.agg (← loadCells a (← Go.sizeOf t))) else load a : Sem Value).run P w = .ok y w := by
    rw [run_bind_ok (a := (⟨l.b, l.base + off, none⟩ : Addr)) (w' := w) rfl, run_bind_ok (run_isAgg ht), ha]
    exact h6
  rw [run_bind_ok e1]; rfl
theorem load_opA {t : Nat} {x : Operand} {ti : TI} (ho : o.op = .load t x) (ht : TIok P t ti) (ha : ti.agg = true) :
    OCr P gl ds o ⟨fun _ e fr st k => (src P gl ds x).run e fr fun v => vPtr v fun p off => loadA ti.size st p off fun v => k v st⟩ cl := by
  intro φ a w e fr st k hh hw h
  obtain ⟨v, h1, h2⟩ := src_ok (h : (src P gl ds x).run e fr _ = .ok)
  obtain ⟨p, off, rfl, h3⟩ := vPtr_ok h1
  obtain ⟨l, hl, hv⟩ := h2 φ a hh
  obtain ⟨rp, cs, h4, h5, h6⟩ := loadA_ok hw hl h3
  refine ⟨.a rp, _, h4, ⟨cs, rfl, h5⟩, ?_⟩
  simp only [execOp, ho, Instr.loadAt, hv, Instr.sureAddr, loadVar]
  obtain ⟨i, hi, hs, _⟩ := ht.info
  have e1 : (do let a ← (pure (⟨l.b, l.base + off, none⟩ : Addr) : Sem Addr); if (← isAgg t) = true then pure (Value.agg (← loadCells a (← Go.sizeOf t))) else load a : Sem Value).run P w = .ok (.agg cs) w := by
    rw [run_bind_ok (a := (⟨l.b, l.base + off, none⟩ : Addr)) (w' := w) rfl, run_bind_ok (run_isAgg ht), ha]
    show Sem.run P (do pure (Value.agg (← loadCells _ (← Go.sizeOf t)))) w = _
    rw [run_bind_ok (run_sizeOf hi), hs, run_bind_ok h6]; rfl
  rw [run_bind_ok e1]; rfl
end
end Ev
/-! Writing memory. -/
namespace Ev
open Go
set_option linter.unusedVariables false
variable {P : Program}

/-- the cells of a row with some turned -/
def spl (cs : Array Value) (o : Nat) : List Value → Array Value
  | [] => cs
  | v :: vs => spl (cs.setIfInBounds o v) (o + 1) vs
theorem spl_size (vs : List Value) : ∀ (cs : Array Value) (o : Nat), (spl cs o vs).size = cs.size := by
  induction vs with
  | nil => intro cs o; rfl
  | cons v vs ih => intro cs o; unfold spl; rw [ih]; simp
theorem spl_get (vs : List Value) : ∀ (cs : Array Value) (o i : Nat), o + vs.length ≤ cs.size → (spl cs o vs)[i]? = if o ≤ i ∧ i < o + vs.length then vs[i - o]? else cs[i]? := by
  induction vs with
  | nil => intro cs o i h; rw [if_neg (by simp)]; rfl
  | cons v vs ih =>
    intro cs o i h
    simp only [List.length_cons] at h ⊢
    unfold spl
    rw [ih _ _ _ (by simp; omega)]
    by_cases h1 : i = o
    · subst h1
      rw [if_neg (by omega), if_pos (by omega)]
      simp [show i < cs.size by omega]
    · by_cases h2 : o + 1 ≤ i ∧ i < o + 1 + vs.length
      · rw [if_pos h2, if_pos (by omega), show i - o = (i - (o + 1)) + 1 by omega, List.getElem?_cons_succ]
      · rw [if_neg h2, if_neg (by omega), Array.getElem?_setIfInBounds_ne (Ne.symm h1)]
theorem run_store {w : World} {b o : Nat} {v : Value} {cs : Array Value} {t : Nat} {fz : Nat × Nat} (hb : w.heap[b]? = some (.cells cs t fz)) (ho : o < cs.size)
    (hf : ¬ (fz.1 ≤ o ∧ o < fz.2)) (h1 : ∀ x, v ≠ .agg x) (h2 : ∀ x, v ≠ .tuple x) :
    (store ⟨b, o, none⟩ v).run P w = .ok () { w with heap := w.heap.setIfInBounds b (.cells (cs.setIfInBounds o v) t fz) } := by
  have hc : w.cell? ⟨b, o, none⟩ = some cs[o] := by simp [World.cell?, hb, ho]
  have hfz : w.frozen? ⟨b, o, none⟩ = false := by
    simp only [World.frozen?, hb]
    by_cases h : fz.1 ≤ o <;> simp [h]
    exact Nat.le_of_not_lt fun h' => hf ⟨h, h'⟩
  have hs : w.setCell ⟨b, o, none⟩ v = { w with heap := w.heap.setIfInBounds b (.cells (cs.setIfInBounds o v) t fz) } := by
    have hlt := (Array.getElem?_eq_some_iff.1 hb).1
    have hg := (Array.getElem?_eq_some_iff.1 hb).2
    unfold World.setCell
    congr 1
    apply Array.ext
    · simp
    · intro i h1 h2
      rw [Array.getElem_modify, Array.getElem_setIfInBounds (by simpa using h2)]
      by_cases e : b = i
      · subst e; simp [hg]
      · simp [e]
  unfold store
  cases v <;> first | exact absurd rfl (h1 _) | exact absurd rfl (h2 _) | (simp only [Sem.run, hc, hfz]; rw [if_neg (by simp), hs])
theorem run_storeCells (vs : List Value) : ∀ {w : World} {b o i : Nat} {cs : Array Value} {t : Nat} {fz : Nat × Nat}, w.heap[b]? = some (.cells cs t fz) → o + i + vs.length ≤ cs.size →
    (∀ j, o + i ≤ j → j < o + i + vs.length → ¬ (fz.1 ≤ j ∧ j < fz.2)) → (∀ v ∈ vs, (∀ x, v ≠ .agg x) ∧ (∀ x, v ≠ .tuple x)) →
    (storeCells ⟨b, o, none⟩ vs i).run P w = .ok () { w with heap := w.heap.setIfInBounds b (.cells (spl cs (o + i) vs) t fz) } := by
  induction vs with
  | nil =>
    intro w b o i cs t fz hb _ _ _
    have hg := (Array.getElem?_eq_some_iff.1 hb).2
    have : w.heap.setIfInBounds b (.cells cs t fz) = w.heap := by
      apply Array.ext
      · simp
      · intro j h1 h2
        rw [Array.getElem_setIfInBounds (by simpa using h1)]
        by_cases e : b = j
        · subst e; simp [hg]
        · simp [e]
    show Sem.run P (storeCells _ [] i) w = _
    simp only [storeCells, spl, this]
    rfl
  | cons v vs ih =>
    intro w b o i cs t fz hb hl hf hv
    simp only [List.length_cons] at hl hf
    have hv0 := hv v (by simp)
    simp only [storeCells]
    rw [add_eq, run_bind_ok (run_store hb (by omega) (hf _ (Nat.le_refl _) (by omega)) hv0.1 hv0.2)]
    have hlt := (Array.getElem?_eq_some_iff.1 hb).1
    rw [ih (i := i + 1) (cs := cs.setIfInBounds (o + i) v) (t := t) (fz := fz) (by simp [hlt]) (by simp; omega) (fun j h1 h2 => hf j (by omega) (by omega)) (fun v hv' => hv v (List.mem_cons_of_mem _ hv'))]
    simp [spl, Nat.add_assoc]
theorem run_storeVar {t : Nat} {i : TypeInfo} {w : World} {v : Value} {b o : Nat} {cs : Array Value} {t' : Nat} {fz : Nat × Nat} (ht : P.info? t = some i) (hs : v.cells.size = i.size)
    (hb : w.heap[b]? = some (.cells cs t' fz)) (hl : o + i.size ≤ cs.size)
    (hf : ∀ j, o ≤ j → j < o + i.size → ¬ (fz.1 ≤ j ∧ j < fz.2)) (hv : ∀ y ∈ v.cells.toList, (∀ x, y ≠ .agg x) ∧ (∀ x, y ≠ .tuple x)) :
    (storeVar t ⟨b, o, none⟩ v).run P w = .ok () { w with heap := w.heap.setIfInBounds b (.cells (spl cs o v.cells.toList) t' fz) } := by
  unfold storeVar
  rw [run_bind_ok (run_sizeOf ht), if_neg (by simp [hs])]
  have := run_storeCells (P := P) v.cells.toList (i := 0) hb (by simpa [hs] using hl) (by simpa [hs] using hf) hv
  simpa using this
/-- a splice of a row keeps it standing for its cells -/
theorem relBlk_splice {slots : Nat → List Nat} {nts : Nat → Nat} {φ : Emb} {r r' x : Rope} {ex : Bool} {t : Nat} {c : Array Value} {fz : Nat × Nat} {l : Loc} {off : Nat} {vs : List Value}
    (h : relBlk slots nts φ (.cells r ex false t) (.cells c t fz) l) (hx : relRope φ x vs) (hr' : r'.wf) (hs : r'.size = r.size)
    (hl : off + x.size ≤ r.size) (he : r'.toL = r.toL.take off ++ x.toL ++ r.toL.drop (off + x.size)) :
    relBlk slots nts φ (.cells r' ex false t) (.cells (spl c (l.base + off) vs) t fz) l := by
  obtain ⟨_, a2, a3, a4, a5, a6⟩ := h
  have hxl : x.toL.length = x.size := x.length_toL hx.1
  have hvl : vs.length = x.size := by rw [← hx.2.length, hxl]
  refine ⟨fun _ => rfl, by rw [spl_size]; exact a2, by omega, (fun e => by rw [hs]; exact a4 e), ⟨hr', ?_⟩, a6⟩
  rw [he]
  have hcs : ((spl c (l.base + off) vs).toList.drop l.base).take r'.size = ((c.toList.drop l.base).take r.size).take off ++ vs ++ ((c.toList.drop l.base).take r.size).drop (off + x.size) := by
    have hsz : c.toList.length = l.base + l.tot := by simpa using a2
    apply List.ext_getElem?
    intro i
    rw [List.getElem?_take]
    by_cases h1 : i < r'.size
    · rw [if_pos h1, List.getElem?_drop, Array.getElem?_toList, spl_get _ _ _ _ (by omega)]
      have htl : (((c.toList.drop l.base).take r.size).take off).length = off := by simp; omega
      by_cases h2 : i < off
      · rw [if_neg (by omega), List.append_assoc, List.getElem?_append_left (by omega), List.getElem?_take_of_lt h2, List.getElem?_take_of_lt (by omega), List.getElem?_drop]; simp
      · by_cases h3 : i < off + x.size
        · rw [if_pos (by omega), List.append_assoc, List.getElem?_append_right (by omega), List.getElem?_append_left (by omega), htl]
          congr 1; omega
        · rw [if_neg (by omega), List.append_assoc, List.getElem?_append_right (by omega), List.getElem?_append_right (by omega), htl, List.getElem?_drop, List.getElem?_take_of_lt (by omega), List.getElem?_drop]
          rw [Array.getElem?_toList]
          congr 1; omega
    · rw [if_neg h1]
      symm
      apply List.getElem?_eq_none
      simp; omega
  rw [hcs]
  exact ((a5.2.take off).append hx.2).append (a5.2.drop _)
theorem putBlk_ok {st : St} {p : Pos} {b : Blk} {k : St → R} (h : putBlk st p b k = .ok) : ∃ st', SetR p st.heap (some b) st'.heap ∧ (st'.next = st.next ∧ st'.old = st.old) ∧ k st' = .ok := by
  obtain ⟨t, h1, h2⟩ := hSet_ok h
  exact ⟨⟨st.next, t, st.old⟩, h1, ⟨rfl, rfl⟩, h2⟩
theorem rel_plain {φ : Emb} {l : List Cell} {vs : List Value} (h : Rel2 (relC φ) l vs) : ∀ y ∈ vs, (∀ x, y ≠ .agg x) ∧ (∀ x, y ≠ .tuple x) := by
  induction h with
  | nil => intro y hy; cases hy
  | cons h1 _ ih =>
    intro y hy
    rcases List.mem_cons.1 hy with rfl | hy
    · exact (cells_one h1).2
    · exact ih y hy
/-- a row with a part turned -/
theorem put_row {φ : Emb} {st st' : St} {w : World} (hw : relW (Sl P) (Nt P) φ st w) {p : Pos} {r r' x : Rope} {ex : Bool} {t off : Nat} {vs : List Value} (hp : st.heap.at p = some (.cells r ex false t))
    (hx : relRope φ x vs) (hr' : r'.wf) (hs : r'.size = r.size) (hl : off + x.size ≤ r.size) (he : r'.toL = r.toL.take off ++ x.toL ++ r.toL.drop (off + x.size))
    (hs1 : SetR p st.heap (some (.cells r' ex false t)) st'.heap) (hs2 : st'.next = st.next ∧ st'.old = st.old) :
    ∃ l c fz, φ p = some l ∧ w.heap[l.b]? = some (.cells c t fz) ∧ l.base + off + x.size ≤ c.size ∧ (∀ j, l.base + off ≤ j → j < l.base + off + x.size → ¬ (fz.1 ≤ j ∧ j < fz.2)) ∧ vs.length = x.size ∧
      Ext (Sl P) (Nt P) φ st w φ st' { w with heap := w.heap.setIfInBounds l.b (.cells (spl c (l.base + off) vs) t fz) } := by
  obtain ⟨l, c, fz, h1, h2, h3, _⟩ := row_own hw (look_own hp)
  have h3' := h3
  obtain ⟨_, a2, a3, a4, a5, a6⟩ := h3
  have hvl : vs.length = x.size := by rw [← hx.2.length, x.length_toL hx.1]
  exact ⟨l, c, fz, h1, h2, by omega, fun j h4 h5 => a6 rfl j (by omega) (by omega), hvl, Ext.turn hw hp h1 rfl hs1 hs2.1 hs2.2 rfl ⟨rfl, rfl, rfl⟩ (relBlk_splice h3' hx hr' hs hl he)⟩
theorem store1_ok {φ : Emb} {st : St} {w : World} (hw : relW (Sl P) (Nt P) φ st w) {p : Pos} {l : Loc} (hl : φ p = some l) {off : Nat} {c : Cell} {k : St → R} (h : store1 st p off c k = .ok) :
    ∃ st', k st' = .ok ∧ ∀ t i y, P.info? t = some i → i.size = 1 → relC φ c y → ∃ w', (storeVar t ⟨l.b, l.base + off, none⟩ y).run P w = .ok () w' ∧ Ext (Sl P) (Nt P) φ st w φ st' w' := by
  obtain ⟨b, hb, h⟩ := hGet_ok h
  obtain ⟨r, ex, ro, t, rfl, h⟩ := bCells_ok h
  rcases bcase h with ⟨rfl, h0⟩ | ⟨rfl, h0⟩
  · obtain ⟨r', w1, w2, w3, w4, h⟩ := Rope.set_ok (row_wf hw (look_own hb)) h0
    obtain ⟨st', s1, s2, h⟩ := putBlk_ok h
    refine ⟨st', h, fun t i y ht hi hy => ?_⟩
    have hlen := r.length_toL (row_wf hw (look_own hb))
    obtain ⟨l', cs, fz, e1, e2, e3, e4, e5, e6⟩ := put_row hw hb (x := .l 1 [c]) (vs := [y]) (off := off) ⟨rfl, .cons hy .nil⟩ w1 w3 w2 (by rw [w4, List.set_eq_take_append_cons_drop, if_pos (by omega)]; simp [Rope.toL, Rope.size]) s1 s2
    rw [hl] at e1; cases e1
    have hc := cells_one hy
    refine ⟨_, ?_, e6⟩
    have := run_storeVar (v := y) ht (by rw [hc.1, hi]; rfl) e2 (by rw [hi]; exact e3) (by rw [hi]; exact e4) (by rw [hc.1]; intro z hz; simp at hz; subst hz; exact hc.2)
    rw [this, hc.1]
  · cases h0
theorem storeA_ok {φ : Emb} {st : St} {w : World} (hw : relW (Sl P) (Nt P) φ st w) {p : Pos} {l : Loc} (hl : φ p = some l) {off sz : Nat} {x : Rope} {k : St → R} (h : storeA sz st p off x k = .ok) (hxw : x.wf) :
    ∃ st', k st' = .ok ∧ ∀ t i y, P.info? t = some i → i.size = sz → relRope φ x y.cells.toList → ∃ w', (storeVar t ⟨l.b, l.base + off, none⟩ y).run P w = .ok () w' ∧ Ext (Sl P) (Nt P) φ st w φ st' w' := by
  obtain ⟨b, hb, h⟩ := hGet_ok h
  obtain ⟨r, ex, ro, t, rfl, h⟩ := bCells_ok h
  rcases bcase h with ⟨rfl, h0⟩ | ⟨rfl, h0⟩
  · clear h
    rw [Rope.sz_eq] at h0
    rcases bcase h0 with ⟨_, h⟩ | ⟨hn, h⟩
    · cases h
    have hn : x.size = sz := beq_t hn
    obtain ⟨r', w1, w2, w3, w4, h⟩ := Rope.splice_ok (row_wf hw (look_own hb)) hxw rfl h
    obtain ⟨st', s1, s2, h⟩ := putBlk_ok h
    refine ⟨st', h, fun t i y ht hi hy => ?_⟩
    obtain ⟨l', cs, fz, e1, e2, e3, e4, e5, e6⟩ := put_row hw hb hy w1 w2 w3 w4 s1 s2
    rw [hl] at e1; cases e1
    refine ⟨_, ?_, e6⟩
    rw [hn, ← hi] at e3 e4
    exact run_storeVar (v := y) ht (by rw [hi, ← hn, ← e5]; simp) e2 e3 e4 (rel_plain hy.2)
  · cases h0
section
variable {r : Option Nat} {gl ds : List Nat} {o : Oper} {cl : Caller}
theorem store_op1 {t : Nat} {x y : Operand} {ti : TI} (ho : o.op = .store t x y) (ht : TIok P t ti) (ha : ti.size = 1) :
    OCok P r gl ds o ⟨fun _ e fr st k => (src P gl ds x).run e fr fun v => vPtr v fun p off => (src P gl ds y).run e fr fun v => rvC v fun c => store1 st p off c fun st => k noVal st⟩ cl := by
  intro φ a w e fr st k hh hw h
  obtain ⟨v, h1, h2⟩ := src_ok (h : (src P gl ds x).run e fr _ = .ok)
  obtain ⟨p, off, rfl, h3⟩ := vPtr_ok h1
  obtain ⟨l, hl, hv⟩ := h2 φ a hh
  obtain ⟨v, h1, h2⟩ := src_ok h3
  obtain ⟨c, rfl, h4⟩ := rvC_ok h1
  obtain ⟨st', h5, h6⟩ := store1_ok hw hl h4
  obtain ⟨i, hi, hs, _⟩ := ht.info
  obtain ⟨w', h7, h8⟩ := h6 t i _ hi (by rw [hs, ha]) (h2 φ a hh)
  refine ⟨noVal, st', h5, .of_run (by simp [ho]) h8 noVal_rel (.inr ⟨?_, rfl⟩)⟩
  simp only [execOp, ho, Instr.storeAt, hv, Instr.sureAddr]
  exact run_bind_ok h7
theorem store_opA {t : Nat} {x y : Operand} {ti : TI} (ho : o.op = .store t x y) (ht : TIok P t ti) :
    OCok P r gl ds o ⟨fun _ e fr st k => (src P gl ds x).run e fr fun v => vPtr v fun p off => (src P gl ds y).run e fr fun v => rvRope v fun r => storeA ti.size st p off r fun st => k noVal st⟩ cl := by
  intro φ a w e fr st k hh hw h
  obtain ⟨v, h1, h2⟩ := src_ok (h : (src P gl ds x).run e fr _ = .ok)
  obtain ⟨p, off, rfl, h3⟩ := vPtr_ok h1
  obtain ⟨l, hl, hv⟩ := h2 φ a hh
  obtain ⟨v, h1, h2⟩ := src_ok h3
  obtain ⟨x, h4, h5⟩ := rvRope_ok h1
  have hx := h5 φ _ (h2 φ a hh)
  obtain ⟨st', h5, h6⟩ := storeA_ok hw hl h4 hx.1
  obtain ⟨i, hi, hs, _⟩ := ht.info
  obtain ⟨w', h7, h8⟩ := h6 t i _ hi hs hx
  refine ⟨noVal, st', h5, .of_run (by simp [ho]) h8 noVal_rel (.inr ⟨?_, rfl⟩)⟩
  simp only [execOp, ho, Instr.storeAt, hv, Instr.sureAddr]
  exact run_bind_ok h7
end
end Ev
/-! Addresses and parts. -/
namespace Ev
open Go
set_option linter.unusedVariables false
variable {P : Program}

theorem run_pure_bind {α β : Type} {a : α} {f : α → Sem β} {w : World} : ((pure a : Sem α) >>= f).run P w = (f a).run P w := rfl
theorem vN_ok {v : RV} {k : Nat → R} (h : vN v k = .ok) : ∃ n, k n = .ok ∧ ∀ φ y, relV φ v y → ∃ j, y = .int j (.ofNat n) := by
  cases v with
  | c c =>
    cases c with
    | i n => exact ⟨n, h, fun φ y (hy : y = _) => ⟨_, hy⟩⟩
    | u n => exact ⟨n, h, fun φ y (hy : y = _) => ⟨_, hy⟩⟩
    | nat j n => exact ⟨n, h, fun φ y (hy : y = _) => ⟨_, hy⟩⟩
    | _ => cases h
  | a r => cases h
  | t l => cases h
theorem vBool_ok {v : RV} {k : Bool → R} (h : vBool v k = .ok) : ∃ b, v = .c (.bool b) ∧ k b = .ok := by
  cases v with
  | c c => cases c <;> first | exact ⟨_, rfl, h⟩ | cases h
  | a r => cases h
  | t l => cases h
theorem structF_ok {s fi off sz : Nat} {agg : Bool} (h : structF P s fi = some (off, sz, agg)) :
    ∃ fs f ti, P.underlying s = some (.struct fs) ∧ fs[fi]? = some f ∧ TIok P f.type ti ∧ off = f.offset ∧ sz = ti.size ∧ agg = ti.agg := by
  unfold structF at h
  split at h
  · rename_i fs hu
    split at h
    · rename_i fd hf
      cases ht : tinfo P fd.type with
      | none => rw [ht] at h; cases h
      | some ti =>
        rw [ht] at h
        cases h
        exact ⟨fs, fd, ti, und_ok hu, hf, tinfo_ok ht, rfl, rfl, rfl⟩
    · cases h
  · cases h
theorem run_part {t : Nat} {ti : TI} (ht : TIok P t ti) {cs : Array Value} {off : Nat} {w : World} :
    (part t cs off).run P w = if ti.agg then .ok (.agg (cs.extract off (off + ti.size))) w else (match cs[off]? with | some v => .ok v w | none => (part t cs off).run P w) := by
  obtain ⟨i, hi, hs, _⟩ := ht.info
  by_cases ha : ti.agg = true
  · rw [if_pos ha]
    unfold part
    rw [run_bind_ok (run_isAgg ht), if_pos ha, run_bind_ok (run_sizeOf hi), hs]; rfl
  · rw [if_neg ha]
    cases hc : cs[off]? with
    | none => rfl
    | some v =>
      unfold part
      rw [run_bind_ok (run_isAgg ht), if_neg ha]
      simp only [hc]; rfl
/-- a part of a row of cells -/
theorem part1_ok {r : Rope} {off : Nat} {k : RV → R} (hr : r.wf) (h : (r.get off fun c => k (.c c)) = .ok) :
    ∃ v, k v = .ok ∧ ∀ (φ : Emb) (t : Nat) (ti : TI) (cs : Array Value) (w : World), relRope φ r cs.toList → TIok P t ti → ti.agg = false → ∃ y, (part t cs off).run P w = .ok y w ∧ relV φ v y := by
  obtain ⟨c, hc, h⟩ := Rope.get_ok hr h
  refine ⟨_, h, fun φ t ti cs w hrel ht ha => ?_⟩
  obtain ⟨x, hx, hxr⟩ := hrel.2.get hc
  have hx : cs[off]? = some x := by simpa using hx
  exact ⟨x, by rw [run_part ht, ha, if_neg (by simp), hx], hxr⟩
theorem partA_ok {r : Rope} {off sz : Nat} {k : RV → R} (hr : r.wf) (h : (r.ext off sz fun r => k (.a r)) = .ok) :
    ∃ v, k v = .ok ∧ ∀ (φ : Emb) (t : Nat) (ti : TI) (cs : Array Value) (w : World), relRope φ r cs.toList → TIok P t ti → ti.agg = true → ti.size = sz → ∃ y, (part t cs off).run P w = .ok y w ∧ relV φ v y := by
  obtain ⟨r', w1, w2, w3, w4, h⟩ := Rope.ext_ok hr h
  refine ⟨_, h, fun φ t ti cs w hrel ht ha hs => ⟨_, by rw [run_part ht, if_pos ha], _, rfl, w1, ?_⟩⟩
  rw [w4, hs]
  have : (cs.extract off (off + sz)).toList = (cs.toList.drop off).take sz := by
    rw [Array.toList_extract]; simp [List.extract_eq_take_drop]
  rw [this]
  exact (hrel.2.drop off).take sz
section
variable {r : Option Nat} {gl ds : List Nat} {o : Oper} {cl : Caller}
theorem fieldAddr_op {s fi off sz : Nat} {agg : Bool} {x : Operand} (ho : o.op = .fieldAddr s x fi) (hs : structF P s fi = some (off, sz, agg)) (hz : sz ≠ 0) :
    OCr P gl ds o ⟨fun _ e fr st k => (src P gl ds x).run e fr fun v => vPtr v fun p o => fz (Nat.add o off) fun o => k (.c (.ptr p o)) st⟩ cl := by
  intro φ a w e fr st k hh hw h
  obtain ⟨v, h1, h2⟩ := src_ok (h : (src P gl ds x).run e fr _ = .ok)
  obtain ⟨p, o', rfl, h3⟩ := vPtr_ok h1
  rw [fz_eq] at h3
  obtain ⟨l, hl, hv⟩ := h2 φ a hh
  obtain ⟨fs, f, ti, u1, u2, u3, u4, u5, u6⟩ := structF_ok hs
  obtain ⟨i, hi, hs, _⟩ := u3.info
  refine ⟨_, .pointer (some ⟨l.b, l.base + (o' + off), none⟩), h3, ⟨l, hl, rfl⟩, ?_⟩
  simp only [execOp, ho, Instr.fieldAt, hv]
  have e1 : (fieldPlace ⟨l.b, l.base + o', none⟩ f).run P w = .ok ⟨l.b, l.base + (o' + off), none⟩ w := by
    unfold fieldPlace
    rw [run_bind_ok (run_sizeOf hi), if_neg (by rw [hs, ← u5]; exact hz), add_eq, ← u4, Nat.add_assoc]; rfl
  rw [run_bind_ok (a := .pointer (some ⟨l.b, l.base + (o' + off), none⟩)) (w' := w)]
  · rfl
  · rw [run_bind_ok (run_underlying u1)]
    simp only [u2, Instr.sureAddr]
    rw [run_bind_ok (a := (⟨l.b, l.base + o', none⟩ : Addr)) (w' := w) rfl, run_bind_ok e1]; rfl
theorem field1_op {s fi off sz : Nat} {x : Operand} (ho : o.op = .field s x fi) (hs : structF P s fi = some (off, sz, false)) :
    OCr P gl ds o ⟨fun _ e fr st k => (src P gl ds x).run e fr fun v => match v with
        | .a r => Bool.casesOn false (r.get off fun c => k (.c c) st) (r.ext off sz fun r => k (.a r) st)
        | _ => .bad 98⟩ cl := by
  intro φ a w e fr st k hh hw h
  obtain ⟨v, h1, h2⟩ := src_ok (h : (src P gl ds x).run e fr _ = .ok)
  cases v <;> try cases h1
  rename_i rp
  obtain ⟨cs, hv, hr⟩ := h2 φ a hh
  obtain ⟨v, h3, h4⟩ := part1_ok (k := fun v => k v st) hr.1 h1
  obtain ⟨fs, f, ti, u1, u2, u3, u4, u5, u6⟩ := structF_ok hs
  obtain ⟨y, h5, h6⟩ := h4 φ f.type ti cs w hr u3 u6.symm
  refine ⟨v, _, h3, h6, ?_⟩
  simp only [execOp, ho, Instr.field, hv]
  rw [run_bind_ok (a := y) (w' := w)]
  · rfl
  · rw [run_bind_ok (run_underlying u1)]
    simp only [u2]
    rw [run_bind_ok (a := cs) (w' := w) rfl, ← u4, h5]
theorem fieldA_op {s fi off sz : Nat} {x : Operand} (ho : o.op = .field s x fi) (hs : structF P s fi = some (off, sz, true)) :
    OCr P gl ds o ⟨fun _ e fr st k => (src P gl ds x).run e fr fun v => match v with
        | .a r => Bool.casesOn true (r.get off fun c => k (.c c) st) (r.ext off sz fun r => k (.a r) st)
        | _ => .bad 98⟩ cl := by
  intro φ a w e fr st k hh hw h
  obtain ⟨v, h1, h2⟩ := src_ok (h : (src P gl ds x).run e fr _ = .ok)
  cases v <;> try cases h1
  rename_i rp
  obtain ⟨cs, hv, hr⟩ := h2 φ a hh
  obtain ⟨v, h3, h4⟩ := partA_ok (k := fun v => k v st) hr.1 h1
  obtain ⟨fs, f, ti, u1, u2, u3, u4, u5, u6⟩ := structF_ok hs
  obtain ⟨y, h5, h6⟩ := h4 φ f.type ti cs w hr u3 u6.symm u5.symm
  refine ⟨v, _, h3, h6, ?_⟩
  simp only [execOp, ho, Instr.field, hv]
  rw [run_bind_ok (a := y) (w' := w)]
  · rfl
  · rw [run_bind_ok (run_underlying u1)]
    simp only [u2]
    rw [run_bind_ok (a := cs) (w' := w) rfl, ← u4, h5]
theorem run_asIntOf {j : IntKind} {n : Int} {w : World} : (asIntOf (.int j n)).run P w = .ok (j, n) w := rfl
theorem sizeO_ok {el n : Nat} (h : sizeO P el = some n) : ∃ i, P.info? el = some i ∧ i.size = n := by
  unfold sizeO at h
  split at h
  · rename_i i hi; cases h; exact ⟨i, tyI_ok hi, rfl⟩
  · cases h
theorem indexAddrA_op {t n el esz : Nat} {x ix : Operand} (ho : o.op = .indexAddr t x ix) (ht : und P t = some (.array n el)) (hs : sizeO P el = some esz) :
    OCr P gl ds o ⟨fun _ e fr st k => (src P gl ds x).run e fr fun v => vPtr v fun p o => (src P gl ds ix).run e fr fun i => vN i fun i => Bool.casesOn (Nat.blt i n) (.bad 112) (fz (Nat.add o (Nat.mul i esz)) fun o => k (.c (.ptr p o)) st)⟩ cl := by
  intro φ a w e fr st k hh hw h
  obtain ⟨v, h1, h2⟩ := src_ok (h : (src P gl ds x).run e fr _ = .ok)
  obtain ⟨p, o', rfl, h3⟩ := vPtr_ok h1
  obtain ⟨l, hl, hv⟩ := h2 φ a hh
  obtain ⟨v, h4, h5⟩ := src_ok h3
  obtain ⟨i, h6, h7⟩ := vN_ok h4
  obtain ⟨j, hi⟩ := h7 φ _ (h5 φ a hh)
  rcases bcase h6 with ⟨_, h8⟩ | ⟨hb, h8⟩
  · cases h8
  rw [fz_eq] at h8
  have hlt : i < n := blt_t hb
  obtain ⟨ty, q1, q2⟩ := sizeO_ok hs
  refine ⟨_, .pointer (some ⟨l.b, l.base + (o' + i * esz), none⟩), h8, ⟨l, hl, rfl⟩, ?_⟩
  simp only [execOp, ho, hv, hi]
  rw [run_bind_ok (a := .pointer (some ⟨l.b, l.base + (o' + i * esz), none⟩)) (w' := w)]
  · rfl
  · unfold Instr.indexAt
    rw [run_bind_ok run_asIntOf]
    simp only []
    rw [run_bind_ok (run_underlying (und_ok ht))]
    simp only [Instr.sureAddr]
    rw [run_pure_bind, run_pure_bind]
    simp only []
    rw [run_bind_ok (run_underlying (und_ok ht))]
    simp only []
    rw [if_pos ⟨Int.natCast_nonneg i, Int.ofNat_lt.2 hlt⟩, run_bind_ok (run_sizeOf q1), q2, add_eq, Nat.add_assoc]
    rfl
theorem indexAddrS_op {t el esz : Nat} {x ix : Operand} (ho : o.op = .indexAddr t x ix) (ht : und P t = some (.slice el)) (hs : sizeO P el = some esz) :
    OCr P gl ds o ⟨fun _ e fr st k => (src P gl ds x).run e fr fun v => (src P gl ds ix).run e fr fun i => vN i fun i => match v with
          | .c (.sl p o n _) => Bool.casesOn (Nat.blt i n) (.bad 114) (fz (Nat.add o (Nat.mul i esz)) fun o => k (.c (.ptr p o)) st)
          | .c (.slu p o n _) => Bool.casesOn (Nat.blt i n) (.bad 114) (fz (Nat.add o (Nat.mul i esz)) fun o => k (.c (.ptr p o)) st)
          | _ => .bad 115⟩ cl := by
  intro φ a w e fr st k hh hw h
  obtain ⟨v, h1, h2⟩ := src_ok (h : (src P gl ds x).run e fr _ = .ok)
  obtain ⟨vi, h4, h5⟩ := src_ok h1
  obtain ⟨i, h6, h7⟩ := vN_ok h4
  obtain ⟨j, hi⟩ := h7 φ _ (h5 φ a hh)
  obtain ⟨ty, q1, q2⟩ := sizeO_ok hs
  have key : ∀ p o' n, (Bool.casesOn (Nat.blt i n) (.bad 114) (fz (Nat.add o' (Nat.mul i esz)) fun o => k (.c (.ptr p o)) st) : R) = .ok →
      (∃ l c, φ p = some l ∧ a.eval x = .slice (some ⟨l.b, l.base + o', none⟩) n c) → ∃ v cv, k v st = .ok ∧ relV φ v cv ∧ (execOp a.eval o).run P w = .ok (.value cv) w := by
    rintro p o' n h8 ⟨l, c, hl, hv⟩
    rcases bcase h8 with ⟨_, h8⟩ | ⟨hb, h8⟩
    · cases h8
    rw [fz_eq] at h8
    have hlt : i < n := blt_t hb
    refine ⟨_, .pointer (some ⟨l.b, l.base + (o' + i * esz), none⟩), h8, ⟨l, hl, rfl⟩, ?_⟩
    simp only [execOp, ho, hv, hi]
    rw [run_bind_ok (a := .pointer (some ⟨l.b, l.base + (o' + i * esz), none⟩)) (w' := w)]
    · rfl
    · unfold Instr.indexAt
      rw [run_bind_ok run_asIntOf]
      simp only []
      rw [run_bind_ok (run_underlying (und_ok ht))]
      simp only []
      rw [run_pure_bind]
      simp only []
      rw [run_bind_ok (run_underlying (und_ok ht))]
      simp only []
      rw [if_pos ⟨Int.natCast_nonneg i, Int.ofNat_lt.2 hlt⟩, run_bind_ok (run_sizeOf q1), q2, add_eq, Nat.add_assoc]
      rfl
  have hx := h2 φ a hh
  split at h6
  · rename_i p o' n c
    obtain ⟨l, hl, hv⟩ := hx
    exact key p o' n h6 ⟨l, c, hl, hv⟩
  · rename_i p o' n es
    obtain ⟨l, c, o2, hl, hv, e1, e2, e3⟩ := hx
    by_cases hc : c = 0
    · exfalso
      rcases bcase h6 with ⟨_, h8⟩ | ⟨hb, h8⟩
      · cases h8
      · have := blt_t hb; omega
    · exact key p o' n h6 ⟨l, c, hl, by rw [hv, e3.resolve_left hc]⟩
  · cases h6
end
end Ev
/-! Operations on values alone. -/
namespace Ev
open Go
set_option linter.unusedVariables false
variable {P : Program}

theorem isIface_ok {t : Nat} (h : ¬ isIface P t = true) : ∃ d, P.underlying t = some d ∧ ∀ ms, d ≠ .interface ms := by
  unfold isIface at h
  cases hu : und P t with
  | none => rw [hu] at h; simp at h
  | some d =>
    rw [hu] at h
    refine ⟨d, und_ok hu, fun ms e => ?_⟩
    subst e
    simp at h
section
variable {r : Option Nat} {gl ds : List Nat} {o : Oper} {cl : Caller}
theorem pick_op {c x y : Operand} (ho : o.op = .pick c x y) :
    OCr P gl ds o ⟨fun _ e fr st k => (src P gl ds c).run e fr fun v => vBool v fun b => Bool.casesOn b ((src P gl ds y).run e fr fun v => k v st) ((src P gl ds x).run e fr fun v => k v st)⟩ cl := by
  intro φ a w e fr st k hh hw h
  obtain ⟨v, h1, h2⟩ := src_ok (h : (src P gl ds c).run e fr _ = .ok)
  obtain ⟨b, rfl, h3⟩ := vBool_ok h1
  have hv : a.eval c = .bool b := h2 φ a hh
  rcases bcase h3 with ⟨rfl, h4⟩ | ⟨rfl, h4⟩
  · obtain ⟨v, h5, h6⟩ := src_ok h4
    refine ⟨v, _, h5, (h6 φ a hh), ?_⟩
    simp only [execOp, ho, hv]; rfl
  · obtain ⟨v, h5, h6⟩ := src_ok h4
    refine ⟨v, _, h5, (h6 φ a hh), ?_⟩
    simp only [execOp, ho, hv]; rfl
theorem nilCheck_op {x : Operand} (ho : o.op = .nilCheck x) :
    OCr P gl ds o ⟨fun _ e fr st k => (src P gl ds x).run e fr fun v => match v with | .c (.nil .p) | .c (.nil .i) | .c (.nil .f) => .bad 75 | v => k v st⟩ cl := by
  intro φ a w e fr st k hh hw h
  obtain ⟨v, h1, h2⟩ := src_ok (h : (src P gl ds x).run e fr _ = .ok)
  have hv := h2 φ a hh
  split at h1
  · cases h1
  · cases h1
  · cases h1
  · rename_i n1 n2 n3
    refine ⟨v, _, h1, hv, ?_⟩
    simp only [execOp, ho]
    generalize a.eval x = y at hv
    cases v with
    | c c =>
      cases c with
      | i n => have hv : y = _ := hv; subst hv; rfl
      | u n => have hv : y = _ := hv; subst hv; rfl
      | nat k n => have hv : y = _ := hv; subst hv; rfl
      | neg k n => have hv : y = _ := hv; subst hv; rfl
      | bool b => have hv : y = _ := hv; subst hv; rfl
      | ptr p o => obtain ⟨l, _, hv⟩ := hv; subst hv; rfl
      | str n x => obtain ⟨_, hv⟩ := hv; subst hv; rfl
      | sl p o l c => obtain ⟨l, _, hv⟩ := hv; subst hv; rfl
      | slu p o l c => obtain ⟨l, _, _, _, hv, _⟩ := hv; subst hv; rfl
      | nil j => cases j <;> first | exact absurd rfl n1 | exact absurd rfl n2 | exact absurd rfl n3 | (have hv : y = _ := hv; subst hv; rfl)
      | map p => obtain ⟨l, _, hv⟩ := hv; subst hv; rfl
      | fn f nf env =>
        cases f with
        | func f => obtain ⟨a, b, hv, _⟩ := hv; subst hv; rfl
        | yield p => obtain ⟨l, _, hv⟩ := hv; subst hv; rfl
      | cns a b => exact hv.elim
      | iface t c => obtain ⟨x, hv, _⟩ := hv; subst hv; rfl
      | undef => exact hv.elim
    | a rp => obtain ⟨cs, hv, _⟩ := hv; subst hv; rfl
    | t l => obtain ⟨cs, hv, _⟩ := hv; subst hv; rfl
theorem makeInterface_op {t : Nat} {x : Operand} (ho : o.op = .makeInterface t x) (ht : ¬ isIface P t = true) :
    OCr P gl ds o ⟨fun _ e fr st k => (src P gl ds x).run e fr fun v => rvC v fun c => k (.c (.iface t c)) st⟩ cl := by
  intro φ a w e fr st k hh hw h
  obtain ⟨v, h1, h2⟩ := src_ok (h : (src P gl ds x).run e fr _ = .ok)
  obtain ⟨c, rfl, h3⟩ := rvC_ok h1
  obtain ⟨d, hd, hn⟩ := isIface_ok ht
  refine ⟨_, .iface t (a.eval x), h3, ⟨_, rfl, h2 φ a hh⟩, ?_⟩
  simp only [execOp, ho, Instr.makeInterface]
  rw [run_bind_ok (a := .iface t (a.eval x)) (w' := w)]
  · rfl
  · rw [run_bind_ok (run_underlying hd)]
    cases d <;> first | rfl | exact absurd rfl (hn _)
theorem typeAssert_op {x : Operand} {t u : Nat} {ok : Bool} (ho : o.op = .typeAssert x u t ok) (ht : ¬ isIface P t = true) :
    OCr P gl ds o ⟨fun _ e fr st k => (src P gl ds x).run e fr fun v => match v with
      | .c (.iface u c) => if u = t then (if ok then k (.t [.c c, .c (.bool true)]) st else k (.c c) st) else .bad 144
      | _ => .bad 144⟩ cl := by
  intro φ a w e fr st k hh hw h
  obtain ⟨v, h1, h2⟩ := src_ok (h : (src P gl ds x).run e fr _ = .ok)
  obtain ⟨d, hd, hn⟩ := isIface_ok ht
  split at h1
  · rename_i u' c
    split at h1
    · rename_i he
      subst he
      obtain ⟨y, hy, hc⟩ := h2 φ a hh
      have key : ∀ cv, (if ok then (pure (.tuple #[y, .bool true]) : Sem Value) else pure y).run P w = .ok cv w → (execOp a.eval o).run P w = .ok (.value cv) w := by
        intro cv hcv
        simp only [execOp, ho, Instr.typeAssert, hy]
        rw [run_bind_ok (a := cv) (w' := w)]
        · rfl
        · rw [run_bind_ok (run_underlying hd)]
          cases d <;> first | exact absurd rfl (hn _) | (simp only [if_true]; cases ok <;> exact hcv)
      cases ok with
      | true => exact ⟨_, .tuple #[y, .bool true], h1, ⟨_, rfl, .cons hc (.cons rfl .nil)⟩, (key _ rfl)⟩
      | false => exact ⟨_, y, h1, hc, (key _ rfl)⟩
    · cases h1
  · cases h1
theorem extract_op {x : Operand} {i : Nat} (ho : o.op = .extract x i) :
    OCr P gl ds o ⟨fun _ e fr st k => (src P gl ds x).run e fr fun v => match v with | .t l => (match l[i]? with | some v => k v.rv st | none => .bad 145) | _ => .bad 145⟩ cl := by
  intro φ a w e fr st k hh hw h
  obtain ⟨v, h1, h2⟩ := src_ok (h : (src P gl ds x).run e fr _ = .ok)
  split at h1
  · rename_i l
    split at h1
    · rename_i y hy
      obtain ⟨vs, hv, hr⟩ := h2 φ a hh
      obtain ⟨z, hz, hzr⟩ := hr.get hy
      have hz : vs[i]? = some z := by simpa using hz
      refine ⟨_, _, h1, (relV_rv hzr), ?_⟩
      simp only [execOp, ho, Instr.extract, hv, hz]; rfl
    · cases h1
  · cases h1
theorem not_op {x : Operand} {t : Nat} (ho : o.op = .unOp .not t x) :
    OCr P gl ds o ⟨fun _ e fr st k => (src P gl ds x).run e fr fun v => vBool v fun b => Bool.casesOn b (k (.c (.bool true)) st) (k (.c (.bool false)) st)⟩ cl := by
  intro φ a w e fr st k hh hw h
  obtain ⟨v, h1, h2⟩ := src_ok (h : (src P gl ds x).run e fr _ = .ok)
  obtain ⟨b, rfl, h3⟩ := vBool_ok h1
  have hv : a.eval x = .bool b := h2 φ a hh
  rcases bcase h3 with ⟨rfl, h4⟩ | ⟨rfl, h4⟩
  · refine ⟨_, .bool true, h4, rfl, ?_⟩
    simp only [execOp, ho, Op.unary, hv]; rfl
  · refine ⟨_, .bool false, h4, rfl, ?_⟩
    simp only [execOp, ho, Op.unary, hv]; rfl
end
end Ev
/-! Making: variables, structs, rows. -/
namespace Ev
open Go
set_option linter.unusedVariables false
variable {P : Program}

theorem newBlk_ok {st : St} {b : Blk} {k : Pos → St → R} (h : newBlk st b k = .ok) :
    ∃ st', SetR st.next st.heap (some b) st'.heap ∧ (st'.next.num = st.next.num + 1 ∧ st'.old = st.old) ∧ k st.next st' = .ok := by
  obtain ⟨t, h1, h2⟩ := hSet_ok h
  obtain ⟨q, h3, h4⟩ := psucc_ok h2
  exact ⟨⟨q, t, st.old⟩, h1, ⟨h3, rfl⟩, h4⟩
theorem run_newRow {t : Nat} {cs : Array Value} {w : World} : (newRow t cs).run P w = .ok ⟨w.heap.size, 0, none⟩ { w with heap := w.heap.push (.cells cs t) } := rfl
/-- a new row -/
theorem newRow_ok {φ : Emb} {st : St} {w : World} (hw : relW (Sl P) (Nt P) φ st w) {r : Rope} {t : Nat} {ex : Bool} {k : Pos → St → R} (h : newBlk st (.cells r ex false t) k = .ok) :
    ∃ st', k st.next st' = .ok ∧ ∀ cs : Array Value, r.size ≤ cs.size → (ex = true → r.size = cs.size) → relRope φ r (cs.toList.take r.size) →
      φ.put st.next ⟨w.heap.size, 0, cs.size⟩ st.next = some ⟨w.heap.size, 0, cs.size⟩ ∧
      Ext (Sl P) (Nt P) φ st w (φ.put st.next ⟨w.heap.size, 0, cs.size⟩) st' { w with heap := w.heap.push (.cells cs t) } := by
  obtain ⟨st', h1, h2, h3⟩ := newBlk_ok h
  refine ⟨st', h3, fun cs hle hex hr => ⟨Emb.put_same _ _ _, Ext.alloc hw h1 h2.1 h2.2 ?_⟩⟩
  refine ⟨fun _ => rfl, by simp, hle, fun e => ⟨hex e, rfl⟩, ?_, fun _ o _ _ h => by omega⟩
  have := relRope_mono (Emb.put_le (next_free hw) (l := ⟨w.heap.size, 0, cs.size⟩)) hr
  simpa using this
section
variable {r : Option Nat} {gl ds : List Nat} {o : Oper} {cl : Caller}
theorem alloc_op {t : Nat} {ti : TI} (ho : o.op = .alloc t) (ht : TIok P t ti) :
    OCok P r gl ds o ⟨fun _ _ _ st k => newBlk st (.cells ti.zero true false t) fun p st => k (.c (.ptr p 0)) st⟩ cl := by
  intro φ a w e fr st k hh hw h
  obtain ⟨st', h1, h2⟩ := newRow_ok hw (show newBlk st (.cells ti.zero true false t) (fun p st => k (.c (.ptr p 0)) st) = .ok from h)
  obtain ⟨i, hi, hs, _, z, hz, hzr⟩ := ht.info
  have hr := ropeOfV_rel (φ := φ) hzr
  have hsz : ti.zero.size = z.cells.size := by rw [← ti.zero.length_toL hr.1, hr.2.length]; simp
  obtain ⟨h3, h4⟩ := h2 z.cells (by omega) (fun _ => hsz) (by rw [hsz, List.take_of_length_le (by simp)]; exact hr)
  refine ⟨_, st', h1, .of_run (by simp [ho]) h4 (cv := .pointer (some ⟨w.heap.size, 0, none⟩)) ⟨_, h3, rfl⟩ (.inl ?_)⟩
  simp only [execOp, ho, Instr.alloc]
  rw [run_bind_ok (a := .pointer (some ⟨w.heap.size, 0, none⟩)) (w' := { w with heap := w.heap.push (.cells z.cells t) })]
  · rfl
  · rw [run_bind_ok (run_zeroValue hi hz)]; rfl
theorem box_op {t : Nat} {x : Operand} (ho : o.op = .box t x) :
    OCok P r gl ds o ⟨fun _ e fr st k => (src P gl ds x).run e fr fun v => rvRope v fun r => newBlk st (.cells r true false t) fun p st => k (.c (.ptr p 0)) st⟩ cl := by
  intro φ a w e fr st k hh hw h
  obtain ⟨v, h1, h2⟩ := src_ok (h : (src P gl ds x).run e fr _ = .ok)
  obtain ⟨rp, h3, h4⟩ := rvRope_ok h1
  have hr := h4 φ _ (h2 φ a hh)
  obtain ⟨st', h5, h6⟩ := newRow_ok hw h3
  have hsz : rp.size = (a.eval x).cells.size := by rw [← rp.length_toL hr.1, hr.2.length]; simp
  obtain ⟨h7, h8⟩ := h6 (a.eval x).cells (by omega) (fun _ => hsz) (by rw [hsz, List.take_of_length_le (by simp)]; exact hr)
  refine ⟨_, st', h5, .of_run (by simp [ho]) h8 (cv := .pointer (some ⟨w.heap.size, 0, none⟩)) ⟨_, h7, rfl⟩ (.inl ?_)⟩
  simp only [execOp, ho, Instr.box]; rfl
theorem makeMap_op {t : Nat} {x : Option Operand} (ho : o.op = .makeMap t x) (hx : x = none) :
    OCok P r gl ds o ⟨fun _ _ _ st k => newBlk st (.map [] 0) fun p st => k (.c (.map p)) st⟩ cl := by
  intro φ a w e fr st k hh hw h
  obtain ⟨st', h1, h2, h3⟩ := newBlk_ok (show newBlk st (.map [] 0) (fun p st => k (.c (.map p)) st) = .ok from h)
  have he : Ext (Sl P) (Nt P) φ st w (φ.put st.next ⟨w.heap.size, 0, 0⟩) st' { w with heap := w.heap.push (.map #[] 0) } := Ext.alloc hw h1 h2.1 h2.2 ⟨rfl, .nil⟩
  refine ⟨_, st', h3, .of_run (by simp [ho]) he (cv := .map (some w.heap.size)) ⟨_, Emb.put_same _ _ _, rfl⟩ (.inl ?_)⟩
  subst hx
  simp only [execOp, ho, Instr.makeMap]; rfl
end
/-! ### copies of a rope -/
theorem rep_ok (z : Rope) (hz : z.wf) (n : Nat) : wfs (rep z n) ∧ toLs (rep z n) = (List.replicate n z.toL).flatten := by
  induction n with
  | zero => exact ⟨fun r hr => (by cases hr), rfl⟩
  | succ n ih =>
    refine ⟨fun r hr => ?_, ?_⟩
    · rcases List.mem_cons.1 hr with rfl | hr
      · exact hz
      · exact ih.1 r hr
    · show z.toL ++ toLs (rep z n) = _
      rw [ih.2]; rfl
theorem flat1 {α : Type} (n : Nat) (c : α) : (List.replicate n [c]).flatten = List.replicate n c := by
  induction n with
  | zero => rfl
  | succ n ih => simp [List.replicate_succ, ih]
theorem lane_zero (w i : Nat) : lane w 0 i = 0 := by rw [lane_def]; simp
theorem spill_zero (j : PK) (n : Nat) : spill j n 0 = List.replicate n (j.dec 0) := by
  apply List.ext_getElem?
  intro i
  by_cases h : i < n
  · rw [spill_get _ _ _ _ h, lane_zero]; simp [h]
  · rw [List.getElem?_eq_none (by rw [spill_length]; omega), List.getElem?_eq_none (by simp; omega)]
theorem repR_ok {z : Rope} {n : Nat} {k : Rope → R} (hz : z.wf) (h : repR z n k = .ok) : ∃ r, r.wf ∧ r.toL = (List.replicate n z.toL).flatten ∧ k r = .ok := by
  unfold repR at h
  split at h
  · refine ⟨.nil, (by simp [Rope.wf]), ?_, h⟩
    show [] = _
    symm
    rw [List.flatten_eq_nil_iff]
    intro l hl
    rw [List.mem_replicate] at hl
    rw [hl.2]; rfl
  · rename_i pk m
    rw [fz_eq] at h
    refine ⟨_, by show 0 < _; exact Nat.two_pow_pos _, ?_, h⟩
    show spill pk (m * n) 0 = (List.replicate n (spill pk m 0)).flatten
    rw [spill_zero, spill_zero, List.flatten_replicate_replicate, Nat.mul_comm]
  · refine ⟨_, by show 0 < _; exact Nat.two_pow_pos _, ?_, h⟩
    show spill .u8 n 0 = (List.replicate n [_]).flatten
    rw [spill_zero, flat1]; rfl
  · refine ⟨_, by show 0 < _; exact Nat.two_pow_pos _, ?_, h⟩
    show spill .b n 0 = (List.replicate n [_]).flatten
    rw [spill_zero, flat1]; rfl
  · have := rep_ok z hz n
    have j := joinAll_ok 40 _ this.1
    exact ⟨_, j.1, by rw [j.2, this.2], h⟩
/-! ### parts laid into a row -/
theorem zipIdx_spl (l : List Value) (off : Nat) : ∀ (k : Nat) (cells : Array Value), (l.zipIdx k).foldl (fun cs p => cs.setIfInBounds (off + p.2) p.1) cells = spl cells (off + k) l := by
  induction l with
  | nil => intro k cells; rfl
  | cons v l ih => intro k cells; rw [List.zipIdx_cons, List.foldl_cons, ih]; rfl
theorem fold_spl (v : Array Value) (off : Nat) (cells : Array Value) : v.zipIdx.foldl (fun cs (c, j) => cs.setIfInBounds (off + j) c) cells = spl cells off v.toList := by
  rw [← Array.foldl_toList, Array.toList_zipIdx]
  exact zipIdx_spl v.toList off 0 cells
theorem spl_rel {φ : Emb} {z z' x : Rope} {off : Nat} {cells : Array Value} {vs : List Value} (hz : relRope φ z cells.toList) (hx : relRope φ x vs) (hz' : z'.wf) (hl : off + x.size ≤ z.size)
    (he : z'.toL = z.toL.take off ++ x.toL ++ z.toL.drop (off + x.size)) : relRope φ z' (spl cells off vs).toList := by
  have hzl := z.length_toL hz.1
  have hzc := hz.2.length
  have hxl := x.length_toL hx.1
  have hxc := hx.2.length
  have : (spl cells off vs).toList = cells.toList.take off ++ vs ++ cells.toList.drop (off + x.size) := by
    apply List.ext_getElem?
    intro i
    rw [Array.getElem?_toList, spl_get _ _ _ _ (by simp at hzc; omega)]
    have htl : (cells.toList.take off).length = off := by simp at hzc ⊢; omega
    by_cases h2 : i < off
    · rw [if_neg (by omega), List.append_assoc, List.getElem?_append_left (by omega), List.getElem?_take_of_lt h2]; simp
    · by_cases h3 : i < off + x.size
      · rw [if_pos (by omega), List.append_assoc, List.getElem?_append_right (by omega), List.getElem?_append_left (by omega), htl]
      · rw [if_neg (by omega), List.append_assoc, List.getElem?_append_right (by omega), List.getElem?_append_right (by omega), htl, List.getElem?_drop, Array.getElem?_toList]
        congr 1; omega
  exact ⟨hz', by rw [he, this]; exact ((hz.2.take off).append hx.2).append (hz.2.drop _)⟩
/-- what 'fillR' gives -/
def FillR (places : List (Nat × Nat)) (vs : List El) (z : Rope) (k : Rope → R) : Prop :=
  ∃ rp : Rope, rp.wf ∧ rp.size = z.size ∧ k rp = .ok ∧ ∀ (φ : Emb) (place : Nat → Option (Nat × Nat)) (parts : List (Nat × Value)) (cells : Array Value), relRope φ z cells.toList →
      Rel2 (relEl φ) vs (parts.map (·.2)) → parts.map (fun p => place p.1) = places.map some → ∃ cells', Instr.fill place cells parts = some cells' ∧ relRope φ rp cells'.toList
theorem fillR_ok {places : List (Nat × Nat)} : ∀ {vs : List El} {z : Rope} {k : Rope → R}, z.wf → fillR places vs z k = .ok → (∀ x ∈ vs, ∀ rp, x = .a rp → rp.wf) → FillR places vs z k := by
  induction places with
  | nil =>
    intro vs z k hz h _
    cases vs with
    | nil =>
      refine ⟨z, hz, rfl, h, fun φ place parts cells hr hv hp => ?_⟩
      cases parts with
      | nil => exact ⟨cells, rfl, hr⟩
      | cons p ps => cases hv
    | cons v vs => cases h
  | cons pl places ih =>
    intro vs z k hz h hwf
    obtain ⟨off, size⟩ := pl
    cases vs with
    | nil => cases h
    | cons v vs =>
      have fin : ∀ (x z' : Rope), z'.wf → z'.size = z.size → x.wf → x.size = size → off + x.size ≤ z.size → z'.toL = z.toL.take off ++ x.toL ++ z.toL.drop (off + x.size) →
          (∀ φ y, relEl φ v y → relRope φ x y.cells.toList) → fillR places vs z' k = .ok → FillR ((off, size) :: places) (v :: vs) z k := by
        intro x z' hz' hs hx hxs hl he hv h'
        obtain ⟨rp, h1, h2, h3, h4⟩ := ih hz' h' (fun x hx rp e => hwf x (List.mem_cons_of_mem _ hx) rp e)
        refine ⟨rp, h1, by rw [h2, hs], h3, fun φ place parts cells hr hvs hp => ?_⟩
        cases parts with
        | nil => cases hvs
        | cons p ps =>
          obtain ⟨i, y⟩ := p
          cases hvs with
          | cons hy hvs =>
            simp only [List.map_cons, List.cons.injEq] at hp
            have hxr := hv φ y hy
            have hsz : y.cells.size = size := by rw [← hxs, ← x.length_toL hx, hxr.2.length]; simp
            have hcl : cells.size = z.size := by rw [← z.length_toL hr.1, hr.2.length]; simp
            have := h4 φ place ps (spl cells off y.cells.toList) (spl_rel hr hxr hz' hl he) hvs hp.2
            obtain ⟨c', e1, e2⟩ := this
            refine ⟨c', ?_, e2⟩
            unfold Instr.fill
            rw [hp.1]
            simp only []
            rw [if_neg (by simp only [hsz, ne_eq, not_true_eq_false, false_or, Bool.or_eq_true, decide_eq_true_eq]; simp; omega)]
            rw [fold_spl]; exact e1
      cases v with
      | c c =>
        unfold fillR at h
        split at h
        · rename_i hs
          obtain ⟨z', w1, w2, w3, w4, h⟩ := Rope.set_ok hz h
          have hlen := z.length_toL hz
          exact fin (.l 1 [c]) z' w1 w3 rfl hs.symm (by show off + 1 ≤ _; omega) (by rw [w4, List.set_eq_take_append_cons_drop, if_pos (by omega)]; simp [Rope.toL, Rope.size])
            (fun φ y hy => by rw [(cells_one (φ := φ) hy).1]; exact ⟨rfl, .cons hy .nil⟩) h
        · cases h
      | a x =>
        unfold fillR at h
        rw [Rope.sz_eq] at h
        split at h
        · rename_i hs
          have hxw := hwf (.a x) (by simp) x rfl
          obtain ⟨z', w1, w2, w3, w4, h⟩ := Rope.splice_ok hz hxw rfl h
          exact fin x z' w1 w2 hxw hs w3 w4 (fun φ y ⟨cs, e1, e2⟩ => by subst e1; exact e2) h
        · cases h
end Ev
/-! Structs, arrays, slices made from parts. -/
namespace Ev
open Go
set_option linter.unusedVariables false
variable {P : Program}

theorem fieldPl_ok (fs : List Field) : ∀ {l : List (Nat × Nat)} {w : World}, fieldPl P fs = some l → (fs.mapM (m := Sem) fun f => do pure (f.offset, ← Go.sizeOf f.type)).run P w = .ok l w := by
  induction fs with
  | nil => intro l w h; cases h; simp only [List.mapM_nil]; rfl
  | cons f fs ih =>
    intro l w h
    unfold fieldPl at h
    split at h
    · rename_i s l' hs hl
      cases h
      obtain ⟨i, hi, hsz⟩ := sizeO_ok hs
      rw [List.mapM_cons]
      have : (do pure (f.offset, ← Go.sizeOf f.type) : Sem (Nat × Nat)).run P w = .ok (f.offset, s) w := by rw [run_bind_ok (run_sizeOf hi), hsz]; rfl
      rw [run_bind_ok this, run_bind_ok (ih hl)]; rfl
    · cases h
theorem pickPl_ok {l : List (Nat × Nat)} (is : List Nat) : ∀ {ps : List (Nat × Nat)}, pickPl l is = some ps → is.map (fun i => l[i]?) = ps.map some := by
  induction is with
  | nil => intro ps h; cases h; rfl
  | cons i is ih =>
    intro ps h
    unfold pickPl at h
    split at h
    · rename_i x r hx hr
      cases h
      rw [lget_eq] at hx
      simp [hx, ih hr]
    · cases h
theorem els_wf {φ : Emb} {vs : List El} {ys : List Value} (h : Rel2 (relEl φ) vs ys) : ∀ x ∈ vs, ∀ rp, x = .a rp → rp.wf := by
  induction h with
  | nil => intro x hx; cases hx
  | cons h1 _ ih =>
    intro x hx rp e
    rcases List.mem_cons.1 hx with rfl | hx
    · subst e; obtain ⟨cs, _, h⟩ := h1; exact h.1
    · exact ih x hx rp e
theorem TIok.zero_wf {t : Nat} {ti : TI} (ht : TIok P t ti) : ti.zero.wf := by
  obtain ⟨i, hi, hs, _, z, hz, hzr⟩ := ht.info
  exact (ropeOfV_rel (φ := fun _ => none) hzr).1
section
variable {r : Option Nat} {gl ds : List Nat} {o : Oper} {cl : Caller}
theorem build_op {t : Nat} {ps : Array (Nat × Operand)} {ti : TI} {places : List (Nat × Nat)} (ho : o.op = .build t ps) (ht : TIok P t ti) (hp : placesT P ti.und (ps.toList.map (·.1)) = some places) :
    OCr P gl ds o ⟨fun _ e fr st k => (srcs P gl ds (ps.toList.map (·.2))).run e fr fun vs => fillR places vs ti.zero fun r => k (.a r) st⟩ cl := by
  intro φ a w e fr st k hh hw h
  obtain ⟨vs, h1, h2⟩ := srcs_ok (h : (srcs P gl ds _).run e fr _ = .ok)
  have hv := h2 φ a hh
  obtain ⟨rp, w1, w2, h3, h4⟩ := fillR_ok ht.zero_wf h1 (els_wf hv)
  obtain ⟨i, hi, hs, _, z, hz, hzr⟩ := ht.info
  have hparts : ((ps.map fun (i, x) => (i, a.eval x)).toList.map (·.2)) = (ps.toList.map (·.2)).map a.eval := by simp [Function.comp_def]
  have hzc := ropeOfV_rel (φ := φ) hzr
  have key : ∀ place : Nat → Option (Nat × Nat), ps.toList.map (fun p => place p.1) = places.map some → ∃ c', Instr.fill place z.cells (ps.map fun (i, x) => (i, a.eval x)).toList = some c' ∧ relRope φ rp c'.toList := by
    intro place hpl
    exact h4 φ place _ z.cells hzc (by rw [hparts]; exact hv) (by rw [← hpl]; simp [Function.comp_def])
  have fin : ∀ c' : Array Value, relRope φ rp c'.toList → (Instr.build t (ps.map fun (i, x) => (i, a.eval x))).run P w = .ok (.agg c') w → ∃ v cv, k v st = .ok ∧ relV φ v cv ∧ (execOp a.eval o).run P w = .ok (.value cv) w := by
    intro c' hc hrun
    refine ⟨.a rp, .agg c', h3, ⟨c', rfl, hc⟩, ?_⟩
    simp only [execOp, ho]
    rw [run_bind_ok hrun]; rfl
  unfold placesT at hp
  split at hp
  · rename_i fs hu
    split at hp
    · rename_i l hl
      obtain ⟨c', e1, e2⟩ := key (l.toArray[·]?) (by have := pickPl_ok _ hp; rw [← this]; simp [Function.comp_def])
      refine fin c' e2 ?_
      unfold Instr.build
      rw [run_bind_ok (run_zeroValue hi hz), run_bind_ok (run_underlying (by rw [ht.und, hu]))]
      simp only []
      have : (fs.mapM (m := Sem) fun f => do pure (f.offset, ← Go.sizeOf f.type)).run P w = .ok l.toArray w := by
        rw [Array.mapM_eq_mapM_toList, map_eq_pure_bind, run_bind_ok (fieldPl_ok _ hl)]; rfl
      rw [run_bind_ok this, e1]; rfl
    · cases hp
  · rename_i n el hu
    split at hp
    · rename_i s hs
      cases hp
      obtain ⟨ie, hie, hsz⟩ := sizeO_ok hs
      obtain ⟨c', e1, e2⟩ := key (fun i => some (i * s, s)) (by simp [Function.comp_def])
      refine fin c' e2 ?_
      unfold Instr.build
      rw [run_bind_ok (run_zeroValue hi hz), run_bind_ok (run_underlying (by rw [ht.und, hu]))]
      simp only []
      rw [run_bind_ok (run_sizeOf hie), hsz, e1]; rfl
    · cases hp
  · cases hp
end
/-! ### rows of zeros -/
theorem range_mul (s n : Nat) (f : Nat → Value) (hf : ∀ i, f (s + i) = f i) : (List.range ((n + 1) * s)).map f = (List.range s).map f ++ (List.range (n * s)).map f := by
  rw [Nat.succ_mul, Nat.add_comm, List.range_add, List.map_append, List.map_map]
  congr 1
  apply List.map_congr_left
  intro i _
  exact hf i
theorem range_get (z : Array Value) : (List.range z.size).map (fun i => z[i % z.size]!) = z.toList := by
  apply List.ext_getElem?
  intro i
  by_cases h : i < z.size
  · simp [h, Nat.mod_eq_of_lt h]
  · rw [List.getElem?_eq_none (by simp; omega), List.getElem?_eq_none (by simp; omega)]
theorem zeros_rel {φ : Emb} {z : Rope} {zc : Array Value} (hz : relRope φ z zc.toList) (n : Nat) :
    Rel2 (relC φ) (List.replicate n z.toL).flatten ((Array.range (n * zc.size)).map (zc[· % zc.size]!)).toList := by
  have : ((Array.range (n * zc.size)).map (zc[· % zc.size]!)).toList = (List.range (n * zc.size)).map fun i => zc[i % zc.size]! := by simp
  rw [this]
  induction n with
  | zero => simp; exact .nil
  | succ n ih =>
    rw [range_mul _ _ _ (fun i => by simp), range_get, List.replicate_succ, List.flatten_cons]
    exact hz.2.append (ih (by simp))
/-- the zeros of a slice of n -/
theorem zeroRow_ok {φ : Emb} {t n : Nat} {ti : TI} (ht : TIok P t ti) {z : Rope} (hz : z.wf) (he : z.toL = (List.replicate n ti.zero.toL).flatten) {i : TypeInfo} {v : Value} (hi : P.info? t = some i)
    (hv : i.zero = some v) : v.cells.size = ti.size ∧ z.size = n * ti.size ∧ relRope φ z ((Array.range (n * ti.size)).map (v.cells[· % v.cells.size]!)).toList := by
  obtain ⟨j, hj, _, _, y, hy, hyr⟩ := ht.info
  rw [hi] at hj; cases hj
  rw [hv] at hy; cases hy
  have hsz : v.cells.size = ti.size := by
    have := ropeOfV_rel (φ := φ) hyr
    rw [← ht.zsize, ← ti.zero.length_toL this.1, this.2.length]; simp
  have hr : relRope φ z ((Array.range (n * ti.size)).map (v.cells[· % v.cells.size]!)).toList := ⟨hz, by rw [he, ← hsz]; exact zeros_rel (ropeOfV_rel hyr) n⟩
  refine ⟨hsz, ?_, hr⟩
  rw [← z.length_toL hz, hr.2.length]; simp
section
variable {r : Option Nat} {gl ds : List Nat} {o : Oper} {cl : Caller}
theorem mulIf {c : Nat} {α : Type} {z : Value} {i : TypeInfo} {el : Nat} {w : World} (hi : P.info? el = some i) (hz : i.zero = some z) (f : Array Value → Sem α) :
    ∃ zc : Array Value, (zc = z.cells ∨ c = 0) ∧ (if c = 0 then ((pure #[] : Sem (Array Value)) >>= f) else (zeroValue el >>= fun v => (pure v.cells : Sem (Array Value)) >>= f)).run P w = (f zc).run P w := by
  by_cases h : c = 0
  · exact ⟨#[], .inr h, by rw [if_pos h]; rfl⟩
  · refine ⟨z.cells, .inl rfl, ?_⟩
    rw [if_neg h, run_bind_ok (run_zeroValue hi hz)]; rfl
theorem zeros_any {c : Nat} {zc zd : Array Value} (h : zc = zd ∨ c = 0) : ((Array.range c).map (zc[· % zc.size]!)) = ((Array.range c).map (zd[· % zd.size]!)) := by
  rcases h with rfl | rfl
  · rfl
  · simp
theorem buildSlice_op {t n el : Nat} {ps : Array (Nat × Operand)} {ti : TI} (ho : o.op = .buildSlice t n ps) (hu : und P t = some (.slice el)) (ht : TIok P el ti) (hn : ¬ n * ti.size > 16777216) :
    OCok P r gl ds o ⟨fun _ e fr st k => (srcs P gl ds (ps.toList.map (·.2))).run e fr fun vs => repR ti.zero n fun z => fillR (ps.toList.map fun p => (p.1 * ti.size, ti.size)) vs z fun r =>
      newBlk st (.cells r true false el) fun p st => k (.c (.sl p 0 n n)) st⟩ cl := by
  intro φ a w e fr st k hh hw h
  obtain ⟨vs, h1, h2⟩ := srcs_ok (h : (srcs P gl ds _).run e fr _ = .ok)
  have hv := h2 φ a hh
  obtain ⟨z, w1, w2, h1⟩ := repR_ok ht.zero_wf h1
  obtain ⟨rp, w3, w4, h3, h4⟩ := fillR_ok w1 h1 (els_wf hv)
  obtain ⟨i, hi, hs, _, zv, hz, hzr⟩ := ht.info
  obtain ⟨q1, q2, q3⟩ := zeroRow_ok (φ := φ) ht w1 w2 hi hz
  have hparts : ((ps.map fun (i, x) => (i, a.eval x)).toList.map (·.2)) = (ps.toList.map (·.2)).map a.eval := by simp [Function.comp_def]
  obtain ⟨cs, e1, e2⟩ := h4 φ (fun i => some (i * ti.size, ti.size)) (ps.map fun (i, x) => (i, a.eval x)).toList _ q3 (by rw [hparts]; exact hv) (by simp [Function.comp_def])
  obtain ⟨st', h5, h6⟩ := newRow_ok hw h3
  have hsz : rp.size = cs.size := by rw [← rp.length_toL w3, e2.2.length]; simp
  obtain ⟨h7, h8⟩ := h6 cs (by omega) (fun _ => hsz) (by rw [hsz, List.take_of_length_le (by simp)]; exact e2)
  refine ⟨_, st', h5, .of_run (by simp [ho]) h8 (cv := .slice (some ⟨w.heap.size, 0, none⟩) n n) ⟨_, h7, rfl⟩ (.inl ?_)⟩
  simp only [execOp, ho]
  rw [run_bind_ok (a := .slice (some ⟨w.heap.size, 0, none⟩) n n) (w' := { w with heap := w.heap.push (.cells cs el) })]
  · rfl
  · unfold Instr.buildSlice
    rw [run_bind_ok (run_underlying (und_ok hu))]
    simp only []
    rw [run_bind_ok (run_sizeOf hi), hs, if_neg (by simpa using hn)]
    obtain ⟨zc, hzc, hrun⟩ := mulIf (c := n * ti.size) (w := w) hi hz (fun zero => do
      let some cells := Instr.fill (fun i => some (i * ti.size, ti.size)) ((Array.range (n * ti.size)).map (zero[· % zero.size]!)) (ps.map fun (i, x) => (i, a.eval x)).toList
        | stuck "buildSlice: a part of the wrong size"
      pure (Value.slice (some (← newRow el cells)) n n))
    refine Eq.trans hrun ?_
    rw [zeros_any hzc, e1]
    rfl
theorem wrap_small {n : Nat} (h : n ≤ 1000000000) : IntKind.wrap .i64 (.ofNat n) = .ofNat n := by
  unfold IntKind.wrap
  simp [IntKind.bits, IntKind.signed]
  omega
theorem makeSlice_op {t el : Nat} {x y : Operand} {ti : TI} (ho : o.op = .makeSlice t x y) (hu : und P t = some (.slice el)) (ht : TIok P el ti) :
    OCok P r gl ds o ⟨fun _ e fr st k => (src P gl ds x).run e fr fun l => vN l fun l => (src P gl ds y).run e fr fun c => vN c fun c =>
          if l ≤ c ∧ c * ti.bytes ≤ 1000000000 ∧ c ≤ 1000000000 then repR ti.zero c fun z => newBlk st (.cells z true false el) fun p st => k (.c (.sl p 0 l c)) st else .bad 90⟩ cl := by
  intro φ a w e fr st k hh hw h
  obtain ⟨v, h1, h2⟩ := src_ok (h : (src P gl ds x).run e fr _ = .ok)
  obtain ⟨l, h1, h3⟩ := vN_ok h1
  obtain ⟨j, hx⟩ := h3 φ _ (h2 φ a hh)
  obtain ⟨v, h1, h2⟩ := src_ok h1
  obtain ⟨c, h1, h3⟩ := vN_ok h1
  obtain ⟨j', hy⟩ := h3 φ _ (h2 φ a hh)
  split at h1
  · rename_i hc
    obtain ⟨c1, c2, c3⟩ := hc
    obtain ⟨z, w1, w2, h1⟩ := repR_ok ht.zero_wf h1
    obtain ⟨i, hi, hs, hb, zv, hz, hzr⟩ := ht.info
    obtain ⟨q1, q2, q3⟩ := zeroRow_ok (φ := φ) ht w1 w2 hi hz
    obtain ⟨st', h5, h6⟩ := newRow_ok hw h1
    have hsz : z.size = ((Array.range (c * ti.size)).map (zv.cells[· % zv.cells.size]!)).size := by rw [q2]; simp
    obtain ⟨h7, h8⟩ := h6 _ (Nat.le_of_eq hsz) (fun _ => hsz) (by rw [hsz, List.take_of_length_le (by simp)]; exact q3)
    refine ⟨_, st', h5, .of_run (by simp [ho]) h8 (cv := .slice (some ⟨w.heap.size, 0, none⟩) l c) ⟨_, h7, rfl⟩ (.inl ?_)⟩
    simp only [execOp, ho, hx, hy]
    rw [run_bind_ok (a := .slice (some ⟨w.heap.size, 0, none⟩) l c) (w' := { w with heap := w.heap.push (.cells ((Array.range (c * ti.size)).map (zv.cells[· % zv.cells.size]!)) el) })]
    · rfl
    · unfold Instr.makeSlice
      rw [run_bind_ok (run_underlying (und_ok hu))]
      simp only []
      rw [run_bind_ok (a := (Int.ofNat l)) (w' := w) rfl, run_bind_ok (a := (Int.ofNat c)) (w' := w) rfl, run_bind_ok (run_typeInfo hi)]
      simp only [wrap_small c3, wrap_small (Nat.le_trans c1 c3), hb]
      have hbig : ¬ ((i.bytes : Int) * Int.ofNat c > 2 ^ 48) := by
        have : (i.bytes : Int) * Int.ofNat c = ((c * i.bytes : Nat) : Int) := by push_cast; rw [Int.mul_comm]; rfl
        rw [this, hb]
        omega
      rw [if_neg (by simp only [hb] at hbig ⊢; simp at hbig ⊢; omega)]
      have hroom : ((askRoom ((Int.ofNat c).toNat * ti.bytes)).run P w) = .ok () w := by
        unfold askRoom roomBytes
        rw [if_neg (by show ¬ c * ti.bytes > 2 ^ 47; omega)]; rfl
      rw [run_bind_ok hroom, run_bind_ok (run_sizeOf hi), hs]
      obtain ⟨zc, hzc, hrun⟩ := mulIf (c := c * ti.size) (w := w) hi hz (fun zero => do
        let a ← newRow el ((Array.range (c * ti.size)).map (zero[· % zero.size]!))
        pure (Value.slice (some a) l c))
      refine Eq.trans hrun ?_
      rw [zeros_any hzc]; rfl
  · cases h1
end
end Ev
/-! Indexing of values; closures. -/
namespace Ev
open Go
set_option linter.unusedVariables false
variable {P : Program}

section
variable {r : Option Nat} {gl ds : List Nat} {o : Oper} {cl : Caller}
theorem index1_op {t n el : Nat} {ti : TI} {x ix : Operand} (ho : o.op = .index t x ix) (hu : und P t = some (.array n el)) (ht : TIok P el ti) (ha : ti.agg = false) :
    OCr P gl ds o ⟨fun _ e fr st k => (src P gl ds x).run e fr fun v => (src P gl ds ix).run e fr fun i => vN i fun i => match v with
            | .a r => Bool.casesOn (Nat.blt i n) (.bad 118) (Bool.casesOn ti.agg (r.get (i * ti.size) fun c => k (.c c) st) (r.ext (i * ti.size) ti.size fun r => k (.a r) st))
            | _ => .bad 119⟩ cl := by
  intro φ a w e fr st k hh hw h
  obtain ⟨v, h1, h2⟩ := src_ok (h : (src P gl ds x).run e fr _ = .ok)
  obtain ⟨vi, h4, h5⟩ := src_ok h1
  obtain ⟨i, h6, h7⟩ := vN_ok h4
  obtain ⟨j, hi⟩ := h7 φ _ (h5 φ a hh)
  split at h6
  · rename_i rp
    obtain ⟨cs, hv, hr⟩ := h2 φ a hh
    rcases bcase h6 with ⟨_, h8⟩ | ⟨hb, h8⟩
    · cases h8
    rw [ha] at h8
    have hlt : i < n := blt_t hb
    obtain ⟨q, hq, hs, _⟩ := ht.info
    obtain ⟨v, h3, h4⟩ := part1_ok (k := fun v => k v st) hr.1 h8
    obtain ⟨y, h5, h6⟩ := h4 φ el ti cs w hr ht ha
    refine ⟨v, _, h3, h6, ?_⟩
    simp only [execOp, ho, hv, hi]
    rw [run_bind_ok (a := y) (w' := w)]
    · rfl
    · unfold Instr.index
      rw [run_bind_ok run_asIntOf]
      simp only []
      rw [run_bind_ok (run_underlying (und_ok hu))]
      simp only []
      rw [if_pos ⟨Int.natCast_nonneg i, Int.ofNat_lt.2 hlt⟩, run_bind_ok (run_sizeOf hq), hs]
      exact h5
  · cases h6
theorem indexA_op {t n el : Nat} {ti : TI} {x ix : Operand} (ho : o.op = .index t x ix) (hu : und P t = some (.array n el)) (ht : TIok P el ti) (ha : ti.agg = true) :
    OCr P gl ds o ⟨fun _ e fr st k => (src P gl ds x).run e fr fun v => (src P gl ds ix).run e fr fun i => vN i fun i => match v with
            | .a r => Bool.casesOn (Nat.blt i n) (.bad 118) (Bool.casesOn ti.agg (r.get (i * ti.size) fun c => k (.c c) st) (r.ext (i * ti.size) ti.size fun r => k (.a r) st))
            | _ => .bad 119⟩ cl := by
  intro φ a w e fr st k hh hw h
  obtain ⟨v, h1, h2⟩ := src_ok (h : (src P gl ds x).run e fr _ = .ok)
  obtain ⟨vi, h4, h5⟩ := src_ok h1
  obtain ⟨i, h6, h7⟩ := vN_ok h4
  obtain ⟨j, hi⟩ := h7 φ _ (h5 φ a hh)
  split at h6
  · rename_i rp
    obtain ⟨cs, hv, hr⟩ := h2 φ a hh
    rcases bcase h6 with ⟨_, h8⟩ | ⟨hb, h8⟩
    · cases h8
    rw [ha] at h8
    have hlt : i < n := blt_t hb
    obtain ⟨q, hq, hs, _⟩ := ht.info
    obtain ⟨v, h3, h4⟩ := partA_ok (k := fun v => k v st) hr.1 h8
    obtain ⟨y, h5, h6⟩ := h4 φ el ti cs w hr ht ha rfl
    refine ⟨v, _, h3, h6, ?_⟩
    simp only [execOp, ho, hv, hi]
    rw [run_bind_ok (a := y) (w' := w)]
    · rfl
    · unfold Instr.index
      rw [run_bind_ok run_asIntOf]
      simp only []
      rw [run_bind_ok (run_underlying (und_ok hu))]
      simp only []
      rw [if_pos ⟨Int.natCast_nonneg i, Int.ofNat_lt.2 hlt⟩, run_bind_ok (run_sizeOf hq), hs]
      exact h5
  · cases h6
theorem bytesOf_size (n x : Nat) : (bytesOf n x).size = n := by
  show (bytesL n x).toArray.size = n
  simp [bytesL]
theorem bytesOf_get {n x i : Nat} (h : i < n) : (bytesOf n x)[i]? = some (UInt8.ofNat (lane 8 x i)) := by
  have hs : i < (bytesOf n x).size := by rw [bytesOf_size]; exact h
  rw [getElem?_pos (bytesOf n x) i hs]
  congr 1
  show (bytesL n x).toArray[i]'_ = _
  simp [bytesL]
theorem indexStr_op {t : Nat} {x ix : Operand} (ho : o.op = .index t x ix) (hu : und P t = some .string) :
    OCr P gl ds o ⟨fun _ e fr st k => (src P gl ds x).run e fr fun v => (src P gl ds ix).run e fr fun i => vN i fun i => match v with
          | .c (.str n x) => Bool.casesOn (Nat.blt i n) (.bad 121) (fz (lane 8 x i) fun c => k (.c (.u c)) st)
          | _ => .bad 121⟩ cl := by
  intro φ a w e fr st k hh hw h
  obtain ⟨v, h1, h2⟩ := src_ok (h : (src P gl ds x).run e fr _ = .ok)
  obtain ⟨vi, h4, h5⟩ := src_ok h1
  obtain ⟨i, h6, h7⟩ := vN_ok h4
  obtain ⟨j, hi⟩ := h7 φ _ (h5 φ a hh)
  split at h6
  · rename_i n y
    obtain ⟨_, hv⟩ := h2 φ a hh
    rcases bcase h6 with ⟨_, h8⟩ | ⟨hb, h8⟩
    · cases h8
    rw [fz_eq] at h8
    have hlt : i < n := blt_t hb
    refine ⟨_, .int .u8 (.ofNat (lane 8 y i)), h8, rfl, ?_⟩
    simp only [execOp, ho, hv, hi]
    rw [run_bind_ok (a := .int .u8 (.ofNat (lane 8 y i))) (w' := w)]
    · rfl
    · unfold Instr.index
      rw [run_bind_ok run_asIntOf]
      simp only []
      rw [run_bind_ok (run_underlying (und_ok hu))]
      simp only []
      have hge : (if 0 ≤ Int.ofNat i then (bytesOf n y)[(Int.ofNat i).toNat]? else none) = some (UInt8.ofNat (lane 8 y i)) := by
        rw [if_pos (show (0 : Int) ≤ Int.ofNat i from Int.natCast_nonneg i)]; exact bytesOf_get hlt
      have : (UInt8.ofNat (lane 8 y i)).toNat = lane 8 y i := by have := lane_lt 8 y i; simp; omega
      rw [hge]
      simp only [this]; rfl
  · cases h6
theorem envOf_ok (l : List El) : ∀ {k : Cell → R}, compOp.envOf l k = .ok → ∃ env, k env = .ok ∧ ∀ φ ys, Rel2 (relEl φ) l ys → relN φ env ys := by
  induction l with
  | nil => intro k h; exact ⟨.undef, h, fun φ ys hy => by cases hy; rfl⟩
  | cons x l ih =>
    intro k h
    cases x with
    | c c =>
      obtain ⟨env, h1, h2⟩ := ih (k := fun env => k (.cns c env)) h
      refine ⟨_, h1, fun φ ys hy => ?_⟩
      cases hy with
      | cons h3 h4 => exact ⟨_, _, rfl, h3, h2 φ _ h4⟩
    | a rp => cases h
theorem makeFunc_op {n : Nat} {fs cs : Array Operand} (ho : o.op = .makeFunc (.func n) fs cs) :
    OCr P gl ds o ⟨fun _ e fr st k => (srcs P gl ds (fs.toList ++ cs.toList)).run e fr fun a => compOp.envOf a fun env => k (.c (.fn (.func n) fs.size env)) st⟩ cl := by
  intro φ a w e fr st k hh hw h
  obtain ⟨vs, h1, h2⟩ := srcs_ok (h : (srcs P gl ds _).run e fr _ = .ok)
  obtain ⟨env, h3, h4⟩ := envOf_ok vs h1
  have := h4 φ _ (h2 φ a hh)
  refine ⟨_, .func (.func n) (fs.map a.eval) (cs.map a.eval), h3, ⟨_, _, rfl, by simp, ?_⟩, ?_⟩
  · simpa [relN] using this
  · simp only [execOp, ho]; rfl
end
end Ev
/-! Slices. -/
namespace Ev
open Go
set_option linter.unusedVariables false
variable {P : Program}

def relOV (φ : Emb) : Option RV → Option Value → Prop
  | none, none => True
  | some v, some y => relV φ v y
  | _, _ => False
theorem osrc_ok {gl ds : List Nat} {x : Option Operand} {e : Env} {fr : Fr} {k : Option RV → R} (h : (osrc P gl ds x).run e fr k = .ok) :
    ∃ v, k v = .ok ∧ (v.isSome = x.isSome) ∧ ∀ φ (a : Act), Here P φ gl ds e fr a.tmps → relOV φ v (x.map a.eval) := by
  cases x with
  | none => exact ⟨none, h, rfl, fun _ _ _ => trivial⟩
  | some x =>
    obtain ⟨v, h1, h2⟩ := src_ok (show (src P gl ds x).run e fr (fun v => k (some v)) = .ok from h)
    exact ⟨some v, h1, rfl, fun φ a hh => h2 φ a hh⟩
/-- a bound that is told, or not -/
def Bnd (d : Nat) (y : Option Value) (n : Nat) : Prop := (y = none ∧ n = d) ∨ ∃ j, y = some (.int j (.ofNat n))
theorem sliceB_ok {v : Option RV} {d : Nat} {k : Nat → R} (h : sliceB v d k = .ok) : ∃ n, k n = .ok ∧ ∀ φ y, relOV φ v y → Bnd d y n := by
  cases v with
  | none => exact ⟨d, h, fun φ y hy => .inl (by cases y <;> first | exact ⟨rfl, rfl⟩ | exact hy.elim)⟩
  | some v =>
    obtain ⟨n, h1, h2⟩ := vN_ok (show vN v k = .ok from h)
    refine ⟨n, h1, fun φ y hy => ?_⟩
    cases y with
    | none => exact hy.elim
    | some y => obtain ⟨j, e⟩ := h2 φ y hy; exact .inr ⟨j, by rw [e]⟩
theorem run_sliceBound {j : IntKind} {n y : Nat} {c : BoundsCode} {w : World} (h : n ≤ y) : (Instr.sliceBound (.int j (.ofNat n)) y c).run P w = .ok n w := by
  unfold Instr.sliceBound
  rw [run_bind_ok run_asIntOf]
  simp only []
  rw [if_pos ⟨Int.natCast_nonneg n, Int.ofNat_le.2 h⟩]; rfl
theorem run_sliceBounds {s : Bool} {len cap l h m : Nat} {lo hi mx : Option Value} {w : World} (hmx : Bnd cap mx m) (hhi : Bnd len hi h) (hlo : Bnd 0 lo l) (hn : mx.isSome = true → hi.isSome = true)
    (h1 : m ≤ cap) (h2 : h ≤ m) (h3 : l ≤ h) : (Instr.sliceBounds s len cap lo hi mx).run P w = .ok (l, h, m) w := by
  unfold Instr.sliceBounds
  rcases hmx with ⟨rfl, rfl⟩ | ⟨j, rfl⟩
  · simp only [run_pure_bind]
    rcases hhi with ⟨rfl, rfl⟩ | ⟨j, rfl⟩
    · simp only [run_pure_bind]
      rcases hlo with ⟨rfl, rfl⟩ | ⟨j, rfl⟩
      · rfl
      · simp only []
        rw [run_bind_ok (run_sliceBound h3)]; rfl
    · simp only []
      rw [run_bind_ok (run_sliceBound h2)]
      rcases hlo with ⟨rfl, rfl⟩ | ⟨j, rfl⟩
      · rfl
      · simp only []
        rw [run_bind_ok (run_sliceBound h3)]; rfl
  · simp only []
    rw [run_bind_ok (run_sliceBound h1)]
    rcases hhi with ⟨rfl, rfl⟩ | ⟨j, rfl⟩
    · simp at hn
    · simp only []
      rw [run_bind_ok (run_sliceBound h2)]
      rcases hlo with ⟨rfl, rfl⟩ | ⟨j, rfl⟩
      · rfl
      · simp only []
        rw [run_bind_ok (run_sliceBound h3)]; rfl
theorem cut3_ok {p : Pos} {off len cap esz l h m : Nat} {k : RV → R} (hk : cut3 p off len cap esz l h m k = .ok) :
    m ≤ cap ∧ h ≤ m ∧ l ≤ h ∧ k (.c (.sl p (if m = l then off else off + l * esz) (h - l) (m - l))) = .ok := by
  unfold cut3 at hk
  split at hk
  · rename_i hc
    rw [fz_eq, fz_eq, fz_eq] at hk
    exact ⟨hc.1, hc.2.1, hc.2.2, hk⟩
  · cases hk
theorem isSome_map {α β : Type} {x : Option α} {f : α → β} : (x.map f).isSome = x.isSome := by cases x <;> rfl
section
variable {r : Option Nat} {gl ds : List Nat} {o : Oper} {cl : Caller}
noncomputable abbrev sliceOC (P : Program) (gl ds : List Nat) (x : Operand) (lo hi mx : Option Operand) (isArr : Bool) (len esz : Nat) : OC :=
  ⟨fun _ e fr st k => (src P gl ds x).run e fr fun v => (osrc P gl ds lo).run e fr fun lo => (osrc P gl ds hi).run e fr fun hi => (osrc P gl ds mx).run e fr fun mx => slicing st isArr esz v len lo hi mx fun v => k v st⟩
theorem sliceA_op {t n el esz : Nat} {x : Operand} {lo hi mx : Option Operand} (ho : o.op = .slice t x lo hi mx) (hn : ¬ (mx.isSome && hi.isNone) = true) (hu : und P t = some (.array n el)) (hs : sizeO P el = some esz) :
    OCr P gl ds o (sliceOC P gl ds x lo hi mx true n esz) cl := by
  intro φ a w e fr st k hh hw h
  obtain ⟨v, ha, h2⟩ := src_ok (h : (src P gl ds x).run e fr _ = .ok)
  clear h
  obtain ⟨vlo, hb, _, hlo⟩ := osrc_ok ha
  clear ha
  obtain ⟨vhi, hc, _, hhi⟩ := osrc_ok hb
  clear hb
  obtain ⟨vmx, h1, _, hmx⟩ := osrc_ok hc
  clear hc
  have hn' : (mx.map a.eval).isSome = true → (hi.map a.eval).isSome = true := by
    rw [isSome_map, isSome_map]; intro hm; cases hi <;> simp_all
  unfold slicing at h1
  split at h1
  · rename_i p off hb
    obtain ⟨m, h1, bm⟩ := sliceB_ok h1
    obtain ⟨hh', h1, bh⟩ := sliceB_ok h1
    obtain ⟨l, h1, bl⟩ := sliceB_ok h1
    obtain ⟨c1, c2, c3, h1⟩ := cut3_ok h1
    obtain ⟨lc, hlc, hv⟩ := h2 φ a hh
    obtain ⟨ty, q1, q2⟩ := sizeO_ok hs
    refine ⟨.c (.sl p (if m = l then off else off + l * esz) (hh' - l) (m - l)), .slice (some ⟨lc.b, lc.base + (if m = l then off else off + l * esz), none⟩) (hh' - l) (m - l), h1, ⟨lc, hlc, rfl⟩, ?_⟩
    simp only [execOp, ho, hv]
    rw [run_bind_ok (a := .slice (some ⟨lc.b, lc.base + (if m = l then off else off + l * esz), none⟩) (hh' - l) (m - l)) (w' := w)]
    · rfl
    · unfold Instr.sliceAt
      rw [run_bind_ok (run_underlying (und_ok hu))]
      simp only [Instr.sureAddr]
      rw [run_pure_bind, run_bind_ok (run_sliceBounds (bm φ _ (hmx φ a hh)) (bh φ _ (hhi φ a hh)) (bl φ _ (hlo φ a hh)) hn' c1 c2 c3)]
      simp only []
      rw [run_bind_ok (run_sizeOf q1), q2, add_eq]
      by_cases e : m = l
      · simp only [if_pos e]; rfl
      · simp only [if_neg e, Nat.add_assoc]; rfl
  all_goals first | contradiction | cases h1
theorem sliceS_op {t el esz : Nat} {x : Operand} {lo hi mx : Option Operand} (ho : o.op = .slice t x lo hi mx) (hn : ¬ (mx.isSome && hi.isNone) = true) (hu : und P t = some (.slice el)) (hs : sizeO P el = some esz) :
    OCr P gl ds o (sliceOC P gl ds x lo hi mx false 0 esz) cl := by
  intro φ a w e fr st k hh hw h
  obtain ⟨v, ha, h2⟩ := src_ok (h : (src P gl ds x).run e fr _ = .ok)
  clear h
  obtain ⟨vlo, hb, hlos, hlo⟩ := osrc_ok ha
  clear ha
  obtain ⟨vhi, hc, hhis, hhi⟩ := osrc_ok hb
  clear hb
  obtain ⟨vmx, h1, hmxs, hmx⟩ := osrc_ok hc
  clear hc
  have hn' : (mx.map a.eval).isSome = true → (hi.map a.eval).isSome = true := by
    rw [isSome_map, isSome_map]; intro hm; cases hi <;> simp_all
  obtain ⟨ty, q1, q2⟩ := sizeO_ok hs
  have hu' := und_ok hu
  have key : ∀ (ad : Option Addr) (len cap l h m : Nat), a.eval x = .slice ad len cap → Bnd cap (mx.map a.eval) m → Bnd len (hi.map a.eval) h → Bnd 0 (lo.map a.eval) l → m ≤ cap → h ≤ m → l ≤ h →
      (execOp a.eval o).run P w = .ok (.value (.slice (if m = l then ad else ad.map (·.add (l * esz))) (h - l) (m - l))) w := by
    intro ad len cap l h m hv bm bh bl c1 c2 c3
    simp only [execOp, ho, hv]
    rw [run_bind_ok (a := .slice (if m = l then ad else ad.map (·.add (l * esz))) (h - l) (m - l)) (w' := w)]
    · rfl
    · unfold Instr.sliceAt
      rw [run_bind_ok (run_underlying hu')]
      unfold Instr.slice
      simp only []
      rw [run_bind_ok (run_underlying hu')]
      simp only []
      rw [run_bind_ok (run_sliceBounds bm bh bl hn' c1 c2 c3)]
      simp only []
      rw [run_bind_ok (run_sizeOf q1), q2]; rfl
  have hx := h2 φ a hh
  unfold slicing at h1
  split at h1
  · contradiction
  · rename_i p off len cap _
    obtain ⟨m, h1, bm⟩ := sliceB_ok h1
    obtain ⟨hh', h1, bh⟩ := sliceB_ok h1
    obtain ⟨l, h1, bl⟩ := sliceB_ok h1
    obtain ⟨c1, c2, c3, h1⟩ := cut3_ok h1
    obtain ⟨lc, hlc, hv⟩ := hx
    have := key _ _ _ l hh' m hv (bm φ _ (hmx φ a hh)) (bh φ _ (hhi φ a hh)) (bl φ _ (hlo φ a hh)) c1 c2 c3
    refine ⟨_, _, h1, ?_, this⟩
    refine ⟨lc, hlc, ?_⟩
    by_cases e : m = l
    · simp only [if_pos e]
    · simp only [if_neg e, Option.map_some, add_eq, Nat.add_assoc]
  · rename_i p off len e' _
    obtain ⟨lc, c, o', hlc, hv, e1, e2, e3⟩ := hx
    split at h1
    · rename_i mxv
      obtain ⟨m, h1, bm⟩ := sliceB_ok h1
      obtain ⟨hh', h1, bh⟩ := sliceB_ok h1
      obtain ⟨l, h1, bl⟩ := sliceB_ok h1
      split at h1
      · rename_i hc
        obtain ⟨c1, c2, c3, h1⟩ := cut3_ok h1
        have bm' : Bnd c (mx.map a.eval) m := by
          rcases bm φ _ (hmx φ a hh) with ⟨e, _⟩ | h
          · exfalso; have : mx.isSome = true := by rw [← hmxs]; rfl
            rw [← isSome_map (f := a.eval), e] at this; cases this
          · exact .inr h
        have := key _ _ _ l hh' m hv bm' (bh φ _ (hhi φ a hh)) (bl φ _ (hlo φ a hh)) (Nat.le_trans c1 e2) c2 c3
        refine ⟨_, _, h1, ?_, this⟩
        have hc0 : c ≠ 0 := by omega
        have e3 := e3.resolve_left hc0
        subst e3
        refine ⟨lc, hlc, ?_⟩
        by_cases e : m = l
        · simp only [if_pos e]
        · simp only [if_neg e, Option.map_some, add_eq, Nat.add_assoc]
      · cases h1
    · obtain ⟨hh', h1, bh⟩ := sliceB_ok h1
      obtain ⟨l, h1, bl⟩ := sliceB_ok h1
      have bm' : Bnd c (mx.map a.eval) c := by
        left
        refine ⟨?_, rfl⟩
        cases mx with
        | none => rfl
        | some y => simp at hmxs
      split at h1
      · rename_i hc
        obtain ⟨he, hlh⟩ := hc
        have fin : hh' ≤ c → k (.c (.slu p (off + l * esz) (hh' - l) e')) st = .ok → ∃ v cv, k v st = .ok ∧ relV φ v cv ∧ (execOp a.eval o).run P w = .ok (.value cv) w := by
          intro hle h1
          have := key _ _ _ l hh' c hv bm' (bh φ _ (hhi φ a hh)) (bl φ _ (hlo φ a hh)) (Nat.le_refl _) hle hlh
          by_cases e : c = l
          · refine ⟨_, _, h1, ?_, this⟩
            refine ⟨lc, c - l, o', hlc, by rw [if_pos e], ?_, by omega, .inl (by omega)⟩
            rw [← e1, he, e]; simp
          · refine ⟨_, _, h1, ?_, this⟩
            have e3 := e3.resolve_left (by omega)
            refine ⟨lc, c - l, lc.base + off + l * esz, hlc, by rw [if_neg e, e3]; simp only [Option.map_some, add_eq], ?_, by omega, .inr (by omega)⟩
            rw [← e1, he, Nat.add_assoc, ← Nat.add_mul]; congr 2; omega
        split at h1
        · rename_i hle
          rw [fz_eq, fz_eq] at h1
          exact fin (by omega) h1
        · unfold rowOf at h1
          obtain ⟨b, hb, h1⟩ := gGet_ok h1
          obtain ⟨rp, ex, ro, t', rfl, h1⟩ := bCells_ok h1
          have h1 : rp.sz (fun kn => if 0 < esz ∧ off + hh' * esz ≤ kn then fz (off + l * esz) fun o => fz (hh' - l) fun n => k (.c (.slu p o n e')) st else .bad 26) = .ok := h1
          rw [Rope.sz_eq] at h1
          split at h1
          · rename_i hk
            rw [fz_eq, fz_eq] at h1
            obtain ⟨l', cs, _, fz, g1, g2, g3, _⟩ := row_cell hw hb
            rw [hlc] at g1; cases g1
            have hle : hh' ≤ c := by
              have h3 : rp.size ≤ lc.tot := g3.2.2.1
              have h4 : hh' * esz ≤ c * esz := by rw [he] at e1; omega
              exact Nat.le_of_mul_le_mul_right h4 hk.1
            exact fin hle h1
          · cases h1
      · cases h1
  · obtain ⟨m, ha, bm⟩ := sliceB_ok h1
    obtain ⟨hh', hb, bh⟩ := sliceB_ok ha
    obtain ⟨l, hd, bl⟩ := sliceB_ok hb
    clear h1 ha hb
    split at hd
    · rename_i hc
      obtain ⟨rfl, rfl, rfl⟩ := hc
      have hv : a.eval x = .slice none 0 0 := hx
      have := key _ _ _ 0 0 0 hv (bm φ _ (hmx φ a hh)) (bh φ _ (hhi φ a hh)) (bl φ _ (hlo φ a hh)) (Nat.le_refl _) (Nat.le_refl _) (Nat.le_refl _)
      exact ⟨.c (.nil .s), .slice none 0 0, hd, rfl, this⟩
    · cases hd
  · cases h1
theorem extract_bytes {n x l h : Nat} (hlh : l ≤ h) (hn : h ≤ n) : (bytesOf n x).extract l h = bytesOf (h - l) (lanes 8 x l (h - l)) := by
  apply ByteArray.ext
  rw [ByteArray.data_extract]
  show (bytesL n x).toArray.extract l h = (bytesL (h - l) (lanes 8 x l (h - l))).toArray
  apply Array.ext'
  rw [Array.toList_extract]
  simp only [List.extract_eq_take_drop]
  apply List.ext_getElem?
  intro i
  by_cases hi : i < h - l
  · rw [List.getElem?_take_of_lt hi, List.getElem?_drop]
    simp [bytesL, show l + i < n by omega, hi, lane_lanes 8 x l (h - l) i hi]
  · rw [List.getElem?_take, if_neg hi, List.getElem?_eq_none (by simp [bytesL]; omega)]
theorem sliceStr_op {t : Nat} {x : Operand} {lo hi mx : Option Operand} (ho : o.op = .slice t x lo hi mx) (hn : ¬ mx.isSome = true) (hu : und P t = some .string) :
    OCr P gl ds o ⟨fun _ e fr st k => (src P gl ds x).run e fr fun v => (osrc P gl ds lo).run e fr fun lo => (osrc P gl ds hi).run e fr fun hi => match v with | .c (.str n x) => strSlice n x lo hi fun v => k v st | _ => .bad 93⟩ cl := by
  intro φ a w e fr st k hh hw h
  obtain ⟨v, ha, h2⟩ := src_ok (h : (src P gl ds x).run e fr _ = .ok)
  obtain ⟨vlo, hb, hlos, hlo⟩ := osrc_ok ha
  obtain ⟨vhi, h1, hhis, hhi⟩ := osrc_ok hb
  clear h ha hb
  have hm : mx = none := by cases mx <;> simp_all
  subst hm
  split at h1
  · rename_i n y
    obtain ⟨hy, hv⟩ := h2 φ a hh
    unfold strSlice at h1
    obtain ⟨h', h1, bh⟩ := sliceB_ok h1
    obtain ⟨l, h1, bl⟩ := sliceB_ok h1
    split at h1
    · rename_i hc
      rw [fz_eq, fz_eq] at h1
      refine ⟨_, .string (bytesOf (h' - l) (lanes 8 y l (h' - l))), h1, ⟨lanes_lt _ _ _ _, rfl⟩, ?_⟩
      simp only [execOp, ho, hv]
      rw [run_bind_ok (a := .string (bytesOf (h' - l) (lanes 8 y l (h' - l)))) (w' := w)]
      · rfl
      · unfold Instr.sliceAt
        rw [run_bind_ok (run_underlying (und_ok hu))]
        unfold Instr.slice
        simp only []
        rw [run_bind_ok (run_underlying (und_ok hu))]
        simp only [Option.map_none, Option.isSome_none]
        rw [if_neg (by simp)]
        have hb : (Instr.sliceBounds false (bytesOf n y).size (bytesOf n y).size (lo.map a.eval) (hi.map a.eval) none).run P w = .ok (l, h', n) w := by
          rw [bytesOf_size]
          exact run_sliceBounds (.inl ⟨rfl, rfl⟩) (bh φ _ (hhi φ a hh)) (bl φ _ (hlo φ a hh)) (by simp) (Nat.le_refl _) hc.2 hc.1
        show Sem.run P (Instr.sliceBounds false (bytesOf n y).size (bytesOf n y).size (lo.map a.eval) (hi.map a.eval) none >>= _) w = _
        rw [run_bind_ok hb]
        simp only []
        rw [extract_bytes hc.1 hc.2]; rfl
    · cases h1
  · cases h1
end
end Ev
/-! append, copy, len, cap, min, max, clear. -/
namespace Ev
open Go
set_option linter.unusedVariables false
variable {P : Program}

theorem call_builtin {ρ : Operand → Value} {o : Oper} {c : Call} {b : Builtin} (ho : o.op = .call c) (hc : c.callee = .builtin b) :
    execOp ρ o = builtin b c.argTypes o.type (c.args.map fun | .const _ => true | _ => false) (c.args.map ρ) := by
  simp only [execOp, ho, resolve, hc]
  rfl
theorem args_eq {ρ : Operand → Value} {c : Call} {l : List Value} (h : c.args.toList.map ρ = l) : c.args.map ρ = l.toArray := by
  apply Array.ext'; simp [h]
theorem head_eq (l : Array Nat) : l.toList.head? = l[0]? := by
  rw [← Array.getElem?_toList]; cases l.toList <;> rfl
theorem bind_und {x : Option Nat} {d : TypeDesc} (h : x.bind (und P) = some d) : ∃ t, x = some t ∧ P.underlying t = some d := by
  cases x with
  | none => cases h
  | some t => exact ⟨t, rfl, und_ok h⟩
/-! ### the cells of a slice or string -/
theorem bytes_cells {φ : Emb} {n x : Nat} (hx : x < 2 ^ (8 * n)) : Rel2 (relC φ) (Rope.p .u8 n x).toL ((bytesOf n x).data.map fun b => Value.int .u8 b.toNat).toList := by
  show Rel2 (relC φ) ((List.range n).map fun i => PK.u8.dec (lane 8 x i)) (Array.map (fun b => Value.int .u8 b.toNat) (bytesL n x).toArray).toList
  simp only [bytesL, List.map_toArray]
  rw [List.map_map]
  generalize List.range n = l
  induction l with
  | nil => exact .nil
  | cons i l ih =>
    refine .cons ?_ ih
    show Value.int .u8 _ = .int .u8 (.ofNat (lane 8 x i))
    have := lane_lt 8 x i
    simp; omega
/-- what append adds -/
theorem addedR_ok {φ : Emb} {st : St} {w : World} (hw : relW (Sl P) (Nt P) φ st w) {esz : Nat} {x : El} {y : Value} (hy : relEl φ x y) {k : Nat → Rope → R} (h : addedR esz st x k = .ok) :
    ∃ n new vs, k n new = .ok ∧ relRope φ new vs ∧ new.size = n * esz ∧ (Builtin.lenOf y).run P w = .ok n w ∧ ∀ m, m ≤ n → ∀ w' : World, w'.heap = w.heap → (Builtin.firstCells esz m y).run P w' = .ok (vs.take (m * esz)).toArray w' := by
  have row : ∀ p off len, (rowOf st p fun r _ _ _ => r.ext off (len * esz) fun r => k len r) = .ok → ∀ l c, φ p = some l → y = .slice (some ⟨l.b, l.base + off, none⟩) len c →
      ∃ n new vs, k n new = .ok ∧ relRope φ new vs ∧ new.size = n * esz ∧ (Builtin.lenOf y).run P w = .ok n w ∧ ∀ m, m ≤ n → ∀ w' : World, w'.heap = w.heap → (Builtin.firstCells esz m y).run P w' = .ok (vs.take (m * esz)).toArray w' := by
    intro p off len h l c hl hv
    have hA : loadA (len * esz) st p off (fun v => match v with | .a r => k len r | _ => .bad 0) = .ok := h
    obtain ⟨b, hb, h⟩ := gGet_ok h
    obtain ⟨rr, ex, ro, t, rfl, h⟩ := bCells_ok h
    obtain ⟨r', w1, w2, w3, w4, h⟩ := Rope.ext_ok (row_wf hw hb) h
    obtain ⟨l', cs, _, fz, h1, h2, h3, h4⟩ := row_cell hw hb
    rw [hl] at h1; cases h1
    obtain ⟨_, a2, a3, a4, a5, a6⟩ := h3
    have rel : Rel2 (relC φ) r'.toL ((((cs.toList.drop l.base).take rr.size).drop off).take (len * esz)) := by rw [w4]; exact (a5.2.drop off).take _
    have hlen := rel.length
    rw [r'.length_toL w1, w2] at hlen
    refine ⟨len, r', _, h, ⟨w1, rel⟩, w2, by rw [hv]; rfl, fun m hm w' hw' => ?_⟩
    rw [hv]
    show (loadCells ⟨l.b, l.base + off, none⟩ (m * esz)).run P w' = _
    have hmul : m * esz ≤ len * esz := Nat.mul_le_mul_right _ hm
    refine run_loadCells (by rw [List.length_take, ← hlen]; omega) fun j v hv => ?_
    have hj : j < m * esz := by have := (List.getElem?_eq_some_iff.1 hv).1; rw [List.length_take] at this; omega
    rw [List.getElem?_take_of_lt hj, List.getElem?_take_of_lt (by omega), List.getElem?_drop, List.getElem?_take_of_lt (by omega), List.getElem?_drop] at hv
    have hv : cs[l.base + (off + j)]? = some v := by simpa using hv
    show w'.cell? ⟨l.b, l.base + off + j, none⟩ = some v
    rw [Nat.add_assoc]
    simp [World.cell?, hw', h2, hv]
  unfold addedR at h
  split at h
  · have hy : y = .slice none 0 0 := hy
    subst hy
    exact ⟨0, .nil, [], h, ⟨(by simp [Rope.wf]), .nil⟩, by simp [Rope.size], rfl, fun m hm w' hw' => by simp [Builtin.firstCells]; try rfl⟩
  · obtain ⟨l, hl, hv⟩ := hy
    exact row _ _ _ h l _ hl hv
  · rename_i p off len e
    obtain ⟨l, c, o', hl, hv, e1, e2, e3⟩ := hy
    split at h
    · rename_i h0
      subst h0
      subst hv
      refine ⟨0, .nil, [], h, ⟨(by simp [Rope.wf]), .nil⟩, by simp [Rope.size], rfl, fun m hm w' hw' => ?_⟩
      obtain rfl : m = 0 := by omega
      show (loadCells _ (0 * esz)).run P w' = _
      rw [Nat.zero_mul]; rfl
    · rename_i h0
      exact row _ _ _ h l c hl (by rw [hv, e3.resolve_left (by omega)])
  · rename_i n x
    split at h
    · rename_i h1
      subst h1
      obtain ⟨hx, rfl⟩ := hy
      have hsz := bytesOf_size n x
      refine ⟨n, .p .u8 n x, _, h, ⟨hx, bytes_cells hx⟩, by simp [Rope.size], by show Result.ok (bytesOf n x).size w = _; rw [hsz], fun m hm w' hw' => ?_⟩
      show Result.ok (((bytesOf n x).extract 0 m).data.map fun b => Value.int .u8 b.toNat) w' = _
      rw [ByteArray.data_extract, Nat.mul_one]
      congr 1
      apply Array.ext'
      simp
    · cases h
  · cases h

/-- what is added: zeros, or the cells of a slice or string -/
def Added (P : Program) (elem esz bytes n : Nat) (zeros : Bool) (x : Value) (vs : List Value) (w : World) : Prop :=
  (zeros = true ∧ (∃ j, x = .int j (.ofNat n)) ∧ n * bytes ≤ 1000000000 ∧ n ≤ 1000000000 ∧ ∃ z, (∃ i, P.info? elem = some i ∧ i.zero = some z) ∧ vs.toArray = Builtin.zeroCells z.cells n ∧ (n * esz = 0 → vs = [])) ∨
  (zeros = false ∧ (Builtin.lenOf x).run P w = .ok n w ∧ ∀ w' : World, w'.heap = w.heap → (Builtin.firstCells esz n x).run P w' = .ok vs.toArray w')
/-- the types of an append -/
structure AppT (P : Program) (tys : Array Nat) (elem : Nat) (zeros : Bool) : Prop where
  s : ∃ t, tys[0]? = some t ∧ P.underlying t = some (.slice elem)
  x : ∃ t d, tys[1]? = some t ∧ P.underlying t = some d ∧ zeros = (d matches .int _)
theorem run_app_in {tys : Array Nat} {ty elem n sLen sCap : Nat} {zeros : Bool} {i : TypeInfo} {base : Option Addr} {x : Value} {vs : List Value} {w w' : World}
    (hT : AppT P tys elem zeros) (hi : P.info? elem = some i) (hx : Added P elem i.size i.bytes n zeros x vs w) (hc : sLen + n ≤ sCap)
    (hst : (match base with | some a => (storeCells (a.add (sLen * i.size)) vs 0).run P w | none => .ok () w) = .ok () w') :
    (Builtin.append_ tys ty #[.slice base sLen sCap, x]).run P w = .ok (.slice base (sLen + n) sCap) w' := by
  obtain ⟨⟨t0, h1, h2⟩, t1, d, h3, h4, h5⟩ := hT
  unfold Builtin.append_
  simp only [h1, List.getElem?_toArray, List.getElem?_cons_zero, List.getElem?_cons_succ]
  rw [run_bind_ok (run_underlying h2)]
  simp only []
  rw [run_bind_ok (run_sizeOf hi), h3]
  simp only []
  rw [run_bind_ok (run_underlying h4), run_pure_bind]
  have fin : ∀ app : Sem (Array Value), app.run P w = .ok vs.toArray w → Sem.run P (app >>= fun new => match base with
      | some a => do storeCells (a.add (sLen * i.size)) new.toList; pure (Value.slice base (sLen + n) sCap)
      | x => pure (Value.slice base (sLen + n) sCap)) w = .ok (.slice base (sLen + n) sCap) w' := by
    intro app ha
    rw [run_bind_ok ha]
    cases base with
    | none => cases hst; rfl
    | some a => simp only [] at hst ⊢; rw [run_bind_ok hst]; rfl
  have hn := fun (ht : zeros = true) => hx.resolve_right fun h => by rw [ht] at h; cases h.1
  have hf := fun (ht : zeros = false) => hx.resolve_left fun h => by rw [ht] at h; cases h.1
  cases d with
  | int kk =>
    obtain ⟨_, ⟨j, rfl⟩, b1, b2, z, ⟨i', hi', hz'⟩, hv, h0⟩ := hn h5
    simp only [if_true]
    rw [run_bind_ok (a := Int.ofNat n) (w' := w) rfl]
    simp only [wrap_small b2]
    rw [if_neg (by simp), run_bind_ok (run_typeInfo hi), if_neg (by have : ((n * i.bytes : Nat) : Int) = Int.ofNat n * (i.bytes : Int) := by push_cast; rfl
                                                                    omega)]
    rw [run_pure_bind, if_pos (show sLen + (Int.ofNat n).toNat ≤ sCap from hc)]
    refine fin _ ?_
    simp only [Bool.not_true, Bool.false_eq_true, if_false]
    by_cases hzz : n * i.size = 0
    · rw [if_pos (show (Int.ofNat n).toNat * i.size = 0 from hzz), h0 hzz]; rfl
    · rw [if_neg (show ¬ (Int.ofNat n).toNat * i.size = 0 from hzz), run_bind_ok (run_zeroValue hi' hz'), hv]; rfl
  | _ =>
    obtain ⟨_, b1, b2⟩ := hf h5
    simp only [Bool.false_eq_true, if_false]
    rw [run_bind_ok b1]
    simp only [if_pos hc]
    refine fin _ ?_
    simp only [Bool.not_false, if_true]
    exact b2 w rfl
theorem nextslicecap_le (n c : Nat) (h : c < n) : Builtin.nextslicecap n c ≤ 2 * n + 200 := by
  unfold Builtin.nextslicecap
  split
  · omega
  · split
    · omega
    · have grow : ∀ r c, c < n → Builtin.growBy n r c ≤ 2 * n + 200 := by
        intro r
        induction r with
        | zero => intro c hc; simp [Builtin.growBy]; omega
        | succ r ih =>
          intro c hc
          unfold Builtin.growBy
          split
          · omega
          · by_cases hlt : c + (c + 768) / 4 < n
            · exact ih _ hlt
            · cases r with
              | zero => simp [Builtin.growBy]; omega
              | succ r => unfold Builtin.growBy; rw [if_pos (by omega)]; omega
      exact grow 4 c h
theorem run_app_out {tys : Array Nat} {ty elem n sLen sCap : Nat} {zeros : Bool} {i : TypeInfo} {z : Value} {base : Option Addr} {x : Value} {vs old : List Value} {w : World}
    (hT : AppT P tys elem zeros) (hi : P.info? elem = some i) (hz : i.zero = some z) (hx : Added P elem i.size i.bytes n zeros x vs w) (hc : ¬ sLen + n ≤ sCap) (hb : (sLen + n) * i.bytes ≤ 1000000000) (hb2 : sLen + n ≤ 1000000000)
    (hold : ∀ w' : World, w'.heap = w.heap → (Builtin.firstCells i.size sLen (.slice base sLen sCap)).run P w' = .ok old.toArray w') :
    ∃ cap, sLen + n ≤ cap ∧ (Builtin.append_ tys ty #[.slice base sLen sCap, x]).run P w =
      .ok (.slice (some ⟨w.heap.size, 0, none⟩) (sLen + n) cap) { w with drawn := w.drawn + 1, heap := w.heap.push (.cells (old.toArray ++ vs.toArray ++ Builtin.zeroCells z.cells (cap - (sLen + n))) elem) } := by
  obtain ⟨⟨t0, h1, h2⟩, t1, d, h3, h4, h5⟩ := hT
  refine ⟨Question.cut (.appendCap (sLen + n) sCap elem) (w.tape w.drawn (.appendCap (sLen + n) sCap elem)), by simp [Question.cut], ?_⟩
  generalize hcap : Question.cut (.appendCap (sLen + n) sCap elem) (w.tape w.drawn (.appendCap (sLen + n) sCap elem)) = cap
  unfold Builtin.append_
  simp only [h1, List.getElem?_toArray, List.getElem?_cons_zero, List.getElem?_cons_succ]
  rw [run_bind_ok (run_underlying h2)]
  simp only []
  rw [run_bind_ok (run_sizeOf hi), h3]
  simp only []
  have hnext : ¬ Builtin.nextslicecap (sLen + n) sCap * i.bytes > 2 ^ 48 := by
    have h1 := Nat.mul_le_mul_right i.bytes (nextslicecap_le (sLen + n) sCap (by omega))
    have h2 : (2 * (sLen + n) + 200) * i.bytes = 2 * ((sLen + n) * i.bytes) + 200 * i.bytes := by rw [Nat.add_mul, Nat.mul_assoc]
    have h3 : 1 * i.bytes ≤ (sLen + n) * i.bytes := Nat.mul_le_mul_right _ (by omega)
    omega
  have hmax : ¬ ((sLen + n : Nat) : Int) > IntKind.i64.max := by
    show ¬ ((sLen + n : Nat) : Int) > 9223372036854775807
    omega
  rw [run_bind_ok (run_underlying h4), run_pure_bind]
  have fin : ∀ app : Sem (Array Value), app.run P { w with drawn := w.drawn + 1 } = .ok vs.toArray { w with drawn := w.drawn + 1 } → Sem.run P (do
        let newCap ← choose (Question.appendCap (sLen + n) sCap elem)
        let ti ← typeInfo elem
        askRoom (newCap * ti.bytes)
        let old ← Builtin.firstCells i.size sLen (Value.slice base sLen sCap)
        let new ← app
        let zv ← zeroValue elem
        let a ← newRow elem (old ++ new ++ Builtin.zeroCells zv.cells (newCap - (sLen + n)))
        pure (Value.slice (some a) (sLen + n) newCap)) w = .ok (.slice (some ⟨w.heap.size, 0, none⟩) (sLen + n) cap) { w with drawn := w.drawn + 1, heap := w.heap.push (.cells (old.toArray ++ vs.toArray ++ Builtin.zeroCells z.cells (cap - (sLen + n))) elem) } := by
    intro app ha
    rw [run_bind_ok (a := cap) (w' := { w with drawn := w.drawn + 1 }) (by rw [← hcap]; rfl), run_bind_ok (run_typeInfo hi), run_bind_ok (w' := { w with drawn := w.drawn + 1 }) (by unfold askRoom; split <;> rfl), run_bind_ok (hold { w with drawn := w.drawn + 1 } rfl), run_bind_ok ha, run_bind_ok (run_zeroValue hi hz)]
    rfl
  have hn := fun (ht : zeros = true) => hx.resolve_right fun h => by rw [ht] at h; cases h.1
  have hf := fun (ht : zeros = false) => hx.resolve_left fun h => by rw [ht] at h; cases h.1
  cases d with
  | int kk =>
    obtain ⟨_, ⟨j, rfl⟩, b1, b2, z', ⟨i', hi', hz'⟩, hv, h0⟩ := hn h5
    simp only [if_true]
    rw [run_bind_ok (a := Int.ofNat n) (w' := w) rfl]
    simp only [wrap_small b2]
    rw [if_neg (by simp), run_bind_ok (run_typeInfo hi), if_neg (by have : ((n * i.bytes : Nat) : Int) = Int.ofNat n * (i.bytes : Int) := by push_cast; rfl
                                                                    omega)]
    rw [run_pure_bind, if_neg (show ¬ sLen + (Int.ofNat n).toNat ≤ sCap from hc), run_bind_ok (run_typeInfo hi), if_neg (show ¬ (((sLen + (Int.ofNat n).toNat : Nat) : Int) > IntKind.i64.max ∧ _) from fun h => hmax h.1),
      run_bind_ok (run_typeInfo hi), if_neg (show ¬ Builtin.nextslicecap (sLen + (Int.ofNat n).toNat) sCap * i.bytes > 2 ^ 48 from hnext)]
    refine fin _ ?_
    simp only [Bool.not_true, Bool.false_eq_true, if_false]
    by_cases hzz : n * i.size = 0
    · rw [if_pos (show (Int.ofNat n).toNat * i.size = 0 from hzz), h0 hzz]; rfl
    · rw [if_neg (show ¬ (Int.ofNat n).toNat * i.size = 0 from hzz), run_bind_ok (run_zeroValue hi' hz'), hv]; rfl
  | _ =>
    obtain ⟨_, b1, b2⟩ := hf h5
    simp only [Bool.false_eq_true, if_false]
    rw [run_bind_ok b1, if_neg hc, run_bind_ok (run_typeInfo hi), if_neg (fun h => hmax h.1), run_bind_ok (run_typeInfo hi), if_neg hnext]
    refine fin _ ?_
    simp only [Bool.not_false, if_true]
    exact b2 _ rfl

/-- a row that grows: its old name goes, a new one stands for it, or for a new row -/
theorem Ext.moved {slots : Nat → List Nat} {nts : Nat → Nat} {φ : Emb} {st st' : St} {w w' : World} (h : relW slots nts φ st w) {p : Pos} {b b' : Blk} {o' : Obj} {l l' : Loc}
    (hp : st.heap.at p = some b) (hl : φ p = some l) (hro : b.isRo = false) (hlb : l'.b = l.b)
    (h1 : st'.heap.at p = none) (h2 : st'.heap.at st.next = some b') (h3 : ∀ r, r ≠ p → r ≠ st.next → st'.heap.at r = st.heap.at r)
    (hn : st'.next.num = st.next.num + 1) (ho : st'.old = st.old) (hw : w'.heap = w.heap.setIfInBounds l.b o') (hw2 : w'.tape = w.tape ∧ w'.os = w.os ∧ w'.output = w.output)
    (hb : relBlk slots nts (φ.put st.next l') b' o' l') : Ext slots nts φ st w (φ.put st.next l') st' w' := by
  have hle : φ.le (φ.put st.next l') := Emb.put_le (next_free h)
  have hbl := h.old _ _ hl
  have hpn : p ≠ st.next := fun e => by subst e; rw [next_free h] at hl; cases hl
  have hat : ∀ q x, st'.heap.at q = some x → q ≠ st.next → q ≠ p ∧ st.heap.at q = some x := by
    intro q x hx hq
    by_cases e : q = p
    · subst e; rw [h1] at hx; cases hx
    · rw [h3 q e hq] at hx; exact ⟨e, hx⟩
  have hlk : ∀ q x, st'.look q = some x → q ≠ st.next → q ≠ p ∧ st.look q = some x := by
    intro q x hx hq
    unfold St.look lookL at hx
    by_cases e : q = p
    · subst e; rw [h1, ho] at hx; simp only [] at hx; rw [h.sep _ _ hp] at hx; cases hx
    · rw [h3 q e hq, ho] at hx; exact ⟨e, hx⟩
  refine ⟨hle, ⟨?_, ?_, ?_, ?_, ?_⟩, by simp [hw], ?_, ?_, ?_, by omega, hw2.1, hw2.2.1, hw2.2.2, ho⟩
  · intro q x hx
    by_cases e : q = st.next
    · subst e
      rw [look_own h2] at hx; cases hx
      exact ⟨l', o', Emb.put_same _ _ _, by rw [hw, hlb]; simp [hbl], hb⟩
    · obtain ⟨e1, hx⟩ := hlk q x hx e
      obtain ⟨m, ob, g1, g2, g3⟩ := h.blk q x hx
      refine ⟨m, ob, hle _ _ g1, ?_, relBlk_mono hle g3⟩
      have hne := h.apart p q b x l m hp hx hl g1 (Ne.symm e1) hro
      rw [hw, Array.getElem?_setIfInBounds_ne hne]; exact g2
  · intro q r x y m n hx hy hm hn' hqr hr
    rcases emb_put_cases hm with ⟨e1, rfl⟩ | ⟨e1, e2⟩ <;> rcases emb_put_cases hn' with ⟨e3, rfl⟩ | ⟨e3, e4⟩
    · exact absurd (e1.trans e3.symm) hqr
    · obtain ⟨e5, hy⟩ := hlk r y hy e3
      rw [hlb]; exact h.apart p r b y l n hp hy hl e4 (Ne.symm e5) hro
    · obtain ⟨e5, hx⟩ := hat q x hx e1
      rw [hlb]; exact (h.apart p q b x l m hp (look_own hx) hl e2 (Ne.symm e5) hro).symm
    · exact h.apart q r x y m n (hat q x hx e1).2 (hlk r y hy e3).2 e2 e4 hqr hr
  · intro q m hm
    rcases emb_put_cases hm with ⟨_, rfl⟩ | ⟨_, e2⟩
    · rw [hw, hlb]; simpa using hbl
    · have := h.old _ _ e2; rw [hw]; simpa using this
  · intro q m hm
    rcases emb_put_cases hm with ⟨rfl, _⟩ | ⟨_, e2⟩
    · omega
    · have := h.free _ _ e2; omega
  · intro q x hx
    rw [ho]
    by_cases e : q = st.next
    · subst e; exact next_old h
    · exact h.sep q x (hat q x hx e).2
  · rintro x hx ⟨q, blk, m, g1, g2, g3, g4⟩
    rcases emb_put_cases g3 with ⟨rfl, rfl⟩ | ⟨e1, e2⟩
    · exact ⟨p, b, l, hp, hro, hl, by rw [← hlb]; exact g4⟩
    · exact ⟨q, blk, m, (hat q blk g1 e1).2, g2, e2, g4⟩
  · intro x hx hno
    have : l.b ≠ x := fun e => hno ⟨p, b, l, hp, hro, hl, e⟩
    rw [hw, Array.getElem?_setIfInBounds_ne this]
  · intro q m g1 g2
    rcases emb_put_cases g1 with ⟨rfl, rfl⟩ | ⟨_, e2⟩
    · exact ⟨Nat.le_refl _, .inr ⟨p, b, l, hp, hro, hl, hlb.symm⟩⟩
    · rw [e2] at g2; cases g2
/-- a name goes -/
theorem Ext.drop {slots : Nat → List Nat} {nts : Nat → Nat} {φ : Emb} {st st' : St} {w : World} (h : relW slots nts φ st w) {p : Pos} (hs : SetR p st.heap none st'.heap) (hn : st'.next = st.next ∧ st'.old = st.old) : Ext slots nts φ st w φ st' w := by
  have hat : ∀ q x, st'.heap.at q = some x → st.heap.at q = some x := by
    intro q x hx
    by_cases e : q = p
    · subst e; rw [hs.1] at hx; cases hx
    · rw [hs.2 q e] at hx; exact hx
  have hlk : ∀ q x, st'.look q = some x → st.look q = some x := by
    intro q x hx
    by_cases e : q = p
    · subst e
      unfold St.look lookL at hx ⊢
      rw [hs.1, hn.2] at hx
      simp only [] at hx
      cases hq : st.heap.at q with
      | none => exact hx
      | some b => rw [h.sep _ _ hq] at hx; cases hx
    · rw [look_set hs hn.2 e] at hx; exact hx
  exact ⟨φ.le_refl, ⟨fun q x hx => h.blk q x (hlk q x hx), fun q r x y m n hx hy => h.apart q r x y m n (hat q x hx) (hlk r y hy), h.old, fun q m hm => by rw [hn.1]; exact h.free q m hm, fun q x hx => by rw [hn.2]; exact h.sep q x (hat q x hx)⟩,
    Nat.le_refl _, fun b _ ⟨q, blk, m, g1, g2⟩ => ⟨q, blk, m, hat q blk g1, g2⟩, fun _ _ _ => rfl, fun q m g1 g2 => (by rw [g1] at g2; cases g2), by rw [hn.1]; exact Nat.le_refl _, rfl, rfl, rfl, hn.2⟩
theorem zeroCells_size (z : Array Value) (n : Nat) : (Builtin.zeroCells z n).size = n * z.size := by simp [Builtin.zeroCells]
/-- a row that is made by growing -/
theorem grown_ok {φ : Emb} {st : St} {w : World} (hw : relW (Sl P) (Nt P) φ st w) {elem esz bytes need : Nat} {content : Rope} {k : RV → St → R} (h : grown elem esz bytes st content need k = .ok) :
    esz ≠ 0 ∧ need * bytes ≤ 1000000000 ∧ need ≤ 1000000000 ∧ ∃ v st', k v st' = .ok ∧ ∀ (vs rest : List Value) cap d, relRope φ content vs → vs.length = need * esz → need ≤ cap → rest.length = (cap - need) * esz →
      ∃ ψ, Ext (Sl P) (Nt P) φ st w ψ st' { w with drawn := w.drawn + d, heap := w.heap.push (.cells (vs ++ rest).toArray elem) } ∧ relV ψ v (.slice (some ⟨w.heap.size, 0, none⟩) need cap) := by
  unfold grown at h
  split at h
  · cases h
  · rename_i hc
    have hc : esz ≠ 0 ∧ need * bytes ≤ 1000000000 ∧ need ≤ 1000000000 := ⟨by omega, by omega, by omega⟩
    refine ⟨hc.1, hc.2.1, hc.2.2, ?_⟩
    have hwd : ∀ d, Ext (Sl P) (Nt P) φ st w φ st { w with drawn := w.drawn + d } := fun d => Ext.draws hw _
    obtain ⟨st', h1, h2, h3⟩ := newBlk_ok h
    refine ⟨_, st', h3, fun vs rest cap d hr hl hle hrl => ?_⟩
    have hsz : content.size = need * esz := by rw [← content.length_toL hr.1, hr.2.length, hl]
    have htot : (vs ++ rest).toArray.size = cap * esz := by simp [hl, hrl, ← Nat.add_mul]; rw [Nat.add_sub_cancel' hle]
    refine ⟨φ.put st.next ⟨w.heap.size, 0, cap * esz⟩, (hwd d).trans (Ext.alloc (hwd d).rel (tot := cap * esz) h1 h2.1 h2.2 ?_), ?_⟩
    · refine ⟨fun _ => rfl, by show _ = 0 + cap * esz; rw [htot]; omega, by show _ ≤ cap * esz; rw [hsz]; exact Nat.mul_le_mul_right _ hle, fun e => (by cases e), ?_, fun _ o _ _ h => by omega⟩
      have := relRope_mono (Emb.put_le (next_free hw) (l := ⟨w.heap.size, 0, cap * esz⟩)) hr
      show relRope _ content (((vs ++ rest).drop 0).take content.size)
      rw [List.drop_zero, hsz, ← hl, List.take_left]
      exact this
    · exact ⟨_, cap, 0, Emb.put_same _ _ _, rfl, by simp, hle, .inr rfl⟩

theorem storeCells_nil {a : Addr} {w : World} : (storeCells a [] 0).run P w = .ok () w := rfl
/-- what a row that grows holds -/
theorem old_ok {φ : Emb} {st : St} {w : World} (hw : relW (Sl P) (Nt P) φ st w) {p : Pos} {r : Rope} {ex ro : Bool} {t : Nat} {l : Loc} (hp : st.look p = some (.cells r ex ro t)) (hl : φ p = some l) {off len esz : Nat} {k : Rope → R}
    (h : r.ext off (len * esz) k = .ok) : ∃ old olds, k old = .ok ∧ relRope φ old olds ∧ olds.length = len * esz ∧ old.size = len * esz ∧ off + len * esz ≤ r.size ∧ (∃ c t' fz, w.heap[l.b]? = some (.cells c t' fz) ∧ olds = (((c.toList.drop l.base).take r.size).drop off).take (len * esz)) ∧
      ∀ (w' : World) o' c, w'.heap = w.heap → len = 0 ∨ o' = l.base + off → (Builtin.firstCells esz len (.slice (some ⟨l.b, o', none⟩) len c)).run P w' = .ok olds.toArray w' := by
  obtain ⟨r', w1, w2, w3, w4, h⟩ := Rope.ext_ok (row_wf hw hp) h
  obtain ⟨l', cs, _, fz, h1, h2, h3, h4⟩ := row_cell hw hp
  rw [hl] at h1; cases h1
  obtain ⟨_, a2, a3, a4, a5, a6⟩ := h3
  have rel : Rel2 (relC φ) r'.toL ((((cs.toList.drop l.base).take r.size).drop off).take (len * esz)) := by rw [w4]; exact (a5.2.drop off).take _
  have hlen := rel.length
  rw [r'.length_toL w1, w2] at hlen
  refine ⟨r', _, h, ⟨w1, rel⟩, hlen.symm, w2, w3, ⟨cs, _, fz, h2, rfl⟩, fun w' o' c hw' ho => ?_⟩
  show (loadCells ⟨l.b, o', none⟩ (len * esz)).run P w' = _
  refine run_loadCells hlen.symm fun j v hv => ?_
  have hj : j < len * esz := by rw [hlen]; exact (List.getElem?_eq_some_iff.1 hv).1
  have ho : o' = l.base + off := ho.resolve_left fun e => by subst e; simp at hj
  subst ho
  rw [List.getElem?_take_of_lt hj, List.getElem?_drop, List.getElem?_take_of_lt (by omega), List.getElem?_drop] at hv
  have hv : cs[l.base + (off + j)]? = some v := by simpa using hv
  show w'.cell? ⟨l.b, l.base + off + j, none⟩ = some v
  rw [Nat.add_assoc]
  simp [World.cell?, hw', h2, hv]
theorem doAppend_ok {φ : Emb} {st : St} {w : World} (hw : relW (Sl P) (Nt P) φ st w) {tys : Array Nat} {ty elem n : Nat} {zeros : Bool} {i : TypeInfo} {z : Value} (hT : AppT P tys elem zeros) (hi : P.info? elem = some i)
    (hz : i.zero = some z) (hzc : z.cells.size = i.size) {s : Cell} {ys x : Value} (hs : relC φ s ys) {new : Rope} {vs : List Value} (hr : relRope φ new vs) (hn : new.size = n * i.size)
    (hx : Added P elem i.size i.bytes n zeros x vs w) {k : RV → St → R} (h : doAppend elem i.size i.bytes st s n new k = .ok) :
    ∃ v st', k v st' = .ok ∧ ∃ ψ w' cv, Ext (Sl P) (Nt P) φ st w ψ st' w' ∧ relV ψ v cv ∧ (Builtin.append_ tys ty #[ys, x]).run P w = .ok cv w' := by
  have hvl : vs.length = n * i.size := by rw [← hr.2.length, new.length_toL hr.1, hn]
  -- growing into a new row
  have grow : ∀ (sLen sCap : Nat) (base : Option Addr) (content : Rope) (old : List Value), ys = .slice base sLen sCap → ¬ sLen + n ≤ sCap → grown elem i.size i.bytes st content (sLen + n) k = .ok → relRope φ content (old ++ vs) →
      old.length = sLen * i.size → (∀ w' : World, w'.heap = w.heap → (Builtin.firstCells i.size sLen (.slice base sLen sCap)).run P w' = .ok old.toArray w') →
      ∃ v st', k v st' = .ok ∧ ∃ ψ w' cv, Ext (Sl P) (Nt P) φ st w ψ st' w' ∧ relV ψ v cv ∧ (Builtin.append_ tys ty #[ys, x]).run P w = .ok cv w' := by
    intro sLen sCap base content old hys hc hg hcr hol hold
    obtain ⟨g1, g2, g3, v, st', g4, g5⟩ := grown_ok hw hg
    obtain ⟨cap, c1, c2⟩ := run_app_out (ty := ty) hT hi hz hx hc g2 g3 hold
    obtain ⟨ψ, e1, e2⟩ := g5 (old ++ vs) (Builtin.zeroCells z.cells (cap - (sLen + n))).toList cap 1 hcr (by simp [hol, hvl, Nat.add_mul]) c1 (by rw [Array.length_toList, zeroCells_size, hzc])
    refine ⟨v, st', g4, ψ, _, _, e1, e2, ?_⟩
    rw [hys, c2]
    congr 3
    simp
  -- staying in place
  have stay : ∀ (p : Pos) (l : Loc) (r : Rope) (ex : Bool) (t off len cap : Nat) (K : Rope → R), st.heap.at p = some (.cells r ex false t) → φ p = some l → ys = .slice (some ⟨l.b, l.base + off, none⟩) len cap → len + n ≤ cap →
      r.splice (off + len * i.size) new (n * i.size) K = .ok → ∃ r', K r' = .ok ∧ ∀ st', SetR p st.heap (some (.cells r' ex false t)) st'.heap → (st'.next = st.next ∧ st'.old = st.old) →
        ∃ w', Ext (Sl P) (Nt P) φ st w φ st' w' ∧ (Builtin.append_ tys ty #[ys, x]).run P w = .ok (.slice (some ⟨l.b, l.base + off, none⟩) (len + n) cap) w' := by
    intro p l r ex t off len cap K hp hl hys hc hsp
    obtain ⟨r', w1, w2, w3, w4, hK⟩ := Rope.splice_ok (row_wf hw (look_own hp)) hr.1 hn hsp
    refine ⟨r', hK, fun st' s1 s2 => ?_⟩
    obtain ⟨l', cs, fz, e1, e2, e3, e4, e5, e6⟩ := put_row hw hp hr w1 w2 (by rw [hn]; exact w3) (by rw [hn]; exact w4) s1 s2
    rw [hl] at e1; cases e1
    refine ⟨_, e6, ?_⟩
    rw [hys]
    refine run_app_in hT hi hx hc ?_
    simp only []
    rw [add_eq]
    have := run_storeCells (P := P) vs (i := 0) e2 (o := l.base + off + len * i.size) (by rw [Nat.add_zero, e5]; omega) (by rw [e5]; intro j h1 h2; exact e4 j (by omega) (by omega)) (rel_plain hr.2)
    rw [this]; simp [Nat.add_assoc]
  unfold doAppend at h
  split at h
  · have hys : ys = .slice none 0 0 := hs
    split at h
    · rename_i h0
      subst h0
      refine ⟨_, _, h, φ, w, .slice none 0 0, Ext.refl hw, rfl, ?_⟩
      rw [hys]
      exact run_app_in hT hi hx (Nat.le_refl _) rfl
    · rename_i h0
      exact grow 0 0 none new [] hys (by omega) (by rw [Nat.zero_add]; exact h) (by simpa using hr) (by simp) fun w' _ => rfl
  · rename_i p off len cap
    obtain ⟨l, hl, hys⟩ := hs
    rw [fz_eq] at h
    split at h
    · rename_i hc
      split at h
      · rename_i h0
        subst h0
        have : vs = [] := List.length_eq_zero_iff.1 (by omega)
        subst this
        refine ⟨_, _, h, φ, w, .slice (some ⟨l.b, l.base + off, none⟩) (len + 0) cap, Ext.refl hw, ⟨l, hl, rfl⟩, ?_⟩
        rw [hys]
        exact run_app_in hT hi hx hc rfl
      · rename_i h0
        obtain ⟨b, hb, h⟩ := hGet_ok h
        obtain ⟨r, ex, ro, t, rfl, h⟩ := bCells_ok h
        rcases bcase h with ⟨rfl, h⟩ | ⟨_, h⟩
        · obtain ⟨r', hK, fin⟩ := stay p l r ex t off len cap _ hb hl hys hc h
          obtain ⟨st', s1, s2, h⟩ := putBlk_ok hK
          obtain ⟨w', f1, f2⟩ := fin st' s1 s2
          exact ⟨_, _, h, φ, w', _, f1, ⟨l, hl, rfl⟩, f2⟩
        · cases h
    · rename_i hc
      split at h
      · rename_i h0
        subst h0
        exact grow 0 cap _ new [] hys hc h (by simpa using hr) (by simp) fun w' _ => by show (loadCells _ (0 * i.size)).run P w' = _; rw [Nat.zero_mul]; rfl
      · rename_i h0
        obtain ⟨b, hb, h⟩ := gGet_ok h
        obtain ⟨r, ex, ro, t, rfl, h⟩ := bCells_ok h
        obtain ⟨old, olds, h, o1, o2, o3, o4, o5, o6⟩ := old_ok hw hb hl h
        obtain ⟨c, ⟨ca, cb, cc⟩, h⟩ := Rope.app_ok o1.1 hr.1 h
        exact grow len cap _ c olds hys hc h ⟨ca, by rw [cc]; exact o1.2.append hr.2⟩ o2 fun w' hw' => o6 w' _ _ hw' (.inr rfl)
  · rename_i p off len e'
    obtain ⟨l, cap, o', hl, hys, e1, e2, e3⟩ := hs
    rw [fz_eq] at h
    split at h
    · cases h
    rename_i hesz
    have he : e' = i.size := by omega
    have hpos : 0 < i.size := by omega
    clear hesz
    subst he
    split at h
    · rename_i h0
      subst h0
      have : vs = [] := List.length_eq_zero_iff.1 (by omega)
      subst this
      refine ⟨_, _, h, φ, w, .slice (some ⟨l.b, o', none⟩) (len + 0) cap, Ext.refl hw, ⟨l, cap, o', hl, rfl, e1, e2, e3⟩, ?_⟩
      rw [hys]
      exact run_app_in hT hi hx e2 rfl
    · rename_i h0
      obtain ⟨b, hb, h⟩ := hGet_ok h
      obtain ⟨r, ex, ro, t, rfl, h⟩ := bCells_ok h
      rcases bcase h with ⟨rfl, h'⟩ | ⟨_, h⟩
      · clear h
        rw [Rope.sz_eq] at h'
        have h' := h'
        obtain ⟨l', cs, fz, q1, q2, q3, q4⟩ := row_own hw (look_own hb)
        rw [hl] at q1; cases q1
        obtain ⟨_, a2, a3, a4, a5, a6⟩ := q3
        split at h'
        · rename_i hk
          have hc : len + n ≤ cap := Nat.le_of_mul_le_mul_right (show (len + n) * i.size ≤ cap * i.size by omega) hpos
          obtain ⟨r', hK, fin⟩ := stay p l r ex t off len cap _ hb hl (by rw [hys, e3.resolve_left (by omega)]) hc h'
          obtain ⟨st', s1, s2, h⟩ := putBlk_ok hK
          obtain ⟨w', f1, f2⟩ := fin st' s1 s2
          exact ⟨_, _, h, φ, w', _, f1, ⟨l, cap, _, hl, rfl, e1, hc, .inr rfl⟩, f2⟩
        · rename_i hk
          obtain ⟨old, olds, h, o1, o2, o3, o4, o5, o6⟩ := old_ok hw (look_own hb) hl h'
          obtain ⟨c, ⟨ca, cb, cc⟩, h⟩ := Rope.app_ok o1.1 hr.1 h
          split at h
          · cases h
          rename_i hck
          have hcr : relRope φ c (olds ++ vs) := ⟨ca, by rw [cc]; exact o1.2.append hr.2⟩
          obtain ⟨t', s1, h⟩ := hSet_ok h
          obtain ⟨st', n1, n2, hkk⟩ := newBlk_ok h
          have te : t = elem := Classical.byContradiction fun e => hck (.inl e)
          subst te
          have hne : p ≠ st.next := fun e => by subst e; rw [next_free hw] at hl; cases hl
          have hcs : c.size = (len + n) * i.size := by rw [cb, o3, hn, Nat.add_mul]
          by_cases hc : len + n ≤ cap
          · have ho := e3.resolve_left (by omega)
            subst ho
            have hmul : (len + n) * i.size ≤ cap * i.size := Nat.mul_le_mul_right _ hc
            have hsum : (len + n) * i.size = len * i.size + n * i.size := Nat.add_mul ..
            refine ⟨_, _, hkk, φ.put st.next ⟨l.b, l.base + off, cap * i.size⟩, { w with heap := w.heap.setIfInBounds l.b (.cells (spl cs (l.base + off + len * i.size) vs) t fz) }, .slice (some ⟨l.b, l.base + off, none⟩) (len + n) cap, ?_, ?_, ?_⟩
            · refine Ext.moved hw hb hl rfl rfl (by rw [n1.2 p hne]; exact s1.1) n1.1 (fun q hq hq' => by rw [n1.2 q hq']; exact s1.2 q hq) n2.1 n2.2 rfl ⟨rfl, rfl, rfl⟩ ?_
              refine ⟨fun _ => rfl, by rw [spl_size, a2]; show _ = l.base + off + cap * i.size; omega, by rw [hcs]; exact hmul, (fun e => by cases e), ?_, fun _ o g1 g2 => a6 rfl o (by show l.base ≤ o; have : l.base + off ≤ o := g1; omega) (by have : o < l.base + off + cap * i.size := g2; omega)⟩
              refine relRope_mono (Emb.put_le (next_free hw)) ?_
              have hlist : ((spl cs (l.base + off + len * i.size) vs).toList.drop (l.base + off)).take c.size = olds ++ vs := by
                obtain ⟨c2, _, fz2, g1, g2⟩ := o5
                rw [q2] at g1; cases g1
                have hcl : cs.toList.length = l.base + l.tot := by simpa using a2
                apply List.ext_getElem?
                intro j
                rw [List.getElem?_take]
                by_cases hj : j < c.size
                · rw [if_pos hj, List.getElem?_drop, Array.getElem?_toList, spl_get _ _ _ _ (by rw [a2]; omega)]
                  by_cases hj2 : j < len * i.size
                  · rw [if_neg (by omega), List.getElem?_append_left (by omega), g2, List.getElem?_take_of_lt hj2, List.getElem?_drop, List.getElem?_take_of_lt (by omega), List.getElem?_drop, Array.getElem?_toList, Nat.add_assoc]
                  · rw [if_pos (by omega), List.getElem?_append_right (by omega), o2]; congr 1; omega
                · rw [if_neg hj, List.getElem?_eq_none (by rw [List.length_append, o2, hvl]; omega)]
              show relRope φ c _
              rw [hlist]; exact hcr
            · exact ⟨_, cap, _, Emb.put_same _ _ _, rfl, by simp, hc, .inr rfl⟩
            · rw [hys]
              refine run_app_in hT hi hx hc ?_
              simp only []
              rw [add_eq]
              have := run_storeCells (P := P) vs (i := 0) q2 (o := l.base + off + len * i.size) (by rw [Nat.add_zero, hvl, a2]; omega) (by rw [hvl]; intro j h1 h2; exact a6 rfl j (by omega) (by omega)) (rel_plain hr.2)
              rw [this]; simp [Nat.add_assoc]
          · obtain ⟨cap', c1, c2⟩ := run_app_out (ty := ty) hT hi hz hx hc (by omega) (by omega) (fun w' hw' => o6 w' o' cap hw' (by rcases e3 with h | h; exact .inl (by omega); exact .inr h))
            have hd := Ext.drop hw s1 (st' := ⟨st.next, t', st.old⟩) ⟨rfl, rfl⟩
            have hdd : Ext (Sl P) (Nt P) φ st w φ ⟨st.next, t', st.old⟩ { w with drawn := w.drawn + 1 } := hd.trans (Ext.drew hd.rel)
            refine ⟨_, _, hkk, φ.put st.next ⟨w.heap.size, 0, cap' * i.size⟩, _, _, hdd.trans (Ext.alloc hdd.rel (tot := cap' * i.size) (o := .cells (olds.toArray ++ vs.toArray ++ Builtin.zeroCells z.cells (cap' - (len + n))) t) n1 n2.1 n2.2 ?_), ⟨_, cap', 0, Emb.put_same _ _ _, rfl, by simp, c1, .inr rfl⟩, by rw [hys]; exact c2⟩
            have htot : (olds.toArray ++ vs.toArray ++ Builtin.zeroCells z.cells (cap' - (len + n))).size = cap' * i.size := by
              simp only [Array.size_append, List.size_toArray, zeroCells_size, o2, hvl, hzc, ← Nat.add_mul]; rw [Nat.add_sub_cancel' c1]
            refine ⟨fun _ => rfl, by show _ = 0 + cap' * i.size; rw [htot]; omega, by show _ ≤ cap' * i.size; rw [hcs]; exact Nat.mul_le_mul_right _ c1, (fun e => by cases e), ?_, fun _ o _ _ h => by omega⟩
            have := relRope_mono (Emb.put_le (next_free hw) (l := ⟨w.heap.size, 0, cap' * i.size⟩)) hcr
            have hl2 : (olds.toArray ++ vs.toArray ++ Builtin.zeroCells z.cells (cap' - (len + n))).toList = (olds ++ vs) ++ (Builtin.zeroCells z.cells (cap' - (len + n))).toList := by simp
            show relRope _ c (((olds.toArray ++ vs.toArray ++ Builtin.zeroCells z.cells (cap' - (len + n))).toList.drop 0).take c.size)
            rw [List.drop_zero, hl2, hcs, show (len + n) * i.size = (olds ++ vs).length by rw [List.length_append, o2, hvl, Nat.add_mul], List.take_left]
            exact this
      · cases h
  · cases h
end Ev
/-! Maps. -/
namespace Ev
open Go
set_option linter.unusedVariables false
variable {P : Program}

theorem val8_cons (b : UInt8) (l : List UInt8) : val8 (b :: l) = b.toNat + 256 * val8 l := rfl
theorem lane8 (x i : Nat) : lane 8 x i = x / 2 ^ (8 * i) % 256 := lane_def 8 x i
theorem bytesL_succ (n x : Nat) : bytesL (n + 1) x = UInt8.ofNat (x % 256) :: bytesL n (x / 256) := by
  unfold bytesL
  rw [List.range_succ_eq_map, List.map_cons, List.map_map]
  congr 1
  · apply List.map_congr_left
    intro i _
    simp only [Function.comp_def, lane8, Nat.succ_eq_add_one]
    rw [show 8 * (i + 1) = 8 + 8 * i by omega, Nat.pow_add, ← Nat.div_div_eq_div_mul]
theorem val8_bytesL (n x : Nat) (h : x < 2 ^ (8 * n)) : val8 (bytesL n x) = x := by
  induction n generalizing x with
  | zero => simp at h; subst h; rfl
  | succ n ih =>
    rw [bytesL_succ, val8_cons, ih (x / 256) (by rw [show 8 * (n + 1) = 8 * n + 8 by omega, Nat.pow_add] at h; exact Nat.div_lt_of_lt_mul (by omega))]
    have : (UInt8.ofNat (x % 256)).toNat = x % 256 := by simp
    rw [this]; omega
theorem bytesL_length (n x : Nat) : (bytesL n x).length = n := by simp [bytesL]
theorem bytesOf_inj {n x m y : Nat} (hx : x < 2 ^ (8 * n)) (hy : y < 2 ^ (8 * m)) (h : bytesOf n x = bytesOf m y) : n = m ∧ x = y := by
  have h1 : bytesL n x = bytesL m y := by
    have := congrArg (fun b : ByteArray => b.data.toList) h
    simpa [bytesOf] using this
  have h2 : n = m := by have := congrArg List.length h1; simpa [bytesL_length] using this
  subst h2
  exact ⟨rfl, by rw [← val8_bytesL n x hx, ← val8_bytesL n y hy, h1]⟩
theorem beqB (a b : ByteArray) : (a == b) = (a.data == b.data) := rfl
theorem beqB_self (a : ByteArray) : (a == a) = true := by rw [beqB]; simp
theorem beqB_ne {a b : ByteArray} (h : a ≠ b) : (a == b) = false := by
  rw [beqB]; simp only [beq_eq_false_iff_ne]; exact fun e => h (ByteArray.ext e)
theorem beq_bytes {n x m y : Nat} (hx : x < 2 ^ (8 * n)) (hy : y < 2 ^ (8 * m)) : (bytesOf n x == bytesOf m y) = (Nat.beq n m && Nat.beq x y) := by
  by_cases h : n = m ∧ x = y
  · obtain ⟨rfl, rfl⟩ := h
    rw [beqB_self]
    simp
  · have h1 : bytesOf n x ≠ bytesOf m y := fun e => h (bytesOf_inj hx hy e)
    have h2 : (Nat.beq n m && Nat.beq x y) = false := by
      cases hb : (Nat.beq n m && Nat.beq x y) with
      | false => rfl
      | true => rw [Bool.and_eq_true] at hb; exact absurd ⟨beq_t hb.1, beq_t hb.2⟩ h
    rw [h2]; exact beqB_ne h1
theorem cellInt_rel {φ : Emb} {c : Cell} {v : Value} {j : IntKind} {n : Int} (h : relC φ c v) (hc : cellInt c = some (j, n)) : v = .int j n := by
  cases c <;> cases hc <;> exact h
def KDesc (kk : KK) (d : TypeDesc) : Prop := match kk with | .int => ∃ j, d = .int j | .str => d = .string | .bool => d = .bool
/-- keys -/
theorem keyKind_ok {t : Nat} {kk : KK} (h : keyKind P t = some kk) : ∃ d, P.underlying t = some d ∧ KDesc kk d := by
  unfold keyKind at h
  split at h <;> cases h
  · rename_i j hu; exact ⟨_, und_ok hu, j, rfl⟩
  · rename_i hu; exact ⟨_, und_ok hu, rfl⟩
  · rename_i hu; exact ⟨_, und_ok hu, rfl⟩
theorem mapT_ok {t : Nat} {kk : KK} {el : Nat} (h : mapT P t = some (kk, el)) : ∃ kt, P.underlying t = some (.map kt el) ∧ keyKind P kt = some kk := by
  unfold mapT at h
  split at h
  · rename_i kt el' hu
    split at h
    · rename_i kk' hk; cases h; exact ⟨kt, und_ok hu, hk⟩
    · cases h
  · cases h
/-- what is true of a key: what the search and the putting make of it -/
def SameKey (d : TypeDesc) (y z : Value) (r : Bool) : Prop := Instr.sameNow d y z = some r ∧ (r = true → Instr.sameBits 10000 z y = true)
theorem same_ok {φ : Emb} {kk : KK} {d : TypeDesc} {c e : Cell} {y z : Value} {r : Bool} (hd : KDesc kk d) (hk : keyOk kk c = true)
    (hc : relC φ c y) (he : relC φ e z) (h : cellEq c e = some r) : SameKey d y z r := by
  have ints : ∀ (j : IntKind) (n : Int) d, (∃ j, d = TypeDesc.int j) → y = .int j n → cellInt c = some (j, n) → cellEq c e = (match cellInt c, cellInt e with | some (j, x), some (k, y) => if j = k then some (x == y) else none | _, _ => none) → SameKey d y z r := by
    rintro j n d ⟨jj, rfl⟩ rfl hci hce
    rw [hce, hci] at h
    cases hei : cellInt e with
    | none => rw [hei] at h; cases h
    | some q =>
      obtain ⟨k, m⟩ := q
      rw [hei] at h
      simp only [] at h
      split at h
      · rename_i hjk
        subst hjk
        cases h
        obtain rfl := cellInt_rel he hei
        refine ⟨by simp [Instr.sameNow], fun hr => ?_⟩
        have : n = m := by simpa using hr
        subst this
        show (j == j && n == n) = true
        simp
      · cases h
  cases kk with
  | int =>
    have hd : ∃ j, d = .int j := hd
    cases c <;> try (cases hk; done)
    all_goals
      refine ints _ _ d hd hc rfl ?_
      cases e <;> rfl
  | str =>
    have hd : d = .string := hd
    subst hd
    cases c <;> try (cases hk; done)
    cases e <;> try (cases h; done)
    rename_i n x m w
    obtain ⟨h1, rfl⟩ := hc
    obtain ⟨h2, rfl⟩ := he
    cases h
    refine ⟨by simp only [Instr.sameNow]; rw [beq_bytes h1 h2], fun hr => ?_⟩
    rw [Bool.and_eq_true] at hr
    obtain rfl := beq_t hr.1
    obtain rfl := beq_t hr.2
    exact beqB_self (bytesOf _ _)
  | bool =>
    have hd : d = .bool := hd
    subst hd
    cases c <;> try (cases hk; done)
    cases e <;> try (cases h; done)
    have hc : y = _ := hc
    have he : z = _ := he
    subst hc he
    cases h
    refine ⟨rfl, fun hr => ?_⟩
    rename_i a b
    show (b == a) = true
    cases a <;> cases b <;> first | rfl | cases hr
/-- the search -/
theorem findKey_ok {φ : Emb} {kk : KK} {d : TypeDesc} {c : Cell} {y : Value} (hd : KDesc kk d) (hk : keyOk kk c = true) (hc : relC φ c y)
    {es : List MEnt} {ms : List MapEntry} (hr : Rel2 (relEnt φ) es ms) : ∀ {i : Nat} {res : Option (Nat × MEnt)}, findKey c es i = some res →
      (res = none ∧ Instr.findNow d y ms i = some none) ∨ ∃ j e m, res = some (i + j, e) ∧ es[j]? = some e ∧ ms[j]? = some m ∧ relEnt φ e m ∧ Instr.findNow d y ms i = some (some (i + j, m.val)) ∧ Instr.sameBits 10000 m.key y = true := by
  induction hr with
  | nil => intro i res h; cases h; exact .inl ⟨rfl, rfl⟩
  | cons h1 h2 ih =>
    rename_i e m es ms
    intro i res h
    unfold findKey at h
    split at h
    · rename_i hq
      cases h
      obtain ⟨s1, s2⟩ := same_ok hd hk hc h1.1 hq
      refine .inr ⟨0, e, m, rfl, rfl, rfl, h1, ?_, s2 rfl⟩
      unfold Instr.findNow
      rw [s1]; rfl
    · rename_i hq
      obtain ⟨s1, _⟩ := same_ok hd hk hc h1.1 hq
      rcases ih h with ⟨g1, g2⟩ | ⟨j, e', m', g1, g2, g3, g4, g5, g6⟩
      · refine .inl ⟨g1, ?_⟩
        unfold Instr.findNow
        rw [s1]; exact g2
      · refine .inr ⟨j + 1, e', m', by rw [g1]; congr 2; omega, g2, g3, g4, ?_, g6⟩
        unfold Instr.findNow
        rw [s1]; simp only []; rw [g5]; congr 3; omega
    · cases h
theorem run_checkKey {t n : Nat} {d : TypeDesc} {b : Bool} {v : Value} {w : World} {kk : KK} (hu : P.underlying t = some d) (hd : KDesc kk d) :
    (Instr.checkKey b (n + 1) t v).run P w = .ok () w := by
  unfold Instr.checkKey
  rw [run_bind_ok (run_underlying hu)]
  cases kk with
  | int => obtain ⟨j, rfl⟩ := hd; rfl
  | str => obtain rfl := hd; rfl
  | bool => obtain rfl := hd; rfl
theorem run_findKey {t : Nat} {d : TypeDesc} {y : Value} {ms : List MapEntry} {res : Option (Nat × Value)} {w : World} (hu : P.underlying t = some d) (h : Instr.findNow d y ms 0 = some res) : (Instr.findKey t y ms).run P w = .ok res w := by
  unfold Instr.findKey
  rw [run_bind_ok (run_underlying hu)]
  simp only [h]; rfl
/-- a map's block -/
theorem map_blk {φ : Emb} {st : St} {w : World} (hw : relW (Sl P) (Nt P) φ st w) {p : Pos} {l : Loc} (hl : φ p = some l) {es : List MEnt} {c : Nat} (hp : st.look p = some (.map es c)) :
    ∃ ms, w.heap[l.b]? = some (.map ms c) ∧ Rel2 (relEnt φ) es ms.toList := by
  obtain ⟨l', o, h1, h2, h3⟩ := hw.blk p _ hp
  rw [hl] at h1; cases h1
  cases o <;> try exact h3.elim
  obtain ⟨rfl, h4⟩ := h3
  exact ⟨_, h2, h4⟩
theorem run_getObj {b : Nat} {o : Obj} {w : World} (h : w.heap[b]? = some o) (ho : ∀ c t f, o ≠ .cells c t f) : (getObj b).run P w = .ok o w := by
  cases o <;> first | exact absurd rfl (ho _ _ _) | (simp only [getObj, Sem.run, h])
theorem run_setObj {b : Nat} {o o' : Obj} {w : World} (h : w.heap[b]? = some o) (ho : ∀ c t f, o ≠ .cells c t f) : (setObj b o').run P w = .ok () { w with heap := w.heap.setIfInBounds b o' } := by
  cases o <;> first | exact absurd rfl (ho _ _ _) | (simp only [setObj, Sem.run, h])
/-- a map that is turned -/
theorem putMap_ok {φ : Emb} {st st' : St} {w : World} (hw : relW (Sl P) (Nt P) φ st w) {p : Pos} {l : Loc} (hl : φ p = some l) {es es' : List MEnt} {c c' : Nat} (hp : st.heap.at p = some (.map es c)) {ms : Array MapEntry}
    (hr : Rel2 (relEnt φ) es' ms.toList) (h1 : SetR p st.heap (some (.map es' c')) st'.heap) (h2 : st'.next = st.next ∧ st'.old = st.old) :
    Ext (Sl P) (Nt P) φ st w φ st' { w with heap := w.heap.setIfInBounds l.b (.map ms c') } := Ext.turn hw hp hl rfl h1 h2.1 h2.2 rfl ⟨rfl, rfl, rfl⟩ ⟨rfl, hr⟩
theorem ownBlk_ok {st : St} {p : Pos} {k : Blk → R} (h : ownBlk st p k = .ok) : ∃ b, st.heap.at p = some b ∧ k b = .ok := hGet_ok h
theorem Rel2.modify {α β : Type} {R : α → β → Prop} {l : List α} {m : List β} (r : Rel2 R l m) (i : Nat) {f : α → α} {g : β → β} (h : ∀ a b, l[i]? = some a → m[i]? = some b → R a b → R (f a) (g b)) : Rel2 R (l.modify i f) (m.modify i g) := by
  induction r generalizing i with
  | nil => simpa using Rel2.nil
  | cons h1 h2 ih =>
    cases i with
    | zero => simp only [List.modify_zero_cons]; exact .cons (h _ _ rfl rfl h1) h2
    | succ j => simp only [List.modify_succ_cons]; exact .cons h1 (ih j fun a b ha hb => h a b (by simpa using ha) (by simpa using hb))
theorem toList_modify {α : Type} (a : Array α) (i : Nat) (f : α → α) : (a.modify i f).toList = a.toList.modify i f := by simp
theorem giveOk_ok {φ : Emb} {ok b : Bool} {v : El} {y : Value} {k : RV → R} (hv : relEl φ v y) (h : giveOk ok v b k = .ok) : ∃ x, k x = .ok ∧ relV φ x (if ok then .tuple #[y, .bool b] else y) := by
  unfold giveOk at h
  cases ok with
  | true => exact ⟨_, h, _, rfl, .cons hv (.cons rfl .nil)⟩
  | false => exact ⟨_, h, relV_rv hv⟩
theorem zeroOf_ok {t : Nat} {z : El} (h : zeroOf P t = some z) : ∃ i v, P.info? t = some i ∧ i.zero = some v ∧ ∀ φ, relEl φ z v := by
  unfold zeroOf at h
  split at h
  · rename_i i hi
    cases hv : i.zero with
    | none => rw [hv] at h; cases h
    | some v =>
      rw [hv] at h
      refine ⟨i, v, tyI_ok hi, hv, fun φ => ?_⟩
      have h' : elOfV v = some z := h
      clear h
      have h := h'
      clear h'
      unfold elOfV at h
      split at h
      · rename_i cs
        cases hr : ropeOfV (.agg cs) with
        | none => rw [hr] at h; cases h
        | some r => rw [hr] at h; cases h; exact ⟨cs, rfl, ropeOfV_rel hr⟩
      · cases h
      · rename_i n1 n2
        cases hc : cellOfV v with
        | none => rw [hc] at h; cases h
        | some c => rw [hc] at h; cases h; exact relC_const hc
  · cases h
section
variable {r : Option Nat} {gl ds : List Nat} {o : Oper} {cl : Caller}
theorem doLookup_ok {φ : Emb} {st : St} {w : World} (hw : relW (Sl P) (Nt P) φ st w) {kk : KK} {ok : Bool} {zero : El} {t el : Nat} (ht : mapT P t = some (kk, el)) (hz : zeroOf P el = some zero) {m : RV} {my : Value} (hm : relV φ m my)
    {key : Cell} {y : Value} (hk : relC φ key y) {k : RV → R} (h : doLookup kk ok zero st m key k = .ok) : ∃ v cv, k v = .ok ∧ relV φ v cv ∧ (Instr.lookup t my y ok).run P w = .ok cv w := by
  obtain ⟨kt, hu, hkk⟩ := mapT_ok ht
  obtain ⟨d, hud, hd⟩ := keyKind_ok hkk
  obtain ⟨iz, vz, hiz, hvz, hzr⟩ := zeroOf_ok hz
  unfold doLookup at h
  split at h
  · rename_i hko
    have fin : ∀ (ms : Array MapEntry) (res : Option (Nat × Value)) (v : Value) (b : Bool), (my = .map none ∧ ms = #[] ∨ ∃ b c, my = .map (some b) ∧ w.heap[b]? = some (.map ms c)) → Instr.findNow d y ms.toList 0 = some res → (res = none ∧ v = vz ∧ b = false ∨ ∃ i, res = some (i, v) ∧ b = true) →
        (Instr.lookup t my y ok).run P w = .ok (if ok then .tuple #[v, .bool b] else v) w := by
      intro ms res v b h1 h2 h3
      have tail : Sem.run P (do
          Instr.checkKey ms.isEmpty 10000 kt y
          match ← Instr.findKey kt y ms.toList with
          | some (fst, v) => do
            let x ← pure (v, true)
            pure (if ok = true then Value.tuple #[x.fst, Value.bool x.snd] else x.fst)
          | none => do
            let z ← zeroValue el
            let x ← pure (z, false)
            pure (if ok = true then Value.tuple #[x.fst, Value.bool x.snd] else x.fst)) w = .ok (if ok then .tuple #[v, .bool b] else v) w := by
        rw [run_bind_ok (run_checkKey hud hd), run_bind_ok (run_findKey hud h2)]
        rcases h3 with ⟨rfl, rfl, rfl⟩ | ⟨i, rfl, rfl⟩
        · simp only []
          rw [run_bind_ok (run_zeroValue hiz hvz)]
          cases ok <;> rfl
        · simp only []
          cases ok <;> rfl
      unfold Instr.lookup
      rw [run_bind_ok (run_underlying hu)]
      simp only []
      rcases h1 with ⟨rfl, rfl⟩ | ⟨b, c, rfl, h1⟩
      · simp only []
        rw [run_pure_bind]
        exact tail
      · simp only []
        rw [run_bind_ok (run_getObj h1 (by intros; simp))]
        simp only []
        rw [run_pure_bind]
        exact tail
    split at h
    · have hm : my = .map none := hm
      subst hm
      obtain ⟨x, h1, h2⟩ := giveOk_ok (hzr φ) h
      exact ⟨x, _, h1, h2, fin #[] none vz false (.inl ⟨rfl, rfl⟩) rfl (.inl ⟨rfl, rfl, rfl⟩)⟩
    · rename_i p
      obtain ⟨l, hl, hm⟩ := hm
      subst hm
      obtain ⟨b, hb, h⟩ := gGet_ok h
      split at h
      · rename_i es c
        obtain ⟨ms, g1, g2⟩ := map_blk hw hl hb
        have hrun : (Value.map (some l.b) = .map none ∧ ms = #[] ∨ ∃ b c, Value.map (some l.b) = .map (some b) ∧ w.heap[b]? = some (.map ms c)) := .inr ⟨_, _, rfl, g1⟩
        split at h
        · rename_i i en hf
          rcases findKey_ok hd hko hk g2 hf with ⟨q1, q2⟩ | ⟨j, e, m, q1, q2, q3, q4, q5, q6⟩
          · cases q1
          · cases q1
            obtain ⟨x, h1, h2⟩ := giveOk_ok q4.2.1 h
            exact ⟨x, _, h1, h2, fin ms _ m.val true hrun q5 (.inr ⟨_, rfl, rfl⟩)⟩
        · rename_i hf
          rcases findKey_ok hd hko hk g2 hf with ⟨q1, q2⟩ | ⟨j, e, m, q1, q2, q3, q4, q5, q6⟩
          · obtain ⟨x, h1, h2⟩ := giveOk_ok (hzr φ) h
            exact ⟨x, _, h1, h2, fin ms _ vz false hrun q2 (.inl ⟨rfl, rfl, rfl⟩)⟩
          · cases q1
        · cases h
      · cases h
    · cases h
  · cases h
theorem lookup_op {t el : Nat} {kk : KK} {x ix : Operand} {ok : Bool} {zero : El} (ho : o.op = .lookup t x ix ok) (ht : mapT P t = some (kk, el)) (hz : zeroOf P el = some zero) :
    OCr P gl ds o ⟨fun _ e fr st k => (src P gl ds x).run e fr fun m => (src P gl ds ix).run e fr fun key => rvC key fun key => doLookup kk ok zero st m key fun v => k v st⟩ cl := by
  intro φ a w e fr st k hh hw h
  obtain ⟨m, h1, h2⟩ := src_ok (h : (src P gl ds x).run e fr _ = .ok)
  obtain ⟨key, h3, h4⟩ := src_ok h1
  obtain ⟨c, rfl, h5⟩ := rvC_ok h3
  obtain ⟨v, cv, h6, h7, h8⟩ := doLookup_ok hw ht hz (h2 φ a hh) (h4 φ a hh) h5
  refine ⟨v, _, h6, h7, ?_⟩
  simp only [execOp, ho]
  rw [run_bind_ok h8]; rfl
theorem run_keyThatStays {old new : Value} {w : World} (h : Instr.sameBits 10000 old new = true) : (Instr.keyThatStays old new).run P w = .ok new w := by
  unfold Instr.keyThatStays
  rw [if_pos h]; rfl
/-- the search in a map that is no nil map -/
theorem search_ok {φ : Emb} {st : St} {w : World} (hw : relW (Sl P) (Nt P) φ st w) {kk : KK} {t el : Nat} (ht : mapT P t = some (kk, el)) {p : Pos} {l : Loc} (hl : φ p = some l) {es : List MEnt} {c : Nat} (hp : st.look p = some (.map es c))
    {key : Cell} {y : Value} (hk : relC φ key y) (hko : keyOk kk key = true) {res : Option (Nat × MEnt)} (hf : findKey key es 0 = some res) :
    ∃ kt d ms, P.underlying t = some (.map kt el) ∧ P.underlying kt = some d ∧ KDesc kk d ∧ w.heap[l.b]? = some (.map ms c) ∧ Rel2 (relEnt φ) es ms.toList ∧
      ((res = none ∧ (Instr.findKey kt y ms.toList).run P w = .ok none w) ∨ ∃ i e m, res = some (i, e) ∧ es[i]? = some e ∧ ms[i]? = some m ∧ relEnt φ e m ∧ (Instr.findKey kt y ms.toList).run P w = .ok (some (i, m.val)) w ∧ Instr.sameBits 10000 m.key y = true) := by
  obtain ⟨kt, hu, hkk⟩ := mapT_ok ht
  obtain ⟨d, hud, hd⟩ := keyKind_ok hkk
  obtain ⟨ms, g1, g2⟩ := map_blk hw hl hp
  refine ⟨kt, d, ms, hu, hud, hd, g1, g2, ?_⟩
  rcases findKey_ok hd hko hk g2 hf with ⟨q1, q2⟩ | ⟨j, e, m, q1, q2, q3, q4, q5, q6⟩
  · exact .inl ⟨q1, run_findKey hud q2⟩
  · rw [Nat.zero_add] at q1 q5
    exact .inr ⟨j, e, m, q1, q2, by simpa using q3, q4, run_findKey hud q5, q6⟩
theorem doUpdate_ok {φ : Emb} {st : St} {w : World} (hw : relW (Sl P) (Nt P) φ st w) {kk : KK} {t el : Nat} (ht : mapT P t = some (kk, el)) {m : RV} {my : Value} (hm : relV φ m my)
    {key : Cell} {y : Value} (hk : relC φ key y) {v : El} {vy : Value} (hv : relEl φ v vy) {k : St → R} (h : doUpdate kk st m key v k = .ok) : ∃ st' w', k st' = .ok ∧ Ext (Sl P) (Nt P) φ st w φ st' w' ∧ (Instr.mapUpdate t my y vy).run P w = .ok () w' := by
  unfold doUpdate at h
  split at h
  · rename_i hko
    split at h
    · rename_i p
      obtain ⟨l, hl, hm⟩ := hm
      subst hm
      obtain ⟨b, hb, h⟩ := ownBlk_ok h
      split at h
      · rename_i es c
        have go : ∀ res, findKey key es 0 = some res → ∃ kt d ms, P.underlying t = some (.map kt el) ∧ (∀ n, (Instr.checkKey false (n + 1) kt y).run P w = .ok () w) ∧ w.heap[l.b]? = some (.map ms c) ∧ Rel2 (relEnt φ) es ms.toList ∧ d = () ∧
            ((res = none ∧ (Instr.findKey kt y ms.toList).run P w = .ok none w) ∨ ∃ i e m, res = some (i, e) ∧ es[i]? = some e ∧ ms[i]? = some m ∧ relEnt φ e m ∧ (Instr.findKey kt y ms.toList).run P w = .ok (some (i, m.val)) w ∧ Instr.sameBits 10000 m.key y = true) := by
          intro res hf
          obtain ⟨kt, d, ms, a1, a2, a3, a4, a5, a6⟩ := search_ok hw ht hl (look_own hb) hk hko hf
          exact ⟨kt, (), ms, a1, fun n => run_checkKey a2 a3, a4, a5, rfl, a6⟩
        split at h
        · rename_i i en hf
          obtain ⟨kt, _, ms, a1, a2, a3, a4, _, a5⟩ := go _ hf
          rcases a5 with ⟨a5, _⟩ | ⟨j, e, m, a5, a6, a7, a8, a9, a10⟩
          · cases a5
          cases a5
          obtain ⟨st', s1, s2, h⟩ := putBlk_ok h
          refine ⟨st', _, h, putMap_ok hw hl hb (ms := ms.modify i fun e => { e with key := y, val := vy }) ?_ s1 s2, ?_⟩
          · rw [toList_modify]
            exact a4.modify i fun a b _ _ hab => ⟨hk, hv, hab.2.2⟩
          · unfold Instr.mapUpdate
            rw [run_bind_ok (run_underlying a1)]
            simp only []
            rw [run_bind_ok (run_getObj a3 (by intros; simp))]
            simp only []
            rw [run_bind_ok (a2 _), run_bind_ok a9]
            simp only [a7, Option.map_some, Option.getD_some]
            rw [run_bind_ok (run_keyThatStays a10), run_setObj a3 (by intros; simp)]
        · rename_i hf
          obtain ⟨kt, _, ms, a1, a2, a3, a4, _, a5⟩ := go _ hf
          rcases a5 with ⟨_, a5⟩ | ⟨j, e, m, a5, a6, a7, a8, a9, a10⟩
          · rw [fz_eq] at h
            obtain ⟨st', s1, s2, h⟩ := putBlk_ok h
            refine ⟨st', _, h, putMap_ok hw hl hb (ms := ms.push { key := y, val := vy, born := c }) ?_ s1 s2, ?_⟩
            · rw [Array.toList_push]
              exact a4.append (.cons ⟨hk, hv, rfl⟩ .nil)
            · unfold Instr.mapUpdate
              rw [run_bind_ok (run_underlying a1)]
              simp only []
              rw [run_bind_ok (run_getObj a3 (by intros; simp))]
              simp only []
              rw [run_bind_ok (a2 _), run_bind_ok a5]
              simp only []
              rw [run_setObj a3 (by intros; simp)]
          · cases a5
        · cases h
      · cases h
    · cases h
  · cases h
theorem update_op {t el : Nat} {kk : KK} {x y z : Operand} (ho : o.op = .mapUpdate t x y z ∨ o.op = .insert t x y z) (ht : mapT P t = some (kk, el)) :
    OCok P r gl ds o ⟨fun _ e fr st k => (src P gl ds x).run e fr fun m => (src P gl ds y).run e fr fun key => rvC key fun key => (src P gl ds z).run e fr fun v => rvEl v fun v => doUpdate kk st m key v fun st => k noVal st⟩ cl := by
  intro φ a w e fr st k hh hw h
  obtain ⟨m, h1, h2⟩ := src_ok (h : (src P gl ds x).run e fr _ = .ok)
  obtain ⟨key, h3, h4⟩ := src_ok h1
  obtain ⟨c, rfl, h5⟩ := rvC_ok h3
  obtain ⟨v, h6, h7⟩ := src_ok h5
  obtain ⟨v, h8, h9⟩ := rvEl_ok h6
  obtain ⟨st', w', g1, g2, g3⟩ := doUpdate_ok hw ht (h2 φ a hh) (h4 φ a hh) (h9 φ _ (h7 φ a hh)) h8
  refine ⟨noVal, st', g1, .of_run (by rcases ho with ho | ho <;> simp [ho]) g2 noVal_rel (.inr ⟨?_, rfl⟩)⟩
  rcases ho with ho | ho <;> simp only [execOp, ho] <;> exact run_bind_ok g3
theorem doEntry_ok {φ : Emb} {st : St} {w : World} (hw : relW (Sl P) (Nt P) φ st w) {kk : KK} {t el : Nat} {zero : El} (ht : mapT P t = some (kk, el)) (hz : zeroOf P el = some zero) {m : RV} {my : Value} (hm : relV φ m my)
    {key : Cell} {y : Value} (hk : relC φ key y) {k : RV → St → R} (h : doEntry kk zero st m key k = .ok) : ∃ v st' cv w', k v st' = .ok ∧ Ext (Sl P) (Nt P) φ st w φ st' w' ∧ relV φ v cv ∧ (Instr.mapEntry t my y).run P w = .ok cv w' := by
  obtain ⟨iz, vz, hiz, hvz, hzr⟩ := zeroOf_ok hz
  unfold doEntry at h
  split at h
  · rename_i hko
    split at h
    · rename_i p
      obtain ⟨l, hl, hm⟩ := hm
      subst hm
      obtain ⟨b, hb, h⟩ := ownBlk_ok h
      split at h
      · rename_i es c
        split at h
        · rename_i i en hf
          obtain ⟨kt, d, ms, a1, a2, a2', a3, a4, a5⟩ := search_ok hw ht hl (look_own hb) hk hko hf
          rcases a5 with ⟨a5, _⟩ | ⟨j, e, m, a5, a6, a7, a8, a9, a10⟩
          · cases a5
          cases a5
          obtain ⟨st', s1, s2, h⟩ := putBlk_ok h
          refine ⟨_, st', .tuple #[m.val, goInt m.born], _, h, putMap_ok hw hl hb (ms := ms.modify i fun e => { e with key := y }) ?_ s1 s2, ⟨_, rfl, .cons a8.2.1 (.cons (by show _ = _; rw [a8.2.2]; rfl) .nil)⟩, ?_⟩
          · rw [toList_modify]
            exact a4.modify i fun a b _ _ hab => ⟨hk, hab.2.1, hab.2.2⟩
          · unfold Instr.mapEntry
            rw [run_bind_ok (run_underlying a1)]
            simp only []
            rw [run_bind_ok (run_getObj a3 (by intros; simp))]
            simp only []
            rw [run_bind_ok (run_checkKey a2 a2'), run_bind_ok a9]
            simp only [a7, Option.map_some, Option.getD_some]
            rw [run_bind_ok (run_keyThatStays a10), run_bind_ok (run_setObj a3 (by intros; simp))]; rfl
        · rename_i hf
          obtain ⟨kt, d, ms, a1, a2, a2', a3, a4, a5⟩ := search_ok hw ht hl (look_own hb) hk hko hf
          rcases a5 with ⟨_, a5⟩ | ⟨j, e, m, a5, a6, a7, a8, a9, a10⟩
          · rw [fz_eq] at h
            obtain ⟨st', s1, s2, h⟩ := putBlk_ok h
            refine ⟨_, st', .tuple #[vz, goInt c], _, h, putMap_ok hw hl hb (ms := ms.push { key := y, val := vz, born := c }) ?_ s1 s2, ⟨_, rfl, .cons (hzr φ) (.cons rfl .nil)⟩, ?_⟩
            · rw [Array.toList_push]
              exact a4.append (.cons ⟨hk, hzr φ, rfl⟩ .nil)
            · unfold Instr.mapEntry
              rw [run_bind_ok (run_underlying a1)]
              simp only []
              rw [run_bind_ok (run_getObj a3 (by intros; simp))]
              simp only []
              rw [run_bind_ok (run_checkKey a2 a2'), run_bind_ok a5]
              simp only []
              rw [run_bind_ok (run_zeroValue hiz hvz), run_bind_ok (run_setObj a3 (by intros; simp))]; rfl
          · cases a5
        · cases h
      · cases h
    · cases h
  · cases h
theorem entry_op {t el : Nat} {kk : KK} {x y : Operand} {zero : El} (ho : o.op = .mapEntry t x y) (ht : mapT P t = some (kk, el)) (hz : zeroOf P el = some zero) :
    OCok P r gl ds o ⟨fun _ e fr st k => (src P gl ds x).run e fr fun m => (src P gl ds y).run e fr fun key => rvC key fun key => doEntry kk zero st m key k⟩ cl := by
  intro φ a w e fr st k hh hw h
  obtain ⟨m, h1, h2⟩ := src_ok (h : (src P gl ds x).run e fr _ = .ok)
  obtain ⟨key, h3, h4⟩ := src_ok h1
  obtain ⟨c, rfl, h5⟩ := rvC_ok h3
  obtain ⟨v, st', cv, w', h6, h7, h8, h9⟩ := doEntry_ok hw ht hz (h2 φ a hh) (h4 φ a hh) h5
  refine ⟨v, st', h6, .of_run (by simp [ho]) h7 h8 (.inl ?_)⟩
  simp only [execOp, ho]
  rw [run_bind_ok h9]; rfl
end
end Ev
/-! Builtin functions; iterators. -/
namespace Ev
open Go
set_option linter.unusedVariables false
variable {P : Program}

theorem lget_arr {α : Type} (l : Array α) (i : Nat) : lget l.toList i = l[i]? := by rw [lget_eq]; simp
theorem args1 {φ : Emb} {ρ : Operand → Value} {c : Call} {x : El} (h : Rel2 (relEl φ) [x] (c.args.toList.map ρ)) : ∃ y, c.args.map ρ = #[y] ∧ relEl φ x y := by
  generalize hl : c.args.toList.map ρ = l at h
  cases h with
  | cons h1 h2 => cases h2; exact ⟨_, args_eq hl, h1⟩
theorem args2 {φ : Emb} {ρ : Operand → Value} {c : Call} {x z : El} (h : Rel2 (relEl φ) [x, z] (c.args.toList.map ρ)) : ∃ y u, c.args.map ρ = #[y, u] ∧ relEl φ x y ∧ relEl φ z u := by
  generalize hl : c.args.toList.map ρ = l at h
  cases h with
  | cons h1 h2 => cases h2 with | cons h2 h3 => cases h3; exact ⟨_, _, args_eq hl, h1, h2⟩
theorem cN_ok {c : Cell} {k : Nat → R} (h : cN c k = .ok) : ∃ n, k n = .ok ∧ ∀ φ y, relC φ c y → ∃ j, y = .int j (.ofNat n) := vN_ok (v := .c c) h
section
variable {r : Option Nat} {gl ds : List Nat} {o : Oper} {cl : Caller}
/-- a builtin's call that yields a value -/
theorem of_builtin {φ ψ : Emb} {a : Act} {w w' : World} {st st' : St} {v : RV} {cv : Value} {c : Call} {b : Builtin} {s : Sem Value} (ho : o.op = .call c) (hc : c.callee = .builtin b)
    (hb : ∀ cs as, builtin b c.argTypes o.type cs as = (do pure (.value (← s)) : Sem Next) ∨ as ≠ c.args.map a.eval)
    (h1 : Ext (Sl P) (Nt P) φ st w ψ st' w') (h2 : relV ψ v cv) (h3 : s.run P w = .ok cv w') : OpAt P r o φ a w st v st' := by
  refine .of_run (by simp [ho]) h1 h2 (.inl ?_)
  rw [call_builtin ho hc]
  rcases hb _ (c.args.map a.eval) with h | h
  · rw [h, run_bind_ok h3]; rfl
  · exact absurd rfl h
theorem run_builtin {a : Act} {w w' : World} {cv : Value} {c : Call} {b : Builtin} {s : Sem Value} {as : Array Value} (ho : o.op = .call c) (hc : c.callee = .builtin b) (has : c.args.map a.eval = as)
    (hb : ∀ cs, builtin b c.argTypes o.type cs as = (do pure (.value (← s)) : Sem Next)) (h3 : s.run P w = .ok cv w') : (execOp a.eval o).run P w = .ok (.value cv) w' := by
  rw [call_builtin ho hc, has, hb, run_bind_ok h3]; rfl
theorem append_ops {c : Call} {elem : Nat} {ti : TI} {t1 : TypeDesc} (ho : o.op = .call c) (hc : c.callee = .builtin .append) (hu : c.argTypes.toList.head?.bind (und P) = some (.slice elem)) (ht : tinfo P elem = some ti)
    (hx : (lget c.argTypes.toList 1).bind (und P) = some t1) :
    ((∀ k, t1 ≠ .int k) → OCok P r gl ds o ⟨fun _ e fr st k => (srcs P gl ds c.args.toList).run e fr fun vs => match vs with
            | [.c s, x] => addedR ti.size st x fun n new => doAppend elem ti.size ti.bytes st s n new k
            | _ => .bad 49⟩ cl) ∧
    ((∃ k, t1 = .int k) → OCok P r gl ds o ⟨fun _ e fr st k => (srcs P gl ds c.args.toList).run e fr fun vs => match vs with
            | [.c s, .c m] => cN m fun n => if n * ti.bytes > 1000000000 ∨ n > 1000000000 then .bad 48 else repR ti.zero n fun new => doAppend elem ti.size ti.bytes st s n new k
            | _ => .bad 48⟩ cl) := by
  obtain ⟨t0, h1, h2⟩ := bind_und hu
  rw [head_eq] at h1
  obtain ⟨u1, h3, h4⟩ := bind_und hx
  rw [lget_arr] at h3
  have hti := tinfo_ok ht
  obtain ⟨i, hi, hs, hb, z, hz, hzr⟩ := hti.info
  have hT : ∀ zeros, zeros = (t1 matches .int _) → AppT P c.argTypes elem zeros := fun zeros hz => ⟨⟨t0, h1, h2⟩, u1, t1, h3, h4, hz⟩
  have fin : ∀ {φ : Emb} {a : Act} {w : World} {st st' : St} {v : RV} {ψ w' cv} {ys x : Value}, c.args.map a.eval = #[ys, x] → Ext (Sl P) (Nt P) φ st w ψ st' w' → relV ψ v cv → (Builtin.append_ c.argTypes o.type #[ys, x]).run P w = .ok cv w' → OpAt P r o φ a w st v st' := by
    intro φ a w st st' v ψ w' cv ys x ha e1 e2 e3
    exact .of_run (by simp [ho]) e1 e2 (.inl (run_builtin ho hc ha (fun _ => rfl) e3))
  constructor
  · intro hn φ a w e fr st k hh hw h
    obtain ⟨vs, h5, h6⟩ := srcs_ok (h : (srcs P gl ds _).run e fr _ = .ok)
    split at h5
    · rename_i s x
      obtain ⟨ys, yx, ha, r1, r2⟩ := args2 (h6 φ a hh)
      obtain ⟨n, new, vs, h7, h8, h9, h10, h11⟩ := addedR_ok hw r2 h5
      have hsz : z.cells.size = i.size := by
        have := ropeOfV_rel (φ := φ) hzr
        rw [hs, ← hti.zsize, ← ti.zero.length_toL this.1, this.2.length]; simp
      have hvl : vs.length = n * ti.size := by rw [← h8.2.length, new.length_toL h8.1, h9]
      rw [← hs, ← hb] at h7
      obtain ⟨v, st', g1, ψ, w', cv, g2, g3, g4⟩ := doAppend_ok (zeros := false) (x := yx) (ty := o.type) hw (hT false (by cases t1 <;> first | rfl | exact absurd rfl (hn _))) hi hz hsz r1 h8 (by rw [h9, hs]) (.inr ⟨rfl, h10, fun w' hw' => by
        have := h11 n (Nat.le_refl _) w' hw'
        rw [List.take_of_length_le (by omega)] at this
        rw [hs]; exact this⟩) h7
      exact ⟨v, st', g1, fin ha g2 g3 g4⟩
    · cases h5
  · intro hn φ a w e fr st k hh hw h
    obtain ⟨vs, h5, h6⟩ := srcs_ok (h : (srcs P gl ds _).run e fr _ = .ok)
    split at h5
    · rename_i s m
      obtain ⟨ys, yx, ha, r1, r2⟩ := args2 (h6 φ a hh)
      obtain ⟨n, h7, h8⟩ := cN_ok h5
      obtain ⟨j, rfl⟩ := h8 φ yx r2
      split at h7
      · cases h7
      rename_i hck
      obtain ⟨new, w1, w2, h7⟩ := repR_ok hti.zero_wf h7
      obtain ⟨q1, q2, q3⟩ := zeroRow_ok (φ := φ) hti w1 w2 hi hz
      rw [← hs, ← hb] at h7
      have hzc : z.cells.size = i.size := by rw [q1, hs]
      obtain ⟨v, st', g1, ψ, w', cv, g2, g3, g4⟩ := doAppend_ok (zeros := true) (x := .int j (.ofNat n)) (ty := o.type) hw (hT true (by obtain ⟨k, rfl⟩ := hn; rfl)) hi hz hzc r1 q3 (by rw [q2, hs])
        (.inl ⟨rfl, ⟨j, rfl⟩, by rw [hb]; omega, by omega, z, ⟨i, hi, hz⟩, by rw [Array.toArray_toList]; unfold Builtin.zeroCells; rw [q1], fun h0 => by rw [hs] at h0; rw [h0]; simp⟩) h7
      exact ⟨v, st', g1, fin ha g2 g3 g4⟩
    · cases h5
theorem copy_op {c : Call} {elem esz : Nat} (ho : o.op = .call c) (hc : c.callee = .builtin .copy) (hu : c.argTypes.toList.head?.bind (und P) = some (.slice elem)) (hs : sizeO P elem = some esz) :
    OCok P r gl ds o ⟨fun _ e fr st k => (srcs P gl ds c.args.toList).run e fr fun vs => copyTo esz st vs k⟩ cl := by
  intro φ a w e fr st k hh hw h
  obtain ⟨t0, h1, h2⟩ := bind_und hu
  rw [head_eq] at h1
  obtain ⟨i, hi, hsz⟩ := sizeO_ok hs
  obtain ⟨vs, h5, h6⟩ := srcs_ok (h : (srcs P gl ds _).run e fr _ = .ok)
  unfold copyTo at h5
  split at h5
  · rename_i d x
    obtain ⟨ys, yx, ha, r1, r2⟩ := args2 (h6 φ a hh)
    obtain ⟨m, new, vs, h7, h8, h9, h10, h11⟩ := addedR_ok hw r2 h5
    have hvl : vs.length = m * esz := by rw [← h8.2.length, new.length_toL h8.1, h9]
    have run : ∀ (base : Option Addr) (dl cap n : Nat) (w' : World), ys = .slice base dl cap → n = min m dl → (match base with | some a => (storeCells a (vs.take (n * esz)) 0).run P w | none => .ok () w) = .ok () w' →
        (Builtin.copy_ c.argTypes o.type #[ys, yx]).run P w = .ok (goInt n) w' := by
      intro base dl cap n w' hys hn hst
      subst hys
      unfold Builtin.copy_
      simp only [h1, List.getElem?_toArray, List.getElem?_cons_zero, List.getElem?_cons_succ]
      rw [run_bind_ok (run_underlying h2)]
      simp only []
      rw [run_bind_ok h10, run_bind_ok (run_sizeOf hi), hsz]
      have hmin : Nat.min m dl = n := hn.symm
      rw [hmin, run_bind_ok (h11 n (by omega) w rfl)]
      cases base with
      | none => cases hst; rfl
      | some ad => simp only [] at hst ⊢; rw [run_bind_ok hst]; rfl
    have zero : ∀ (base : Option Addr) (dl cap : Nat), ys = .slice base dl cap → min m dl = 0 → k (.c (.i 0)) st = .ok → ∃ v st', k v st' = .ok ∧ OpAt P r o φ a w st v st' := by
      intro base dl cap hys h0 hk
      refine ⟨_, st, hk, .of_run (by simp [ho]) (Ext.refl hw) (cv := goInt (0 : Nat)) rfl (.inl (run_builtin ho hc ha (fun _ => rfl) (run base dl cap 0 w hys h0.symm ?_)))⟩
      rw [Nat.zero_mul]
      cases base <;> rfl
    have put : ∀ (p : Pos) (off len cap : Nat) (l : Loc), φ p = some l → ys = .slice (some ⟨l.b, l.base + off, none⟩) len cap → ∀ n, n = min m len →
        (new.take (n * esz) fun new => rowOwn st p fun r e ro t => Bool.casesOn ro (r.splice off new (n * esz) fun r => putBlk st p (.cells r e false t) fun st => k (.c (.i n)) st) (.bad 53)) = .ok → ∃ v st', k v st' = .ok ∧ OpAt P r o φ a w st v st' := by
      intro p off len cap l hl hys n hn hk
      obtain ⟨nw, w1, w2, w3, hk⟩ := Rope.take_ok h8.1 hk
      obtain ⟨b, hb, hk⟩ := hGet_ok hk
      obtain ⟨rr, ex, ro, t, rfl, hk⟩ := bCells_ok hk
      rcases bcase hk with ⟨rfl, hk'⟩ | ⟨_, hk'⟩
      · have hnm : n * esz ≤ m * esz := Nat.mul_le_mul_right _ (by omega)
        have hnw : nw.size = n * esz := by rw [w2, h9]; omega
        obtain ⟨r', g1, g2, g3, g4, hk2⟩ := Rope.splice_ok (row_wf hw (look_own hb)) w1 hnw hk'
        obtain ⟨st', s1, s2, hk3⟩ := putBlk_ok hk2
        have hr : relRope φ nw (vs.take (n * esz)) := ⟨w1, by rw [w3]; exact h8.2.take _⟩
        obtain ⟨l', cs, fz, e1, e2, e3, e4, e5, e6⟩ := put_row hw hb hr g1 g2 (by rw [hnw]; exact g3) (by rw [hnw]; exact g4) s1 s2
        rw [hl] at e1; cases e1
        refine ⟨_, st', hk3, .of_run (by simp [ho]) e6 (cv := goInt n) rfl (.inl (run_builtin ho hc ha (fun _ => rfl) (run _ len cap n _ hys hn ?_)))⟩
        simp only []
        have := run_storeCells (P := P) (vs.take (n * esz)) (i := 0) e2 (o := l.base + off) (by rw [Nat.add_zero, e5]; exact e3) (by rw [e5]; intro j h1 h2; exact e4 j (by omega) (by omega)) (rel_plain hr.2)
        rw [this]; simp
      · cases hk'
    split at h7
    · have hys : ys = .slice none 0 0 := r1
      exact zero none 0 0 hys (by simp) h7
    · rename_i p off len cap
      obtain ⟨l, hl, hys⟩ := r1
      rw [fz_eq] at h7
      split at h7
      · rename_i h0; exact zero _ len cap hys h0 h7
      · exact put p off len cap l hl hys _ rfl h7
    · rename_i p off len e'
      obtain ⟨l, cap, o', hl, hys, e1, e2, e3⟩ := r1
      rw [fz_eq] at h7
      split at h7
      · rename_i h0; exact zero _ len cap hys h0 h7
      · rename_i h0
        exact put p off len cap l hl (by rw [hys, e3.resolve_left (by omega)]) _ rfl h7
    · cases h7
  · cases h5
theorem lenKind_ok {t : Option Nat} {d : LK} (h : lenKind P t = some d) : ∃ x u, t = some x ∧ P.underlying x = some u ∧ (match d with
    | .str => u = .string | .sl => ∃ e, u = .slice e | .map => ∃ k e, u = .map k e | .arr n => (∃ e, u = .array n e) ∨ ∃ a e, u = .pointer a ∧ P.underlying a = some (.array n e)) := by
  unfold lenKind at h
  cases t with
  | none => cases h
  | some x =>
    rw [Option.bind_some] at h
    cases hu : und P x with
    | none => rw [hu] at h; cases h
    | some u =>
      rw [hu] at h
      refine ⟨x, u, rfl, und_ok hu, ?_⟩
      split at h
      · rename_i he; cases h; cases he; rfl
      · rename_i he; cases h; cases he; exact ⟨_, rfl⟩
      · rename_i he; cases h; cases he; exact ⟨_, _, rfl⟩
      · rename_i he; cases h; cases he; exact .inl ⟨_, rfl⟩
      · rename_i he
        cases he
        split at h
        · rename_i hb; cases h; exact .inr ⟨_, _, rfl, und_ok hb⟩
        · cases h
      · cases h
theorem len_op {c : Call} {d : LK} (ho : o.op = .call c) (hc : c.callee = .builtin .len) (hd : lenKind P c.argTypes.toList.head? = some d) :
    OCr P gl ds o ⟨fun _ e fr st k => (srcs P gl ds c.args.toList).run e fr fun vs => lenOf d st vs fun v => k v st⟩ cl := by
  intro φ a w e fr st k hh hw h
  obtain ⟨vs, h5, h6⟩ := srcs_ok (h : (srcs P gl ds _).run e fr _ = .ok)
  obtain ⟨t, u, h1, h2, h3⟩ := lenKind_ok hd
  rw [head_eq] at h1
  have run : ∀ (y : Value) (n : Nat), c.args.map a.eval = #[y] → (match u, y with
      | .string, .string s => (pure (goInt s.size) : Sem Value)
      | .array n _, _ => pure (goInt n)
      | .pointer arr, _ => do
        let .array n _ ← underlying arr | stuck "len: pointer to array expected"
        pure (goInt n)
      | .slice _, .slice _ n _ => pure (goInt n)
      | .map _ _, .map none | .chan _ _, .chan none => pure (goInt 0)
      | .map _ _, .map (some r) => do
        let .map entries _ ← getObj r | stuck "len: map expected"
        pure (goInt entries.size)
      | .chan _ _, .chan (some r) => do
        let .chan _ buf _ _ _ timer ← getObj r | stuck "len: channel expected"
        pure (goInt (if timer then 0 else buf.size))
      | _, _ => stuck "len: string, array, pointer to array, slice, map or channel expected").run P w = .ok (goInt n) w → (execOp a.eval o).run P w = .ok (.value (goInt n)) w := by
    intro y n ha hr
    refine run_builtin ho hc ha (fun _ => rfl) ?_
    unfold Builtin.len_
    simp only [h1, List.getElem?_toArray, List.getElem?_cons_zero]
    rw [run_bind_ok (run_underlying h2)]
    exact hr
  unfold lenOf at h5
  split at h5
  · rename_i n
    split at h5
    · rename_i x
      obtain ⟨y, ha, r1⟩ := args1 (h6 φ a hh)
      refine ⟨_, goInt n, h5, rfl, run y n ha ?_⟩
      rcases h3 with ⟨e, rfl⟩ | ⟨b, e, rfl, hb⟩
      · rfl
      · simp only []
        rw [run_bind_ok (run_underlying hb)]; rfl
    · cases h5
  · have h3 : u = .string := h3
    subst h3
    split at h5
    · rename_i n x
      obtain ⟨y, ha, hx, rfl⟩ := args1 (h6 φ a hh)
      exact ⟨_, goInt n, h5, rfl, run _ n ha (by simp only [bytesOf_size]; rfl)⟩
    · cases h5
  · obtain ⟨e', rfl⟩ := h3
    split at h5
    · rename_i n x
      obtain ⟨y, ha, l, hl, rfl⟩ := args1 (h6 φ a hh)
      exact ⟨_, goInt _, h5, rfl, run _ _ ha rfl⟩
    · obtain ⟨y, ha, l, cp, o', hl, rfl, _⟩ := args1 (h6 φ a hh)
      exact ⟨_, goInt _, h5, rfl, run _ _ ha rfl⟩
    · obtain ⟨y, ha, r1⟩ := args1 (h6 φ a hh)
      have hy : y = .slice none 0 0 := r1
      subst hy
      exact ⟨_, goInt (0 : Nat), h5, rfl, run _ 0 ha rfl⟩
    · cases h5
  · obtain ⟨kt, el, rfl⟩ := h3
    split at h5
    · obtain ⟨y, ha, r1⟩ := args1 (h6 φ a hh)
      have hy : y = .map none := r1
      subst hy
      exact ⟨_, goInt (0 : Nat), h5, rfl, run _ 0 ha rfl⟩
    · obtain ⟨y, ha, l, hl, rfl⟩ := args1 (h6 φ a hh)
      obtain ⟨b, hb, h5⟩ := gGet_ok h5
      split at h5
      · rw [fz_eq] at h5
        obtain ⟨ms, g1, g2⟩ := map_blk hw hl hb
        refine ⟨_, goInt _, h5, rfl, run _ _ ha ?_⟩
        simp only []
        rw [run_bind_ok (run_getObj g1 (by intros; simp))]
        simp only []
        have := g2.length
        simp at this
        rw [this]; rfl
      · cases h5
    · cases h5
theorem cap_op {c : Call} (ho : o.op = .call c) (hc : c.callee = .builtin .cap) (hd : lenKind P c.argTypes.toList.head? = some .sl) :
    OCr P gl ds o ⟨fun _ e fr st k => (srcs P gl ds c.args.toList).run e fr fun vs => match vs with
      | [.c (.sl _ _ _ n)] => k (.c (.i n)) st
      | [.c (.nil .s)] => k (.c (.i 0)) st
      | _ => .bad 47⟩ cl := by
  intro φ a w e fr st k hh hw h
  obtain ⟨vs, h5, h6⟩ := srcs_ok (h : (srcs P gl ds _).run e fr _ = .ok)
  obtain ⟨t, u, h1, h2, el, rfl⟩ := lenKind_ok hd
  rw [head_eq] at h1
  have run : ∀ (ad : Option Addr) (l n : Nat), c.args.map a.eval = #[.slice ad l n] → (execOp a.eval o).run P w = .ok (.value (goInt n)) w := by
    intro ad l n ha
    refine run_builtin ho hc ha (fun _ => rfl) ?_
    unfold Builtin.cap_
    simp only [h1, List.getElem?_toArray, List.getElem?_cons_zero]
    rw [run_bind_ok (run_underlying h2)]
    rfl
  split at h5
  · obtain ⟨y, ha, l, hl, rfl⟩ := args1 (h6 φ a hh)
    exact ⟨_, goInt _, h5, rfl, run _ _ _ ha⟩
  · obtain ⟨y, ha, r1⟩ := args1 (h6 φ a hh)
    have hy : y = .slice none 0 0 := r1
    subst hy
    exact ⟨_, goInt (0 : Nat), h5, rfl, run _ _ 0 ha⟩
  · cases h5
theorem mm_ok {φ : Emb} {mx : Bool} (l : List El) : ∀ {x : RV} {y : Value} {ys : List Value} {k : RV → R}, relV φ x y → Rel2 (relEl φ) l ys → mm mx x l k = .ok →
    ∃ v cv, k v = .ok ∧ relV φ v cv ∧ ∀ w : World, (ys.foldlM (if mx then Builtin.max2 else Builtin.min2) y).run P w = .ok cv w := by
  induction l with
  | nil => intro x y ys k hx hr h; cases hr; exact ⟨x, y, h, hx, fun w => rfl⟩
  | cons z l ih =>
    intro x y ys k hx hr h
    cases hr with
    | cons h1 h2 =>
      rename_i yz ys
      cases z with
      | a r => cases h
      | c cz =>
        unfold mm at h
        split at h
        · rename_i cx
          split at h
          · rename_i j u j' v e1 e2
            split at h
            · rename_i hj
              subst hj
              obtain rfl := cellInt_rel (hx : relC φ cx y) e1
              obtain rfl := cellInt_rel (h1 : relC φ _ yz) e2
              rw [List.foldlM_cons]
              cases mx with
              | true =>
                simp only [if_true] at h ⊢
                have hs : ∀ w : World, (Builtin.max2 (.int j u) (.int j v)).run P w = .ok (.int j (if v > u then v else u)) w := fun w => rfl
                split at h
                · rename_i hc
                  obtain ⟨r, cv, g1, g2, g3⟩ := ih (x := .c _) (y := .int j v) h1 h2 h
                  exact ⟨r, cv, g1, g2, fun w => by rw [run_bind_ok (hs w), if_pos hc]; exact g3 w⟩
                · rename_i hc
                  obtain ⟨r, cv, g1, g2, g3⟩ := ih (x := .c _) (y := .int j u) hx h2 h
                  exact ⟨r, cv, g1, g2, fun w => by rw [run_bind_ok (hs w), if_neg hc]; exact g3 w⟩
              | false =>
                simp only [Bool.false_eq_true, if_false] at h ⊢
                have hs : ∀ w : World, (Builtin.min2 (.int j u) (.int j v)).run P w = .ok (.int j (if v < u then v else u)) w := fun w => rfl
                split at h
                · rename_i hc
                  obtain ⟨r, cv, g1, g2, g3⟩ := ih (x := .c _) (y := .int j v) h1 h2 h
                  exact ⟨r, cv, g1, g2, fun w => by rw [run_bind_ok (hs w), if_pos hc]; exact g3 w⟩
                · rename_i hc
                  obtain ⟨r, cv, g1, g2, g3⟩ := ih (x := .c _) (y := .int j u) hx h2 h
                  exact ⟨r, cv, g1, g2, fun w => by rw [run_bind_ok (hs w), if_neg hc]; exact g3 w⟩
            · cases h
          · cases h
        · cases h
theorem mm_op {c : Call} {mx : Bool} (ho : o.op = .call c) (hc : c.callee = .builtin (if mx then .max else .min)) :
    OCr P gl ds o ⟨fun _ e fr st k => (srcs P gl ds c.args.toList).run e fr fun vs => match vs with | x :: rest => mm mx x.rv rest fun v => k v st | _ => .bad 55⟩ cl := by
  intro φ a w e fr st k hh hw h
  obtain ⟨vs, h5, h6⟩ := srcs_ok (h : (srcs P gl ds _).run e fr _ = .ok)
  split at h5
  · rename_i x rest
    have hr := h6 φ a hh
    generalize hl : c.args.toList.map a.eval = l at hr
    cases hr with
    | cons h1 h2 =>
      rename_i y ys
      obtain ⟨v, cv, g1, g2, g3⟩ := mm_ok (P := P) rest (relV_rv h1) h2 h5
      refine ⟨v, cv, g1, g2, ?_⟩
      cases mx with
      | true => exact run_builtin (s := ys.foldlM Builtin.max2 y) ho hc (args_eq hl) (fun _ => rfl) (g3 w)
      | false => exact run_builtin (s := ys.foldlM Builtin.min2 y) ho hc (args_eq hl) (fun _ => rfl) (g3 w)
  · cases h5
end
end Ev
