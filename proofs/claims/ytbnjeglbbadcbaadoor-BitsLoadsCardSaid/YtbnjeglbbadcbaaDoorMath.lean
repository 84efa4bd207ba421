/- Plain facts on words of 64 bits, their masks and their numbers of ones. No program in sight. -/
namespace Go.Proofs.YtbnjeglbbadcbaaDoor.BM

def bitsOf (f : Nat → Bool) : Nat → Nat
  | 0 => 0
  | k + 1 => bitsOf f k ||| (if f k then 2 ^ k else 0)

theorem testBit_bitsOf (f : Nat → Bool) (k j : Nat) : (bitsOf f k).testBit j = (decide (j < k) && f j) := by
  induction k with
  | zero => simp [bitsOf]
  | succ k ih =>
    simp only [bitsOf, Nat.testBit_or, ih]
    by_cases hf : f k
    · simp only [hf, if_true, Nat.testBit_two_pow]
      by_cases e : k = j
      · subst e; simp [hf]
      · have : (j < k + 1) ↔ (j < k) := by omega
        simp [e, this]
    · simp only [hf, Bool.false_eq_true, if_false, Nat.zero_testBit, Bool.or_false]
      by_cases e : j = k
      · subst e; simp [hf]
      · have : (j < k + 1) ↔ (j < k) := by omega
        simp [this]

theorem bitsOf_lt (f : Nat → Bool) (k : Nat) : bitsOf f k < 2 ^ k := by
  apply Nat.lt_pow_two_of_testBit
  intro i hi
  rw [testBit_bitsOf]
  have : ¬ i < k := by omega
  simp [this]

theorem eq_bitsOf {x : Nat} {f : Nat → Bool} {k : Nat} (hx : x < 2 ^ k) (h : ∀ j, j < k → x.testBit j = f j) : x = bitsOf f k := by
  apply Nat.eq_of_testBit_eq
  intro i
  rw [testBit_bitsOf]
  by_cases hi : i < k
  · simp [hi, h i hi]
  · have : x.testBit i = false := Nat.testBit_lt_two_pow (Nat.lt_of_lt_of_le hx (Nat.pow_le_pow_right (by omega) (by omega)))
    simp [hi, this]

theorem bitsOf_congr {f g : Nat → Bool} {k : Nat} (h : ∀ j, j < k → f j = g j) : bitsOf f k = bitsOf g k :=
  eq_bitsOf (bitsOf_lt f k) (fun j hj => by rw [testBit_bitsOf]; simp [hj, h j hj])

/-- the bit p of a list -/
def bt (l : List Bool) (p : Nat) : Bool := l.getD p false

theorem bt_out {l : List Bool} {p : Nat} (h : l.length ≤ p) : bt l p = false := by
  unfold bt; simp [List.getD_eq_getElem?_getD, List.getElem?_eq_none h]
theorem bt_in {l : List Bool} {p : Nat} (h : p < l.length) : bt l p = l[p] := by
  unfold bt; simp [List.getD_eq_getElem?_getD, h]

def word (l : List Bool) (i : Nat) : Nat := bitsOf (fun j => bt l (64 * i + j)) 64

theorem word_lt (l : List Bool) (i : Nat) : word l i < 18446744073709551616 := bitsOf_lt _ 64
theorem word_testBit (l : List Bool) (i j : Nat) : (word l i).testBit j = (decide (j < 64) && bt l (64 * i + j)) := testBit_bitsOf _ _ _
theorem eq_word {x : Nat} {l : List Bool} {i : Nat} (hx : x < 18446744073709551616) (h : ∀ j, j < 64 → x.testBit j = bt l (64 * i + j)) : x = word l i :=
  eq_bitsOf hx h

theorem ext_bt {a b : List Bool} (hl : a.length = b.length) (h : ∀ p, p < a.length → bt a p = bt b p) : a = b := by
  apply List.ext_getElem hl
  intro p h1 h2
  have := h p h1
  rw [bt_in h1, bt_in h2] at this
  exact this

theorem word_inj {a b : List Bool} (hl : a.length = b.length) (h4 : a.length ≤ 4096) (h : ∀ i, i < 64 → word a i = word b i) : a = b := by
  apply ext_bt hl
  intro p hp
  have := congrArg (fun x => x.testBit (p % 64)) (h (p / 64) (by omega))
  simp only [word_testBit] at this
  have e : 64 * (p / 64) + p % 64 = p := by omega
  rw [e] at this
  have : p % 64 < 64 := by omega
  simp_all

/-- the bits of the word i that the range from, n has -/
def maskN (i fr n : Nat) : Nat := bitsOf (fun j => decide (fr ≤ 64 * i + j) && decide (64 * i + j < fr + n)) 64
theorem maskN_lt (i fr n : Nat) : maskN i fr n < 18446744073709551616 := bitsOf_lt _ 64
theorem maskN_testBit (i fr n j : Nat) : (maskN i fr n).testBit j = (decide (j < 64) && (decide (fr ≤ 64 * i + j) && decide (64 * i + j < fr + n))) := testBit_bitsOf _ _ _

/-- ones below hi, and none below lo -/
theorem maskN_eq (i fr n lo hi : Nat) (hhi : hi ≤ 64) (hl : lo ≤ hi) (h : ∀ j, j < 64 → ((fr ≤ 64 * i + j ∧ 64 * i + j < fr + n) ↔ (lo ≤ j ∧ j < hi))) :
    (18446744073709551615 / 2 ^ (64 - hi)) &&& (18446744073709551615 - (2 ^ lo - 1)) = maskN i fr n := by
  apply eq_bitsOf
  · exact Nat.lt_of_le_of_lt (Nat.and_le_right) (by omega)
  · intro j hj
    rw [Nat.testBit_and, Nat.testBit_div_two_pow]
    have e1 : (18446744073709551615 : Nat) = 2 ^ 64 - 1 := by decide
    have e2 : 18446744073709551615 - (2 ^ lo - 1) = 2 ^ 64 - ((2 ^ lo - 1) + 1) := by
      rw [e1]; omega
    have hp : 2 ^ lo ≤ 2 ^ 64 := Nat.pow_le_pow_right (by omega) (by omega)
    have hp0 : 0 < 2 ^ lo := Nat.two_pow_pos lo
    rw [e2, e1, Nat.testBit_two_pow_sub_one, Nat.testBit_two_pow_sub_succ (by omega), Nat.testBit_two_pow_sub_one]
    have := h j hj
    by_cases a : fr ≤ 64 * i + j <;> by_cases b : 64 * i + j < fr + n <;> simp [a, b, hj] at this ⊢ <;> omega

theorem maskN_none (i fr n : Nat) (h : ∀ j, j < 64 → ¬ (fr ≤ 64 * i + j ∧ 64 * i + j < fr + n)) : maskN i fr n = 0 := by
  symm
  apply eq_bitsOf (by decide)
  intro j hj
  have := h j hj
  by_cases a : fr ≤ 64 * i + j <;> by_cases b : 64 * i + j < fr + n <;> simp_all

/-! ### How many ones -/
def cnt (f : Nat → Bool) : Nat → Nat
  | 0 => 0
  | k + 1 => cnt f k + (if f k then 1 else 0)
theorem cnt_le (f : Nat → Bool) (k : Nat) : cnt f k ≤ k := by
  induction k with
  | zero => simp [cnt]
  | succ k ih => simp only [cnt]; split <;> omega
theorem cnt_congr {f g : Nat → Bool} {k : Nat} (h : ∀ j, j < k → f j = g j) : cnt f k = cnt g k := by
  induction k with
  | zero => rfl
  | succ k ih => simp only [cnt, ih (fun j hj => h j (by omega)), h k (by omega)]
theorem cnt_add (f : Nat → Bool) (a b : Nat) : cnt f (a + b) = cnt f a + cnt (fun j => f (a + j)) b := by
  induction b with
  | zero => simp [cnt]
  | succ b ih => rw [← Nat.add_assoc]; simp only [cnt, ih]; omega
theorem cnt_none {f : Nat → Bool} {k : Nat} (h : ∀ j, j < k → f j = false) : cnt f k = 0 := by
  induction k with
  | zero => rfl
  | succ k ih => simp [cnt, ih (fun j hj => h j (by omega)), h k (by omega)]
theorem cnt_all {f : Nat → Bool} {k : Nat} (h : ∀ j, j < k → f j = true) : cnt f k = k := by
  induction k with
  | zero => rfl
  | succ k ih => simp [cnt, ih (fun j hj => h j (by omega)), h k (by omega)]
theorem cnt_eq_all {f : Nat → Bool} {k : Nat} (h : cnt f k = k) : ∀ j, j < k → f j = true := by
  induction k with
  | zero => intro j hj; omega
  | succ k ih =>
    simp only [cnt] at h
    have := cnt_le f k
    intro j hj
    by_cases hk : f k = true
    · simp [hk] at h
      by_cases e : j = k
      · subst e; exact hk
      · exact ih h j (by omega)
    · simp [hk] at h; omega
theorem cnt_eq_none {f : Nat → Bool} {k : Nat} (h : cnt f k = 0) : ∀ j, j < k → f j = false := by
  induction k with
  | zero => intro j hj; omega
  | succ k ih =>
    simp only [cnt] at h
    intro j hj
    by_cases hk : f k = true
    · simp [hk] at h
    · by_cases e : j = k
      · subst e; simpa using hk
      · exact ih (by omega) j (by omega)

/-- the number of ones of a word -/
def pop (x : Nat) : Nat := cnt (fun j => x.testBit j) 64

/-! ### Numbers by digits of s bits -/
def D (s : Nat) (f : Nat → Nat) : Nat → Nat
  | 0 => 0
  | n + 1 => f 0 + 2 ^ s * D s (fun k => f (k + 1)) n

theorem D_congr {s n : Nat} : ∀ {f g : Nat → Nat}, (∀ k, k < n → f k = g k) → D s f n = D s g n := by
  induction n with
  | zero => intros; rfl
  | succ n ih =>
    intro f g h
    simp only [D]
    rw [h 0 (by omega), ih (fun k hk => h (k + 1) (by omega))]

theorem D_add {s n : Nat} : ∀ {f g : Nat → Nat}, D s f n + D s g n = D s (fun k => f k + g k) n := by
  induction n with
  | zero => intros; rfl
  | succ n ih =>
    intro f g
    simp only [D]
    rw [← ih, Nat.mul_add]
    omega

theorem D_div {s n : Nat} (f : Nat → Nat) (h : f 0 < 2 ^ s) : D s f (n + 1) / 2 ^ s = D s (fun k => f (k + 1)) n := by
  simp only [D]
  rw [Nat.add_mul_div_left _ _ (Nat.two_pow_pos s), Nat.div_eq_of_lt h, Nat.zero_add]

/-- a digit more that is 0 -/
theorem D_snoc {s n : Nat} : ∀ {f : Nat → Nat}, f n = 0 → D s f (n + 1) = D s f n := by
  induction n with
  | zero => intro f h; simp [D, h]
  | succ n ih =>
    intro f h
    have := ih (f := fun k => f (k + 1)) h
    show f 0 + 2 ^ s * D s (fun k => f (k + 1)) (n + 1) = f 0 + 2 ^ s * D s (fun k => f (k + 1)) n
    rw [this]

theorem D_lt {s n : Nat} : ∀ {f : Nat → Nat}, (∀ k, k < n → f k < 2 ^ s) → D s f n < 2 ^ (s * n) := by
  induction n with
  | zero => intros; simp [D]
  | succ n ih =>
    intro f h
    simp only [D]
    have h1 := ih (f := fun k => f (k + 1)) (fun k hk => h (k + 1) (by omega))
    have h0 := h 0 (by omega)
    rw [Nat.mul_succ, Nat.pow_add, Nat.mul_comm (2 ^ (s * n))]
    have : 2 ^ s * (D s (fun k => f (k + 1)) n + 1) ≤ 2 ^ s * 2 ^ (s * n) := Nat.mul_le_mul_left _ h1
    rw [Nat.mul_add] at this
    omega

/-- two digits of s bits make one of 2 s -/
theorem D_pair {s n : Nat} : ∀ {f : Nat → Nat}, D s f (2 * n) = D (2 * s) (fun k => f (2 * k) + 2 ^ s * f (2 * k + 1)) n := by
  induction n with
  | zero => intros; rfl
  | succ n ih =>
    intro f
    have e : 2 * (n + 1) = 2 * n + 1 + 1 := by omega
    rw [e]
    simp only [D]
    rw [ih]
    have e2 : (fun k => f (2 * (k + 1)) + 2 ^ s * f (2 * (k + 1) + 1)) = (fun k => f (2 * k + 1 + 1) + 2 ^ s * f (2 * k + 1 + 1 + 1)) := by
      funext k; rw [show 2 * (k + 1) = 2 * k + 1 + 1 by omega]
    rw [e2]
    have e3 : 2 ^ (2 * s) = 2 ^ s * 2 ^ s := by rw [Nat.two_mul, Nat.pow_add]
    rw [e3, Nat.mul_add, Nat.mul_assoc]
    simp only [Nat.mul_zero, Nat.zero_add]
    omega

theorem testBit_lo {s a b j : Nat} (ha : a < 2 ^ s) (hj : j < s) : (a + 2 ^ s * b).testBit j = a.testBit j := by
  rw [Nat.add_comm, Nat.testBit_two_pow_mul_add _ ha]; simp [hj]
theorem testBit_hi {s a b j : Nat} (ha : a < 2 ^ s) (hj : s ≤ j) : (a + 2 ^ s * b).testBit j = b.testBit (j - s) := by
  rw [Nat.add_comm, Nat.testBit_two_pow_mul_add _ ha]
  have : ¬ j < s := by omega
  simp [this]

theorem and_split {s a b c d : Nat} (ha : a < 2 ^ s) (hc : c < 2 ^ s) : (a + 2 ^ s * b) &&& (c + 2 ^ s * d) = (a &&& c) + 2 ^ s * (b &&& d) := by
  apply Nat.eq_of_testBit_eq
  intro j
  have hac : a &&& c < 2 ^ s := Nat.lt_of_le_of_lt Nat.and_le_left ha
  rw [Nat.testBit_and]
  by_cases hj : j < s
  · rw [testBit_lo ha hj, testBit_lo hc hj, testBit_lo hac hj, Nat.testBit_and]
  · have hj' : s ≤ j := by omega
    rw [testBit_hi ha hj', testBit_hi hc hj', testBit_hi hac hj', Nat.testBit_and]

/-- the digits at even places -/
theorem D_and {s n : Nat} : ∀ {f m : Nat → Nat}, (∀ k, k < n → f k < 2 ^ s) → (∀ k, k < n → m k < 2 ^ s) → D s f n &&& D s m n = D s (fun k => f k &&& m k) n := by
  induction n with
  | zero => intros; simp [D]
  | succ n ih =>
    intro f m h1 h2
    simp only [D]
    rw [and_split (h1 0 (by omega)) (h2 0 (by omega)), ih (fun k hk => h1 (k + 1) (by omega)) (fun k hk => h2 (k + 1) (by omega))]

theorem D_bits : ∀ (n x : Nat), x < 2 ^ n → x = D 1 (fun j => if x.testBit j then 1 else 0) n := by
  intro n
  induction n with
  | zero => intro x h; simp at h; simp [D, h]
  | succ n ih =>
    intro x h
    simp only [D]
    have h2 := ih (x / 2) (by rw [Nat.pow_succ] at h; omega)
    have e : (fun j => if x.testBit (j + 1) then 1 else 0) = (fun j => if (x / 2).testBit j then 1 else 0) := by
      funext j; rw [Nat.testBit_add_one]
    rw [e, ← h2, Nat.testBit_zero]
    split <;> rename_i hb <;> simp at hb <;> omega


theorem D_div' {s n : Nat} (f : Nat → Nat) (h : f 0 < 2 ^ s) (hn : f n = 0) : D s f n / 2 ^ s = D s (fun k => f (k + 1)) n := by
  rw [← D_snoc hn, D_div f h]

theorem D_even {s n : Nat} {f : Nat → Nat} (h : ∀ k, k < 2 * n → f k < 2 ^ s) : D s f (2 * n) &&& D (2 * s) (fun _ => 2 ^ s - 1) n = D (2 * s) (fun k => f (2 * k)) n := by
  have hp := Nat.two_pow_pos s
  have e3 : 2 ^ (2 * s) = 2 ^ s * 2 ^ s := by rw [Nat.two_mul, Nat.pow_add]
  rw [D_pair, D_and]
  · apply D_congr
    intro k hk
    rw [Nat.and_two_pow_sub_one_eq_mod, Nat.add_mul_mod_self_left, Nat.mod_eq_of_lt (h _ (by omega))]
  · intro k hk
    have h1 := h (2 * k) (by omega)
    have h2 := h (2 * k + 1) (by omega)
    have : 2 ^ s * (f (2 * k + 1) + 1) ≤ 2 ^ s * 2 ^ s := Nat.mul_le_mul_left _ h2
    rw [Nat.mul_add] at this
    omega
  · intro k hk
    have : 1 ≤ 2 ^ s := hp
    have : 2 ^ s * 1 ≤ 2 ^ s * 2 ^ s := Nat.mul_le_mul_left _ this
    omega

/-- one step: each digit and its neighbour -/
theorem swar {s n : Nat} {f : Nat → Nat} (h : ∀ k, f k < 2 ^ s) (hn : f (2 * n) = 0) :
    (D s f (2 * n) / 2 ^ s &&& D (2 * s) (fun _ => 2 ^ s - 1) n) + (D s f (2 * n) &&& D (2 * s) (fun _ => 2 ^ s - 1) n) = D (2 * s) (fun k => f (2 * k) + f (2 * k + 1)) n := by
  rw [D_div' f (h 0) hn, D_even (fun k _ => h k), D_even (fun k _ => h (k + 1)), D_add]
  apply D_congr
  intro k hk
  omega

def b01 (x j : Nat) : Nat := if x.testBit j then 1 else 0
theorem b01_le (x j : Nat) : b01 x j ≤ 1 := by unfold b01; split <;> omega
theorem b01_out {x j : Nat} (hx : x < 2 ^ 64) (h : 64 ≤ j) : b01 x j = 0 := by
  unfold b01
  rw [Nat.testBit_lt_two_pow (Nat.lt_of_lt_of_le hx (Nat.pow_le_pow_right (by omega) h))]
  rfl

def m0 : Nat := 6148914691236517205
def m1 : Nat := 3689348814741910323
def m2 : Nat := 1085102592571150095
theorem m0_eq : D 2 (fun _ => 2 ^ 1 - 1) 32 = m0 := by decide +kernel
theorem m1_eq : D 4 (fun _ => 2 ^ 2 - 1) 16 = m1 := by decide +kernel
theorem m2_eq : D 8 (fun _ => 2 ^ 4 - 1) 8 = m2 := by decide +kernel

def st1 (x : Nat) : Nat := (x / 2 &&& m0) + (x &&& m0)
def st2 (x : Nat) : Nat := (x / 4 &&& m1) + (x &&& m1)
def st3 (x : Nat) : Nat := (x / 16 + x) &&& m2
def st4 (x : Nat) : Nat := x + x / 256
def st5 (x : Nat) : Nat := x + x / 65536
def st6 (x : Nat) : Nat := x + x / 4294967296

def f1 (x k : Nat) : Nat := b01 x (2 * k) + b01 x (2 * k + 1)
def f2 (x k : Nat) : Nat := f1 x (2 * k) + f1 x (2 * k + 1)
def f3 (x k : Nat) : Nat := f2 x (2 * k) + f2 x (2 * k + 1)
theorem f1_le (x k : Nat) : f1 x k ≤ 2 := by have := b01_le x (2 * k); have := b01_le x (2 * k + 1); unfold f1; omega
theorem f2_le (x k : Nat) : f2 x k ≤ 4 := by have := f1_le x (2 * k); have := f1_le x (2 * k + 1); unfold f2; omega
theorem f3_le (x k : Nat) : f3 x k ≤ 8 := by have := f2_le x (2 * k); have := f2_le x (2 * k + 1); unfold f3; omega
theorem f1_out {x k : Nat} (hx : x < 2 ^ 64) (h : 32 ≤ k) : f1 x k = 0 := by unfold f1; rw [b01_out hx (by omega), b01_out hx (by omega)]
theorem f2_out {x k : Nat} (hx : x < 2 ^ 64) (h : 16 ≤ k) : f2 x k = 0 := by unfold f2; rw [f1_out hx (by omega), f1_out hx (by omega)]
theorem f3_out {x k : Nat} (hx : x < 2 ^ 64) (h : 8 ≤ k) : f3 x k = 0 := by unfold f3; rw [f2_out hx (by omega), f2_out hx (by omega)]

theorem st1_eq {x : Nat} (hx : x < 2 ^ 64) : st1 x = D 2 (f1 x) 32 := by
  have hd : x = D 1 (b01 x) (2 * 32) := D_bits 64 x hx
  have := swar (s := 1) (n := 32) (f := b01 x) (fun k => Nat.lt_of_le_of_lt (b01_le x k) (by decide)) (b01_out hx (by omega))
  rw [← hd] at this
  simp only [Nat.mul_one] at this
  rw [m0_eq] at this
  exact this

theorem st2_eq {x : Nat} (hx : x < 2 ^ 64) : st2 (st1 x) = D 4 (f2 x) 16 := by
  have := swar (s := 2) (n := 16) (f := f1 x) (fun k => Nat.lt_of_le_of_lt (f1_le x k) (by decide)) (f1_out hx (by omega))
  rw [st1_eq hx]
  simp only [Nat.reduceMul] at this
  rw [m1_eq] at this
  exact this

theorem st3_eq {x : Nat} (hx : x < 2 ^ 64) : st3 (st2 (st1 x)) = D 8 (f3 x) 8 := by
  rw [st2_eq hx]
  have h1 : D 4 (f2 x) 16 / 16 = D 4 (fun k => f2 x (k + 1)) 16 := D_div' (s := 4) (f2 x) (Nat.lt_of_le_of_lt (f2_le x 0) (by decide)) (f2_out hx (by omega))
  have h2 := D_even (s := 4) (n := 8) (f := fun k => f2 x (k + 1) + f2 x k) (fun k _ => by have := f2_le x (k + 1); have := f2_le x k; show _ < 16; omega)
  simp only [Nat.reduceMul] at h2
  rw [m2_eq] at h2
  unfold st3
  rw [h1, D_add, h2]
  apply D_congr
  intro k hk
  unfold f3
  omega

theorem shiftadd {f : Nat → Nat} (c n M : Nat) (hM : M < 256) (h : ∀ k, f k ≤ M) (hz : ∀ k, n ≤ k → f k = 0) : D 8 f n / 256 ^ c = D 8 (fun k => f (k + c)) n := by
  induction c with
  | zero => simp
  | succ c ih =>
    rw [Nat.pow_succ, ← Nat.div_div_eq_div_mul, ih]
    have := D_div' (s := 8) (n := n) (fun k => f (k + c)) (Nat.lt_of_le_of_lt (h _) hM) (hz _ (by omega))
    rw [show (2 : Nat) ^ 8 = 256 by decide] at this
    rw [this]
    apply D_congr
    intro k hk
    show f (k + 1 + c) = f (k + (c + 1))
    rw [Nat.add_right_comm, Nat.add_assoc]

def g4 (x k : Nat) : Nat := f3 x k + f3 x (k + 1)
def g5 (x k : Nat) : Nat := g4 x k + g4 x (k + 2)
def g6 (x k : Nat) : Nat := g5 x k + g5 x (k + 4)
theorem g4_le (x k : Nat) : g4 x k ≤ 16 := by have := f3_le x k; have := f3_le x (k + 1); unfold g4; omega
theorem g5_le (x k : Nat) : g5 x k ≤ 32 := by have := g4_le x k; have := g4_le x (k + 2); unfold g5; omega
theorem g6_le (x k : Nat) : g6 x k ≤ 64 := by have := g5_le x k; have := g5_le x (k + 4); unfold g6; omega
theorem g4_out {x k : Nat} (hx : x < 2 ^ 64) (h : 8 ≤ k) : g4 x k = 0 := by unfold g4; rw [f3_out hx (by omega), f3_out hx (by omega)]
theorem g5_out {x k : Nat} (hx : x < 2 ^ 64) (h : 8 ≤ k) : g5 x k = 0 := by unfold g5; rw [g4_out hx (by omega), g4_out hx (by omega)]

theorem st4_eq {x : Nat} (hx : x < 2 ^ 64) : st4 (st3 (st2 (st1 x))) = D 8 (g4 x) 8 := by
  rw [st3_eq hx]
  have := shiftadd (f := f3 x) 1 8 8 (by omega) (f3_le x) (fun k hk => f3_out hx hk)
  unfold st4
  rw [show (256 : Nat) = 256 ^ 1 by decide, this, D_add]
  rfl
theorem st5_eq {x : Nat} (hx : x < 2 ^ 64) : st5 (st4 (st3 (st2 (st1 x)))) = D 8 (g5 x) 8 := by
  rw [st4_eq hx]
  have := shiftadd (f := g4 x) 2 8 16 (by omega) (g4_le x) (fun k hk => g4_out hx hk)
  unfold st5
  rw [show (65536 : Nat) = 256 ^ 2 by decide, this, D_add]
  rfl
theorem st6_eq {x : Nat} (hx : x < 2 ^ 64) : st6 (st5 (st4 (st3 (st2 (st1 x))))) = D 8 (g6 x) 8 := by
  rw [st5_eq hx]
  have := shiftadd (f := g5 x) 4 8 32 (by omega) (g5_le x) (fun k hk => g5_out hx hk)
  unfold st6
  rw [show (4294967296 : Nat) = 256 ^ 4 by decide, this, D_add]
  rfl

theorem pop_sum (x : Nat) : pop x = g6 x 0 := by
  have e : ∀ j, (if x.testBit j then 1 else 0) = b01 x j := fun j => rfl
  unfold pop
  simp only [cnt, e, g6, g5, g4, f3, f2, f1]
  simp only [Nat.reduceAdd, Nat.reduceMul]
  omega

theorem ones_eq {x : Nat} (hx : x < 2 ^ 64) : st6 (st5 (st4 (st3 (st2 (st1 x))))) % 128 = pop x := by
  rw [st6_eq hx, pop_sum]
  have : g6 x 0 ≤ 64 := g6_le x 0
  simp only [D]
  omega

/-- no sum on the way passes 2^64 -/
theorem D_lt' {s n M : Nat} {f : Nat → Nat} (hM : M < 2 ^ s) (h : ∀ k, f k ≤ M) (e : s * n = 64) : D s f n < 18446744073709551616 := by
  have := D_lt (s := s) (n := n) (f := f) (fun k _ => Nat.lt_of_le_of_lt (h k) hM)
  rw [e] at this
  exact this
theorem st1_lt {x : Nat} (hx : x < 2 ^ 64) : st1 x < 18446744073709551616 := by rw [st1_eq hx]; exact D_lt' (M := 2) (by decide) (f1_le x) (by decide)
theorem st2_lt {x : Nat} (hx : x < 2 ^ 64) : st2 (st1 x) < 18446744073709551616 := by rw [st2_eq hx]; exact D_lt' (M := 4) (by decide) (f2_le x) (by decide)
theorem st3_pre {x : Nat} (hx : x < 2 ^ 64) : st2 (st1 x) / 16 + st2 (st1 x) < 18446744073709551616 := by
  rw [st2_eq hx]
  have h1 : D 4 (f2 x) 16 / 16 = D 4 (fun k => f2 x (k + 1)) 16 := D_div' (s := 4) (f2 x) (Nat.lt_of_le_of_lt (f2_le x 0) (by decide)) (f2_out hx (by omega))
  rw [h1, D_add]
  exact D_lt' (M := 8) (by decide) (fun k => by have := f2_le x (k + 1); have := f2_le x k; omega) (by decide)
theorem st3_lt {x : Nat} (hx : x < 2 ^ 64) : st3 (st2 (st1 x)) < 18446744073709551616 := by rw [st3_eq hx]; exact D_lt' (M := 8) (by decide) (f3_le x) (by decide)
theorem st4_lt {x : Nat} (hx : x < 2 ^ 64) : st4 (st3 (st2 (st1 x))) < 18446744073709551616 := by rw [st4_eq hx]; exact D_lt' (M := 16) (by decide) (g4_le x) (by decide)
theorem st5_lt {x : Nat} (hx : x < 2 ^ 64) : st5 (st4 (st3 (st2 (st1 x)))) < 18446744073709551616 := by rw [st5_eq hx]; exact D_lt' (M := 32) (by decide) (g5_le x) (by decide)
theorem st6_lt {x : Nat} (hx : x < 2 ^ 64) : st6 (st5 (st4 (st3 (st2 (st1 x))))) < 18446744073709551616 := by rw [st6_eq hx]; exact D_lt' (M := 64) (by decide) (g6_le x) (by decide)

end Go.Proofs.YtbnjeglbbadcbaaDoor.BM
