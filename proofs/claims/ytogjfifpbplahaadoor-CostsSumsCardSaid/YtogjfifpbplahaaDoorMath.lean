/- Plain facts on batches of numbers: which lists are refused, the sums, the peak. No program in sight. -/
namespace CM
/-- a batch may stand -/
def ok1 (u : Nat → Int) : Bool := ((u 0 == -3) || (u 0 == -1) || (decide (0 ≤ u 0) && decide (u 0 ≤ 60))) && (List.range 7).all (fun k => decide (0 ≤ u (k + 1)) && decide (u (k + 1) ≤ 1000000))
/-- the first n batches may stand -/
def okB (U : Nat → Nat → Int) : Nat → Bool
  | 0 => true
  | n + 1 => okB U n && ok1 (U n)
def listE (n : Nat) (U : Nat → Nat → Int) : Int := if 70 < n then 3 else if okB U n = true then 0 else 7
def sumF (U : Nat → Nat → Int) (j : Nat) : Nat → Int
  | 0 => 0
  | n + 1 => sumF U j n + U n j
def nowF (U : Nat → Nat → Int) (n : Nat) : Int := sumF U 4 n - sumF U 5 n
def mostF (U : Nat → Nat → Int) : Nat → Int
  | 0 => 0
  | n + 1 => max (mostF U n) (nowF U (n + 1))
theorem okB_le {U : Nat → Nat → Int} {n m : Nat} (h : okB U n = true) (hm : m ≤ n) : okB U m = true := by
  induction n with
  | zero => obtain rfl : m = 0 := by omega
            exact h
  | succ k ih =>
    simp only [okB, Bool.and_eq_true] at h
    by_cases e : m = k + 1
    · subst e; simp [okB, h.1, h.2]
    · exact ih h.1 (by omega)
theorem okB_at {U : Nat → Nat → Int} {n i : Nat} (h : okB U n = true) (hi : i < n) : ok1 (U i) = true := by
  have := okB_le h (show i + 1 ≤ n by omega)
  simp only [okB, Bool.and_eq_true] at this
  exact this.2
theorem ok1_bd {u : Nat → Int} (h : ok1 u = true) (j : Nat) (h0 : 1 ≤ j) (h8 : j < 8) : 0 ≤ u j ∧ u j ≤ 1000000 := by
  simp only [ok1, Bool.and_eq_true, List.all_eq_true, List.mem_range, decide_eq_true_eq] at h
  have := h.2 (j - 1) (by omega)
  rw [show j - 1 + 1 = j by omega] at this
  exact this
theorem sumF_bd {U : Nat → Nat → Int} {j : Nat} : ∀ {n : Nat}, (∀ i, i < n → 0 ≤ U i j ∧ U i j ≤ 1000000) → 0 ≤ sumF U j n ∧ sumF U j n ≤ 1000000 * n
  | 0, _ => by simp [sumF]
  | n + 1, h => by
    have h1 := sumF_bd (n := n) (fun i hi => h i (by omega))
    have h2 := h n (by omega)
    simp only [sumF]
    omega
theorem mostF_bd {U : Nat → Nat → Int} : ∀ {n : Nat}, (∀ k, k ≤ n → nowF U k ≤ 70000000) → 0 ≤ mostF U n ∧ mostF U n ≤ 70000000
  | 0, _ => by simp [mostF]
  | n + 1, h => by
    have h1 := mostF_bd (n := n) (fun k hk => h k (by omega))
    have h2 := h (n + 1) (Nat.le_refl _)
    simp only [mostF]
    omega
theorem nowF_bd {U : Nat → Nat → Int} {n : Nat} (h : okB U n = true) (hn : n ≤ 70) (k : Nat) (hk : k ≤ n) : -70000000 ≤ nowF U k ∧ nowF U k ≤ 70000000 := by
  have h1 := sumF_bd (U := U) (j := 4) (n := k) (fun i hi => ok1_bd (okB_at h (by omega)) 4 (by omega) (by omega))
  have h2 := sumF_bd (U := U) (j := 5) (n := k) (fun i hi => ok1_bd (okB_at h (by omega)) 5 (by omega) (by omega))
  unfold nowF
  omega
/-! the bound of a batch -/
def bdE (dir en dirs cl : Int) : Int := if ¬ (1 ≤ dirs ∧ dirs ≤ 60) ∨ ¬ (0 ≤ en ∧ en ≤ 120) ∨ ¬ (0 ≤ cl ∧ cl ≤ 120) then 7 else if dir = -3 ∨ dir = -1 ∨ (0 ≤ dir ∧ dir ≤ dirs) then 0 else 7
def bdR (dir en dirs cl : Int) : Int := if bdE dir en dirs cl ≠ 0 then 0 else if dir = -3 then 1 else if dir = -1 ∨ dir = dirs then 36 + cl else 23 + 4 * en
def bdT (dir en dirs cl : Int) : Int := if bdE dir en dirs cl ≠ 0 then 0 else if dir = -3 then 0 else if dir = -1 ∨ dir = dirs then 16 else 19 + 3 * en
def bdO (dir en dirs cl : Int) : Int := if bdE dir en dirs cl ≠ 0 then 0 else if dir = -3 then 0 else if dir = -1 ∨ dir = dirs then 1 + cl else 2 + 2 * en
/-- what a batch has used too much of -/
def overF (u : Nat → Int) (r t o : Int) : Int := if r < u 2 then 1 else if u 3 ≠ 2 + 2 * u 2 then 2 else if t < u 4 then 3 else if o < u 6 then 4 else if 0 < u 7 then 5 else 0
/-- the error of Check's bounds, of the first n batches -/
def chkB (U : Nat → Nat → Int) (dirs cl : Int) : Nat → Bool
  | 0 => true
  | n + 1 => chkB U dirs cl n && decide (bdE (U n 0) (U n 1) dirs cl = 0)
def chkW (U : Nat → Nat → Int) (dirs cl : Int) (i : Nat) : Int := overF (U i) (bdR (U i 0) (U i 1) dirs cl) (bdT (U i 0) (U i 1) dirs cl) (bdO (U i 0) (U i 1) dirs cl)
/-- the first batch that is not within its bounds: its number; -1: none -/
def chkI (U : Nat → Nat → Int) (dirs cl : Int) : Nat → Int
  | 0 => -1
  | n + 1 => if chkI U dirs cl n < 0 ∧ chkW U dirs cl n ≠ 0 then n else chkI U dirs cl n
def chkV (U : Nat → Nat → Int) (dirs cl : Int) : Nat → Int
  | 0 => 0
  | n + 1 => if chkI U dirs cl n < 0 ∧ chkW U dirs cl n ≠ 0 then chkW U dirs cl n else chkV U dirs cl n
end CM
