/- Calls of view with no transaction, and with one that has ended, for every dialect, whatever lowers and path are. -/
import Derived.Test.YtmkedlikgchpfaaGreatDoorC1
import Derived.Test.YtmkedlikgchpfaaGreatDoorDat
namespace Go.Proofs.YtmkedlikgchpfaaGreatDoor
open Go Ev
set_option linter.unusedVariables false
set_option maxRecDepth 1000000
/-- the error of a dialect: 2 where there is none such -/
def errN (z : Int) (g : Nat) : Nat := match z with | .ofNat 1 => g | .ofNat 2 => g | .ofNat 3 => g | .ofNat 4 => g | _ => 2
theorem errN_eq (z : Int) (g : Nat) : errN z g = if z < 1 ∨ 4 < z then 2 else g := by
  cases z with
  | negSucc n => rw [if_pos (Or.inl (by omega))]; rfl
  | ofNat m =>
    match m with
    | 0 => rfl
    | 1 => rfl
    | 2 => rfl
    | 3 => rfl
    | 4 => rfl
    | n + 5 => rw [if_pos (Or.inr (by simp only [Int.ofNat_eq_natCast]; omega))]; rfl
theorem two_inv {α β : Type} {R : α → β → Prop} {a b : α} {l : List β} (h : Rel2 R [a, b] l) : ∃ x y, l = [x, y] ∧ R a x ∧ R b y := by
  cases h with | cons h1 h => cases h with | cons h2 h => cases h with | nil => exact ⟨_, _, rfl, h1, h2⟩
theorem arr_eq {α : Type} {a : Array α} {l : List α} (h : a.toList = l) : a = l.toArray := by subst h; rfl
theorem pair_inv {ψ : Emb} {a b : El} {v : Value} (h : relV ψ (.t [a, b]) v) : ∃ x y, v = .tuple #[x, y] ∧ relEl ψ a x ∧ relEl ψ b y := by
  obtain ⟨vs, rfl, h⟩ := h
  obtain ⟨x, y, h1, h2, h3⟩ := two_inv h
  exact ⟨x, y, by rw [arr_eq h1], h2, h3⟩
theorem val_int {ψ : Emb} {n : Nat} {v : Value} (h : relV ψ (.c (.i n)) v) : v = .int .i64 (n : Nat) := h
theorem val_slice {ψ : Emb} {n : Nat} {v : Value} (h : relV ψ (.t [.c (.nil .s), .c (.i n)]) v) : v = .tuple #[.slice none 0 0, .int .i64 (n : Nat)] := by
  obtain ⟨x, y, rfl, h1, h2⟩ := pair_inv h
  have h1 : x = .slice none 0 0 := h1
  have h2 : y = .int .i64 (n : Nat) := h2
  rw [h1, h2]
theorem val_str {ψ : Emb} {n : Nat} {v : Value} (h : relV ψ (.t [.c (.str 0 0), .c (.i n)]) v) : v = .tuple #[.string ByteArray.empty, .int .i64 (n : Nat)] := by
  obtain ⟨x, y, rfl, h1, h2⟩ := pair_inv h
  have h1 : 0 < 2 ^ (8 * 0) ∧ x = .string (bytesOf 0 0) := h1
  have h2 : y = .int .i64 (n : Nat) := h2
  rw [h1.2, h2]; rfl
theorem val_agg2 {ψ : Emb} {n : Nat} {v : Value} (h : relV ψ (.t [.a (.l 2 [.i 0, .i 0]), .c (.i n)]) v) : v = .tuple #[.agg #[.int .i64 0, .int .i64 0], .int .i64 (n : Nat)] := by
  obtain ⟨x, y, rfl, h1, h2⟩ := pair_inv h
  have h2 : y = .int .i64 (n : Nat) := h2
  obtain ⟨cs, rfl, _, h1⟩ := h1
  obtain ⟨p, q, e, r1, r2⟩ := two_inv (show Rel2 (relC ψ) [.i 0, .i 0] cs.toList from h1)
  have r1 : p = .int .i64 0 := r1
  have r2 : q = .int .i64 0 := r2
  rw [arr_eq e, h2, r1, r2]
theorem val_agg6 {ψ : Emb} {n : Nat} {v : Value} (h : relV ψ (.t [.a (.l 6 [.i 0, .i 0, .i 0, .i 0, .i 0, .nil .s]), .c (.i n)]) v) : v = .tuple #[.agg #[.int .i64 0, .int .i64 0, .int .i64 0, .int .i64 0, .int .i64 0, .slice none 0 0], .int .i64 (n : Nat)] := by
  obtain ⟨x, y, rfl, h1, h2⟩ := pair_inv h
  have h2 : y = .int .i64 (n : Nat) := h2
  obtain ⟨cs, rfl, _, h1⟩ := h1
  have h1 : Rel2 (relC ψ) [.i 0, .i 0, .i 0, .i 0, .i 0, .nil .s] cs.toList := h1
  generalize hl : cs.toList = l at h1
  cases h1 with | cons r0 h1 => cases h1 with | cons r1 h1 => cases h1 with | cons r2 h1 => cases h1 with | cons r3 h1 => cases h1 with | cons r4 h1 => cases h1 with | cons r5 h1 => cases h1 with | nil =>
    cases r0; cases r1; cases r2; cases r3; cases r4; cases r5
    rw [arr_eq hl, h2]; rfl
/-- where the variables lie, and two slices -/
noncomputable def phiS (w : World) (a0 a1 : Option Addr) : Emb := emb1 (emb1 (phi0 Tryz.prog w) (A 390000) (locS a0)) (A 390001) (locS a1)
theorem glob_ne (q : Nat) (h : q < 1000) : A q ≠ A 390000 ∧ A q ≠ A 390001 ∧ A q ≠ A 390002 := by
  have e : ∀ m, m < 8 ^ 30 → A q ≠ A m ∨ q = m := fun m hm => by
    by_cases e : A q = A m
    · have := congrArg Pos.num e
      rw [bits_num 30 q (Nat.lt_of_lt_of_le h (by decide)), bits_num 30 m hm] at this
      exact .inr this
    · exact .inl e
  refine ⟨(e 390000 (by decide)).elim id (by omega), (e 390001 (by decide)).elim id (by omega), (e 390002 (by decide)).elim id (by omega)⟩
theorem phi0_none {w : World} {q : Pos} (h : ¬ q.num < Tryz.prog.globals.size) : phi0 Tryz.prog w q = none := by
  unfold phi0; rw [if_neg (fun e => h e.2)]
theorem phi0_some {w : World} {q : Pos} {l : Ev.Loc} (h : phi0 Tryz.prog w q = some l) : l.b = q.num ∧ q.num < Tryz.prog.globals.size := by
  unfold phi0 at h
  split at h
  · rename_i e; cases h; exact ⟨rfl, e.2⟩
  · cases h
theorem globs_small : Nat.ble Tryz.prog.globals.size 900 = true := by kernel_rfl
theorem num390 : (A 390000).num = 390000 ∧ (A 390001).num = 390001 ∧ (A 390002).num = 390002 ∧ (A 400000).num = 400000 := ⟨bits_num 30 _ (by decide), bits_num 30 _ (by decide), bits_num 30 _ (by decide), bits_num 30 _ (by decide)⟩
theorem ne390 : A 390000 ≠ A 390001 ∧ A 390000 ≠ A 390002 ∧ A 390001 ≠ A 390002 := by
  refine ⟨fun e => ?_, fun e => ?_, fun e => ?_⟩ <;> (have := congrArg Pos.num e; rw [bits_num 30 _ (by decide), bits_num 30 _ (by decide)] at this; omega)
theorem phi0_no {w : World} {m : Nat} (h : 900 ≤ m) (hm : m < 8 ^ 30) : phi0 Tryz.prog w (A m) = none := phi0_none (by have := Nat.le_of_ble_eq_true globs_small; rw [bits_num 30 m hm]; omega)
/-- an embedding that knows the letters -/
structure Lets (φ : Emb) (w : World) (a0 a1 : Option Addr) : Prop where
  glob : GlobOk Tryz.prog φ
  old : ∀ p l, φ p = some l → l.b < w.heap.size
  free : ∀ p l, φ p = some l → p.num < (A 400000).num
  at0 : φ (A 390000) = some (locS a0)
  at1 : φ (A 390001) = some (locS a1)
/-- letters laid over an embedding -/
def embS (φ : Emb) (a0 a1 : Option Addr) : Emb := emb1 (emb1 φ (A 390000) (locS a0)) (A 390001) (locS a1)
theorem embS_le {φ : Emb} {a0 a1 : Option Addr} (h : ∀ p l, φ p = some l → p.num < 390000) : φ.le (embS φ a0 a1) := by
  have n0 : φ (A 390000) = none := by
    cases e : φ (A 390000) with
    | none => rfl
    | some l => have := h _ _ e; rw [num390.1] at this; omega
  have n1 : emb1 φ (A 390000) (locS a0) (A 390001) = none := by
    unfold emb1; rw [if_neg (fun e => ne390.1 e.symm)]
    cases e : φ (A 390001) with
    | none => rfl
    | some l => have := h _ _ e; rw [num390.2.1] at this; omega
  exact (emb1_le n0).trans (emb1_le n1)
theorem embS_lets {φ : Emb} {w : World} {a0 a1 : Option Addr} {n c k c1 : Nat} (hg : GlobOk Tryz.prog φ) (ho : ∀ p l, φ p = some l → l.b < w.heap.size) (hf : ∀ p l, φ p = some l → p.num < 390000) (h0 : 0 < w.heap.size) (s0 : SlOk w a0 n c) (s1 : SlOk w a1 k c1) :
    Lets (embS φ a0 a1) w a0 a1 := by
  refine ⟨hg.mono (embS_le hf), emb1_all (C := fun _ l => l.b < w.heap.size) (emb1_all (C := fun _ l => l.b < w.heap.size) ho (s0.loc h0)) (s1.loc h0), emb1_all (C := fun p _ => p.num < (A 400000).num) (emb1_all (C := fun p _ => p.num < (A 400000).num) ?_ ?_) ?_, ?_, emb1_at _ _ _⟩
  · intro p l h; have := hf p l h; rw [num390.2.2.2]; omega
  · rw [num390.1, num390.2.2.2]; omega
  · rw [num390.2.1, num390.2.2.2]; omega
  · show emb1 _ _ _ _ = _
    unfold emb1; rw [if_neg ne390.1, if_pos rfl]
theorem phi0_lets {w : World} {a0 a1 : Option Addr} {n c k c1 : Nat} (hs : Tryz.prog.globals.size ≤ w.heap.size) (h0 : 0 < w.heap.size) (s0 : SlOk w a0 n c) (s1 : SlOk w a1 k c1) : Lets (embS (phi0 Tryz.prog w) a0 a1) w a0 a1 :=
  embS_lets (phi0_glob (Nat.le_trans (Nat.le_of_ble_eq_true globs_small) (by decide))) (fun p l h => by have := phi0_some h; omega) (fun p l h => by have := phi0_some h; have := Nat.le_of_ble_eq_true globs_small; omega) h0 s0 s1
/-- the transaction that is none, as a block that is not turned -/
def txB : Blk := .cells (.cat 16 (.cat 8 (.l 8 [.nil .p, .i 0, .i 0, .i 0, .i 0, .i 0, .i 0, .i 0]) (.l 8 [.i 0, .i 0, .i 0, .i 0, .nil .s, .i 0, .i 0, .i 0])) (.l 5 [.nil .s, .nil .m, .bool false, .bool false, .bool false])) true true 51
def txV : List Value := [.pointer none, .int .i64 0, .int .i64 0, .int .i64 0, .int .i64 0, .int .i64 0, .int .i64 0, .int .i64 0, .int .i64 0, .int .i64 0, .int .i64 0, .int .i64 0, .slice none 0 0, .int .i64 0, .int .i64 0, .int .i64 0, .slice none 0 0, .map none, .bool false, .bool false, .bool false]
theorem txB_rel (φ : Emb) (b : Nat) (T : TypeId) : relBlk (Sl Tryz.prog) (Nt Tryz.prog) φ txB (.cells txV.toArray T (0, 0)) ⟨b, 0, 21⟩ := by
  refine ⟨fun e => (by cases e), rfl, Nat.le_refl _, fun _ => ⟨rfl, rfl⟩, ⟨by simp [Rope.wf, Rope.size], ?_⟩, fun e => (by cases e)⟩
  repeat (first | exact .nil | refine .cons rfl ?_)
def eFindNil (d L p : Cell) (err : Nat) : Known := ⟨[.c (.nil .p), .c d, .c L, .c p], A 400000, [], .t [.a (.l 2 [.i 0, .i 0]), .c (.i err)], [], [], A 400100⟩
theorem kFindNil1 (L p : Cell) : KnownOk Tryz.prog 6 (eFindNil (.i 1) L p 1) := known_tab mixed J [] knNil 1000 (by kernel_rfl)
theorem kFindNil2 (L p : Cell) : KnownOk Tryz.prog 6 (eFindNil (.i 2) L p 1) := known_tab mixed J [] knNil 1000 (by kernel_rfl)
theorem kFindNil3 (L p : Cell) : KnownOk Tryz.prog 6 (eFindNil (.i 3) L p 1) := known_tab mixed J [] knNil 1000 (by kernel_rfl)
theorem kFindNil4 (L p : Cell) : KnownOk Tryz.prog 6 (eFindNil (.i 4) L p 1) := known_tab mixed J [] knNil 1000 (by kernel_rfl)
theorem kFindNil0 (L p : Cell) : KnownOk Tryz.prog 6 (eFindNil (.i 0) L p 2) := known_tab mixed J [] knNil 1000 (by kernel_rfl)
theorem kFindNilP (n : Nat) (L p : Cell) : KnownOk Tryz.prog 6 (eFindNil (.i (n + 5)) L p 2) := known_tab mixed J [] knNil 1000 (by kernel_rfl)
theorem kFindNilM (n : Nat) (L p : Cell) : KnownOk Tryz.prog 6 (eFindNil (.neg .i64 n) L p 2) := known_tab mixed J [] knNil 1000 (by kernel_rfl)
theorem kFindNil (z : Int) (L p : Cell) : KnownOk Tryz.prog 6 (eFindNil (intC z) L p (errN z 1)) := by
  cases z with
  | negSucc n => exact kFindNilM n L p
  | ofNat y =>
    match y with
    | 0 => exact kFindNil0 L p
    | 1 => exact kFindNil1 L p
    | 2 => exact kFindNil2 L p
    | 3 => exact kFindNil3 L p
    | 4 => exact kFindNil4 L p
    | n + 5 => exact kFindNilP n L p
set_option maxHeartbeats 1000000 in
theorem FindNil_call (z : Int) (n c k c1 : Nat) (a0 a1 : Option Addr) (w : World) (hs : Tryz.prog.globals.size ≤ w.heap.size) (h0 : 0 < w.heap.size) (s0 : SlOk w a0 n c) (s1 : SlOk w a1 k c1) :
    Calls Tryz.prog 6 #[.pointer none, .int .i64 z, .slice a0 n c, .slice a1 k c1] w (Ret (.tuple #[.agg #[.int .i64 0, .int .i64 0], .int .i64 (errN z 1 : Nat)]) w) := by
  have hl := phi0_lets hs h0 s0 s1
  refine (call_known (φ := embS (phi0 Tryz.prog w) a0 a1) (kFindNil z (slC (A 390000) a0 n c) (slC (A 390001) a1 k c1)) (RelL.ro (fun _ _ h => by cases h) (fun _ _ h => by cases h) hl.old hl.free) hl.glob (vs := #[.pointer none, .int .i64 z, .slice a0 n c, .slice a1 k c1]) ?_).mono ?_
  · exact .cons rfl (.cons (intC_rel _ z) (.cons (s0.rel hl.at0) (.cons (s1.rel hl.at1) .nil)))
  · rintro x w' ⟨v, ψ, st, rfl, o⟩
    exact ⟨by rw [val_agg2 o.val], o.still (fun _ _ h => by cases h)⟩
def eStatTx (d L p : Cell) (err : Nat) : Known := ⟨[.c (.ptr (A 390002) 0), .c d, .c L, .c p], A 400000, [(A 390002, txB)], .t [.a (.l 6 [.i 0, .i 0, .i 0, .i 0, .i 0, .nil .s]), .c (.i err)], [], [], A 400100⟩
theorem kStatTx1 (L p : Cell) : KnownOk Tryz.prog 7 (eStatTx (.i 1) L p 1) := known_tab mixed J [] knNil 1000 (by kernel_rfl)
theorem kStatTx2 (L p : Cell) : KnownOk Tryz.prog 7 (eStatTx (.i 2) L p 1) := known_tab mixed J [] knNil 1000 (by kernel_rfl)
theorem kStatTx3 (L p : Cell) : KnownOk Tryz.prog 7 (eStatTx (.i 3) L p 1) := known_tab mixed J [] knNil 1000 (by kernel_rfl)
theorem kStatTx4 (L p : Cell) : KnownOk Tryz.prog 7 (eStatTx (.i 4) L p 1) := known_tab mixed J [] knNil 1000 (by kernel_rfl)
theorem kStatTx0 (L p : Cell) : KnownOk Tryz.prog 7 (eStatTx (.i 0) L p 2) := known_tab mixed J [] knNil 1000 (by kernel_rfl)
theorem kStatTxP (n : Nat) (L p : Cell) : KnownOk Tryz.prog 7 (eStatTx (.i (n + 5)) L p 2) := known_tab mixed J [] knNil 1000 (by kernel_rfl)
theorem kStatTxM (n : Nat) (L p : Cell) : KnownOk Tryz.prog 7 (eStatTx (.neg .i64 n) L p 2) := known_tab mixed J [] knNil 1000 (by kernel_rfl)
theorem kStatTx (z : Int) (L p : Cell) : KnownOk Tryz.prog 7 (eStatTx (intC z) L p (errN z 1)) := by
  cases z with
  | negSucc n => exact kStatTxM n L p
  | ofNat y =>
    match y with
    | 0 => exact kStatTx0 L p
    | 1 => exact kStatTx1 L p
    | 2 => exact kStatTx2 L p
    | 3 => exact kStatTx3 L p
    | 4 => exact kStatTx4 L p
    | n + 5 => exact kStatTxP n L p
set_option maxHeartbeats 1000000 in
theorem StatTx_call (z : Int) (n c k c1 : Nat) (a0 a1 : Option Addr) (w : World) {b : Nat} {T : TypeId} (hb : RowB w b T txV) (hs : Tryz.prog.globals.size ≤ w.heap.size) (h0 : 0 < w.heap.size) (s0 : SlOk w a0 n c) (s1 : SlOk w a1 k c1) :
    Calls Tryz.prog 7 #[.pointer (some ⟨b, 0, none⟩), .int .i64 z, .slice a0 n c, .slice a1 k c1] w (Ret (.tuple #[.agg #[.int .i64 0, .int .i64 0, .int .i64 0, .int .i64 0, .int .i64 0, .slice none 0 0], .int .i64 (errN z 1 : Nat)]) w) := by
  have hl := phi0_lets hs h0 s0 s1
  have hn : embS (phi0 Tryz.prog w) a0 a1 (A 390002) = none := by
    unfold embS emb1
    rw [if_neg (fun e => ne390.2.2 e.symm), if_neg (fun e => ne390.2.1 e.symm)]
    exact phi0_no (by decide) (by decide)
  have le := emb1_le (l := ⟨b, 0, 21⟩) hn
  refine (call_known (φ := emb1 (embS (phi0 Tryz.prog w) a0 a1) (A 390002) ⟨b, 0, 21⟩) (kStatTx z (slC (A 390000) a0 n c) (slC (A 390001) a1 k c1)) (RelL.ro (fun _ _ h => ?_) (fun _ _ h => ?_) (emb1_all (C := fun _ l => l.b < w.heap.size) hl.old hb.lt) (emb1_all (C := fun p _ => p.num < (A 400000).num) hl.free (by rw [num390.2.2.1, num390.2.2.2]; omega))) (hl.glob.mono le) (vs := #[.pointer (some ⟨b, 0, none⟩), .int .i64 z, .slice a0 n c, .slice a1 k c1]) ?_).mono ?_
  · have h := List.mem_singleton.1 h; cases h; rfl
  · have h := List.mem_singleton.1 h; cases h; exact ⟨_, _, emb1_at _ _ _, hb, txB_rel _ _ _⟩
  · exact .cons ⟨_, emb1_at _ _ _, rfl⟩ (.cons (intC_rel _ z) (.cons (s0.rel (le _ _ hl.at0)) (.cons (s1.rel (le _ _ hl.at1)) .nil)))
  · rintro x w' ⟨v, ψ, st, rfl, o⟩
    exact ⟨by rw [val_agg6 o.val], o.still (fun _ _ h => by have h := List.mem_singleton.1 h; cases h; rfl)⟩
def eListNil (d L p : Cell) (err : Nat) : Known := ⟨[.c (.nil .p), .c d, .c L, .c p], A 400000, [], .t [.c (.nil .s), .c (.i err)], [], [], A 400100⟩
theorem kListNil1 (L p : Cell) : KnownOk Tryz.prog 8 (eListNil (.i 1) L p 1) := known_tab mixed J [] knNil 1000 (by kernel_rfl)
theorem kListNil2 (L p : Cell) : KnownOk Tryz.prog 8 (eListNil (.i 2) L p 1) := known_tab mixed J [] knNil 1000 (by kernel_rfl)
theorem kListNil3 (L p : Cell) : KnownOk Tryz.prog 8 (eListNil (.i 3) L p 1) := known_tab mixed J [] knNil 1000 (by kernel_rfl)
theorem kListNil4 (L p : Cell) : KnownOk Tryz.prog 8 (eListNil (.i 4) L p 1) := known_tab mixed J [] knNil 1000 (by kernel_rfl)
theorem kListNil0 (L p : Cell) : KnownOk Tryz.prog 8 (eListNil (.i 0) L p 2) := known_tab mixed J [] knNil 1000 (by kernel_rfl)
theorem kListNilP (n : Nat) (L p : Cell) : KnownOk Tryz.prog 8 (eListNil (.i (n + 5)) L p 2) := known_tab mixed J [] knNil 1000 (by kernel_rfl)
theorem kListNilM (n : Nat) (L p : Cell) : KnownOk Tryz.prog 8 (eListNil (.neg .i64 n) L p 2) := known_tab mixed J [] knNil 1000 (by kernel_rfl)
theorem kListNil (z : Int) (L p : Cell) : KnownOk Tryz.prog 8 (eListNil (intC z) L p (errN z 1)) := by
  cases z with
  | negSucc n => exact kListNilM n L p
  | ofNat y =>
    match y with
    | 0 => exact kListNil0 L p
    | 1 => exact kListNil1 L p
    | 2 => exact kListNil2 L p
    | 3 => exact kListNil3 L p
    | 4 => exact kListNil4 L p
    | n + 5 => exact kListNilP n L p
set_option maxHeartbeats 1000000 in
theorem ListNil_call (z : Int) (n c k c1 : Nat) (a0 a1 : Option Addr) (w : World) (hs : Tryz.prog.globals.size ≤ w.heap.size) (h0 : 0 < w.heap.size) (s0 : SlOk w a0 n c) (s1 : SlOk w a1 k c1) :
    Calls Tryz.prog 8 #[.pointer none, .int .i64 z, .slice a0 n c, .slice a1 k c1] w (Ret (.tuple #[.slice none 0 0, .int .i64 (errN z 1 : Nat)]) w) := by
  have hl := phi0_lets hs h0 s0 s1
  refine (call_known (φ := embS (phi0 Tryz.prog w) a0 a1) (kListNil z (slC (A 390000) a0 n c) (slC (A 390001) a1 k c1)) (RelL.ro (fun _ _ h => by cases h) (fun _ _ h => by cases h) hl.old hl.free) hl.glob (vs := #[.pointer none, .int .i64 z, .slice a0 n c, .slice a1 k c1]) ?_).mono ?_
  · exact .cons rfl (.cons (intC_rel _ z) (.cons (s0.rel hl.at0) (.cons (s1.rel hl.at1) .nil)))
  · rintro x w' ⟨v, ψ, st, rfl, o⟩
    exact ⟨by rw [val_slice o.val], o.still (fun _ _ h => by cases h)⟩
def eLinkNil (d L p : Cell) (err : Nat) : Known := ⟨[.c (.nil .p), .c d, .c L, .c p], A 400000, [], .t [.c (.str 0 0), .c (.i err)], [], [], A 400100⟩
theorem kLinkNil1 (L p : Cell) : KnownOk Tryz.prog 9 (eLinkNil (.i 1) L p 1) := known_tab mixed J [] knNil 1000 (by kernel_rfl)
theorem kLinkNil2 (L p : Cell) : KnownOk Tryz.prog 9 (eLinkNil (.i 2) L p 1) := known_tab mixed J [] knNil 1000 (by kernel_rfl)
theorem kLinkNil3 (L p : Cell) : KnownOk Tryz.prog 9 (eLinkNil (.i 3) L p 1) := known_tab mixed J [] knNil 1000 (by kernel_rfl)
theorem kLinkNil4 (L p : Cell) : KnownOk Tryz.prog 9 (eLinkNil (.i 4) L p 1) := known_tab mixed J [] knNil 1000 (by kernel_rfl)
theorem kLinkNil0 (L p : Cell) : KnownOk Tryz.prog 9 (eLinkNil (.i 0) L p 2) := known_tab mixed J [] knNil 1000 (by kernel_rfl)
theorem kLinkNilP (n : Nat) (L p : Cell) : KnownOk Tryz.prog 9 (eLinkNil (.i (n + 5)) L p 2) := known_tab mixed J [] knNil 1000 (by kernel_rfl)
theorem kLinkNilM (n : Nat) (L p : Cell) : KnownOk Tryz.prog 9 (eLinkNil (.neg .i64 n) L p 2) := known_tab mixed J [] knNil 1000 (by kernel_rfl)
theorem kLinkNil (z : Int) (L p : Cell) : KnownOk Tryz.prog 9 (eLinkNil (intC z) L p (errN z 1)) := by
  cases z with
  | negSucc n => exact kLinkNilM n L p
  | ofNat y =>
    match y with
    | 0 => exact kLinkNil0 L p
    | 1 => exact kLinkNil1 L p
    | 2 => exact kLinkNil2 L p
    | 3 => exact kLinkNil3 L p
    | 4 => exact kLinkNil4 L p
    | n + 5 => exact kLinkNilP n L p
set_option maxHeartbeats 1000000 in
theorem LinkNil_call (z : Int) (n c k c1 : Nat) (a0 a1 : Option Addr) (w : World) (hs : Tryz.prog.globals.size ≤ w.heap.size) (h0 : 0 < w.heap.size) (s0 : SlOk w a0 n c) (s1 : SlOk w a1 k c1) :
    Calls Tryz.prog 9 #[.pointer none, .int .i64 z, .slice a0 n c, .slice a1 k c1] w (Ret (.tuple #[.string ByteArray.empty, .int .i64 (errN z 1 : Nat)]) w) := by
  have hl := phi0_lets hs h0 s0 s1
  refine (call_known (φ := embS (phi0 Tryz.prog w) a0 a1) (kLinkNil z (slC (A 390000) a0 n c) (slC (A 390001) a1 k c1)) (RelL.ro (fun _ _ h => by cases h) (fun _ _ h => by cases h) hl.old hl.free) hl.glob (vs := #[.pointer none, .int .i64 z, .slice a0 n c, .slice a1 k c1]) ?_).mono ?_
  · exact .cons rfl (.cons (intC_rel _ z) (.cons (s0.rel hl.at0) (.cons (s1.rel hl.at1) .nil)))
  · rintro x w' ⟨v, ψ, st, rfl, o⟩
    exact ⟨by rw [val_str o.val], o.still (fun _ _ h => by cases h)⟩
def eReadTx (d L p o m : Cell) (err : Nat) : Known := ⟨[.c (.ptr (A 390002) 0), .c d, .c L, .c p, .c o, .c m], A 400000, [(A 390002, txB)], .t [.c (.str 0 0), .c (.i err)], [], [], A 400100⟩
theorem kReadTx1 (L p o m : Cell) : KnownOk Tryz.prog 10 (eReadTx (.i 1) L p o m 1) := known_tab mixed J [] knNil 1000 (by kernel_rfl)
theorem kReadTx2 (L p o m : Cell) : KnownOk Tryz.prog 10 (eReadTx (.i 2) L p o m 1) := known_tab mixed J [] knNil 1000 (by kernel_rfl)
theorem kReadTx3 (L p o m : Cell) : KnownOk Tryz.prog 10 (eReadTx (.i 3) L p o m 1) := known_tab mixed J [] knNil 1000 (by kernel_rfl)
theorem kReadTx4 (L p o m : Cell) : KnownOk Tryz.prog 10 (eReadTx (.i 4) L p o m 1) := known_tab mixed J [] knNil 1000 (by kernel_rfl)
theorem kReadTx0 (L p o m : Cell) : KnownOk Tryz.prog 10 (eReadTx (.i 0) L p o m 2) := known_tab mixed J [] knNil 1000 (by kernel_rfl)
theorem kReadTxP (n : Nat) (L p o m : Cell) : KnownOk Tryz.prog 10 (eReadTx (.i (n + 5)) L p o m 2) := known_tab mixed J [] knNil 1000 (by kernel_rfl)
theorem kReadTxM (n : Nat) (L p o m : Cell) : KnownOk Tryz.prog 10 (eReadTx (.neg .i64 n) L p o m 2) := known_tab mixed J [] knNil 1000 (by kernel_rfl)
theorem kReadTx (z : Int) (L p o m : Cell) : KnownOk Tryz.prog 10 (eReadTx (intC z) L p o m (errN z 1)) := by
  cases z with
  | negSucc n => exact kReadTxM n L p o m
  | ofNat y =>
    match y with
    | 0 => exact kReadTx0 L p o m
    | 1 => exact kReadTx1 L p o m
    | 2 => exact kReadTx2 L p o m
    | 3 => exact kReadTx3 L p o m
    | 4 => exact kReadTx4 L p o m
    | n + 5 => exact kReadTxP n L p o m
set_option maxHeartbeats 1000000 in
theorem ReadTx_call (z : Int) (n c k c1 : Nat) (a0 a1 : Option Addr) (o m : Int) (w : World) {b : Nat} {T : TypeId} (hb : RowB w b T txV) (hs : Tryz.prog.globals.size ≤ w.heap.size) (h0 : 0 < w.heap.size) (s0 : SlOk w a0 n c) (s1 : SlOk w a1 k c1) :
    Calls Tryz.prog 10 #[.pointer (some ⟨b, 0, none⟩), .int .i64 z, .slice a0 n c, .slice a1 k c1, .int .i64 o, .int .i64 m] w (Ret (.tuple #[.string ByteArray.empty, .int .i64 (errN z 1 : Nat)]) w) := by
  have hl := phi0_lets hs h0 s0 s1
  have hn : embS (phi0 Tryz.prog w) a0 a1 (A 390002) = none := by
    unfold embS emb1
    rw [if_neg (fun e => ne390.2.2 e.symm), if_neg (fun e => ne390.2.1 e.symm)]
    exact phi0_no (by decide) (by decide)
  have le := emb1_le (l := ⟨b, 0, 21⟩) hn
  refine (call_known (φ := emb1 (embS (phi0 Tryz.prog w) a0 a1) (A 390002) ⟨b, 0, 21⟩) (kReadTx z (slC (A 390000) a0 n c) (slC (A 390001) a1 k c1) (intC o) (intC m)) (RelL.ro (fun _ _ h => ?_) (fun _ _ h => ?_) (emb1_all (C := fun _ l => l.b < w.heap.size) hl.old hb.lt) (emb1_all (C := fun p _ => p.num < (A 400000).num) hl.free (by rw [num390.2.2.1, num390.2.2.2]; omega))) (hl.glob.mono le) (vs := #[.pointer (some ⟨b, 0, none⟩), .int .i64 z, .slice a0 n c, .slice a1 k c1, .int .i64 o, .int .i64 m]) ?_).mono ?_
  · have h := List.mem_singleton.1 h; cases h; rfl
  · have h := List.mem_singleton.1 h; cases h; exact ⟨_, _, emb1_at _ _ _, hb, txB_rel _ _ _⟩
  · exact .cons ⟨_, emb1_at _ _ _, rfl⟩ (.cons (intC_rel _ z) (.cons (s0.rel (le _ _ hl.at0)) (.cons (s1.rel (le _ _ hl.at1)) (.cons (intC_rel _ o) (.cons (intC_rel _ m) .nil)))))
  · rintro x w' ⟨v, ψ, st, rfl, o⟩
    exact ⟨by rw [val_str o.val], o.still (fun _ _ h => by have h := List.mem_singleton.1 h; cases h; rfl)⟩
def eCheckNil (d L : Cell) (err : Nat) : Known := ⟨[.c (.nil .p), .c d, .c L], A 400000, [], .c (.i err), [], [], A 400100⟩
theorem kCheckNil1 (L : Cell) : KnownOk Tryz.prog 11 (eCheckNil (.i 1) L 1) := known_tab mixed J [] knNil 1000 (by kernel_rfl)
theorem kCheckNil2 (L : Cell) : KnownOk Tryz.prog 11 (eCheckNil (.i 2) L 1) := known_tab mixed J [] knNil 1000 (by kernel_rfl)
theorem kCheckNil3 (L : Cell) : KnownOk Tryz.prog 11 (eCheckNil (.i 3) L 1) := known_tab mixed J [] knNil 1000 (by kernel_rfl)
theorem kCheckNil4 (L : Cell) : KnownOk Tryz.prog 11 (eCheckNil (.i 4) L 1) := known_tab mixed J [] knNil 1000 (by kernel_rfl)
theorem kCheckNil0 (L : Cell) : KnownOk Tryz.prog 11 (eCheckNil (.i 0) L 2) := known_tab mixed J [] knNil 1000 (by kernel_rfl)
theorem kCheckNilP (n : Nat) (L : Cell) : KnownOk Tryz.prog 11 (eCheckNil (.i (n + 5)) L 2) := known_tab mixed J [] knNil 1000 (by kernel_rfl)
theorem kCheckNilM (n : Nat) (L : Cell) : KnownOk Tryz.prog 11 (eCheckNil (.neg .i64 n) L 2) := known_tab mixed J [] knNil 1000 (by kernel_rfl)
theorem kCheckNil (z : Int) (L : Cell) : KnownOk Tryz.prog 11 (eCheckNil (intC z) L (errN z 1)) := by
  cases z with
  | negSucc n => exact kCheckNilM n L
  | ofNat y =>
    match y with
    | 0 => exact kCheckNil0 L
    | 1 => exact kCheckNil1 L
    | 2 => exact kCheckNil2 L
    | 3 => exact kCheckNil3 L
    | 4 => exact kCheckNil4 L
    | n + 5 => exact kCheckNilP n L
set_option maxHeartbeats 1000000 in
theorem CheckNil_call (z : Int) (n c k c1 : Nat) (a0 a1 : Option Addr) (w : World) (hs : Tryz.prog.globals.size ≤ w.heap.size) (h0 : 0 < w.heap.size) (s0 : SlOk w a0 n c) (s1 : SlOk w a1 k c1) :
    Calls Tryz.prog 11 #[.pointer none, .int .i64 z, .slice a0 n c] w (Ret (.int .i64 (errN z 1 : Nat)) w) := by
  have hl := phi0_lets hs h0 s0 s1
  refine (call_known (φ := embS (phi0 Tryz.prog w) a0 a1) (kCheckNil z (slC (A 390000) a0 n c)) (RelL.ro (fun _ _ h => by cases h) (fun _ _ h => by cases h) hl.old hl.free) hl.glob (vs := #[.pointer none, .int .i64 z, .slice a0 n c]) ?_).mono ?_
  · exact .cons rfl (.cons (intC_rel _ z) (.cons (s0.rel hl.at0) .nil))
  · rintro x w' ⟨v, ψ, st, rfl, o⟩
    exact ⟨by rw [val_int o.val], o.still (fun _ _ h => by cases h)⟩
end Go.Proofs.YtmkedlikgchpfaaGreatDoor
