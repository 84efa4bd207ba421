/- The transaction on the store of a root alone: begun, ended, asked. -/
import Derived.Test.YtmkedlikgchpfaaGreatDoorC2
import Derived.Test.YtmkedlikgchpfaaGreatDoorK21
import Derived.Test.YtmkedlikgchpfaaGreatDoorK17
namespace Go.Proofs.YtmkedlikgchpfaaGreatDoor
open Go Ev
set_option linter.unusedVariables false
set_option maxRecDepth 1000000
/-- the transaction that is begun on the store of a root alone; the one that has ended -/
def tB (ro ended : Bool) : Blk := .cells (.cat 17 (.cat 13 (.cat 9 (.cat 4 (.cat 1 (.l 1 [.ptr (A 200059) 0]) (.l 3 [.i 256, .i 40, .i 40])) (.l 5 [.i 1, .i 41, .i 42, .i 82, .i 174])) (.cat 3 (.l 3 [.i 256, .i 40, .i 40]) (.l 1 [.sl (A 210868) 0 174 174]))) (.cat 3 (.l 3 [.i 256, .i 40, .i 40]) (.l 1 [.sl (A 210868) 0 174 174]))) (.l 4 [.map (A 210871), .bool false, .bool false, .bool ended])) true ro 51
abbrev endB : Blk := tB true true
def eAbort : Known := ⟨[.c (.ptr (A 210872) 0)], A 210873, [(A 210872, tB false false)], .c (.i 0), [(A 210872, tB false true)], [], A 210873⟩
theorem kAbort : KnownOk Tryz.prog 13 eAbort := known_tab mixed J [] knNil 1000 (by kernel_rfl)
def eFindEnd (d L p : Cell) (err : Nat) : Known := ⟨[.c (.ptr (A 210872) 0), .c d, .c L, .c p], A 400000, [(A 210872, endB)], .t [.a (.l 2 [.i 0, .i 0]), .c (.i err)], [], [], A 400100⟩
theorem kFindEnd1 (L p : Cell) : KnownOk Tryz.prog 6 (eFindEnd (.i 1) L p 9) := known_tab mixed J [] knNil 1000 (by kernel_rfl)
theorem kFindEnd2 (L p : Cell) : KnownOk Tryz.prog 6 (eFindEnd (.i 2) L p 9) := known_tab mixed J [] knNil 1000 (by kernel_rfl)
theorem kFindEnd3 (L p : Cell) : KnownOk Tryz.prog 6 (eFindEnd (.i 3) L p 9) := known_tab mixed J [] knNil 1000 (by kernel_rfl)
theorem kFindEnd4 (L p : Cell) : KnownOk Tryz.prog 6 (eFindEnd (.i 4) L p 9) := known_tab mixed J [] knNil 1000 (by kernel_rfl)
theorem kFindEnd0 (L p : Cell) : KnownOk Tryz.prog 6 (eFindEnd (.i 0) L p 2) := known_tab mixed J [] knNil 1000 (by kernel_rfl)
theorem kFindEndP (n : Nat) (L p : Cell) : KnownOk Tryz.prog 6 (eFindEnd (.i (n + 5)) L p 2) := known_tab mixed J [] knNil 1000 (by kernel_rfl)
theorem kFindEndM (n : Nat) (L p : Cell) : KnownOk Tryz.prog 6 (eFindEnd (.neg .i64 n) L p 2) := known_tab mixed J [] knNil 1000 (by kernel_rfl)
theorem kFindEnd (z : Int) (L p : Cell) : KnownOk Tryz.prog 6 (eFindEnd (intC z) L p (errN z 9)) := by
  cases z with
  | negSucc n => exact kFindEndM n L p
  | ofNat y =>
    match y with
    | 0 => exact kFindEnd0 L p
    | 1 => exact kFindEnd1 L p
    | 2 => exact kFindEnd2 L p
    | 3 => exact kFindEnd3 L p
    | 4 => exact kFindEnd4 L p
    | n + 5 => exact kFindEndP n L p
def eCheckEnd (d L : Cell) (err : Nat) : Known := ⟨[.c (.ptr (A 210872) 0), .c d, .c L], A 400000, [(A 210872, endB)], .c (.i err), [], [], A 400100⟩
theorem kCheckEnd1 (L : Cell) : KnownOk Tryz.prog 11 (eCheckEnd (.i 1) L 9) := known_tab mixed J [] knNil 1000 (by kernel_rfl)
theorem kCheckEnd2 (L : Cell) : KnownOk Tryz.prog 11 (eCheckEnd (.i 2) L 9) := known_tab mixed J [] knNil 1000 (by kernel_rfl)
theorem kCheckEnd3 (L : Cell) : KnownOk Tryz.prog 11 (eCheckEnd (.i 3) L 9) := known_tab mixed J [] knNil 1000 (by kernel_rfl)
theorem kCheckEnd4 (L : Cell) : KnownOk Tryz.prog 11 (eCheckEnd (.i 4) L 9) := known_tab mixed J [] knNil 1000 (by kernel_rfl)
theorem kCheckEnd0 (L : Cell) : KnownOk Tryz.prog 11 (eCheckEnd (.i 0) L 2) := known_tab mixed J [] knNil 1000 (by kernel_rfl)
theorem kCheckEndP (n : Nat) (L : Cell) : KnownOk Tryz.prog 11 (eCheckEnd (.i (n + 5)) L 2) := known_tab mixed J [] knNil 1000 (by kernel_rfl)
theorem kCheckEndM (n : Nat) (L : Cell) : KnownOk Tryz.prog 11 (eCheckEnd (.neg .i64 n) L 2) := known_tab mixed J [] knNil 1000 (by kernel_rfl)
theorem kCheckEnd (z : Int) (L : Cell) : KnownOk Tryz.prog 11 (eCheckEnd (intC z) L (errN z 9)) := by
  cases z with
  | negSucc n => exact kCheckEndM n L
  | ofNat y =>
    match y with
    | 0 => exact kCheckEnd0 L
    | 1 => exact kCheckEnd1 L
    | 2 => exact kCheckEnd2 L
    | 3 => exact kCheckEnd3 L
    | 4 => exact kCheckEnd4 L
    | n + 5 => exact kCheckEndP n L
theorem ro_rel {φ : Emb} {b : Blk} {o : Obj} {l : Ev.Loc} (h : relBlk (Sl Tryz.prog) (Nt Tryz.prog) φ b o l) : relBlk (Sl Tryz.prog) (Nt Tryz.prog) φ (roOf b) o l := by
  cases b with
  | cells r e ro t =>
    cases o with
    | cells cs t' fz => exact ⟨fun e => (by cases e), h.2.1, h.2.2.1, h.2.2.2.1, h.2.2.2.2.1, fun e => (by cases e)⟩
    | _ => exact h.elim
  | _ => exact h
theorem Lets.rel {w : World} {φ : Emb} {a0 a1 : Option Addr} {n c : Nat} (h : Lets φ w a0 a1) (s0 : SlOk w a0 n c) : relC φ (slC (A 390000) a0 n c) (.slice a0 n c) := s0.rel h.at0
theorem Lets.rel1 {w : World} {φ : Emb} {a0 a1 : Option Addr} {n c : Nat} (h : Lets φ w a0 a1) (s1 : SlOk w a1 n c) : relC φ (slC (A 390001) a1 n c) (.slice a1 n c) := s1.rel h.at1
/-- a transaction on the store of a root alone, new since a world of so many blocks -/
structure Held (base : Nat) (ended : Bool) (bt ot : Nat) (w : World) : Prop where
  ex : ∃ (ψ : Emb) (st : St) (l : Ev.Loc), relW (Sl Tryz.prog) (Nt Tryz.prog) ψ st w ∧ st.old = [] ∧ st.next.num ≤ 210873 ∧ st.heap.at (A 210872) = some (tB false ended) ∧ ψ (A 210872) = some l ∧ l.b = bt ∧ l.base = ot ∧ GlobOk Tryz.prog ψ
  new : base ≤ bt
theorem Held.fr {base : Nat} {q : Bool} {bt ot : Nat} {w w' : World} (h : Held base q bt ot w) (f : Fr (fun _ => False) w w') : Held base q bt ot w' := by
  obtain ⟨⟨ψ, st, l, h1, h2⟩, h3⟩ := h
  refine ⟨⟨ψ, st, l, ⟨fun p b hb => ?_, h1.apart, fun p l hl => Nat.lt_of_lt_of_le (h1.old p l hl) f.size, h1.free, h1.sep⟩, h2⟩, h3⟩
  obtain ⟨l, o, k1, k2, k3⟩ := h1.blk p b hb
  exact ⟨l, o, k1, by rw [f.block l.b (h1.old p l k1) (fun h => h)]; exact k2, k3⟩
theorem num21 : (A 210872).num = 210872 ∧ (A 210873).num = 210873 ∧ (A 200053).num = 200053 ∧ (A 200054).num = 200054 ∧ (A 1000).num = 1000 := ⟨bits_num 30 _ (by decide), bits_num 30 _ (by decide), bits_num 30 _ (by decide), bits_num 30 _ (by decide), bits_num 30 _ (by decide)⟩
/-- Abort ends it -/
theorem abort_call {base : Nat} {bt ot : Nat} {w : World} (h : Held base false bt ot w) :
    Calls Tryz.prog 13 #[.pointer (some ⟨bt, ot, none⟩)] w fun e w' => e = .returned (.int .i64 0) ∧ Held base true bt ot w' ∧ Fr (fun k => base ≤ k) w w' := by
  obtain ⟨⟨ψ, st, l, h1, h2, h3, h4, h5, rfl, rfl, h7⟩, h8⟩ := h
  refine (call_known (φ := ψ) kAbort (RelL.pick h1 h2 (by show st.next.num ≤ (A 210873).num; rw [num21.2.1]; exact h3) fun p b hb => ?_) h7 (vs := #[.pointer (some ⟨l.b, l.base, none⟩)]) ?_).mono ?_
  · have h := List.mem_singleton.1 hb; cases h; exact ⟨_, h4, .inl rfl⟩
  · exact .cons ⟨l, h5, rfl⟩ .nil
  · rintro x w' ⟨v, χ, st', rfl, o⟩
    have hv : v = .int .i64 0 := o.val
    refine ⟨by rw [hv], ⟨⟨χ, st', l, o.rel, o.old, ?_, o.post _ _ (List.mem_cons_self ..), o.le _ _ h5, rfl, rfl, h7.mono o.le⟩, h8⟩, o.fr.mono ?_⟩
    · have := o.next; rw [show eAbort.next' = A 210873 from rfl, num21.2.1] at this; exact this
    · rintro k hk ⟨p, b, m, g1, g2, g3, g4⟩
      have h := List.mem_singleton.1 g1
      cases h
      rw [h5] at g3
      cases g3
      rw [← g4]; exact h8
set_option maxHeartbeats 1000000 in
theorem FindEnd_call {base : Nat} {bt ot : Nat} {w : World} (h : Held base true bt ot w) (z : Int) (n c k c1 : Nat) (a0 a1 : Option Addr) (h0 : 0 < w.heap.size) (s0 : SlOk w a0 n c) (s1 : SlOk w a1 k c1) :
    Calls Tryz.prog 6 #[.pointer (some ⟨bt, ot, none⟩), .int .i64 z, .slice a0 n c, .slice a1 k c1] w (Ret (.tuple #[.agg #[.int .i64 0, .int .i64 0], .int .i64 (errN z 9 : Nat)]) w) := by
  obtain ⟨⟨ψ, st, l, h1, h2, h3, h4, h5, rfl, rfl, h7⟩, h8⟩ := h
  have hf : ∀ p l, ψ p = some l → p.num < 390000 := fun p l hl => by have := h1.free p l hl; omega
  have hl := embS_lets (w := w) h7 h1.old hf h0 s0 s1
  have le := embS_le (a0 := a0) (a1 := a1) hf
  refine (call_known (φ := embS ψ a0 a1) (kFindEnd z (slC (A 390000) a0 n c) (slC (A 390001) a1 k c1)) (RelL.ro (fun _ _ h => ?_) (fun _ _ h => ?_) hl.old hl.free) hl.glob (vs := #[.pointer (some ⟨l.b, l.base, none⟩), .int .i64 z, .slice a0 n c, .slice a1 k c1]) ?_).mono ?_
  · have h := List.mem_singleton.1 h; cases h; rfl
  · have h := List.mem_singleton.1 h; cases h
    obtain ⟨l', o, k1, k2, k3⟩ := h1.blk _ _ (look_own h4)
    exact ⟨l', o, le _ _ k1, k2, relBlk_mono le (ro_rel k3)⟩
  · exact .cons ⟨l, le _ _ h5, rfl⟩ (.cons (intC_rel _ z) (.cons (hl.rel s0) (.cons (hl.rel1 s1) .nil)))
  · rintro x w' ⟨v, χ, st', rfl, o⟩
    exact ⟨by rw [val_agg2 o.val], o.still (fun _ _ h => by have h := List.mem_singleton.1 h; cases h; rfl)⟩
set_option maxHeartbeats 1000000 in
theorem CheckEnd_call {base : Nat} {bt ot : Nat} {w : World} (h : Held base true bt ot w) (z : Int) (n c k c1 : Nat) (a0 a1 : Option Addr) (h0 : 0 < w.heap.size) (s0 : SlOk w a0 n c) (s1 : SlOk w a1 k c1) :
    Calls Tryz.prog 11 #[.pointer (some ⟨bt, ot, none⟩), .int .i64 z, .slice a0 n c] w (Ret (.int .i64 (errN z 9 : Nat)) w) := by
  obtain ⟨⟨ψ, st, l, h1, h2, h3, h4, h5, rfl, rfl, h7⟩, h8⟩ := h
  have hf : ∀ p l, ψ p = some l → p.num < 390000 := fun p l hl => by have := h1.free p l hl; omega
  have hl := embS_lets (w := w) h7 h1.old hf h0 s0 s1
  have le := embS_le (a0 := a0) (a1 := a1) hf
  refine (call_known (φ := embS ψ a0 a1) (kCheckEnd z (slC (A 390000) a0 n c)) (RelL.ro (fun _ _ h => ?_) (fun _ _ h => ?_) hl.old hl.free) hl.glob (vs := #[.pointer (some ⟨l.b, l.base, none⟩), .int .i64 z, .slice a0 n c]) ?_).mono ?_
  · have h := List.mem_singleton.1 h; cases h; rfl
  · have h := List.mem_singleton.1 h; cases h
    obtain ⟨l', o, k1, k2, k3⟩ := h1.blk _ _ (look_own h4)
    exact ⟨l', o, le _ _ k1, k2, relBlk_mono le (ro_rel k3)⟩
  · exact .cons ⟨l, le _ _ h5, rfl⟩ (.cons (intC_rel _ z) (.cons (hl.rel s0) .nil))
  · rintro x w' ⟨v, χ, st', rfl, o⟩
    exact ⟨by rw [val_int o.val], o.still (fun _ _ h => by have h := List.mem_singleton.1 h; cases h; rfl)⟩
/-! ### from what is laid -/
/-- the variables that the store reads lie as they did in a world -/
def Laid0 (W : World) : Prop := ∀ p b, (p, b) ∈ e1000_5.pre → b.isRo = true ∧ ∃ l o, phi0 Tryz.prog W p = some l ∧ W.heap[l.b]? = some o ∧ relBlk (Sl Tryz.prog) (Nt Tryz.prog) (phi0 Tryz.prog W) b o l
theorem awake_call {W w : World} (hL : Laid0 W) (hs : Tryz.prog.globals.size ≤ W.heap.size) (f : Fr (fun _ => False) W w) : Calls Tryz.prog 5 #[] w (Ret (.bool true) w) := by
  have hr : RelL (phi0 Tryz.prog W) e1000_5.next e1000_5.pre W := RelL.ro (fun p b h => (hL p b h).1) (fun p b h => (hL p b h).2) (fun p l h => by have := phi0_some h; omega) (fun p l h => by
    have := phi0_some h; have := Nat.le_of_ble_eq_true globs_small; rw [show e1000_5.next = A 1000 from rfl, num21.2.2.2.2]; omega)
  refine (call_known k1000_5 (hr.fr f) (phi0_glob (Nat.le_trans (Nat.le_of_ble_eq_true globs_small) (by decide))) (vs := #[]) .nil).mono ?_
  rintro x w' ⟨v, ψ, st, rfl, o⟩
  have hv : v = .bool true := o.val
  exact ⟨by rw [hv], o.still (fun p b h => (hL p b h).1)⟩
def argV : List Value := [.int .i64 0, .string ByteArray.empty, .int .i64 1, .slice none 0 0, .string ByteArray.empty, .int .i64 0, .int .i64 0, .int .i64 0]
def argB : Blk := .cells (.l 8 [.i 0, .str 0 0, .i 1, .nil .s, .str 0 0, .i 0, .i 0, .i 0]) true true 61
theorem argB_rel (φ : Emb) (b : Nat) (T : TypeId) : relBlk (Sl Tryz.prog) (Nt Tryz.prog) φ argB (.cells argV.toArray T (0, 0)) ⟨b, 0, 8⟩ := by
  have hs : relC φ (.str 0 0) (.string ByteArray.empty) := ⟨by decide, rfl⟩
  refine ⟨fun e => (by cases e), rfl, Nat.le_refl _, fun _ => ⟨rfl, rfl⟩, ⟨by simp [Rope.wf], ?_⟩, fun e => (by cases e)⟩
  exact .cons rfl (.cons hs (.cons rfl (.cons rfl (.cons hs (.cons rfl (.cons rfl (.cons rfl .nil)))))))
theorem filled_pre : e200054_12.pre = e1000_5.pre ++ [(A 200053, argB)] := by kernel_rfl
theorem filled_post : (A 210872, tB false false) ∈ e200054_12.post := by
  show (A 210872, tB false false) ∈ [_, _, _, _, _, _]
  simp only [List.mem_cons]
  exact .inr (.inr (.inr (.inr (.inr (.inl rfl)))))
set_option maxHeartbeats 1000000 in
theorem filled_call {W w : World} (hL : Laid0 W) (hs : Tryz.prog.globals.size ≤ W.heap.size) (f : Fr (fun _ => False) W w) {b : Nat} {T : TypeId} (hb : RowB w b T argV) :
    Calls Tryz.prog 12 #[.slice (some ⟨b, 0, none⟩) 1 1] w fun e w' => ∃ bd od bt ot : Nat, e = .returned (.tuple #[.pointer (some ⟨bd, od, none⟩), .pointer (some ⟨bt, ot, none⟩)]) ∧ Held w.heap.size false bt ot w' ∧ Fr (fun _ => False) w w' := by
  have hn : phi0 Tryz.prog W (A 200053) = none := phi0_no (by decide) (by decide)
  have le := emb1_le (l := ⟨b, 0, 8⟩) hn
  have hf : ∀ p l, emb1 (phi0 Tryz.prog W) (A 200053) ⟨b, 0, 8⟩ p = some l → p.num < 200054 := emb1_all (C := fun p _ => p.num < 200054) (fun p l h => by have := phi0_some h; have := Nat.le_of_ble_eq_true globs_small; omega) (by rw [num21.2.2.1]; omega)
  have hg : GlobOk Tryz.prog (emb1 (phi0 Tryz.prog W) (A 200053) ⟨b, 0, 8⟩) := (phi0_glob (Nat.le_trans (Nat.le_of_ble_eq_true globs_small) (by decide))).mono le
  have hro : ∀ p c, (p, c) ∈ e200054_12.pre → c.isRo = true := fun p c h => by
    rw [filled_pre] at h
    rcases List.mem_append.1 h with h | h
    · exact (hL p c h).1
    · have h := List.mem_singleton.1 h; cases h; rfl
  refine (call_known (φ := emb1 (phi0 Tryz.prog W) (A 200053) ⟨b, 0, 8⟩) k200054_12 (RelL.ro hro (fun p c h => ?_) (emb1_all (C := fun _ l => l.b < w.heap.size) (fun p l h => ?_) hb.lt) (fun p l h => ?_)) hg (vs := #[.slice (some ⟨b, 0, none⟩) 1 1]) (.cons ⟨_, emb1_at _ _ _, rfl⟩ .nil)).mono ?_
  · rw [filled_pre] at h
    rcases List.mem_append.1 h with h | h
    · obtain ⟨_, l, o, h1, h2, h3⟩ := hL p c h
      exact ⟨l, o, le _ _ h1, by rw [f.block l.b (by have := phi0_some h1; omega) (fun h => h)]; exact h2, relBlk_mono le h3⟩
    · have h := List.mem_singleton.1 h; cases h
      exact ⟨_, _, emb1_at _ _ _, hb, argB_rel _ _ _⟩
  · have := phi0_some h; have := f.size; omega
  · rw [show e200054_12.next = A 200054 from rfl, num21.2.2.2.1]; exact hf p l h
  · rintro x w' ⟨v, ψ, st, rfl, o⟩
    obtain ⟨x, y, rfl, ⟨l1, g1, rfl⟩, ⟨l2, g2, rfl⟩⟩ := pair_inv (show relV ψ (.t [.c (.ptr (A 200059) 0), .c (.ptr (A 210872) 0)]) v from o.val)
    refine ⟨_, _, _, _, rfl, ⟨⟨ψ, st, l2, o.rel, o.old, ?_, o.post _ _ filled_post, g2, rfl, rfl, hg.mono o.le⟩, ?_⟩, o.still hro⟩
    · have := o.next; rw [show e200054_12.next' = A 210873 from rfl, num21.2.1] at this; exact this
    · rcases o.new (A 210872) l2 g2 (by
        cases e : emb1 (phi0 Tryz.prog W) (A 200053) ⟨b, 0, 8⟩ (A 210872) with
        | none => rfl
        | some l => have := hf _ _ e; rw [num21.1] at this; omega) with h | h
      · exact h
      · exact (TurnL.none hro h).elim
end Go.Proofs.YtmkedlikgchpfaaGreatDoor
