/- The evaluator is sound: what it shows holds of every run of the model. -/
import Derived.Handed
import Derived.OpenShut
import GoSem.ClaimJoined
import Derived.Test.YtfdhdhmeahdpbaaGreatDoorVC
/-! A region that draws its order: what is laid down of the closures; ghosts. -/
namespace Ev
open Go
set_option linter.unusedVariables false

/-- a region, and where it stands -/
structure Cx where
  P : Program
  r : Option Nat
  gl : List Nat
  ops : Array Oper
  all : List DOp
  dead : Nat
  ddm : Nat
  init : Array Value
  dfs : List Deferred
  fr : Fr
  cl : Caller
  φ₀ : Emb
  st₀ : St
  w₀ : World
abbrev Recs := List (Nat × RV)
namespace Cx
variable (C : Cx)
def slotAt (j : Nat) : Nat := match C.all[j]? with | some x => slotO x.op | none => 0
def dsR (recs : Recs) : List Nat := recs.map fun q => C.slotAt q.1
def eR (recs : Recs) : Env := recs.map (·.2)
def inR (recs : Recs) (j : Nat) : Bool := (recs.map (·.1)).contains j
/-- the activation as an operation sees it -/
def rdA (val : Nat → Value) (x : DOp) : Act := mixA C.ops C.init C.dfs val (bit x.anc)
def mixR (val : Nat → Value) (recs : Recs) : Act := mixA C.ops C.init C.dfs val (inR recs)
structure Ok : Prop where
  good : Good C.P C.ops C.all
  dst : DstOk C.ops C.init
  reads : ∀ (n : Nat) (x : DOp) (k : Nat) (y : DOp) (t : Nat), C.all[n]? = some x → C.all[k]? = some y → y.op.dst = some t → bit x.rm t = true → bit x.anc k = true ∨ (isKA y = true ∧ bit y.anc n = true ∧ bit C.dead n = false)
  ddm : C.ddm = deadMask C.all C.dead
  glok : ∀ t ∈ C.gl, bit C.ddm t = false
  cl : CallOk C.P C.cl
  frm : relFr C.φ₀ C.gl C.fr C.init
  glob : GlobOk C.P C.φ₀
def Vals (φ : Emb) (recs : Recs) (val : Nat → Value) : Prop := ∀ q ∈ recs, relV φ q.2 (val q.1)
variable {C}
theorem inR_mem {recs : Recs} {j : Nat} : inR recs j = true ↔ j ∈ recs.map (·.1) := by unfold inR; simp
theorem Vals.mono {φ ψ : Emb} {recs : Recs} {val : Nat → Value} (hle : φ.le ψ) (h : Vals φ recs val) : Vals ψ recs val := fun q hq => relV_mono hle (h q hq)
theorem slot_dst {j t : Nat} (h : C.slotAt j = t + 1) : ∃ x, C.all[j]? = some x ∧ x.op.dst = some t := by
  unfold slotAt at h
  cases hx : C.all[j]? with
  | none => rw [hx] at h; cases h
  | some x =>
    rw [hx] at h
    simp only [slotO] at h
    cases hd : x.op.dst with
    | none => rw [hd] at h; cases h
    | some s => rw [hd] at h; exact ⟨x, rfl, by rw [hd, Nat.succ.inj h]⟩
theorem here (ok : C.Ok) {φ : Emb} (hle : C.φ₀.le φ) {recs : Recs} {val : Nat → Value} (hv : Vals φ recs val) : Here C.P φ C.gl (C.dsR recs) (eR recs) C.fr (C.mixR val recs).tmps := by
  refine ⟨?_, ?_, ok.glob.mono hle⟩
  · intro r t v h1 h2 h3
    unfold mixR
    rw [mix_get ok.dst, mixF_miss ?_]
    · exact relV_mono hle (ok.frm r t v h1 h3)
    · intro j o ho ht
      cases hj : inR recs j with
      | false => rfl
      | true =>
        exfalso
        rw [inR_mem] at hj
        obtain ⟨q, hq, rfl⟩ := List.mem_map.1 hj
        have hs : C.slotAt q.1 = t + 1 := by
          have hlt : q.1 < C.all.length := by rw [ok.good.len]; exact (Array.getElem?_eq_some_iff.1 ho).1
          have hx : C.all[q.1]? = some C.all[q.1] := List.getElem?_eq_getElem hlt
          unfold slotAt
          rw [hx]
          have := (ok.good.op _ _ hx).2.1
          rw [ho] at this; cases this
          simp only [slotO, ht]
        have hmem : t + 1 ∈ C.dsR recs := List.mem_map.2 ⟨q, hq, hs⟩
        have : ∀ (l : List Nat) (i : Nat), t + 1 ∈ l → idx (t + 1) l i ≠ none := by
          intro l
          induction l with
          | nil => intro i h; cases h
          | cons y ys ih =>
            intro i h
            show (Bool.rec (idx (t + 1) ys (i + 1)) (some i) (Nat.beq y (t + 1)) : Option Nat) ≠ none
            cases hb : Nat.beq y (t + 1) with
            | true => simp
            | false =>
              rcases List.mem_cons.1 h with h | h
              · rw [← h] at hb; simp at hb
              · exact ih _ h
        exact this _ _ hmem h2
  · intro t d v h1 h2
    obtain ⟨j, e1, e2⟩ := idx_get h1
    have e1 : d = j := by omega
    subst e1
    unfold dsR at e2
    unfold eR at h2
    rw [List.getElem?_map] at e2 h2
    cases hq : recs[d]? with
    | none => rw [hq] at e2; cases e2
    | some q =>
      rw [hq] at e2 h2
      simp only [Option.map_some, Option.some.injEq] at e2 h2
      obtain ⟨x, hx, hxt⟩ := slot_dst e2
      have hm : q ∈ recs := List.mem_of_getElem? hq
      unfold mixR
      rw [mix_get ok.dst, mixF_hit ok.dst (ok.good.op _ _ hx).2.1 hxt (inR_mem.2 (List.mem_map_of_mem hm)), ← h2]
      exact hv q hm
/-- where an operation's event stands: it sees what it will see -/
def AgreeAt (C : Cx) (x : DOp) (recs : Recs) : Prop := ∀ val, Agree x.rm (C.rdA val x) (C.mixR val recs)
theorem agree_of (ok : C.Ok) {n : Nat} {x : DOp} (hx : C.all[n]? = some x) {recs : Recs} (h1 : ∀ t j y, bit x.rm t = true → C.all[j]? = some y → y.op.dst = some t → bit x.anc j = true → inR recs j = true)
    (h2 : ∀ j y, C.all[j]? = some y → isKA y = true → bit y.anc n = true → bit C.dead n = false → inR recs j = false) : AgreeAt C x recs := by
  intro val t ht
  unfold rdA mixR
  rw [mix_get ok.dst, mix_get ok.dst]
  by_cases hj : ∃ (j : Nat) (y : DOp), C.all[j]? = some y ∧ y.op.dst = some t
  · obtain ⟨j, y, hy, hd⟩ := hj
    have hop := (ok.good.op j y hy).2.1
    rcases ok.reads n x j y t hx hy hd ht with h | ⟨h3, h4, h5⟩
    · rw [mixF_hit ok.dst hop hd h, mixF_hit ok.dst hop hd (h1 t j y ht hy hd h)]
    · have hno : bit x.anc j = false := by
        cases hb : bit x.anc j with
        | false => rfl
        | true =>
          have e1 := ok.good.anc_lt n x hx j hb
          have e2 := ok.good.anc_lt j y hy n h4
          omega
      have uniq : ∀ (S : Nat → Bool), S j = false → ∀ (k : Nat) (o : Oper), C.ops[k]? = some o → o.dst = some t → S k = false := fun S hS k o ho ht' => by
        have := ok.dst.inj j k y.op o t hop ho hd ht'
        rw [← this]; exact hS
      rw [mixF_miss (uniq _ hno), mixF_miss (uniq _ (h2 j y hy h3 h4 h5))]
  · have hno : ∀ (k : Nat) (o : Oper), C.ops[k]? = some o → o.dst = some t → False := fun k o ho ht' => by
      have hlt : k < C.all.length := by rw [ok.good.len]; exact (Array.getElem?_eq_some_iff.1 ho).1
      have hx' : C.all[k]? = some C.all[k] := List.getElem?_eq_getElem hlt
      have := (ok.good.op _ _ hx').2.1
      rw [ho] at this; cases this
      exact hj ⟨k, _, hx', ht'⟩
    rw [mixF_miss fun k o ho ht' => (hno k o ho ht').elim, mixF_miss fun k o ho ht' => (hno k o ho ht').elim]
/-- an executed operation that has made a block which nothing knows of yet -/
def GhostAt (C : Cx) (val : Nat → Value) (gw : Nat → World) (φ : Emb) (w : World) (x : DOp) : Prop :=
  (Region.wanted x.op (yielded C.ops (C.rdA val x).tmps) = false ∧ val x.i = undef) ∨
  (Region.wanted x.op (yielded C.ops (C.rdA val x).tmps) = true ∧ ∃ obj d, (execOp (C.rdA val x).eval x.op).run C.P (gw x.i) = .ok (.value (val x.i)) { gw x.i with drawn := d, heap := (gw x.i).heap.push obj } ∧
    w.heap[(gw x.i).heap.size]? = some obj ∧ C.w₀.heap.size ≤ (gw x.i).heap.size ∧ ∀ p m, φ p = some m → m.b ≠ (gw x.i).heap.size)
/-- what is asked of the closure of an operation that does nothing to the memory -/
def ClSem (C : Cx) (x : DOp) (f : OC) (recs : Recs) : Prop :=
  ∀ (φ : Emb) (st : St) (val : Nat → Value) (K : RV → St → R), C.φ₀.le φ → Vals φ recs val → f.run C.cl (eR recs) C.fr st K = .ok →
    (∀ w, relW (Sl C.P) (Nt C.P) φ st w → ∃ v cv, K v st = .ok ∧ relV φ v cv) ∧
    (∀ w gw, relW (Sl C.P) (Nt C.P) φ st w → (∀ n b, C.all[n]? = some b → isKL b = true → bit C.dead n = true → bit x.anc n = true → GhostAt C val gw φ w b) →
      ∃ v cv, K v st = .ok ∧ relV φ v cv ∧ NRes C.P C.ops x.op (C.rdA val x) w cv)
theorem clN_sem (ok : C.Ok) {n : Nat} {x : DOp} (hx : C.all[n]? = some x) (hk : isKN x = true) {recs : Recs} (ha : AgreeAt C x recs) : ClSem C x (clN C.P C.gl C.all x (C.dsR recs)) recs := by
  intro φ st val K hle hv h
  have hh := here ok hle hv
  refine ⟨fun w hw => ?_, fun w gw hw _ => ?_⟩
  · obtain ⟨v, cv, h1, h2, _⟩ := guardD_n ok.good hx hk hh hw h
    exact ⟨v, cv, h1, h2⟩
  · obtain ⟨v, cv, h1, h2, h3⟩ := guardD_n ok.good hx hk hh hw h
    refine ⟨v, cv, h1, h2, ?_⟩
    have hag := ha val
    unfold NRes at h3 ⊢
    rw [hag.wanted ok.good hx, hag.exec ok.good hx]
    exact h3
theorem isStr_rel {φ ψ : Emb} {v : RV} {cv : Value} (h : isStrV v = true) (hv : relV φ v cv) : relV ψ v cv := by
  cases v with
  | c c => cases c <;> first | (cases h; done) | exact hv
  | _ => cases h
/-- a block made out of sight is taken in -/
theorem ghost_bind {x : DOp} (hx : C.all[x.i]? = some x) (ok : C.Ok) {val : Nat → Value} {gw : Nat → World} {φ : Emb} {w : World} {a : Act} (hag : Agree x.rm (C.rdA val x) a) (hg : GhostAt C val gw φ w x)
    {st st' : St} {v : RV} (hl : LRes C.P C.ops x.op φ a (gw x.i) st v st') (hw : relW (Sl C.P) (Nt C.P) φ st w) :
    (v = noVal ∧ st' = st ∧ val x.i = undef) ∨ (∃ blk obj l, SetR st.next st.heap (some blk) st'.heap ∧ (st'.next.num = st.next.num + 1 ∧ st'.old = st.old) ∧ w.heap[l.b]? = some obj ∧ (∀ p m, φ p = some m → m.b ≠ l.b) ∧ C.w₀.heap.size ≤ l.b ∧
      relBlk (Sl C.P) (Nt C.P) (φ.put st.next l) blk obj l ∧ relV (φ.put st.next l) v (val x.i) ∧ l.b = (gw x.i).heap.size ∧ Region.wanted x.op (yielded C.ops (C.rdA val x).tmps) = true) := by
  rcases hl with ⟨h1, h2, h3⟩ | ⟨h1, blk, tot, obj, cv, d, h2, h3, h4, h5⟩
  · rcases hg with ⟨g1, g2⟩ | ⟨g1, _⟩
    · exact .inl ⟨h2, h3, g2⟩
    · rw [hag.wanted ok.good hx, h1] at g1; cases g1
  · rcases hg with ⟨g1, _⟩ | ⟨g1, obj', d', g2, g3, g4, g5⟩
    · rw [hag.wanted ok.good hx, h1] at g1; cases g1
    · rw [hag.exec ok.good hx, h4] at g2
      injection g2 with e1 e2
      injection e1 with e1
      injection e2 with e2
      have e3 := (Array.push_eq_push.1 e2).1
      subst e1; subst e3
      obtain ⟨b1, b2⟩ := h5 (next_free hw)
      exact .inr ⟨blk, obj, ⟨(gw x.i).heap.size, 0, tot⟩, h2, h3, g3, g5, g4, b1, b2, rfl, g1⟩
theorem clC_sem (ok : C.Ok) {b x : DOp} (hb : C.all[b.i]? = some b) (hx : C.all[x.i]? = some x) (hkb : isKL b = true) (hk : isKN x = true) (hgb : b.op.guard = none) (hgx : x.op.guard = none) (hdead : bit C.dead b.i = true) (hanc : bit x.anc b.i = true) {recs : Recs}
    (hnb : inR recs b.i = false) (hab : AgreeAt C b recs) (hax : ∀ v, AgreeAt C x ((b.i, v) :: recs)) : ClSem C x (pairC C.P C.gl (C.dsR recs) b x) recs := by
  have hkd : opKind C.P x.op = some .n := by
    have := (ok.good.op _ _ hx).2.2
    unfold isKN at hk
    cases hc : x.kind with
    | n => rw [hc] at this; exact this
    | _ => rw [hc] at hk; cases hk
  have hkl := kindL ok.good hb hkb
  intro φ st val K hle hv h
  have hh := here ok hle hv
  have h : (compOp C.P C.gl (C.dsR recs) b.op).run C.cl (eR recs) C.fr st (fun v st' => (compOp C.P C.gl (slotO b.op :: C.dsR recs) x.op).run C.cl (v :: eR recs) C.fr st' fun y _ => bif isStrV y then K y st else .bad 160) = .ok := h
  have hds : ∀ v, C.dsR ((b.i, v) :: recs) = slotO b.op :: C.dsR recs := fun v => by
    show C.slotAt b.i :: C.dsR recs = _
    unfold slotAt; rw [hb]
  have hne : ∀ q ∈ recs, q.1 ≠ b.i := fun q hq e => by
    have : inR recs b.i = true := inR_mem.2 (by rw [← e]; exact List.mem_map_of_mem hq)
    rw [hnb] at this; cases this
  have fin : ∀ {ψ : Emb} {st' : St} {w : World} {v : RV} {val' : Nat → Value}, φ.le ψ → Vals ψ ((b.i, v) :: recs) val' → relW (Sl C.P) (Nt C.P) ψ st' w → (compOp C.P C.gl (slotO b.op :: C.dsR recs) x.op).run C.cl (v :: eR recs) C.fr st' (fun y _ => bif isStrV y then K y st else .bad 160) = .ok →
      ∃ v cv, K v st = .ok ∧ relV φ v cv ∧ NRes C.P C.ops x.op (C.rdA val' x) w cv := by
    intro ψ st' w v val' hψ hv' hw' h'
    have hh' := here ok (hle.trans hψ) hv'
    rw [hds v] at hh'
    obtain ⟨y, cv, g1, g2, g3⟩ := compOp_r hkd ψ (C.mixR val' ((b.i, v) :: recs)) w (v :: eR recs) C.fr st' _ hh' hw' h'
    cases hs : isStrV y with
    | false => rw [hs] at g1; cases g1
    | true =>
      rw [hs] at g1
      refine ⟨y, cv, g1, isStr_rel hs g2, .inl ⟨wanted_none hgx, ?_⟩⟩
      rw [(hax v val').exec ok.good hx]; exact g3
  refine ⟨fun w hw => ?_, fun w gw hw hgh => ?_⟩
  · obtain ⟨v, st', blk, tot, obj, cv, d, g1, g2, g3, g4, g5⟩ := compOp_l hkl φ _ _ _ _ _ hh h w
    obtain ⟨g5, g6⟩ := g5 (next_free hw)
    have hx1 := (Ext.draws hw d).trans (Ext.alloc (hw.drawn d) g2 g3.1 g3.2 g5)
    obtain ⟨y, cy, e1, e2, _⟩ := fin (val' := fun j => if j = b.i then cv else val j) hx1.le (fun q hq => by
      rcases List.mem_cons.1 hq with rfl | hq
      · simp only [if_true]; exact g6
      · simp only [if_neg (hne q hq)]; exact relV_mono hx1.le (hv q hq)) hx1.rel g1
    exact ⟨y, cy, e1, e2⟩
  · obtain ⟨v, st', blk, tot, obj, cv, d, g1, g2, g3, g4, g5⟩ := compOp_l hkl φ _ _ _ _ _ hh h (gw b.i)
    have hl : LRes C.P C.ops b.op φ (C.mixR val recs) (gw b.i) st v st' := .inr ⟨wanted_none hgb, blk, tot, obj, cv, d, g2, g3, g4, g5⟩
    rcases ghost_bind hb ok (hab val) (hgh _ b hb hkb hdead hanc) hl hw with ⟨e1, e2, e3⟩ | ⟨blk', obj', l, s1, s2, s3, s4, s5, s6, s7, _⟩
    · subst e2
      have hn := g3.1
      omega
    · have hw' := hw.bind s1 s2.1 s2.2 s3 s4 s6
      exact fin (Emb.put_le (next_free hw)) (fun q hq => by
        rcases List.mem_cons.1 hq with rfl | hq
        · exact s7
        · exact relV_mono (Emb.put_le (next_free hw)) (hv q hq)) hw' g1
end Cx
end Ev
/-! A region that draws its order: the invariant. -/
namespace Ev
open Go
set_option linter.unusedVariables false

theorem put_inj {a b : Act} (hs : a.tmps.size = b.tmps.size) {dst : Option Nat} {x y : Value} (h : a.put dst x = a.put dst y) : b.put dst x = b.put dst y := by
  cases dst with
  | none => rfl
  | some t =>
    by_cases ht : t < a.tmps.size
    · have h : a.tmps.setIfInBounds t x = a.tmps.setIfInBounds t y := congrArg Act.tmps h
      have h2 : (a.tmps.setIfInBounds t x)[t]? = (a.tmps.setIfInBounds t y)[t]? := by rw [h]
      simp [ht] at h2
      rw [h2]
    · show ({ b with tmps := b.tmps.setIfInBounds t x } : Act) = { b with tmps := b.tmps.setIfInBounds t y }
      rw [Array.setIfInBounds_eq_of_size_le (by omega), Array.setIfInBounds_eq_of_size_le (by omega)]
theorem put_defers {a : Act} {dst : Option Nat} {x : Value} : (a.put dst x).defers = a.defers := by cases dst <;> rfl
theorem put_size {a : Act} {dst : Option Nat} {x : Value} : (a.put dst x).tmps.size = a.tmps.size := by cases dst <;> simp [Act.put]
/-- an operation at an activation that looks alike to it -/
theorem gk_transfer {P : Program} {ops : Array Oper} {all : List DOp} (g : Good P ops all) {n : Nat} {x : DOp} (hx : all[n]? = some x) {a a' : Act} (hag : Agree x.rm a a') (hs : a.tmps.size = a'.tmps.size) {r : Option Nat} {φ : Emb} {w : World} {st : St} {G : RV → St → Prop}
    (h : GK P r ops x.op φ a' w st G) : GK P r ops x.op φ a w st G := by
  intro m K Q hK
  have h := h m (fun a₂ w' => a₂.defers = a'.defers ∧ ∀ cv, a₂ = a'.put x.op.dst cv → K (a.put x.op.dst cv) w') (fun _ _ _ => False) (fun ψ w' cv v st' e1 e2 e3 => ⟨put_defers, fun cv' e => by
    rw [← put_inj hs.symm e]; exact hK ψ w' cv v st' e1 e2 e3⟩)
  rw [← hag.wanted g hx] at h
  split at h
  · rename_i hw
    rw [if_pos hw]
    refine ⟨fun _ _ => trivial, ?_⟩
    have h := h.2
    have hd := opKind_defer (g.op n x hx).2.2
    rw [Oper.semAt_eq _ _ _ hd] at h ⊢
    rw [← hag.exec g hx] at h
    generalize (execOp a.eval x.op).run P w = res at h ⊢
    cases res with
    | ok y w' =>
      cases y <;> simp only [Oper.uponIn] at h ⊢
      case value v => exact h.2 v rfl
      case skip => exact h.2 _ rfl
      case defer d =>
        have := h.1
        rw [put_defers] at this
        exact absurd (congrArg List.length this) (by simp)
      case enter f args =>
        refine ⟨h.1, CallsIn.mono h.2 fun e w'' he => ?_⟩
        cases e with
        | returned v => exact he.2 v rfl
        | panicked c => exact he.elim
        | outgrown => obtain ⟨_, _, he⟩ := he; exact he.elim
      case row rw_ args => exact ⟨h.1, RowsIn.mono h.2 fun v w'' he => he.2 v rfl⟩
      case round l f tmps assign body =>
        refine ⟨h.1, RoundIn.mono h.2 fun e w'' he => ?_⟩
        cases e with
        | returned v => exact he.2 v rfl
        | panicked c => exact he.elim
        | outgrown => obtain ⟨_, _, he⟩ := he; exact he.elim
    | halt y w' =>
      cases y <;> simp only [Oper.uponIn] at h ⊢
  · rename_i hw
    rw [if_neg hw]
    exact ⟨fun _ _ => trivial, h.2.2 _ rfl⟩

/-! ### events -/
def evMem (all : List DOp) : DEv → Prop | .n x | .a x | .p x | .l x => x ∈ all | .c b x => b ∈ all ∧ x ∈ all
theorem pair_mem {P : Program} {gl : List Nat} {ds : List DOp} {d b : DOp} (h : pairOf P gl ds d = some b) : b ∈ ds := by
  unfold pairOf at h
  split at h
  · split at h
    · rename_i b' hb
      have := List.mem_of_find?_eq_some hb
      split at h
      · cases h
      · split at h
        · cases h; exact this
        · cases h
    · cases h
  · cases h
theorem plan_mem {P : Program} {gl : List Nat} {all : List DOp} {dead : Nat} : ∀ (f d pr : Nat), ∀ ev ∈ plan P gl all dead f d pr, evMem all ev := by
  intro f
  induction f with
  | zero => intro d pr ev h; cases h
  | succ f ih =>
    intro d pr ev h
    unfold plan at h
    split at h
    · rename_i x hx
      have hm := List.mem_of_find?_eq_some hx
      split at h
      · rcases List.mem_cons.1 h with rfl | h
        · exact hm
        · exact ih _ _ _ h
      · rcases List.mem_cons.1 h with h | h
        · split at h
          · rename_i b hb; subst h; exact ⟨pair_mem hb, hm⟩
          · subst h; exact hm
        · exact ih _ _ _ h
    · simp only [] at h
      split at h
      · rename_i x hx
        have hm := List.mem_of_find?_eq_some hx
        split at h
        · rename_i y hy
          rcases List.mem_cons.1 h with rfl | h
          · exact List.mem_of_find?_eq_some hy
          · exact ih _ _ _ h
        · split at h
          · rcases List.mem_cons.1 h with rfl | h
            · exact hm
            · exact ih _ _ _ h
          · cases h
      · split at h
        · rename_i y hy
          rcases List.mem_cons.1 h with rfl | h
          · exact List.mem_of_find?_eq_some hy
          · exact ih _ _ _ h
        · cases h
section
variable {P : Program} {gl : List Nat} {all : List DOp} {ds : List Nat} {ns : List NChk} {π : List DEv} {c : Caller} {e : Env} {fr : Fr} {st : St} {k : Env → St → R}
theorem compEvs_n {x : DOp} : (compEvs P gl all ds ns (.n x :: π)).run c e fr st k = (clN P gl all x ds).run c e fr st fun v _ => (clN P gl all x ds).run c e fr st fun v' _ =>
    bif v.same v' then (compEvs P gl all (slotO x.op :: ds) (⟨x.i, ds.length, clN P gl all x ds⟩ :: ns) π).run c (v :: e) fr st k else .bad 156 := rfl
theorem compEvs_c {b x : DOp} : (compEvs P gl all ds ns (.c b x :: π)).run c e fr st k = (pairC P gl ds b x).run c e fr st fun v _ => (pairC P gl ds b x).run c e fr st fun v' _ =>
    bif v.same v' then (compEvs P gl all (slotO x.op :: ds) (⟨x.i, ds.length, pairC P gl ds b x⟩ :: ns) π).run c (v :: e) fr st k else .bad 156 := rfl
theorem compEvs_p {x : DOp} : (compEvs P gl all ds ns (.p x :: π)).run c e fr st k = (clN P gl all x ds).run c e fr st fun _ _ => (compEvs P gl all ds ns π).run c e fr st k := rfl
theorem compEvs_l {x : DOp} : (compEvs P gl all ds ns (.l x :: π)).run c e fr st k = (clN P gl all x ds).run c e fr st fun v st' => (chkAll (ds.length + 1) (ns.filter fun y => !bit x.anc y.i)).run c (v :: e) fr st'
    ((compEvs P gl all (slotO x.op :: ds) (ns.filter fun y => !bit x.anc y.i) π).run c (v :: e) fr st' k) := rfl
theorem compEvs_a {x : DOp} : (compEvs P gl all ds ns (.a x :: π)).run c e fr st k = (clN P gl all x ds).run c e fr st fun v st' => (chkAll (ds.length + 1) (ns.filter fun y => !bit x.anc y.i)).run c (v :: e) fr st'
    ((compEvs P gl all (slotO x.op :: ds) (ns.filter fun y => !bit x.anc y.i) π).run c (v :: e) fr st' k) := rfl
end
theorem dropE_ok (m : Nat) : ∀ {e : List RV} {k : List RV → R}, dropE m e k = .ok → k (e.drop m) = .ok := by
  induction m with
  | zero => intro e k h; exact h
  | succ m ih =>
    intro e k h
    cases e with
    | nil => cases h
    | cons x xs => exact ih (show dropE m xs k = .ok from h)
namespace Cx
variable {C : Cx}
/-- an operation laid down: where, with what value -/
structure NShape (C : Cx) (recs : Recs) (c : NChk) (x : DOp) (v : RV) (sfx : Recs) : Prop where
  mem : C.all[x.i]? = some x
  kind : isKN x = true
  i : c.i = x.i
  at_ : ∃ pre, recs = pre ++ (x.i, v) :: sfx
  cnt : c.cnt = sfx.length
  sem : ClSem C x c.f sfx
theorem NShape.more {recs : Recs} {c : NChk} {x : DOp} {v : RV} {sfx : Recs} (h : NShape C recs c x v sfx) (q : Nat × RV) : NShape C (q :: recs) c x v sfx :=
  ⟨h.mem, h.kind, h.i, let ⟨pre, e⟩ := h.at_; ⟨q :: pre, by rw [e]; rfl⟩, h.cnt, h.sem⟩
def NFact (C : Cx) (recs : Recs) (st : St) (c : NChk) : Prop := ∃ x v sfx K n, NShape C recs c x v sfx ∧ c.f.run C.cl (eR sfx) C.fr st (fun v' _ => bif v.same v' then K else .bad n) = .ok
theorem Vals.sub {φ : Emb} {recs sfx : Recs} {val : Nat → Value} (h : Vals φ recs val) (hs : ∀ q ∈ sfx, q ∈ recs) : Vals φ sfx val := fun q hq => h q (hs q hq)
theorem chkAll_ok {φ : Emb} {st : St} {w : World} {val : Nat → Value} {recs : Recs} (hle : C.φ₀.le φ) (hw : relW (Sl C.P) (Nt C.P) φ st w) (hv : Vals φ recs val) : ∀ (ns : List NChk) {k : R}, (∀ c ∈ ns, ∃ x v sfx, NShape C recs c x v sfx) →
    (chkAll recs.length ns).run C.cl (eR recs) C.fr st k = .ok → k = .ok ∧ ∀ c ∈ ns, NFact C recs st c := by
  intro ns
  induction ns with
  | nil => intro k _ h; exact ⟨h, fun c hc => by cases hc⟩
  | cons c ns ih =>
    intro k hs h
    obtain ⟨x, v, sfx, sh⟩ := hs c (List.mem_cons_self ..)
    obtain ⟨pre, hpre⟩ := sh.at_
    have hm : recs.length - c.cnt = pre.length + 1 := by rw [hpre, sh.cnt]; simp; omega
    have h : selN (recs.length - c.cnt - 1) (eR recs) (fun v => dropE (recs.length - c.cnt) (eR recs) fun ei => c.f.run C.cl ei C.fr st fun v' _ => bif v.same v' then (chkAll recs.length ns).run C.cl (eR recs) C.fr st k else .bad 157) = .ok := h
    rw [hm] at h
    obtain ⟨v0, h1, h2⟩ := selN_ok h
    have h3 := dropE_ok _ h2
    have e1 : v0 = v := by
      rw [show pre.length + 1 - 1 = pre.length from rfl, hpre] at h1
      unfold eR at h1
      simp at h1
      exact h1.symm
    have e2 : (eR recs).drop (pre.length + 1) = eR sfx := by
      rw [hpre]
      unfold eR
      rw [List.map_append, List.map_cons]
      have : pre.length + 1 = (List.map (fun q : Nat × RV => q.2) pre).length + 1 := by simp
      rw [this, ← List.drop_drop, List.drop_left']
      · rfl
      · rfl
    rw [e1, e2] at h3
    obtain ⟨v', cv, h4, h5⟩ := (sh.sem φ st val _ hle (hv.sub fun q hq => by rw [hpre]; exact List.mem_append_right _ (List.mem_cons_of_mem _ hq)) h3).1 w hw
    have h6 : (chkAll recs.length ns).run C.cl (eR recs) C.fr st k = .ok := by
      cases hb : v.same v' with
      | false => rw [hb] at h4; cases h4
      | true => rw [hb] at h4; exact h4
    obtain ⟨g1, g2⟩ := ih (fun c hc => hs c (List.mem_cons_of_mem _ hc)) h6
    refine ⟨g1, fun c' hc => ?_⟩
    rcases List.mem_cons.1 hc with rfl | hc
    · exact ⟨x, v, sfx, _, _, sh, h3⟩
    · exact g2 c' hc
/-- that a block can be made has been seen -/
def AFact (C : Cx) (recs : Recs) (x : DOp) : Prop := ∃ sfx st K, (∀ q ∈ sfx, q ∈ recs) ∧ AgreeAt C x sfx ∧ (clN C.P C.gl C.all x (C.dsR sfx)).run C.cl (eR sfx) C.fr st (fun _ _ => K) = .ok
/-- the state of the masks -/
structure Masks (C : Cx) (recs : Recs) (d pr : Nat) : Prop where
  dr : ∀ j, bit d j = true ↔ j ∈ recs.map (·.1)
  dpr : ∀ n x, C.all[n]? = some x → isKL x = true → bit d n = true → bit pr n = true ∧ bit C.dead n = false
  prs : ∀ n x, C.all[n]? = some x → isKL x = true → bit pr n = true → (∀ j, bit x.anc j = true → bit d j = true ∨ bit C.dead j = true) ∧ Nat.land x.rm C.ddm = 0
  das : ∀ n x, C.all[n]? = some x → bit d n = true → ∀ j, bit x.anc j = true → bit d j = true ∨ bit C.dead j = true
theorem Masks.inR {recs : Recs} {d pr : Nat} (h : Masks C recs d pr) (j : Nat) : inR recs j = bit d j := by
  rw [Bool.eq_iff_iff, inR_mem, h.dr]
theorem dead_slot (ok : C.Ok) {j : Nat} {y : DOp} {t : Nat} (hy : C.all[j]? = some y) (ht : y.op.dst = some t) (hd : bit C.dead j = true) : bit C.ddm t = true := by
  rw [ok.ddm, deadMask_bit]
  exact ⟨y, List.mem_of_getElem? hy, by rw [(ok.good.op j y hy).1]; exact hd, ht⟩
/-- an operation's event sees what the operation will see -/
theorem Masks.agree (ok : C.Ok) {recs : Recs} {d pr : Nat} (h : Masks C recs d pr) {n : Nat} {x : DOp} (hx : C.all[n]? = some x) (hd : ∀ j, bit x.anc j = true → bit d j = true ∨ bit C.dead j = true) (hrm : Nat.land x.rm C.ddm = 0)
    (hn : bit C.dead n = false → bit d n = false) : AgreeAt C x recs := by
  refine agree_of ok hx (fun t j y ht hy hdt ha => ?_) (fun j y hy hk ha hdn => ?_)
  · rw [h.inR]
    rcases hd j ha with h1 | h1
    · exact h1
    · exfalso
      have e1 := dead_slot ok hy hdt h1
      have e2 : bit (Nat.land x.rm C.ddm) t = true := by rw [bit_land, ht, e1]; rfl
      rw [hrm, bit_zero] at e2; cases e2
  · rw [h.inR]
    cases hb : bit d j with
    | false => rfl
    | true =>
      rcases h.das j y hy hb n ha with h1 | h1
      · rw [hn hdn] at h1; cases h1
      · rw [hdn] at h1; cases h1
end Cx
end Ev
/-! A region that draws its order: steps of the schedule. -/
namespace Ev
open Go
set_option linter.unusedVariables false
namespace Cx
variable {C : Cx}
theorem kind_cases (x : DOp) : (isKN x = true ∧ isKL x = false ∧ isKA x = false) ∨ (isKN x = false ∧ isKL x = true ∧ isKA x = false) ∨ (isKN x = false ∧ isKL x = false ∧ isKA x = true) := by
  unfold isKN isKL isKA
  cases x.kind <;> simp
/-- the invariant -/
structure Inv (C : Cx) (k : Env → St → R) (D : List Nat) (π : List DEv) (recs : Recs) (ns : List NChk) (d pr sm : Nat) (X : Nat → Prop) (val : Nat → Value) (gw : Nat → World) (a : Act) (w : World) (φ : Emb) (st : St) : Prop where
  ev : evOk C.all C.dead C.ddm π d pr sm = true
  run : (compEvs C.P C.gl C.all (C.dsR recs) ns π).run C.cl (eR recs) C.fr st k = .ok
  slots : slotsEv π (C.dsR recs) = D
  mem : ∀ e ∈ π, evMem C.all e
  masks : Masks C recs d pr
  nod : (recs.map (·.1)).Nodup
  ext : Ext (Sl C.P) (Nt C.P) C.φ₀ C.st₀ C.w₀ φ st w
  vals : Vals φ recs val
  ran : ∀ (j : Nat) (x : DOp) (t : Nat), C.all[j]? = some x → X j → x.op.dst = some t → a.tmps.getD t undef = val j
  idle : ∀ t, (∀ (j : Nat) (x : DOp), C.all[j]? = some x → X j → x.op.dst ≠ some t) → a.tmps.getD t undef = C.init.getD t undef
  size : a.tmps.size = C.init.size
  dfs : a.defers = C.dfs
  noA : ∀ x, DEv.a x ∈ π → ¬ X x.i
  smd : ∀ (n : Nat) (x : DOp), C.all[n]? = some x → isKN x = false → bit d n = true → bit sm n = true
  smX : ∀ j, bit sm j = true → X j
  clo : Closed C.all X
  preds : ∀ c ∈ ns, NFact C recs st c
  live : ∀ (n : Nat) (x : DOp), C.all[n]? = some x → isKN x = true → bit d n = true → ¬ X n → ∃ c ∈ ns, c.i = n
  exd : ∀ (n : Nat) (x : DOp), C.all[n]? = some x → X n → (isKL x = true → bit pr n = true) ∧ (isKL x = false → bit d n = true)
  afact : ∀ (n : Nat) (x : DOp), C.all[n]? = some x → isKL x = true → bit pr n = true → AFact C recs x
  ghosts : ∀ (n : Nat) (x : DOp), C.all[n]? = some x → isKL x = true → X n → bit d n = false → GhostAt C val gw φ w x
  gap : ∀ (n m : Nat) (x y : DOp), C.all[n]? = some x → C.all[m]? = some y → isKL x = true → isKL y = true → X n → X m → bit d n = false → bit d m = false → n ≠ m →
    Region.wanted x.op (yielded C.ops (C.rdA val x).tmps) = true → Region.wanted y.op (yielded C.ops (C.rdA val y).tmps) = true → (gw n).heap.size ≠ (gw m).heap.size
theorem slotAt_eq {n : Nat} {x : DOp} (h : C.all[n]? = some x) : C.slotAt n = slotO x.op := by unfold slotAt; rw [h]
theorem dsR_cons {n : Nat} {x : DOp} {v : RV} {recs : Recs} (h : C.all[n]? = some x) : C.dsR ((n, v) :: recs) = slotO x.op :: C.dsR recs := by
  show C.slotAt n :: C.dsR recs = _; rw [slotAt_eq h]
theorem dsR_length {recs : Recs} : (C.dsR recs).length = recs.length := by simp [dsR]
/-- the masks behind an operation that is laid down -/
theorem Masks.lay {recs : Recs} {d pr : Nat} (h : Masks C recs d pr) {x : DOp} (hx : C.all[x.i]? = some x) {v : RV} (hd : ∀ j, bit x.anc j = true → bit d j = true ∨ bit C.dead j = true)
    (hl : isKL x = true → bit pr x.i = true ∧ bit C.dead x.i = false) : Masks C ((x.i, v) :: recs) (orBit x.i d) pr := by
  have hb : ∀ j, bit (orBit x.i d) j = true ↔ bit d j = true ∨ x.i = j := fun j => by rw [bit_orBit]; simp
  refine ⟨fun j => ?_, fun n y hy hk hn => ?_, fun n y hy hk hn => ?_, fun n y hy hn j hj => ?_⟩
  · rw [hb, h.dr]; simp [eq_comm, or_comm]
  · rcases (hb n).1 hn with h1 | h1
    · exact h.dpr n y hy hk h1
    · subst h1; rw [hx] at hy; cases hy; exact hl hk
  · obtain ⟨g1, g2⟩ := h.prs n y hy hk hn
    exact ⟨fun j hj => (g1 j hj).imp (fun g => (hb j).2 (.inl g)) id, g2⟩
  · rw [hb]
    rcases (hb n).1 hn with h1 | h1
    · exact (h.das n y hy h1 j hj).imp .inl id
    · subst h1; rw [hx] at hy; cases hy; exact (hd j hj).imp .inl id
def upd {α : Type} (f : Nat → α) (i : Nat) (v : α) : Nat → α := fun j => if j = i then v else f j
theorem upd_ne {α : Type} {f : Nat → α} {i j : Nat} {v : α} (h : j ≠ i) : upd f i v j = f j := if_neg h
theorem upd_same {α : Type} {f : Nat → α} {i : Nat} {v : α} : upd f i v i = v := if_pos rfl
/-- what an executed operation sees does not change -/
theorem rdA_upd (ok : C.Ok) {X : Nat → Prop} (hX : Closed C.all X) {n : Nat} {x : DOp} (hx : C.all[n]? = some x) (hn : X n) {i : Nat} (hi : ¬ X i) {val : Nat → Value} {v : Value} : C.rdA (upd val i v) x = C.rdA val x := by
  unfold rdA
  refine mixA_congr fun j hj => upd_ne fun e => hi ?_
  subst e
  exact ok.good.anc_ran hX n x hx (fun e he hb => hX n x hx hn e he hb) j hj
theorem GhostAt.upd (ok : C.Ok) {X : Nat → Prop} (hX : Closed C.all X) {n : Nat} {x : DOp} (hx : C.all[n]? = some x) (hn : X n) {i : Nat} (hi : ¬ X i) {val : Nat → Value} {v : Value} {gw : Nat → World} {φ : Emb} {w : World} (h : GhostAt C val gw φ w x) :
    GhostAt C (upd val i v) gw φ w x := by
  have hne : x.i ≠ i := fun e => hi (by rw [← e, (ok.good.op n x hx).1]; exact hn)
  unfold GhostAt at h ⊢
  rw [rdA_upd ok hX hx hn hi, upd_ne hne]; exact h
theorem evOk_n {all : List DOp} {dead ddm : Nat} {x : DOp} {π : List DEv} {d pr sm : Nat} (h : evOk all dead ddm (.n x :: π) d pr sm = true) :
    isKN x = true ∧ bit d x.i = false ∧ (∀ j, bit x.anc j = true → bit d j = true ∨ (bit pr j = true ∧ bit dead j = true)) ∧ (∀ j, bit sm j = true → bit x.anc j = true) ∧ Nat.land x.rm ddm = 0 ∧ evOk all dead ddm π (orBit x.i d) pr sm = true := by
  unfold evOk at h
  simp only [Bool.and_eq_true, Bool.not_eq_true'] at h
  obtain ⟨⟨⟨⟨⟨h1, h2⟩, h3⟩, h4⟩, h5⟩, h6⟩ := h
  refine ⟨h1, h2, fun j hj => ?_, fun j hj => subMask_bit h4 hj, beq_t h5, h6⟩
  have := subMask_bit h3 hj
  rw [bit_lor, bit_land] at this
  simpa using this
theorem evOk_a {all : List DOp} {dead ddm : Nat} {x : DOp} {π : List DEv} {d pr sm : Nat} (h : evOk all dead ddm (.a x :: π) d pr sm = true) :
    isKA x = true ∧ bit d x.i = false ∧ (∀ j, bit x.anc j = true → bit d j = true ∨ (bit pr j = true ∧ bit dead j = true)) ∧ (∀ j, bit sm j = true → bit x.anc j = true) ∧ Nat.land x.rm ddm = 0 ∧ evOk all dead ddm π (orBit x.i d) pr (orBit x.i sm) = true := by
  unfold evOk at h
  simp only [Bool.and_eq_true, Bool.not_eq_true'] at h
  obtain ⟨⟨⟨⟨⟨h1, h2⟩, h3⟩, h4⟩, h5⟩, h6⟩ := h
  refine ⟨h1, h2, fun j hj => ?_, fun j hj => subMask_bit h4 hj, beq_t h5, h6⟩
  have := subMask_bit h3 hj
  rw [bit_lor, bit_land] at this
  simpa using this
theorem evOk_p {all : List DOp} {dead ddm : Nat} {x : DOp} {π : List DEv} {d pr sm : Nat} (h : evOk all dead ddm (.p x :: π) d pr sm = true) :
    isKL x = true ∧ bit pr x.i = false ∧ (∀ j, bit x.anc j = true → bit d j = true ∨ (bit pr j = true ∧ bit dead j = true)) ∧ (∀ j, bit sm j = true → bit x.anc j = true) ∧ Nat.land x.rm ddm = 0 ∧ evOk all dead ddm π d (orBit x.i pr) sm = true := by
  unfold evOk at h
  simp only [Bool.and_eq_true, Bool.not_eq_true'] at h
  obtain ⟨⟨⟨⟨⟨h1, h2⟩, h3⟩, h4⟩, h5⟩, h6⟩ := h
  refine ⟨h1, h2, fun j hj => ?_, fun j hj => subMask_bit h4 hj, beq_t h5, h6⟩
  have := subMask_bit h3 hj
  rw [bit_lor, bit_land] at this
  simpa using this
theorem evOk_l {all : List DOp} {dead ddm : Nat} {x : DOp} {π : List DEv} {d pr sm : Nat} (h : evOk all dead ddm (.l x :: π) d pr sm = true) :
    isKL x = true ∧ bit d x.i = false ∧ bit pr x.i = true ∧ bit dead x.i = false ∧ evOk all dead ddm π (orBit x.i d) pr (orBit x.i sm) = true := by
  unfold evOk at h
  simp only [Bool.and_eq_true, Bool.not_eq_true'] at h
  obtain ⟨⟨⟨⟨h1, h2⟩, h3⟩, h4⟩, h5⟩ := h
  exact ⟨h1, h2, h3, h4, h5⟩
theorem evOk_c {all : List DOp} {dead ddm : Nat} {b x : DOp} {π : List DEv} {d pr sm : Nat} (h : evOk all dead ddm (.c b x :: π) d pr sm = true) :
    isKN x = true ∧ isKL b = true ∧ bit d x.i = false ∧ (∀ j, bit x.anc j = true → bit d j = true ∨ (bit pr j = true ∧ bit dead j = true)) ∧ (∀ j, bit sm j = true → bit x.anc j = true) ∧
    bit dead b.i = true ∧ bit pr b.i = true ∧ bit x.anc b.i = true ∧ b.op.guard = none ∧ x.op.guard = none ∧ Nat.land x.rm ddm = dstBit b.op 0 ∧ evOk all dead ddm π (orBit x.i d) pr sm = true := by
  unfold evOk at h
  simp only [Bool.and_eq_true, Bool.not_eq_true'] at h
  obtain ⟨⟨⟨⟨⟨⟨⟨⟨⟨⟨⟨h1, h2⟩, h3⟩, h4⟩, h5⟩, h6⟩, h7⟩, h8⟩, h9⟩, h10⟩, h11⟩, h12⟩ := h
  refine ⟨h1, h2, h3, fun j hj => ?_, fun j hj => subMask_bit h5 hj, h6, h7, h8, by simpa using h9, by simpa using h10, beq_t h11, h12⟩
  have := subMask_bit h4 hj
  rw [bit_lor, bit_land] at this
  simpa using this
variable {k : Env → St → R} {D : List Nat} {π : List DEv} {recs : Recs} {ns : List NChk} {d pr sm : Nat} {X : Nat → Prop} {val : Nat → Value} {gw : Nat → World} {a : Act} {w : World} {φ : Emb} {st : St}
/-- what is laid down of an operation that does nothing to the memory -/
theorem Inv.lay (ok : C.Ok) {ev : DEv} (h : Inv C k D (ev :: π) recs ns d pr sm X val gw a w φ st) {x : DOp} {f : OC} (hx : C.all[x.i]? = some x) (hk : isKN x = true) (hd : bit d x.i = false) (hanc : ∀ j, bit x.anc j = true → bit d j = true ∨ bit C.dead j = true)
    (hev : evOk C.all C.dead C.ddm π (orBit x.i d) pr sm = true) (hsl : slotsEv π (slotO x.op :: C.dsR recs) = D) (hsem : ClSem C x f recs)
    (hrun : f.run C.cl (eR recs) C.fr st (fun v _ => f.run C.cl (eR recs) C.fr st fun v' _ => bif v.same v' then (compEvs C.P C.gl C.all (slotO x.op :: C.dsR recs) (⟨x.i, (C.dsR recs).length, f⟩ :: ns) π).run C.cl (v :: eR recs) C.fr st k else .bad 156) = .ok) :
    ∃ v val', Inv C k D π ((x.i, v) :: recs) (⟨x.i, (C.dsR recs).length, f⟩ :: ns) (orBit x.i d) pr sm X val' gw a w φ st := by
  have hw := h.ext.rel
  have hle := h.ext.le
  obtain ⟨v, cv, h1, h2⟩ := (hsem φ st val _ hle h.vals hrun).1 w hw
  obtain ⟨v', cv', h3, h4⟩ := (hsem φ st val _ hle h.vals h1).1 w hw
  have hkl : isKL x = false := by rcases kind_cases x with h | h | h <;> simp_all
  have hnX : ¬ X x.i := fun hX => by rw [(h.exd _ _ hx hX).2 hkl] at hd; cases hd
  have hrun' : (compEvs C.P C.gl C.all (slotO x.op :: C.dsR recs) (⟨x.i, (C.dsR recs).length, f⟩ :: ns) π).run C.cl (v :: eR recs) C.fr st k = .ok := by
    cases hb : v.same v' with
    | false => rw [hb] at h3; cases h3
    | true => rw [hb] at h3; exact h3
  have hnm : x.i ∉ recs.map (·.1) := fun hm => by rw [(h.masks.dr _).2 hm] at hd; cases hd
  refine ⟨v, upd val x.i cv, ?_⟩
  have hbit : ∀ j, bit (orBit x.i d) j = true ↔ bit d j = true ∨ x.i = j := fun j => by rw [bit_orBit]; simp
  refine
    { ev := hev, run := by rw [dsR_cons hx]; exact hrun', slots := by rw [dsR_cons hx]; exact hsl, mem := fun e he => h.mem e (List.mem_cons_of_mem _ he),
      masks := h.masks.lay hx hanc (fun h => by rw [hkl] at h; cases h), nod := by simpa using ⟨by simpa using hnm, h.nod⟩, ext := h.ext, vals := ?_, ran := ?_, idle := h.idle, size := h.size, dfs := h.dfs,
      noA := fun y hy => h.noA y (List.mem_cons_of_mem _ hy), smd := ?_, smX := h.smX, clo := h.clo, preds := ?_, live := ?_, exd := ?_, afact := ?_, ghosts := ?_, gap := ?_ }
  · intro q hq
    rcases List.mem_cons.1 hq with rfl | hq
    · rw [upd_same]; exact h2
    · rw [upd_ne fun e => hnm (by rw [← e]; exact List.mem_map_of_mem hq)]; exact h.vals q hq
  · intro j y t hy hj ht
    rw [upd_ne (fun e : j = x.i => hnX (by rw [← e]; exact hj))]; exact h.ran j y t hy hj ht
  · intro n y hy hkn hn
    rcases (hbit n).1 hn with h5 | h5
    · exact h.smd n y hy hkn h5
    · subst h5; rw [hx] at hy; cases hy; rw [hk] at hkn; cases hkn
  · intro c hc
    rcases List.mem_cons.1 hc with rfl | hc
    · exact ⟨x, v, recs, _, _, ⟨hx, hk, rfl, ⟨[], rfl⟩, dsR_length, hsem⟩, h1⟩
    · obtain ⟨y, vy, sfx, K, n, sh, hr⟩ := h.preds c hc
      exact ⟨y, vy, sfx, K, n, sh.more _, hr⟩
  · intro n y hy hkn hn hX
    rcases (hbit n).1 hn with h5 | h5
    · obtain ⟨c, hc, e⟩ := h.live n y hy hkn h5 hX
      exact ⟨c, List.mem_cons_of_mem _ hc, e⟩
    · exact ⟨_, List.mem_cons_self .., h5⟩
  · intro n y hy hX
    obtain ⟨g1, g2⟩ := h.exd n y hy hX
    exact ⟨g1, fun hl => (hbit n).2 (.inl (g2 hl))⟩
  · intro n y hy hkl' hp
    obtain ⟨sfx, stp, K, g1, g2, g3⟩ := h.afact n y hy hkl' hp
    exact ⟨sfx, stp, K, fun q hq => List.mem_cons_of_mem _ (g1 q hq), g2, g3⟩
  · intro n y hy hkl' hX hn
    have hn' : bit d n = false := by
      cases hb : bit d n with
      | false => rfl
      | true => rw [(hbit n).2 (.inl hb)] at hn; cases hn
    exact (h.ghosts n y hy hkl' hX hn').upd ok h.clo hy hX hnX
  · intro n m y z hy hz hky hkz hXn hXm hn hm hne hwy hwz
    have hb : ∀ n, bit (orBit x.i d) n = false → bit d n = false := fun n hn => by
      cases hb : bit d n with
      | false => rfl
      | true => rw [(hbit n).2 (.inl hb)] at hn; cases hn
    rw [rdA_upd ok h.clo hy hXn hnX] at hwy
    rw [rdA_upd ok h.clo hz hXm hnX] at hwz
    exact h.gap n m y z hy hz hky hkz hXn hXm (hb n hn) (hb m hm) hne hwy hwz
theorem Inv.adv_n (ok : C.Ok) {x : DOp} (h : Inv C k D (.n x :: π) recs ns d pr sm X val gw a w φ st) : ∃ v f val', Inv C k D π ((x.i, v) :: recs) (f :: ns) (orBit x.i d) pr sm X val' gw a w φ st := by
  obtain ⟨e1, e2, e3, e4, e5, e6⟩ := evOk_n h.ev
  have hx := ok.good.mem (h.mem _ (List.mem_cons_self ..))
  have hanc : ∀ j, bit x.anc j = true → bit d j = true ∨ bit C.dead j = true := fun j hj => (e3 j hj).imp id And.right
  have hag := h.masks.agree ok hx hanc e5 (fun _ => e2)
  obtain ⟨v, val', g⟩ := h.lay ok hx e1 e2 hanc e6 h.slots (clN_sem ok hx e1 hag) (by rw [← compEvs_n]; exact h.run)
  exact ⟨v, _, val', g⟩
theorem Inv.adv_c (ok : C.Ok) {b x : DOp} (h : Inv C k D (.c b x :: π) recs ns d pr sm X val gw a w φ st) : ∃ v f val', Inv C k D π ((x.i, v) :: recs) (f :: ns) (orBit x.i d) pr sm X val' gw a w φ st := by
  obtain ⟨e1, eb, e2, e3, e4, f1, f2, f3, f4, f5, e5, e6⟩ := evOk_c h.ev
  obtain ⟨mb, mx⟩ := h.mem _ (List.mem_cons_self ..)
  have hx := ok.good.mem mx
  have hb := ok.good.mem mb
  have hanc : ∀ j, bit x.anc j = true → bit d j = true ∨ bit C.dead j = true := fun j hj => (e3 j hj).imp id And.right
  obtain ⟨p1, p2⟩ := h.masks.prs _ b hb eb f2
  have hnb : bit d b.i = false := by
    cases hd : bit d b.i with
    | false => rfl
    | true => rw [(h.masks.dpr _ b hb eb hd).2] at f1; cases f1
  have hagb := h.masks.agree ok hb p1 p2 (fun hd => by rw [f1] at hd; cases hd)
  have hagx : ∀ v, AgreeAt C x ((b.i, v) :: recs) := fun v => by
    have hin : ∀ j, inR ((b.i, v) :: recs) j = true ↔ j = b.i ∨ bit d j = true := fun j => by rw [inR_mem, h.masks.dr]; simp
    refine agree_of ok hx (fun t j y ht hy hdt ha => ?_) (fun j y hy hk ha hdn => ?_)
    · rw [hin]
      rcases hanc j ha with h1 | h1
      · exact .inr h1
      · left
        have q1 := dead_slot ok hy hdt h1
        have q2 : bit (Nat.land x.rm C.ddm) t = true := by rw [bit_land, ht, q1]; rfl
        rw [e5, bit_dstBit, bit_zero] at q2
        simp at q2
        exact ok.dst.inj j b.i y.op b.op t (ok.good.op j y hy).2.1 (ok.good.op b.i b hb).2.1 hdt q2
    · cases hb' : inR ((b.i, v) :: recs) j with
      | false => rfl
      | true =>
        rcases (hin j).1 hb' with h1 | h1
        · subst h1; rw [hb] at hy; cases hy
          rcases kind_cases b with h | h | h <;> simp_all
        · rcases h.masks.das j y hy h1 x.i ha with h2 | h2
          · rw [e2] at h2; cases h2
          · rw [hdn] at h2; cases h2
  have hsem := clC_sem ok hb hx eb e1 f4 f5 f1 f3 (recs := recs) (by rw [h.masks.inR]; exact hnb) hagb hagx
  obtain ⟨v, val', g⟩ := h.lay ok hx e1 e2 hanc e6 h.slots hsem (by rw [← compEvs_c]; exact h.run)
  exact ⟨v, _, val', g⟩
theorem Inv.adv_p (ok : C.Ok) {x : DOp} (h : Inv C k D (.p x :: π) recs ns d pr sm X val gw a w φ st) : Inv C k D π recs ns d (orBit x.i pr) sm X val gw a w φ st := by
  obtain ⟨e1, e2, e3, e4, e5, e6⟩ := evOk_p h.ev
  have hx := ok.good.mem (h.mem _ (List.mem_cons_self ..))
  have hanc : ∀ j, bit x.anc j = true → bit d j = true ∨ bit C.dead j = true := fun j hj => (e3 j hj).imp id And.right
  have hnd : bit d x.i = false := by
    cases hd : bit d x.i with
    | false => rfl
    | true => rw [(h.masks.dpr _ x hx e1 hd).1] at e2; cases e2
  have hag := h.masks.agree ok hx hanc e5 (fun _ => hnd)
  have hr := h.run
  rw [compEvs_p] at hr
  obtain ⟨v, st', h1, _⟩ := guardD_l ok.good hx e1 (here ok h.ext.le h.vals) hr w
  have hbit : ∀ j, bit (orBit x.i pr) j = true ↔ bit pr j = true ∨ x.i = j := fun j => by rw [bit_orBit]; simp
  refine
    { ev := e6, run := h1, slots := h.slots, mem := fun e he => h.mem e (List.mem_cons_of_mem _ he), masks := ⟨h.masks.dr, ?_, ?_, h.masks.das⟩, nod := h.nod, ext := h.ext, vals := h.vals, ran := h.ran, idle := h.idle, size := h.size, dfs := h.dfs,
      noA := fun y hy => h.noA y (List.mem_cons_of_mem _ hy), smd := h.smd, smX := h.smX, clo := h.clo, preds := h.preds, live := h.live, exd := ?_, afact := ?_, ghosts := h.ghosts, gap := h.gap }
  · intro n y hy hk hn
    exact ⟨(hbit n).2 (.inl (h.masks.dpr n y hy hk hn).1), (h.masks.dpr n y hy hk hn).2⟩
  · intro n y hy hk hn
    rcases (hbit n).1 hn with h5 | h5
    · exact h.masks.prs n y hy hk h5
    · subst h5; rw [hx] at hy; cases hy; exact ⟨hanc, e5⟩
  · intro n y hy hX
    obtain ⟨g1, g2⟩ := h.exd n y hy hX
    exact ⟨fun hk => (hbit n).2 (.inl (g1 hk)), g2⟩
  · intro n y hy hk hn
    rcases (hbit n).1 hn with h5 | h5
    · exact h.afact n y hy hk h5
    · subst h5; rw [hx] at hy; cases hy; exact ⟨recs, st, _, fun q hq => hq, hag, hr⟩
end Cx
end Ev
/-! A region that draws its order: what the machine does. -/
namespace Ev
open Go
set_option linter.unusedVariables false
namespace Cx
variable {C : Cx}
variable {k : Env → St → R} {D : List Nat} {π : List DEv} {recs : Recs} {ns : List NChk} {d pr sm : Nat} {X : Nat → Prop} {val : Nat → Value} {gw : Nat → World} {a : Act} {w : World} {φ : Emb} {st : St}
theorem GhostAt.keep {val : Nat → Value} {gw : Nat → World} {φ ψ : Emb} {w w' : World} {x : DOp} (h : GhostAt C val gw φ w x)
    (hh : Region.wanted x.op (yielded C.ops (C.rdA val x).tmps) = true → (gw x.i).heap.size < w.heap.size → (∀ p m, φ p = some m → m.b ≠ (gw x.i).heap.size) →
      w'.heap[(gw x.i).heap.size]? = w.heap[(gw x.i).heap.size]? ∧ ∀ p m, ψ p = some m → m.b ≠ (gw x.i).heap.size) : GhostAt C val gw ψ w' x := by
  rcases h with h | ⟨h1, obj, dd, h2, h3, h4, h5⟩
  · exact .inl h
  · obtain ⟨g1, g2⟩ := hh h1 (Array.getElem?_eq_some_iff.1 h3).1 h5
    exact .inr ⟨h1, obj, dd, h2, by rw [g1]; exact h3, h4, g2⟩
theorem Inv.adv_l (ok : C.Ok) {x : DOp} (h : Inv C k D (.l x :: π) recs ns d pr sm X val gw a w φ st) (hX : X x.i) :
    ∃ v ns' φ' st', Inv C k D π ((x.i, v) :: recs) ns' (orBit x.i d) pr (orBit x.i sm) X val gw a w φ' st' := by
  obtain ⟨e1, e2, e3, e4, e5⟩ := evOk_l h.ev
  have hx := ok.good.mem (h.mem _ (List.mem_cons_self ..))
  obtain ⟨p1, p2⟩ := h.masks.prs _ x hx e1 e3
  have hag := h.masks.agree ok hx p1 p2 (fun _ => e2)
  have hw := h.ext.rel
  have hr := h.run
  rw [compEvs_l] at hr
  obtain ⟨v, st', hchk, hl⟩ := guardD_l ok.good hx e1 (here ok h.ext.le h.vals) hr (gw x.i)
  have hgh := h.ghosts _ x hx e1 hX e2
  have hbit : ∀ j, bit (orBit x.i d) j = true ↔ bit d j = true ∨ x.i = j := fun j => by rw [bit_orBit]; simp
  have hbf : ∀ n, bit (orBit x.i d) n = false → bit d n = false ∧ n ≠ x.i := fun n hn => by
    refine ⟨?_, fun e => ?_⟩
    · cases hb : bit d n with
      | false => rfl
      | true => rw [(hbit n).2 (.inl hb)] at hn; cases hn
    · rw [(hbit n).2 (.inr e.symm)] at hn; cases hn
  obtain ⟨φ', hle, hext, hv, hg'⟩ : ∃ φ', φ.le φ' ∧ Ext (Sl C.P) (Nt C.P) C.φ₀ C.st₀ C.w₀ φ' st' w ∧ relV φ' v (val x.i) ∧
      ∀ (n : Nat) (y : DOp), C.all[n]? = some y → isKL y = true → X n → bit (orBit x.i d) n = false → GhostAt C val gw φ' w y := by
    rcases ghost_bind hx ok (hag val) hgh hl hw with ⟨r1, r2, r3⟩ | ⟨blk, obj, l, s1, s2, s3, s4, s5, s6, s7, s8, s9⟩
    · subst r2
      exact ⟨φ, φ.le_refl, h.ext, by rw [r1, r3]; exact relV_undef, fun n y hy hk hXn hn => h.ghosts n y hy hk hXn (hbf n hn).1⟩
    · refine ⟨φ.put st.next l, Emb.put_le (next_free hw), h.ext.bind s1 s2.1 s2.2 (Nat.le_refl _) (fun _ _ => rfl) ⟨rfl, rfl, rfl⟩ s3 s4 s5 s6, s7, fun n y hy hk hXn hn => ?_⟩
      obtain ⟨n1, n2⟩ := hbf n hn
      refine (h.ghosts n y hy hk hXn n1).keep fun hwy _ hfr => ⟨rfl, fun p m hp => ?_⟩
      rcases emb_put_cases hp with ⟨_, rfl⟩ | ⟨_, hp⟩
      · rw [s8]
        have := h.gap x.i n x y hx hy e1 hk hX hXn e2 n1 (Ne.symm n2) s9 hwy
        rw [(ok.good.op n y hy).1]; exact this
      · exact hfr p m hp
  have hvals : Vals φ' ((x.i, v) :: recs) val := fun q hq => by
    rcases List.mem_cons.1 hq with rfl | hq
    · exact hv
    · exact relV_mono hle (h.vals q hq)
  have hshape : ∀ c ∈ ns, ∃ y vy sfx, NShape C ((x.i, v) :: recs) c y vy sfx := fun c hc => by
    obtain ⟨y, vy, sfx, K, n, sh, hr⟩ := h.preds c hc
    exact ⟨y, vy, sfx, sh.more _⟩
  obtain ⟨hrest, hpreds⟩ := chkAll_ok hext.le hext.rel hvals (ns.filter fun y => !bit x.anc y.i) (fun c hc => hshape c (List.mem_filter.1 hc).1) (by
    rw [dsR_length] at hchk; exact hchk)
  have hnm : x.i ∉ recs.map (·.1) := fun hm => by rw [(h.masks.dr _).2 hm] at e2; cases e2
  refine ⟨v, ns.filter fun y => !bit x.anc y.i, φ', st',
    { ev := e5, run := by rw [dsR_cons hx]; exact hrest, slots := by rw [dsR_cons hx]; exact h.slots, mem := fun e he => h.mem e (List.mem_cons_of_mem _ he),
      masks := h.masks.lay hx p1 (fun _ => ⟨e3, e4⟩), nod := by simpa using ⟨by simpa using hnm, h.nod⟩, ext := hext, vals := hvals, ran := h.ran, idle := h.idle, size := h.size, dfs := h.dfs,
      noA := fun y hy => h.noA y (List.mem_cons_of_mem _ hy), smd := ?_, smX := ?_, clo := h.clo, preds := hpreds, live := ?_, exd := ?_, afact := ?_, ghosts := hg', gap := ?_ }⟩
  · intro n y hy hk hn
    rw [bit_orBit]
    rcases (hbit n).1 hn with h5 | h5
    · rw [h.smd n y hy hk h5]; rfl
    · simp [h5]
  · intro j hj
    rw [bit_orBit] at hj
    simp at hj
    rcases hj with hj | hj
    · exact h.smX j hj
    · rw [← hj]; exact hX
  · intro n y hy hk hn hXn
    rcases (hbit n).1 hn with h5 | h5
    · obtain ⟨c, hc, e⟩ := h.live n y hy hk h5 hXn
      refine ⟨c, List.mem_filter.2 ⟨hc, ?_⟩, e⟩
      cases hb : bit x.anc c.i with
      | false => rfl
      | true => exact absurd (ok.good.anc_ran h.clo _ x hx (fun e he hb => h.clo _ x hx hX e he hb) _ (by rw [← e]; exact hb)) hXn
    · subst h5; rw [hx] at hy; cases hy
      rcases kind_cases x with h | h | h <;> simp_all
  · intro n y hy hXn
    obtain ⟨g1, g2⟩ := h.exd n y hy hXn
    exact ⟨g1, fun hl => (hbit n).2 (.inl (g2 hl))⟩
  · intro n y hy hk hp
    obtain ⟨sfx, stp, K, g1, g2, g3⟩ := h.afact n y hy hk hp
    exact ⟨sfx, stp, K, fun q hq => List.mem_cons_of_mem _ (g1 q hq), g2, g3⟩
  · intro n m y z hy hz hky hkz hXn hXm hn hm
    exact h.gap n m y z hy hz hky hkz hXn hXm (hbf n hn).1 (hbf m hm).1

/-! ### what is executed -/
def addX (X : Nat → Prop) (i : Nat) : Nat → Prop := fun j => X j ∨ j = i
/-- a ready operation sees what it should -/
theorem Inv.now (ok : C.Ok) (h : Inv C k D π recs ns d pr sm X val gw a w φ st) {x : DOp} (hx : C.all[x.i]? = some x) (hX : ¬ X x.i) (hanc : ∀ j, bit x.anc j = true → X j) : Agree x.rm a (C.rdA val x) := by
  intro t ht
  unfold rdA
  rw [mix_get ok.dst]
  by_cases hj : ∃ (j : Nat) (y : DOp), C.all[j]? = some y ∧ y.op.dst = some t
  · obtain ⟨j, y, hy, hd⟩ := hj
    have hop := (ok.good.op j y hy).2.1
    rcases ok.reads x.i x j y t hx hy hd ht with h1 | ⟨h3, h4, h5⟩
    · rw [mixF_hit ok.dst hop hd h1]; exact h.ran j y t hy (hanc j h1) hd
    · have hnX : ¬ X j := fun hXj => hX (ok.good.anc_ran h.clo j y hy (fun e he hb => h.clo j y hy hXj e he hb) _ h4)
      rw [mixF_miss, h.idle t]
      · intro j' y' hy' hX' hd'
        have := ok.dst.inj j j' y.op y'.op t hop (ok.good.op j' y' hy').2.1 hd hd'
        subst this; exact hnX hX'
      · intro j' o' ho' hd'
        have := ok.dst.inj j j' y.op o' t hop ho' hd hd'
        subst this
        cases hb : bit x.anc j with
        | false => rfl
        | true => exact absurd (hanc j hb) hnX
  · rw [mixF_miss, h.idle t]
    · exact fun j y hy _ hd => hj ⟨j, y, hy, hd⟩
    · intro j o ho hd
      exfalso
      have hlt : j < C.all.length := by rw [ok.good.len]; exact (Array.getElem?_eq_some_iff.1 ho).1
      have hx' : C.all[j]? = some C.all[j] := List.getElem?_eq_getElem hlt
      have := (ok.good.op _ _ hx').2.1
      rw [ho] at this; cases this
      exact hj ⟨j, _, hx', hd⟩
theorem put_getD {a : Act} {dst : Option Nat} {v : Value} {t : Nat} : (a.put dst v).tmps.getD t undef = if dst = some t ∧ t < a.tmps.size then v else a.tmps.getD t undef := by
  cases dst with
  | none => simp [Act.put]
  | some s =>
    show (a.tmps.setIfInBounds s v).getD t undef = _
    rw [getD_set]
    by_cases e : s = t
    · subst e; simp
    · simp [e]
theorem Inv.ran_put (ok : C.Ok) (h : Inv C k D π recs ns d pr sm X val gw a w φ st) {x : DOp} (hx : C.all[x.i]? = some x) (hX : ¬ X x.i) (cv : Value) :
    (∀ (j : Nat) (y : DOp) (t : Nat), C.all[j]? = some y → addX X x.i j → y.op.dst = some t → (a.put x.op.dst cv).tmps.getD t undef = upd val x.i cv j) ∧
    (∀ t, (∀ (j : Nat) (y : DOp), C.all[j]? = some y → addX X x.i j → y.op.dst ≠ some t) → (a.put x.op.dst cv).tmps.getD t undef = C.init.getD t undef) := by
  constructor
  · intro j y t hy hXj hd
    rw [put_getD]
    by_cases e : j = x.i
    · subst e
      rw [hx] at hy; cases hy
      rw [if_pos ⟨hd, by rw [h.size]; exact ok.dst.lt _ _ t (ok.good.op _ _ hx).2.1 hd⟩, upd_same]
    · rw [if_neg, upd_ne e]
      · exact h.ran j y t hy (hXj.resolve_right e) hd
      · rintro ⟨e1, _⟩
        exact e (ok.dst.inj j x.i y.op x.op t (ok.good.op _ _ hy).2.1 (ok.good.op _ _ hx).2.1 hd e1)
  · intro t ht
    rw [put_getD, if_neg]
    · exact h.idle t fun j y hy hXj => ht j y hy (.inl hXj)
    · rintro ⟨e1, _⟩
      exact ht x.i x hx (.inr rfl) e1
theorem closed_add (ok : C.Ok) (h : Closed C.all X) {x : DOp} (hx : C.all[x.i]? = some x) (hdir : ∀ e ∈ x.op.after, Region.binds .any e = true → X e.on) : Closed C.all (addX X x.i) := by
  intro n y hy hXn e he hb
  rcases hXn with hXn | rfl
  · exact .inl (h n y hy hXn e he hb)
  · rw [hx] at hy; cases hy; exact .inl (hdir e he hb)
theorem nodup_fst {l : Recs} (hn : (l.map (·.1)).Nodup) : ∀ p ∈ l, ∀ q ∈ l, p.1 = q.1 → p = q := by
  induction l with
  | nil => intro p hp; cases hp
  | cons z zs ih =>
    intro p hp q hq e
    rw [List.map_cons, List.nodup_cons] at hn
    rcases List.mem_cons.1 hp with h1 | h1 <;> rcases List.mem_cons.1 hq with h2 | h2
    · rw [h1, h2]
    · exact absurd (by rw [← h1, e]; exact List.mem_map_of_mem h2) hn.1
    · exact absurd (by rw [← h2, ← e]; exact List.mem_map_of_mem h1) hn.1
    · exact ih hn.2 p h1 q h2 e
theorem evA_kind {y : DOp} {π : List DEv} : ∀ {d pr sm : Nat}, evOk C.all C.dead C.ddm π d pr sm = true → DEv.a y ∈ π → isKA y = true := by
  induction π with
  | nil => intro _ _ _ _ hm; cases hm
  | cons ev π ih =>
    intro d pr sm hev hm
    rcases List.mem_cons.1 hm with h1 | h1
    · subst h1; exact (evOk_a hev).1
    · cases ev with
      | n z => exact ih (evOk_n hev).2.2.2.2.2 h1
      | a z => exact ih (evOk_a hev).2.2.2.2.2 h1
      | p z => exact ih (evOk_p hev).2.2.2.2.2 h1
      | l z => exact ih (evOk_l hev).2.2.2.2 h1
      | c b z => exact ih (evOk_c hev).2.2.2.2.2.2.2.2.2.2.2 h1
/-- one that does nothing to the memory -/
theorem Inv.exec_n (ok : C.Ok) (h : Inv C k D π recs ns d pr sm X val gw a w φ st) {x : DOp} (hx : C.all[x.i]? = some x) (hk : isKN x = true) (hd : bit d x.i = true) (hX : ¬ X x.i) (hdir : ∀ e ∈ x.op.after, Region.binds .any e = true → X e.on)
    {m : Nat} {K : Act → World → Prop} {Q : Exit → Act → World → Prop} (hK : ∀ cv, Inv C k D π recs ns d pr sm (addX X x.i) (upd val x.i cv) gw (a.put x.op.dst cv) w φ st → K (a.put x.op.dst cv) w) :
    wpOpIn (FF C.r) m C.P C.ops Q x.i K a w := by
  have hanc := ok.good.anc_ran h.clo _ x hx hdir
  have hnow := h.now ok hx hX hanc
  obtain ⟨c, hc, hci⟩ := h.live _ x hx hk hd hX
  obtain ⟨y, vy, sfx, Kk, nn, sh, hr⟩ := h.preds c hc
  have hyx : y = x := by
    have := sh.mem
    rw [← sh.i, hci, hx] at this; cases this; rfl
  subst hyx
  obtain ⟨pre, hpre⟩ := sh.at_
  have hsub : ∀ q ∈ sfx, q ∈ recs := fun q hq => by rw [hpre]; exact List.mem_append_right _ (List.mem_cons_of_mem _ hq)
  have hkl : isKL y = false := by rcases kind_cases y with h | h | h <;> simp_all
  have hka : isKA y = false := by rcases kind_cases y with h | h | h <;> simp_all
  have hgh : ∀ (n : Nat) (b : DOp), C.all[n]? = some b → isKL b = true → bit C.dead n = true → bit y.anc n = true → GhostAt C val gw φ w b := fun n b hb hkb hdead ha => by
    refine h.ghosts n b hb hkb (hanc n ha) ?_
    cases hdn : bit d n with
    | false => rfl
    | true => rw [(h.masks.dpr n b hb hkb hdn).2] at hdead; cases hdead
  obtain ⟨v', cv, h1, h2, h3⟩ := (sh.sem φ st val _ h.ext.le (h.vals.sub hsub) hr).2 w gw h.ext.rel hgh
  have hrv : relV φ vy cv := by
    cases hb : vy.same v' with
    | false => rw [hb] at h1; cases h1
    | true => exact rv_same hb h2
  have hKcv : K (a.put y.op.dst cv) w := by
    obtain ⟨r1, r2⟩ := h.ran_put ok hx hX cv
    refine hK cv
      { ev := h.ev, run := h.run, slots := h.slots, mem := h.mem, masks := h.masks, nod := h.nod, ext := h.ext, vals := ?_, ran := r1, idle := r2, size := by rw [put_size]; exact h.size, dfs := by rw [put_defers]; exact h.dfs,
        noA := fun z hz hXz => ?_, smd := h.smd, smX := fun j hj => .inl (h.smX j hj), clo := closed_add ok h.clo hx hdir, preds := h.preds, live := fun n z hz hkz hn hXn => h.live n z hz hkz hn fun hx => hXn (.inl hx), exd := ?_, afact := h.afact, ghosts := ?_, gap := ?_ }
    · intro q hq
      by_cases e : q.1 = y.i
      · have hmem : (y.i, vy) ∈ recs := by rw [hpre]; simp
        have : q = (y.i, vy) := by
          have hp := h.nod
          exact nodup_fst hp q hq _ hmem e
        rw [this]
        show relV φ vy (upd val y.i cv y.i)
        rw [upd_same]; exact hrv
      · rw [upd_ne e]; exact h.vals q hq
    · rcases hXz with hXz | e
      · exact h.noA z hz hXz
      · have hmz := ok.good.mem (h.mem _ hz)
        rw [e, hx] at hmz; cases hmz
        rw [evA_kind h.ev hz] at hka; cases hka
    · intro n z hz hXn
      rcases hXn with hXn | rfl
      · exact h.exd n z hz hXn
      · rw [hx] at hz; cases hz; exact ⟨fun hl => (by rw [hkl] at hl; cases hl), fun _ => hd⟩
    · intro n z hz hkz hXn hn
      have hXn : X n := hXn.resolve_right fun e => by subst e; rw [hx] at hz; cases hz; rw [hkl] at hkz; cases hkz
      exact (h.ghosts n z hz hkz hXn hn).upd ok h.clo hz hXn hX
    · intro n1 n2 z1 z2 hz1 hz2 hk1 hk2 hX1 hX2 hn1 hn2 hne hw1 hw2
      have hX1 : X n1 := hX1.resolve_right fun e => by subst e; rw [hx] at hz1; cases hz1; rw [hkl] at hk1; cases hk1
      have hX2 : X n2 := hX2.resolve_right fun e => by subst e; rw [hx] at hz2; cases hz2; rw [hkl] at hk2; cases hk2
      rw [rdA_upd ok h.clo hz1 hX1 hX] at hw1
      rw [rdA_upd ok h.clo hz2 hX2 hX] at hw2
      exact h.gap n1 n2 z1 z2 hz1 hz2 hk1 hk2 hX1 hX2 hn1 hn2 hne hw1 hw2
  unfold wpOpIn
  rw [(ok.good.op _ _ hx).2.1]
  simp only []
  unfold NRes at h3
  rw [← hnow.wanted ok.good hx, ← hnow.exec ok.good hx] at h3
  rcases h3 with ⟨g1, g2⟩ | ⟨g1, g2⟩
  · rw [if_pos g1]
    refine ⟨fun _ _ => trivial, ?_⟩
    rw [Oper.semAt_eq _ _ _ (opKind_defer (ok.good.op _ _ hx).2.2), g2]
    exact hKcv
  · rw [if_neg (by rw [g1]; simp)]
    subst g2
    exact ⟨fun _ _ => trivial, hKcv⟩
end Cx
end Ev
/-! A region that draws its order: what the machine does, to the memory. -/
namespace Ev
open Go
set_option linter.unusedVariables false
theorem Ext.push {slots : Nat → List Nat} {nts : Nat → Nat} {φ₀ φ : Emb} {st₀ st : St} {w₀ w : World} (h : Ext slots nts φ₀ st₀ w₀ φ st w) (d : Nat) (o : Obj) :
    Ext slots nts φ₀ st₀ w₀ φ st { w with drawn := d, heap := w.heap.push o } := by
  have hk : ∀ x, x < w.heap.size → (w.heap.push o)[x]? = w.heap[x]? := fun x hx => by simp [Array.getElem?_push, Nat.ne_of_lt hx]
  exact ⟨h.le, h.rel.grow (by simp) hk, by have := h.size; simp; omega, h.own, fun b hb hno => (hk b (Nat.lt_of_lt_of_le hb h.size)).trans (h.keep b hb hno), h.new, h.next, h.tape, h.os, h.out, h.lay⟩
namespace Cx
variable {C : Cx}
variable {k : Env → St → R} {D : List Nat} {π : List DEv} {recs : Recs} {ns : List NChk} {d pr sm : Nat} {X : Nat → Prop} {val : Nat → Value} {gw : Nat → World} {a : Act} {w : World} {φ : Emb} {st : St}
theorem Inv.vals_upd (h : Inv C k D π recs ns d pr sm X val gw a w φ st) {i : Nat} (hi : bit d i = false) (cv : Value) {ψ : Emb} (hle : φ.le ψ) : Vals ψ recs (upd val i cv) := fun q hq => by
  rw [upd_ne]
  · exact relV_mono hle (h.vals q hq)
  · intro e
    rw [(h.masks.dr i).2 (by rw [← e]; exact List.mem_map_of_mem hq)] at hi; cases hi
/-- one that makes a block -/
theorem Inv.exec_l (ok : C.Ok) (h : Inv C k D π recs ns d pr sm X val gw a w φ st) {x : DOp} (hx : C.all[x.i]? = some x) (hk : isKL x = true) (hp : bit pr x.i = true) (hX : ¬ X x.i) (hdir : ∀ e ∈ x.op.after, Region.binds .any e = true → X e.on)
    {m : Nat} {K : Act → World → Prop} {Q : Exit → Act → World → Prop} (hK : ∀ cv gw' w', Inv C k D π recs ns d pr sm (addX X x.i) (upd val x.i cv) gw' (a.put x.op.dst cv) w' φ st → K (a.put x.op.dst cv) w') :
    wpOpIn (FF C.r) m C.P C.ops Q x.i K a w := by
  have hanc := ok.good.anc_ran h.clo _ x hx hdir
  have hnow := h.now ok hx hX hanc
  have hkn : isKN x = false := by rcases kind_cases x with h | h | h <;> simp_all
  have hka : isKA x = false := by rcases kind_cases x with h | h | h <;> simp_all
  have hdx : bit d x.i = false := by
    cases hb : bit d x.i with
    | false => rfl
    | true => exact absurd (h.smX _ (h.smd _ x hx hkn hb)) hX
  obtain ⟨sfx, stp, K0, a1, a2, a3⟩ := h.afact _ x hx hk hp
  obtain ⟨v, st', _, hl⟩ := guardD_l ok.good hx hk (here ok h.ext.le (h.vals.sub a1)) a3 w
  have hag : Agree x.rm a (C.mixR val sfx) := hnow.trans (a2 val)
  have hrd : ∀ cv, C.rdA (upd val x.i cv) x = C.rdA val x := fun cv => by
    unfold rdA
    refine mixA_congr fun j hj => upd_ne fun e => ?_
    have := ok.good.anc_lt _ x hx j hj
    omega
  have hXe : ∀ {n : Nat} {z : DOp}, C.all[n]? = some z → n ≠ x.i → addX X x.i n → X n := fun _ hne hh => hh.resolve_right hne
  have mk : ∀ cv gw' w', Ext (Sl C.P) (Nt C.P) C.φ₀ C.st₀ C.w₀ φ st w' → (∀ n, n ≠ x.i → gw' n = gw n) → GhostAt C (upd val x.i cv) gw' φ w' x → (∀ b, b < w.heap.size → w'.heap[b]? = w.heap[b]?) →
      (Region.wanted x.op (yielded C.ops (C.rdA val x).tmps) = true → (gw' x.i).heap.size = w.heap.size) →
      Inv C k D π recs ns d pr sm (addX X x.i) (upd val x.i cv) gw' (a.put x.op.dst cv) w' φ st := by
    intro cv gw' w' hext hgw hgx hkeep hsz
    obtain ⟨r1, r2⟩ := h.ran_put ok hx hX cv
    have hgo : ∀ (n : Nat) (z : DOp), C.all[n]? = some z → isKL z = true → X n → bit d n = false → GhostAt C (upd val x.i cv) gw' φ w' z := by
      intro n z hz hkz hXn hn
      have hni : z.i = n := (ok.good.op n z hz).1
      have hne : n ≠ x.i := fun e => hX (e ▸ hXn)
      have g := ((h.ghosts n z hz hkz hXn hn).upd ok h.clo hz hXn hX (v := cv)).keep (w' := w') (ψ := φ) (fun _ hlt hfr => ⟨hkeep _ hlt, hfr⟩)
      unfold GhostAt at g ⊢
      rw [hgw z.i (by rw [hni]; exact hne)]; exact g
    refine
      { ev := h.ev, run := h.run, slots := h.slots, mem := h.mem, masks := h.masks, nod := h.nod, ext := hext, vals := h.vals_upd hdx cv φ.le_refl, ran := r1, idle := r2, size := by rw [put_size]; exact h.size, dfs := by rw [put_defers]; exact h.dfs,
        noA := fun z hz hXz => ?_, smd := h.smd, smX := fun j hj => .inl (h.smX j hj), clo := closed_add ok h.clo hx hdir, preds := h.preds, live := fun n z hz hkz hn hXn => h.live n z hz hkz hn fun hx => hXn (.inl hx), exd := ?_, afact := h.afact, ghosts := ?_, gap := ?_ }
    · rcases hXz with hXz | e
      · exact h.noA z hz hXz
      · have hmz := ok.good.mem (h.mem _ hz)
        rw [e, hx] at hmz; cases hmz
        rw [evA_kind h.ev hz] at hka; cases hka
    · intro n z hz hXn
      rcases hXn with hXn | e
      · exact h.exd n z hz hXn
      · subst e; rw [hx] at hz; cases hz; exact ⟨fun _ => hp, fun hl => (by rw [hk] at hl; cases hl)⟩
    · intro n z hz hkz hXn hn
      by_cases e : n = x.i
      · subst e; rw [hx] at hz; cases hz; exact hgx
      · exact hgo n z hz hkz (hXn.resolve_right e) hn
    · intro n1 n2 z1 z2 hz1 hz2 hk1 hk2 hX1 hX2 hn1 hn2 hne hw1 hw2
      have old : ∀ (n : Nat) (z : DOp), C.all[n]? = some z → isKL z = true → addX X x.i n → bit d n = false → n ≠ x.i → Region.wanted z.op (yielded C.ops (C.rdA (upd val x.i cv) z).tmps) = true →
          X n ∧ Region.wanted z.op (yielded C.ops (C.rdA val z).tmps) = true ∧ (gw' n).heap.size < w.heap.size := by
        intro n z hz hkz hXn hn e hwz
        have hXn := hXn.resolve_right e
        rw [rdA_upd ok h.clo hz hXn hX] at hwz
        refine ⟨hXn, hwz, ?_⟩
        rw [hgw n e]
        rcases h.ghosts n z hz hkz hXn hn with ⟨g1, _⟩ | ⟨_, obj, dd, _, g3, _⟩
        · rw [hwz] at g1; cases g1
        · have := (Array.getElem?_eq_some_iff.1 g3).1
          rw [(ok.good.op n z hz).1] at this; exact this
      by_cases e1 : n1 = x.i
      · have e2 : n2 ≠ x.i := fun e => hne (e1.trans e.symm)
        obtain ⟨_, _, g3⟩ := old n2 z2 hz2 hk2 hX2 hn2 e2 hw2
        subst e1
        rw [hx] at hz1; cases hz1
        rw [hrd cv] at hw1
        have := hsz hw1
        omega
      · by_cases e2 : n2 = x.i
        · obtain ⟨_, _, g3⟩ := old n1 z1 hz1 hk1 hX1 hn1 e1 hw1
          subst e2
          rw [hx] at hz2; cases hz2
          rw [hrd cv] at hw2
          have := hsz hw2
          omega
        · obtain ⟨q1, q2, _⟩ := old n1 z1 hz1 hk1 hX1 hn1 e1 hw1
          obtain ⟨q3, q4, _⟩ := old n2 z2 hz2 hk2 hX2 hn2 e2 hw2
          rw [hgw n1 e1, hgw n2 e2]
          exact h.gap n1 n2 z1 z2 hz1 hz2 hk1 hk2 q1 q3 hn1 hn2 hne q2 q4
  unfold wpOpIn
  rw [(ok.good.op _ _ hx).2.1]
  simp only []
  rcases hl with ⟨g1, _, _⟩ | ⟨g1, blk, tot, obj, cv, dd, _, _, g4, _⟩
  · have hw1 := g1
    rw [← hag.wanted ok.good hx] at g1
    rw [if_neg (by rw [g1]; simp)]
    refine ⟨fun _ _ => trivial, hK undef gw w (mk undef gw w h.ext (fun _ _ => rfl) ?_ (fun _ _ => rfl) ?_)⟩
    · refine .inl ⟨?_, upd_same⟩
      rw [hrd, ← hnow.wanted ok.good hx]; exact g1
    · intro hh; rw [← hnow.wanted ok.good hx, g1] at hh; cases hh
  · rw [← hag.wanted ok.good hx] at g1
    rw [← hag.exec ok.good hx] at g4
    rw [if_pos g1]
    refine ⟨fun _ _ => trivial, ?_⟩
    rw [Oper.semAt_eq _ _ _ (opKind_defer (ok.good.op _ _ hx).2.2), g4]
    refine hK cv (upd gw x.i w) _ (mk cv (upd gw x.i w) _ (h.ext.push dd obj) (fun n hn => upd_ne hn) ?_ (fun b hb => ?_) (fun _ => by rw [upd_same]))
    · refine .inr ⟨by rw [hrd, ← hnow.wanted ok.good hx]; exact g1, obj, dd, ?_, ?_, ?_, ?_⟩
      · rw [hrd, upd_same, upd_same, ← hnow.exec ok.good hx]; exact g4
      · rw [upd_same]; simp
      · rw [upd_same]; exact h.ext.size
      · intro p m hp; rw [upd_same]; have := h.ext.rel.old p m hp; omega
    · simp [Array.getElem?_push, Nat.ne_of_lt hb]
/-- one that turns the memory -/
theorem Inv.exec_a (ok : C.Ok) {x : DOp} (h : Inv C k D (.a x :: π) recs ns d pr sm X val gw a w φ st) (hX : ¬ X x.i) (hdir : ∀ e ∈ x.op.after, Region.binds .any e = true → X e.on)
    {m : Nat} {K : Act → World → Prop} {Q : Exit → Act → World → Prop} (hK : ∀ cv v ns' ψ st' w', Inv C k D π ((x.i, v) :: recs) ns' (orBit x.i d) pr (orBit x.i sm) (addX X x.i) (upd val x.i cv) gw (a.put x.op.dst cv) w' ψ st' → K (a.put x.op.dst cv) w') :
    wpOpIn (FF C.r) m C.P C.ops Q x.i K a w := by
  obtain ⟨e1, e2, e3, e4, e5, e6⟩ := evOk_a h.ev
  have hx := ok.good.mem (h.mem _ (List.mem_cons_self ..))
  have hancd : ∀ j, bit x.anc j = true → bit d j = true ∨ bit C.dead j = true := fun j hj => (e3 j hj).imp id And.right
  have hanc := ok.good.anc_ran h.clo _ x hx hdir
  have hnow := h.now ok hx hX hanc
  have hagx := h.masks.agree ok hx hancd e5 (fun _ => e2)
  have hag : Agree x.rm a (C.mixR val recs) := hnow.trans (hagx val)
  have hkn : isKN x = false := by rcases kind_cases x with h | h | h <;> simp_all
  have hkl : isKL x = false := by rcases kind_cases x with h | h | h <;> simp_all
  have hr := h.run
  rw [compEvs_a] at hr
  have hgk := guardD_a ok.cl (r := C.r) ok.good hx (here ok h.ext.le h.vals) h.ext.rel hr
  have hgk := gk_transfer ok.good hx hag (by rw [h.size]; simp [mixR, mixA]) hgk
  have hbit : ∀ j, bit (orBit x.i d) j = true ↔ bit d j = true ∨ x.i = j := fun j => by rw [bit_orBit]; simp
  have hbf : ∀ n, bit (orBit x.i d) n = false → bit d n = false ∧ n ≠ x.i := fun n hn => by
    refine ⟨?_, fun e => ?_⟩
    · cases hb : bit d n with
      | false => rfl
      | true => rw [(hbit n).2 (.inl hb)] at hn; cases hn
    · rw [(hbit n).2 (.inr e.symm)] at hn; cases hn
  have hnm : x.i ∉ recs.map (·.1) := fun hm => by rw [(h.masks.dr _).2 hm] at e2; cases e2
  unfold wpOpIn
  rw [(ok.good.op _ _ hx).2.1]
  simp only []
  refine hgk m K Q fun ψ w' cv v st' x1 x2 x3 => hK cv v (ns.filter fun y => !bit x.anc y.i) ψ st' w' ?_
  have hext := h.ext.trans x1
  have hvals : Vals ψ ((x.i, v) :: recs) (upd val x.i cv) := fun q hq => by
    rcases List.mem_cons.1 hq with rfl | hq
    · rw [upd_same]; exact x2
    · exact h.vals_upd e2 cv x1.le q hq
  obtain ⟨hrest, hpreds⟩ := chkAll_ok hext.le hext.rel hvals (ns.filter fun y => !bit x.anc y.i) (fun c hc => by
    obtain ⟨y, vy, sfx, K, n, sh, hr⟩ := h.preds c (List.mem_filter.1 hc).1
    exact ⟨y, vy, sfx, sh.more _⟩) (by rw [dsR_length] at x3; exact x3)
  obtain ⟨r1, r2⟩ := h.ran_put ok hx hX cv
  have hXn : ∀ {n : Nat} {z : DOp}, C.all[n]? = some z → isKL z = true → addX X x.i n → X n := fun hz hkz hh => hh.resolve_right fun e => by
    subst e; rw [hx] at hz; cases hz; rw [hkl] at hkz; cases hkz
  refine
    { ev := e6, run := by rw [dsR_cons hx]; exact hrest, slots := by rw [dsR_cons hx]; exact h.slots, mem := fun e he => h.mem e (List.mem_cons_of_mem _ he),
      masks := h.masks.lay hx hancd (fun h => by rw [hkl] at h; cases h), nod := by simpa using ⟨by simpa using hnm, h.nod⟩, ext := hext, vals := hvals, ran := r1, idle := r2, size := by rw [put_size]; exact h.size, dfs := by rw [put_defers]; exact h.dfs,
      noA := fun z hz hXz => ?_, smd := ?_, smX := ?_, clo := closed_add ok h.clo hx hdir, preds := hpreds, live := ?_, exd := ?_, afact := ?_, ghosts := ?_, gap := ?_ }
  · rcases hXz with hXz | e
    · exact h.noA z (List.mem_cons_of_mem _ hz) hXz
    · have hmz := ok.good.mem (h.mem _ (List.mem_cons_of_mem _ hz))
      rw [e, hx] at hmz; cases hmz
      have : ∀ {π : List DEv} {d pr sm : Nat}, evOk C.all C.dead C.ddm π d pr sm = true → DEv.a x ∈ π → bit d x.i = false := by
        intro π
        induction π with
        | nil => intro _ _ _ _ hm; cases hm
        | cons ev π ih =>
          intro d pr sm hev hm
          have down : ∀ {i : Nat}, bit (orBit i d) x.i = false → bit d x.i = false := fun {i} hb => by
            rw [bit_orBit] at hb; simp at hb; exact hb.1
          rcases List.mem_cons.1 hm with h1 | h1
          · subst h1; exact (evOk_a hev).2.1
          · cases ev with
            | n z => exact down (ih (evOk_n hev).2.2.2.2.2 h1)
            | a z => exact down (ih (evOk_a hev).2.2.2.2.2 h1)
            | p z => exact ih (evOk_p hev).2.2.2.2.2 h1
            | l z => exact down (ih (evOk_l hev).2.2.2.2 h1)
            | c b z => exact down (ih (evOk_c hev).2.2.2.2.2.2.2.2.2.2.2 h1)
      have := this e6 hz
      rw [(hbit _).2 (.inr rfl)] at this; cases this
  · intro n y hy hk hn
    rw [bit_orBit]
    rcases (hbit n).1 hn with h5 | h5
    · rw [h.smd n y hy hk h5]; rfl
    · simp [h5]
  · intro j hj
    rw [bit_orBit] at hj
    simp at hj
    rcases hj with hj | hj
    · exact .inl (h.smX j hj)
    · exact .inr hj.symm
  · intro n y hy hk hn hXn'
    rcases (hbit n).1 hn with h5 | h5
    · obtain ⟨c, hc, e⟩ := h.live n y hy hk h5 (fun hh => hXn' (.inl hh))
      refine ⟨c, List.mem_filter.2 ⟨hc, ?_⟩, e⟩
      cases hb : bit x.anc c.i with
      | false => rfl
      | true => exact absurd (.inl (hanc n (by rw [← e]; exact hb))) hXn'
    · exact absurd (.inr h5.symm) hXn'
  · intro n y hy hXn'
    rcases hXn' with hXn' | e
    · obtain ⟨g1, g2⟩ := h.exd n y hy hXn'
      exact ⟨g1, fun hl => (hbit n).2 (.inl (g2 hl))⟩
    · exact ⟨fun hl => (by subst e; rw [hx] at hy; cases hy; rw [hkl] at hl; cases hl), fun _ => (hbit n).2 (.inr e.symm)⟩
  · intro n y hy hk hp
    obtain ⟨sfx, stp, K, g1, g2, g3⟩ := h.afact n y hy hk hp
    exact ⟨sfx, stp, K, fun q hq => List.mem_cons_of_mem _ (g1 q hq), g2, g3⟩
  · intro n y hy hk hXn' hn
    have hXn' := hXn hy hk hXn'
    refine ((h.ghosts n y hy hk hXn' (hbf n hn).1).upd ok h.clo hy hXn' hX).keep fun _ hlt hfr => ?_
    have hno : ¬ Own φ st (gw y.i).heap.size := fun ⟨p, blk, l, _, _, g3, g4⟩ => hfr p l g3 g4
    refine ⟨x1.keep _ hlt hno, fun p mm hp => ?_⟩
    cases hq : φ p with
    | none =>
      intro e
      rcases (x1.new p mm hp hq).2 with g | g
      · omega
      · exact hno (by rw [← e]; exact g)
    | some l =>
      have := x1.le p l hq
      rw [hp] at this; cases this
      exact hfr p mm hq
  · intro n1 n2 z1 z2 hz1 hz2 hk1 hk2 hX1 hX2 hn1 hn2 hne hw1 hw2
    have hX1 := hXn hz1 hk1 hX1
    have hX2 := hXn hz2 hk2 hX2
    rw [rdA_upd ok h.clo hz1 hX1 hX] at hw1
    rw [rdA_upd ok h.clo hz2 hX2 hX] at hw2
    exact h.gap n1 n2 z1 z2 hz1 hz2 hk1 hk2 hX1 hX2 (hbf _ hn1).1 (hbf _ hn2).1 hne hw1 hw2
end Cx
end Ev
/-! A region that draws its order: whole. -/
namespace Ev
open Go
set_option linter.unusedVariables false
namespace Cx
variable {C : Cx}
variable {k : Env → St → R} {D : List Nat} {π : List DEv} {recs : Recs} {ns : List NChk} {d pr sm : Nat} {X : Nat → Prop} {val : Nat → Value} {gw : Nat → World} {a : Act} {w : World} {φ : Emb} {st : St}
/-- what is to come is behind what has turned the memory -/
theorem sm_anc (ok : C.Ok) {x : DOp} (hx : C.all[x.i]? = some x) : ∀ {π : List DEv} {d pr sm : Nat}, evOk C.all C.dead C.ddm π d pr sm = true → (∀ e ∈ π, evMem C.all e) → (isKL x = true → bit pr x.i = false) → (isKL x = false → bit d x.i = false) →
    ∀ j, bit sm j = true → bit x.anc j = true := by
  have same : ∀ {z : DOp}, z ∈ C.all → z.i = x.i → z = x := fun hz e => by
    have := ok.good.mem hz
    rw [e, hx] at this; cases this; rfl
  have up : ∀ {i m : Nat}, i ≠ x.i → bit m x.i = false → bit (orBit i m) x.i = false := fun hne hb => by rw [bit_orBit, hb]; simp [hne]
  intro π
  induction π with
  | nil =>
    intro d pr sm hev _ h1 h2
    exfalso
    have := List.all_eq_true.1 hev x (List.mem_of_getElem? hx)
    cases hk : isKL x with
    | true => simp only [hk, cond_true, h1 hk, Bool.false_and] at this; cases this
    | false => simp only [hk, cond_false, h2 hk] at this; cases this
  | cons ev π ih =>
    intro d pr sm hev hm h1 h2 j hj
    have hm' := fun e he => hm e (List.mem_cons_of_mem _ he)
    have hm0 := hm ev (List.mem_cons_self ..)
    have hsm : ∀ i, bit (orBit i sm) j = true := fun i => by rw [bit_orBit, hj]; rfl
    cases ev with
    | n z =>
      have g := evOk_n hev
      by_cases e : z.i = x.i
      · rw [← same hm0 e]; exact g.2.2.2.1 j hj
      · exact ih g.2.2.2.2.2 hm' h1 (fun hk => up e (h2 hk)) j hj
    | a z =>
      have g := evOk_a hev
      by_cases e : z.i = x.i
      · rw [← same hm0 e]; exact g.2.2.2.1 j hj
      · exact ih g.2.2.2.2.2 hm' h1 (fun hk => up e (h2 hk)) j (hsm _)
    | p z =>
      have g := evOk_p hev
      by_cases e : z.i = x.i
      · rw [← same hm0 e]; exact g.2.2.2.1 j hj
      · exact ih g.2.2.2.2.2 hm' (fun hk => up e (h1 hk)) h2 j hj
    | l z =>
      have g := evOk_l hev
      by_cases e : z.i = x.i
      · have := same hm0 e
        subst this
        rw [h1 g.1] at g
        cases g.2.2.1
      · exact ih g.2.2.2.2 hm' h1 (fun hk => up e (h2 hk)) j (hsm _)
    | c b z =>
      have g := evOk_c hev
      by_cases e : z.i = x.i
      · rw [← same hm0.2 e]; exact g.2.2.2.2.1 j hj
      · exact ih g.2.2.2.2.2.2.2.2.2.2.2 hm' h1 (fun hk => up e (h2 hk)) j hj
/-- the schedule is walked on to a ready operation's place -/
theorem Inv.reach (ok : C.Ok) {x : DOp} (hx : C.all[x.i]? = some x) : ∀ {π : List DEv} {recs : Recs} {ns : List NChk} {d pr sm : Nat} {X : Nat → Prop} {val : Nat → Value} {gw : Nat → World} {a : Act} {w : World} {φ : Emb} {st : St},
    Inv C k D π recs ns d pr sm X val gw a w φ st → ¬ X x.i → (∀ e ∈ x.op.after, Region.binds .any e = true → X e.on) →
    ∃ π' recs' ns' d' pr' sm' val' φ' st', Inv C k D π' recs' ns' d' pr' sm' X val' gw a w φ' st' ∧ ((isKN x = true ∧ bit d' x.i = true) ∨ (isKL x = true ∧ bit pr' x.i = true) ∨ ∃ π'', π' = .a x :: π'') := by
  intro π
  induction π with
  | nil =>
    intro recs ns d pr sm X val gw a w φ st h hX hdir
    have hev := List.all_eq_true.1 h.ev x (List.mem_of_getElem? hx)
    rcases kind_cases x with ⟨k1, k2, k3⟩ | ⟨k1, k2, k3⟩ | ⟨k1, k2, k3⟩
    · simp only [k2, cond_false] at hev
      exact ⟨[], recs, ns, d, pr, sm, val, φ, st, h, .inl ⟨k1, hev⟩⟩
    · simp only [k2, cond_true, Bool.and_eq_true] at hev
      exact ⟨[], recs, ns, d, pr, sm, val, φ, st, h, .inr (.inl ⟨k2, hev.1⟩)⟩
    · simp only [k2, cond_false] at hev
      exact absurd (h.smX _ (h.smd _ x hx k1 hev)) hX
  | cons ev π ih =>
    intro recs ns d pr sm X val gw a w φ st h hX hdir
    have hanc := ok.good.anc_ran h.clo _ x hx hdir
    by_cases hdone : (isKN x = true ∧ bit d x.i = true) ∨ (isKL x = true ∧ bit pr x.i = true)
    · exact ⟨ev :: π, recs, ns, d, pr, sm, val, φ, st, h, hdone.imp id .inl⟩
    · have u1 : isKL x = true → bit pr x.i = false := fun hk => by
        cases hb : bit pr x.i with
        | false => rfl
        | true => exact absurd (.inr ⟨hk, hb⟩) hdone
      have u2 : isKL x = false → bit d x.i = false := fun hk => by
        cases hb : bit d x.i with
        | false => rfl
        | true =>
          rcases kind_cases x with ⟨k1, k2, k3⟩ | ⟨k1, k2, k3⟩ | ⟨k1, k2, k3⟩
          · exact absurd (.inl ⟨k1, hb⟩) hdone
          · rw [hk] at k2; cases k2
          · exact absurd (h.smX _ (h.smd _ x hx k1 hb)) hX
      have hm' := fun e he => h.mem e (List.mem_cons_of_mem _ he)
      have hm0 := h.mem ev (List.mem_cons_self ..)
      have same : ∀ {z : DOp}, z ∈ C.all → z.i = x.i → z = x := fun hz e => by
        have := ok.good.mem hz
        rw [e, hx] at this; cases this; rfl
      have up : ∀ {i m : Nat}, i ≠ x.i → bit m x.i = false → bit (orBit i m) x.i = false := fun hne hb => by rw [bit_orBit, hb]; simp [hne]
      cases ev with
      | n z => obtain ⟨v, f, val', h'⟩ := h.adv_n ok; exact ih h' hX hdir
      | c b z => obtain ⟨v, f, val', h'⟩ := h.adv_c ok; exact ih h' hX hdir
      | p z => exact ih (h.adv_p ok) hX hdir
      | l z =>
        have g := evOk_l h.ev
        have hne : z.i ≠ x.i := fun e => by
          have := same hm0 e
          subst this
          rw [u1 g.1] at g
          cases g.2.2.1
        have hz := sm_anc ok hx g.2.2.2.2 hm' u1 (fun hk => up hne (u2 hk)) z.i (by rw [bit_orBit]; simp)
        obtain ⟨v, ns', φ', st', h'⟩ := h.adv_l ok (hanc _ hz)
        exact ih h' hX hdir
      | a z =>
        by_cases e : z.i = x.i
        · have := same hm0 e
          subst this
          exact ⟨_, recs, ns, d, pr, sm, val, φ, st, h, .inr (.inr ⟨π, rfl⟩)⟩
        · have g := evOk_a h.ev
          have hz := sm_anc ok hx g.2.2.2.2.2 hm' u1 (fun hk => up e (u2 hk)) z.i (by rw [bit_orBit]; simp)
          exact absurd (hanc _ hz) (h.noA z (List.mem_cons_self ..))
/-- when all has run -/
theorem Inv.finish (ok : C.Ok) : ∀ {π : List DEv} {recs : Recs} {ns : List NChk} {d pr sm : Nat} {X : Nat → Prop} {val : Nat → Value} {gw : Nat → World} {a : Act} {w : World} {φ : Emb} {st : St},
    Inv C k D π recs ns d pr sm X val gw a w φ st → (∀ (n : Nat) (x : DOp), C.all[n]? = some x → X n) → ∃ recs' ns' d' pr' sm' φ' st', Inv C k D [] recs' ns' d' pr' sm' X val gw a w φ' st' := by
  intro π
  induction π with
  | nil => intro recs ns d pr sm X val gw a w φ st h _; exact ⟨recs, ns, d, pr, sm, φ, st, h⟩
  | cons ev π ih =>
    intro recs ns d pr sm X val gw a w φ st h hall
    have hm0 := h.mem ev (List.mem_cons_self ..)
    cases ev with
    | n z =>
      have g := evOk_n h.ev
      have hz := ok.good.mem hm0
      have hl : isKL z = false := by rcases kind_cases z with h | h | h <;> simp_all
      have := (h.exd _ z hz (hall _ z hz)).2 hl
      rw [g.2.1] at this; cases this
    | c b z =>
      have g := evOk_c h.ev
      have hz := ok.good.mem hm0.2
      have hl : isKL z = false := by rcases kind_cases z with h | h | h <;> simp_all
      have := (h.exd _ z hz (hall _ z hz)).2 hl
      rw [g.2.2.1] at this; cases this
    | p z =>
      have g := evOk_p h.ev
      have hz := ok.good.mem hm0
      have := (h.exd _ z hz (hall _ z hz)).1 g.1
      rw [g.2.1] at this; cases this
    | a z => exact absurd (hall _ z (ok.good.mem hm0)) (h.noA z (List.mem_cons_self ..))
    | l z =>
      obtain ⟨v, ns', φ', st', h'⟩ := h.adv_l ok (hall _ z (ok.good.mem hm0))
      exact ih h' hall
theorem count_set (l : List Bool) : ∀ (i : Nat), l[i]? = some false → (l.set i true).count false + 1 = l.count false := by
  induction l with
  | nil => intro i h; simp at h
  | cons x xs ih =>
    intro i h
    cases i with
    | zero => simp at h; subst h; simp
    | succ i =>
      have := ih i (by simpa using h)
      cases x <;> simp <;> omega
theorem all_ran (ok : C.Ok) {listed : Array Bool} (hs : listed.size = C.ops.size) (hr : Region.ready .any C.ops listed = []) : ∀ (n : Nat) (x : DOp), C.all[n]? = some x → listed.getD n false = true := by
  intro n
  induction n using Nat.strongRecOn with
  | _ n ih =>
    intro x hx
    cases hb : listed.getD n false with
    | true => rfl
    | false =>
      exfalso
      have hop := (ok.good.op n x hx).2.1
      have hlt : n < listed.size := by rw [hs]; exact (Array.getElem?_eq_some_iff.1 hop).1
      have : n ∈ Region.ready .any C.ops listed := by
        refine mem_ready.2 ⟨?_, x.op, hop, fun e he hbd => ?_⟩
        · simp [hlt] at hb ⊢; exact hb
        · obtain ⟨g1, y, g2, _⟩ := ok.good.edges n x hx e he hbd
          exact ih e.on g1 y g2
      rw [hr] at this; cases this
/-- every order -/
theorem draw (ok : C.Ok) {m : Nat} {Q : Exit → Act → World → Prop}
    (hQ : ∀ {recs ns d pr sm val gw a w φ st} {X : Nat → Prop}, (∀ (n : Nat) (x : DOp), C.all[n]? = some x → X n) → Inv C k D [] recs ns d pr sm X val gw a w φ st → Q .normal a w) :
    ∀ (fuel : Nat) (listed : Array Bool) {π : List DEv} {recs : Recs} {ns : List NChk} {d pr sm : Nat} {val : Nat → Value} {gw : Nat → World} {a : Act} {w : World} {φ : Emb} {st : St}, listed.size = C.ops.size → listed.toList.count false ≤ fuel →
      Inv C k D π recs ns d pr sm (fun j => listed.getD j false = true) val gw a w φ st → wpAnyIn (FF C.r) m C.P .any C.ops Q fuel listed a w := by
  intro fuel
  induction fuel with
  | zero =>
    intro listed π recs ns d pr sm val gw a w φ st hs hc h
    have hr : Region.ready .any C.ops listed = [] := by
      refine List.eq_nil_iff_forall_not_mem.2 fun j hj => ?_
      obtain ⟨h1, o, h2, _⟩ := mem_ready.1 hj
      have hlt : j < listed.size := by rw [hs]; exact (Array.getElem?_eq_some_iff.1 h2).1
      have : false ∈ listed.toList := by
        simp [hlt] at h1
        rw [← h1]; simp
      exact absurd (List.count_pos_iff.2 this) (by omega)
    have hall := all_ran ok hs hr
    obtain ⟨_, _, _, _, _, _, _, h'⟩ := h.finish ok hall
    exact ⟨hr, hQ hall h'⟩
  | succ fuel ih =>
    intro listed π recs ns d pr sm val gw a w φ st hs hc h
    refine ⟨fun hr => ?_, fun i hi => ?_⟩
    · have hall := all_ran ok hs hr
      obtain ⟨_, _, _, _, _, _, _, h'⟩ := h.finish ok hall
      exact hQ hall h'
    · obtain ⟨h1, o, h2, h3⟩ := mem_ready.1 hi
      have hlt' := (Array.getElem?_eq_some_iff.1 h2).1
      have hlt : i < listed.size := by rw [hs]; exact hlt'
      obtain ⟨x, hx⟩ : ∃ x, C.all[i]? = some x := ⟨_, List.getElem?_eq_getElem (by rw [ok.good.len]; exact hlt')⟩
      have hi' : x.i = i := (ok.good.op i x hx).1
      subst hi'
      have hop := (ok.good.op _ x hx).2.1
      rw [h2] at hop; cases hop
      have hf : listed[x.i]? = some false := by simp [hlt] at h1 ⊢; exact h1
      have hX : ¬ ((fun j => listed.getD j false = true) x.i) := by
        show ¬ (listed.getD x.i false = true)
        rw [Array.getD_eq_getD_getElem?, hf]; simp
      have hs' : (listed.setIfInBounds x.i true).size = C.ops.size := by simp [hs]
      have hc' : (listed.setIfInBounds x.i true).toList.count false ≤ fuel := by
        have := count_set listed.toList x.i (by simpa using hf)
        rw [Array.toList_setIfInBounds]
        omega
      have hXe : (fun j => (listed.setIfInBounds x.i true).getD j false = true) = addX (fun j => listed.getD j false = true) x.i := by
        funext j
        apply propext
        unfold addX
        show (listed.setIfInBounds x.i true).getD j false = true ↔ listed.getD j false = true ∨ j = x.i
        rw [Array.getD_eq_getD_getElem?, Array.getD_eq_getD_getElem?, Array.getElem?_setIfInBounds]
        by_cases e : x.i = j
        · subst e; simp [hlt]
        · simp [e, Ne.symm e]
      obtain ⟨π', recs', ns', d', pr', sm', val', φ', st', h', hcase⟩ := h.reach ok hx hX h3
      rcases hcase with ⟨k1, k2⟩ | ⟨k1, k2⟩ | ⟨π'', rfl⟩
      · exact h'.exec_n ok hx k1 k2 hX h3 fun cv g => ih _ hs' hc' (by rw [hXe]; exact g)
      · exact h'.exec_l ok hx k1 k2 hX h3 fun cv gw' w' g => ih _ hs' hc' (by rw [hXe]; exact g)
      · exact h'.exec_a ok hX h3 fun cv v ns'' ψ st'' w' g => ih _ hs' hc' (by rw [hXe]; exact g)
end Cx
end Ev
/-! A region that draws its order: the rule. -/
namespace Ev
open Go
set_option linter.unusedVariables false

theorem setAll_cons {gl : List Nat} {s : Nat} {ds : List Nat} {d : Nat} {e : Env} {fr : Fr} {k : Fr → R} : (setAll gl (s :: ds) d).run e fr k = (match s with
      | 0 => (setAll gl ds (d + 1)).run e fr k
      | t + 1 => match idx t gl 0 with
        | some r => selN d e fun v => (frSet r).run fr v fun fr => (setAll gl ds (d + 1)).run e fr k
        | none => (setAll gl ds (d + 1)).run e fr k) := by
  rw [setAll]
  cases s with
  | zero => rfl
  | succ t =>
    simp only []
    cases h : idx t gl 0 <;> rfl
/-- what the frame holds behind -/
theorem setAll_ok {gl : List Nat} {e : Env} {k : Fr → R} : ∀ (ds : List Nat) (d : Nat) (fr : Fr), (setAll gl ds d).run e fr k = .ok →
    ∃ fr', k fr' = .ok ∧ fr'.defs = fr.defs ∧ ∀ r : Nat, (∃ i t : Nat, ds[i]? = some (t + 1) ∧ idx t gl 0 = some r ∧ fr'.get r = e[d + i]?) ∨ ((∀ i t : Nat, ds[i]? = some (t + 1) → idx t gl 0 ≠ some r) ∧ fr'.get r = fr.get r) := by
  intro ds
  induction ds with
  | nil => intro d fr h; exact ⟨fr, h, rfl, fun r => .inr ⟨fun i t h => by simp at h, rfl⟩⟩
  | cons s ds ih =>
    intro d fr h
    rw [setAll_cons] at h
    have skip : (setAll gl ds (d + 1)).run e fr k = .ok → (∀ t r, s = t + 1 → idx t gl 0 ≠ some r) →
        ∃ fr', k fr' = .ok ∧ fr'.defs = fr.defs ∧ ∀ r : Nat, (∃ i t : Nat, (s :: ds)[i]? = some (t + 1) ∧ idx t gl 0 = some r ∧ fr'.get r = e[d + i]?) ∨ ((∀ i t : Nat, (s :: ds)[i]? = some (t + 1) → idx t gl 0 ≠ some r) ∧ fr'.get r = fr.get r) := by
      intro h hs
      obtain ⟨fr', h1, h2, h3⟩ := ih (d + 1) fr h
      refine ⟨fr', h1, h2, fun r => ?_⟩
      rcases h3 r with ⟨i, t, g1, g2, g3⟩ | ⟨g1, g2⟩
      · exact .inl ⟨i + 1, t, by simpa using g1, g2, by rw [g3]; congr 1; omega⟩
      · refine .inr ⟨fun i t hi => ?_, g2⟩
        cases i with
        | zero => simp at hi; exact hs t r hi
        | succ i => exact g1 i t (by simpa using hi)
    cases s with
    | zero => exact skip h (fun t r e => by cases e)
    | succ t =>
      simp only [] at h
      cases hi : idx t gl 0 with
      | none => rw [hi] at h; exact skip h (fun t' r e => by cases e; rw [hi]; simp)
      | some r =>
        rw [hi] at h
        simp only [] at h
        obtain ⟨v, hv, h⟩ := selN_ok h
        obtain ⟨fr1, f1, f2, f3⟩ := frSet_ok h
        obtain ⟨fr', h1, h2, h3⟩ := ih (d + 1) fr1 f3
        refine ⟨fr', h1, h2.trans f2, fun r' => ?_⟩
        rcases h3 r' with ⟨i, t', g1, g2, g3⟩ | ⟨g1, g2⟩
        · exact .inl ⟨i + 1, t', by simpa using g1, g2, by rw [g3]; congr 1; omega⟩
        · rw [f1] at g2
          by_cases e1 : r' = r
          · subst e1
            rw [if_pos rfl] at g2
            exact .inl ⟨0, t, rfl, hi, by rw [g2]; simpa using hv.symm⟩
          · rw [if_neg e1] at g2
            refine .inr ⟨fun i t' hi' => ?_, g2⟩
            cases i with
            | zero => simp at hi'; subst hi'; rw [hi]; intro e; cases e; exact e1 rfl
            | succ i => exact g1 i t' (by simpa using hi')
theorem gl_mem {t r : Nat} {gl : List Nat} (h : idx t gl 0 = some r) : t ∈ gl := by
  obtain ⟨j, _, h2⟩ := idx_get h
  exact List.mem_of_getElem? h2
section
variable {P : Program}
theorem opsOk_lt {nt : Nat} : ∀ {l : List Oper}, opsOk nt l = true → ∀ o ∈ l, ∀ t, o.dst = some t → t < nt := by
  intro l
  induction l with
  | nil => intro _ o h; cases h
  | cons x xs ih =>
    intro h o ho t ht
    simp only [opsOk, Bool.and_eq_true] at h
    rcases List.mem_cons.1 ho with h1 | h1
    · subst h1; rw [ht] at h; exact blt_t h.1
    · exact ih h.2 o h1 t ht
theorem compDraw_ok {cl : Caller} (hcl : CallOk P cl) (hm : P.follows .mixedOrders = true) {r : Option Nat} {nt : Nat} {gl ds0 : List Nat} {ops : Array Oper} (hok : opsOk nt ops.toList = true) {e0 e1 : Env} {fr : Fr} {st : St} {k : Env → Fr → St → R} {a : Act} {w : World} {φ : Emb}
    (hat : At P nt φ gl ds0 e0 fr a) (hw : relW (Sl P) (Nt P) φ st w) (h : (compDraw P gl ops.toList).rc.run cl e1 fr st k = .ok) (m : Nat) (Q : Exit → Act → World → Prop) (id : Nat)
    (hQ : ∀ ψ w' e' fr' st' a', At P nt ψ gl (compDraw P gl ops.toList).ds e' fr' a' → Ext (Sl P) (Nt P) φ st w ψ st' w' → fr'.defs = fr.defs → k e' fr' st' = .ok → Q .normal a' w') :
    (Code.region id ops true).wpIn (FF r) m P Q a w := by
  refine wpIn_region_any hm ?_
  unfold compDraw at h hQ
  cases hd : dops P [] 0 ops.toList with
  | none => rw [hd] at h; cases h
  | some all =>
    rw [hd] at h hQ
    simp only [] at h hQ
    generalize hπ : plan P gl all (deadOf P gl all) (3 * ops.toList.length) 0 0 = π at h hQ
    cases hc : (evOk all (deadOfEv π) (deadMask all (deadOfEv π)) π 0 0 0 && readsOk gl (deadOfEv π) (deadMask all (deadOfEv π)) all) with
    | false => rw [hc] at h; cases h
    | true =>
      rw [hc] at h hQ
      obtain ⟨hev, hro⟩ := and_t hc
      have good := dops_good hd
      obtain ⟨ro1, ro2, ro3⟩ := readsOk_spec good hro
      have h : (compEvs P gl all [] [] π).run cl [] fr st (fun e st => (setAll gl (slotsEv π []) 0).run e fr fun fr => k e fr st) = .ok := h
      have hQ : ∀ ψ w' e' fr' st' a', At P nt ψ gl (slotsEv π []) e' fr' a' → Ext (Sl P) (Nt P) φ st w ψ st' w' → fr'.defs = fr.defs → k e' fr' st' = .ok → Q .normal a' w' := hQ
      have hdst : DstOk ops a.tmps := by
        refine ⟨fun j o t ho ht => ?_, fun j j' o p t ho hp h1 h2 => ?_⟩
        · exact Nat.lt_of_lt_of_le (opsOk_lt hok o (by simpa using List.mem_of_getElem? (show ops.toList[j]? = some o by simpa using ho)) t ht) hat.nt
        · have l1 : j < all.length := by rw [good.len]; exact (Array.getElem?_eq_some_iff.1 ho).1
          have l2 : j' < all.length := by rw [good.len]; exact (Array.getElem?_eq_some_iff.1 hp).1
          have e1 : all[j]? = some all[j] := List.getElem?_eq_getElem l1
          have e2 : all[j']? = some all[j'] := List.getElem?_eq_getElem l2
          have g1 := (good.op _ _ e1).2.1
          have g2 := (good.op _ _ e2).2.1
          rw [ho] at g1; rw [hp] at g2
          cases g1; cases g2
          exact dstsOk_inj ro1 j j' _ _ t e1 e2 h1 h2
      let C : Cx := { P, r, gl, ops, all, dead := deadOfEv π, ddm := deadMask all (deadOfEv π), init := a.tmps, dfs := a.defers, fr, cl, φ₀ := φ, st₀ := st, w₀ := { w with drawn := w.drawn + 1 } }
      have ok : C.Ok := ⟨good, hdst, ro3, rfl, ro2, hcl, hat.frm, hat.glob⟩
      have hw1 := hw.drawn (w.drawn + 1)
      have hX : ∀ j, ¬ ((Array.replicate ops.size false).getD j false = true) := fun j => by
        rw [Array.getD_eq_getD_getElem?, Array.getElem?_replicate]
        split <;> simp
      have inv : Cx.Inv C (fun e st => (setAll gl (slotsEv π []) 0).run e fr fun fr => k e fr st) (slotsEv π []) π [] [] 0 0 0 (fun j => (Array.replicate ops.size false).getD j false = true) (fun _ => undef) (fun _ => w) a { w with drawn := w.drawn + 1 } φ st := by
        have b0 : ∀ {j : Nat} {q : Prop}, bit 0 j = true → q := fun h => (by rw [bit_zero] at h; cases h)
        have no : ∀ {α : Type} {x : α} {q : Prop}, x ∈ ([] : List α) → q := fun h => (by cases h)
        have x0 : ∀ {j : Nat} {q : Prop}, (Array.replicate ops.size false).getD j false = true → q := fun h => absurd h (hX _)
        refine
          { ev := hev, run := h, slots := rfl, mem := fun e he => plan_mem _ _ _ e (hπ ▸ he), masks := ⟨fun j => ⟨b0, no⟩, fun n x _ _ h => b0 h, fun n x _ _ h => b0 h, fun n x _ h => b0 h⟩,
            nod := List.nodup_nil, ext := Ext.refl hw1, vals := fun q hq => no hq, ran := fun j x t _ hj => x0 hj, idle := fun t _ => rfl, size := rfl, dfs := rfl, noA := fun x _ => hX _, smd := fun n x _ _ h => b0 h,
            smX := fun j h => b0 h, clo := fun n x _ hX' => x0 hX', preds := fun c hc => no hc, live := fun n x _ _ h => b0 h, exd := fun n x _ hX' => x0 hX',
            afact := fun n x _ _ h => b0 h, ghosts := fun n x _ _ hX' => x0 hX', gap := fun n m x y _ _ _ _ hX' => x0 hX' }
      refine Cx.draw (C := C) ok ?_ ops.size _ (by simp [C]) ?_ inv
      · intro recs ns d pr sm val gw a' w' ψ st' X hall g
        obtain ⟨fr', k1, k2, k3⟩ := setAll_ok _ _ _ (show (setAll gl (slotsEv π []) 0).run (Cx.eR recs) fr (fun fr => k (Cx.eR recs) fr st') = .ok from g.run)
        have hds : slotsEv π [] = C.dsR recs := g.slots.symm
        rw [hds] at k3 hQ
        have hval : ∀ (i : Nat) (t : Nat), (C.dsR recs)[i]? = some (t + 1) → ∀ v, (Cx.eR recs)[i]? = some v → relV ψ v (a'.tmps.getD t undef) := by
          intro i t h1 v h2
          unfold Cx.dsR at h1
          unfold Cx.eR at h2
          rw [List.getElem?_map] at h1 h2
          cases hq : recs[i]? with
          | none => rw [hq] at h1; cases h1
          | some q =>
            rw [hq] at h1 h2
            simp only [Option.map_some, Option.some.injEq] at h1 h2
            obtain ⟨x, hx, ht⟩ := Cx.slot_dst h1
            rw [g.ran _ x t hx (hall _ x hx) ht, ← h2]
            exact g.vals q (List.mem_of_getElem? hq)
        refine hQ ψ w' (Cx.eR recs) fr' st' a' ⟨?_, ?_, hat.glob.mono g.ext.le, ?_, ?_⟩ ((Ext.drew hw).trans g.ext) k2 k1
        · intro rr t v h1 h2
          rcases k3 rr with ⟨i, t', f1, f2, f3⟩ | ⟨f1, f2⟩
          · have := idx_inj f2 h1
            subst this
            rw [f3, Nat.zero_add] at h2
            exact hval i t' f1 v h2
          · rw [f2] at h2
            rw [g.idle t ?_]
            · exact relV_mono g.ext.le (hat.frm rr t v h1 h2)
            · intro j x hx _ ht
              have hev' := List.all_eq_true.1 g.ev x (List.mem_of_getElem? hx)
              have hdead : bit (deadOfEv π) x.i = false := by
                cases hb : bit (deadOfEv π) x.i with
                | false => rfl
                | true =>
                  have := Cx.dead_slot ok hx ht (by rw [← (good.op j x hx).1]; exact hb)
                  rw [ok.glok t (gl_mem h1)] at this; cases this
              have hdx : bit d x.i = true := by
                cases hk : isKL x with
                | true =>
                  simp only [hk, cond_true, Bool.and_eq_true] at hev'
                  have e := hev'.2
                  rw [show bit C.dead x.i = false from hdead, Bool.or_false] at e; exact e
                | false => simp only [hk, cond_false] at hev'; exact hev'
              obtain ⟨q, hq, e⟩ := List.mem_map.1 ((g.masks.dr _).1 hdx)
              obtain ⟨i, hi⟩ := List.mem_iff_getElem?.1 hq
              refine f1 i t ?_ h1
              unfold Cx.dsR
              rw [List.getElem?_map, hi]
              simp only [Option.map_some, Option.some.injEq]
              rw [e, (good.op j x hx).1, Cx.slotAt_eq (C := C) hx]
              simp [slotO, ht]
        · intro t dd v h1 h2
          obtain ⟨j, e1, e2⟩ := idx_get h1
          have e1 : dd = j := by omega
          subst e1
          exact hval dd t e2 v h2
        · rw [g.size]; exact hat.nt
        · rw [k2, g.dfs]; exact hat.defs.mono fun _ _ => relDef_mono g.ext.le
      · simp
end
end Ev
/-! Code. -/
namespace Ev
open Go
set_option linter.unusedVariables false

section scope
variable {P : Program} {b : Frame} {a : Act} {k : List Item} {cs : List Frame} {w : World}
theorem stepR_scope {c : Code} : step P (lone (b.atR a (.code (.scope c) :: k)) cs w) = .next (lone (b.atR a (.code c :: .inScope c :: k)) cs w) :=
  step_lone_go (by simp [stepG, stepG.exec, Frame.atR])
theorem stepR_inScope {c : Code} : step P (lone (b.atR a (.inScope c :: k)) cs w) = .next (lone (b.atR a k) cs w) :=
  step_lone_go (by simp [stepG, stepG.exec, Frame.atR])
theorem wpIn_scope {F : Fence} {n : Nat} {Q : Exit → Act → World → Prop} {c : Code} (h : c.wpIn F n P (fun e a w => match e with | .goto _ => False | e => Q e a w) a w) : (Code.scope c).wpIn F n P Q a w := by
  intro b k cs hro hb hr
  have h0 : (lone (b.atR a (.code (.scope c) :: k)) cs w).fenced P F := fenced_calm hb hr rfl
  obtain ⟨e, a₁, w₁, hq, harr⟩ := h b (.inScope c :: k) cs hro hb hr
  cases e with
  | normal => exact ⟨.normal, a₁, w₁, hq, .head h0 stepR_scope (StepsIn.trans harr (.one (fenced_calm hb hr rfl) stepR_inScope))⟩
  | exit id =>
    have hx : exitTo id (.inScope c :: k) = exitTo id k := by simp [exitTo]
    exact ⟨.exit id, a₁, w₁, hq, fun k' hk => .head h0 stepR_scope (harr.1 k' (by rw [hx]; exact hk)), fun hr' hk => let ⟨k₁, h1, h2⟩ := harr.2 hr' (by rw [hx]; exact hk); ⟨k₁, h1, .head h0 stepR_scope h2⟩⟩
  | goto l => exact hq.elim
  | ret => exact ⟨_, a₁, w₁, hq, .of_steps (.one h0 stepR_scope) harr⟩
  | panic ch => exact ⟨_, a₁, w₁, hq, .of_steps (.one h0 stepR_scope) harr⟩
  | outgrown => exact ⟨_, a₁, w₁, hq, .of_steps (.one h0 stepR_scope) harr⟩
end scope
theorem least {p : Nat → Prop} (h : ∃ n, p n) : ∃ n, p n ∧ ∀ m, p m → n ≤ m := by
  obtain ⟨n, hn⟩ := h
  induction n using Nat.strongRecOn with
  | _ n ih =>
    by_cases hm : ∃ m, m < n ∧ p m
    · obtain ⟨m, h1, h2⟩ := hm; exact ih m h1 h2
    · exact ⟨n, hn, fun m hm' => Nat.le_of_not_lt fun hlt => hm ⟨m, hlt, hm'⟩⟩
/-- a loop that runs out at some time -/
theorem wpIn_loopN {F : Fence} {n : Nat} {P : Program} {Q : Exit → Act → World → Prop} {c : Code} (J : Nat → Act → World → Prop) {a : Act} {w : World} {n0 : Nat} (h0 : J n0 a w)
    (hz : ∀ a w, ¬ J 0 a w) (round : ∀ j a w, J (j + 1) a w → c.wpIn F n P (Exit.then (fun a' w' => J j a' w') Q) a w) : (Code.loop c).wpIn F n P Q a w := by
  classical
  refine wpIn_loop (fun a w => ∃ j, J j a w) (fun a w => if h : ∃ j, J j a w then Classical.choose (least h) else 0) ⟨n0, h0⟩ fun a w hI => ?_
  have hl := Classical.choose_spec (least hI)
  have hμ : (if h : ∃ j, J j a w then Classical.choose (least h) else 0) = Classical.choose (least hI) := dif_pos hI
  generalize hj : Classical.choose (least hI) = j at hl hμ
  cases j with
  | zero => exact absurd hl.1 (hz a w)
  | succ j =>
    refine wpIn_mono (round j a w hl.1) fun e a' w' hq => ?_
    cases e with
    | normal =>
      have hq : J j a' w' := hq
      refine ⟨⟨j, hq⟩, ?_⟩
      rw [hμ, dif_pos ⟨j, hq⟩]
      have := (Classical.choose_spec (least (⟨j, hq⟩ : ∃ j, J j a' w'))).2 j hq
      omega
    | _ => exact hq

/-- how code is left, as the model says it -/
def exOf : Ex → Exit | .exit i => .exit i | .goto l => .goto l | .ret => .ret
section
variable {P : Program}
/-- what is asked of the code's ends -/
structure Ends (P : Program) (nt : Nat) (gl ds : List Nat) (pl : Bool) (d0 : List ADef) (φ : Emb) (st : St) (w : World) (kn : Env → Fr → St → R) (ke : Ex → Fr → St → R) (Q : Exit → Act → World → Prop) : Prop where
  n : ∀ ψ w' e' fr' st' a', At P nt ψ gl ds e' fr' a' → Ext (Sl P) (Nt P) φ st w ψ st' w' → (pl = true → fr'.defs = d0) → kn e' fr' st' = .ok → Q .normal a' w'
  x : ∀ x ψ w' e' fr' st' a', At P nt ψ gl [] e' fr' a' → Ext (Sl P) (Nt P) φ st w ψ st' w' → (pl = true → fr'.defs = d0) → ke x fr' st' = .ok → Q (exOf x) a' w'
theorem Ends.trans {nt : Nat} {gl ds : List Nat} {pl : Bool} {d0 d1 : List ADef} {φ ψ : Emb} {st st' : St} {w w' : World} {kn ke} {Q : Exit → Act → World → Prop} (h : Ends P nt gl ds pl d0 φ st w kn ke Q) (x : Ext (Sl P) (Nt P) φ st w ψ st' w') (hd : pl = true → d1 = d0) : Ends P nt gl ds pl d1 ψ st' w' kn ke Q :=
  ⟨fun χ w'' e' fr' s a' h1 h2 h4 h3 => h.n χ w'' e' fr' s a' h1 (x.trans h2) (fun hp => (h4 hp).trans (hd hp)) h3, fun y χ w'' e' fr' s a' h1 h2 h4 h3 => h.x y χ w'' e' fr' s a' h1 (x.trans h2) (fun hp => (h4 hp).trans (hd hp)) h3⟩
/-- the place of a code's closure -/
def CodeOk (P : Program) (cl : Caller) (r : Option Nat) (nt : Nat) (gl : List Nat) (c : Code) (ds : List Nat) (d : CD) : Prop :=
  ∀ {e : Env} {fr : Fr} {st : St} {kn : Env → Fr → St → R} {ke : Ex → Fr → St → R} {a : Act} {w : World} {φ : Emb}, At P nt φ gl ds e fr a → relW (Sl P) (Nt P) φ st w → d.cc.run cl e fr st kn ke = .ok →
    ∀ (m : Nat) (Q : Exit → Act → World → Prop) (pl : Bool), (pl = true → plainC c = true) → Ends P nt gl d.ds pl fr.defs φ st w kn ke Q → c.wpIn (FF r) m P Q a w
theorem At.ret {nt : Nat} {φ : Emb} {gl ds ds' : List Nat} {e e' : Env} {fr : Fr} {a : Act} (h : At P nt φ gl ds e fr a) (hd : ds' = []) : At P nt φ gl ds' e' fr a := by subst hd; exact h.nil
theorem vBool_ok' {v : RV} {k : Bool → R} (h : vBool v k = .ok) : ∃ b, v = .c (.bool b) ∧ k b = .ok := by
  unfold vBool at h
  cases v with
  | c c => cases c <;> first | exact ⟨_, rfl, h⟩ | cases h
  | _ => cases h
theorem run_getLoop {l : Nat} {L : Go.Loop} {w : World} (h : w.heap[l]? = some (.loop L)) : (Instr.getLoop l).run P w = .ok L w := by
  unfold Instr.getLoop
  rw [run_bind_ok (run_getObj h (by intros; simp))]; rfl
theorem run_endLoop {l : Nat} {L : Go.Loop} {w : World} (h : w.heap[l]? = some (.loop L)) (hs : L.state ≠ .busy) : (Instr.endLoop l).run P w = .ok L.pending { w with heap := w.heap.setIfInBounds l (.loop { L with state := .exhausted }) } := by
  unfold Instr.endLoop
  rw [run_bind_ok (run_getLoop h)]
  have : (L.state == LoopState.busy) = false := by cases hh : L.state <;> first | rfl | exact absurd hh hs
  simp only [this, Bool.false_eq_true, if_false]
  rw [run_bind_ok (run_setObj h (by intros; simp))]; rfl
theorem run_beginRound {l : Nat} {L : Go.Loop} {w : World} (h : w.heap[l]? = some (.loop L)) (hs : L.state = .ready) : (Instr.beginRound l).run P w = .ok () { w with heap := w.heap.setIfInBounds l (.loop { L with state := .busy }) } := by
  unfold Instr.beginRound
  rw [run_bind_ok (run_getLoop h), run_bind_ok (run_setObj h (by intros; simp)), hs]; rfl
theorem run_endRound {l : Nat} {L : Go.Loop} {w : World} {jump : Option Code} (h : w.heap[l]? = some (.loop L)) :
    (Instr.endRound l jump).run P w = .ok (.bool jump.isNone) { w with heap := w.heap.setIfInBounds l (.loop { L with state := if jump.isNone then .ready else .done, pending := jump }) } := by
  unfold Instr.endRound
  rw [run_bind_ok (run_getLoop h), run_bind_ok (run_setObj h (by intros; simp))]; rfl
theorem rangeF_ok {cl : Caller} (hcl : CallOk P cl) {nt : Nat} {gl ds : List Nat} {fnum : Nat} (hgl : gl = Sl P fnum) (hnt : nt = Nt P fnum) {g : Operand} {ps : Array Nat} {ca cb : Code}
    {e : Env} {fr : Fr} {st : St} {kn : Env → Fr → St → R} {ke : Ex → Fr → St → R} {a : Act} {w : World} {φ : Emb} (hat : At P nt φ gl ds e fr a) (hw : relW (Sl P) (Nt P) φ st w)
    (h : (src P gl ds g).run e fr (fun v => rvC v fun fv => Bool.casesOn (isFnC fv) (.bad 164)
      (newBlk st (.deferred (some [])) fun r st =>
      newBlk st (.loop { state := .ready, pending := none, fn := fnum, fr, params := ps.toList, assign := ca, body := cb, defers := r }) fun l st =>
      callV cl fv [.c (.fn (.yield l) 0 .undef)] st fun _ st =>
      endF r l fr st kn ke)) = .ok) (m : Nat) (Q : Exit → Act → World → Prop) (hQ : Ends P nt gl [] false fr.defs φ st w kn ke Q) : (Code.rangeFunc g ps ca cb).wpIn (FF none) m P Q a w := by
  obtain ⟨v, h1, h2⟩ := src_ok h
  obtain ⟨fv, rfl, h3⟩ := rvC_ok h1
  have hfv := h2 φ a hat.here
  have hfn : isFnC fv = true := by
    cases hb : isFnC fv with
    | false => rw [hb] at h3; cases h3
    | true => rfl
  rw [hfn] at h3
  obtain ⟨st1, s1, s2, h4⟩ := newBlk_ok h3
  obtain ⟨st2, s3, s4, h5⟩ := newBlk_ok h4
  refine wpIn_rangeFunc fun fn _ => ?_
  -- the record is laid
  have x1 : Ext (Sl P) (Nt P) φ st w (φ.put st.next ⟨w.heap.size, 0, 0⟩) st1 { w with heap := w.heap.push (.deferred (some [])) } := Ext.alloc hw s1 s2.1 s2.2 (show Rel2 _ _ _ from .nil)
  generalize hψ1 : φ.put st.next ⟨w.heap.size, 0, 0⟩ = ψ1 at x1
  have hr1 : ψ1 st.next = some ⟨w.heap.size, 0, 0⟩ := by rw [← hψ1]; exact Emb.put_same _ _ _
  generalize hw1 : ({ w with heap := w.heap.push (.deferred (some [])) } : World) = w1 at x1
  let M : Go.Loop := { state := .ready, pending := none, fn, tmps := a.tmps, params := ps, assign := ca, body := cb, defers := w.heap.size }
  have x2 : Ext (Sl P) (Nt P) ψ1 st1 w1 (ψ1.put st1.next ⟨w1.heap.size, 0, 0⟩) st2 { w1 with heap := w1.heap.push (.loop M) } := by
    refine Ext.alloc x1.rel s3 s4.1 s4.2 ⟨rfl, rfl, ?_, rfl, rfl, rfl, ⟨_, Emb.put_le (next_free x1.rel) _ _ hr1, rfl⟩, ?_⟩
    · show Nt P fnum ≤ a.tmps.size
      rw [← hnt]; exact hat.nt
    · show relFr _ (Sl P fnum) fr a.tmps
      rw [← hgl]; exact relFr_mono (x1.le.trans (Emb.put_le (next_free x1.rel))) hat.frm
  generalize hψ2 : ψ1.put st1.next ⟨w1.heap.size, 0, 0⟩ = ψ2 at x2
  have hl2 : ψ2 st1.next = some ⟨w1.heap.size, 0, 0⟩ := by rw [← hψ2]; exact Emb.put_same _ _ _
  generalize hw2 : ({ w1 with heap := w1.heap.push (.loop M) } : World) = w2 at x2
  have x12 := x1.trans x2
  have henter : (Instr.enterLoop fn a.tmps ps ca cb none).run P w = .ok (w1.heap.size, [{ target := .collected w.heap.size, args := #[] }]) w2 := by
    subst hw1; subst hw2; rfl
  have hargs : Rel2 (relEl ψ2) [El.c (.fn (.yield st1.next) 0 .undef)] (#[Value.func (.yield w1.heap.size) #[] #[]] : Array Value).toList := .cons ⟨_, hl2, rfl⟩ .nil
  rcases callV_ok hcl h5 x2.rel (hat.glob.mono x12.le) (relC_mono x12.le hfv) hargs with ⟨n, cap, vs, g1, g2, g3⟩ | ⟨l, cap, gg, tmps, assign, body, g1, g2, g3⟩
  · refine ⟨w1.heap.size, _, w2, { target := .fn (.func n) cap, args := vs }, w2, n, vs ++ cap, w2, henter, ?_, fun _ _ => trivial, g2, (fun h => by cases h), ?_⟩
    · simp only [resolve]
      rw [show Array.map a.eval #[Operand.const (Value.func (Fn.yield w1.heap.size) #[] #[])] = #[Value.func (Fn.yield w1.heap.size) #[] #[]] from by simp [Act.eval]]
      exact g1
    · refine CallsIn.mono (g3 (m - 1)) ?_
      rintro ee w3 ⟨v, rfl, ψ3, st3, rv, y1, y2, y3⟩
      obtain ⟨blk, b1, b2⟩ := ownBlk_ok y3
      have hl3 : ψ3 st1.next = some ⟨w1.heap.size, 0, 0⟩ := y1.le _ _ hl2
      obtain ⟨l', ob, c1, c2, c3⟩ := y1.rel.blk _ _ (look_own b1)
      rw [hl3] at c1; cases c1
      split at b2
      · rename_i state pending fn' fr0 params assign body defers
        cases ob with
        | loop L =>
          obtain ⟨d1, d2, d3, d4, d5, d6, d7, d8⟩ := c3
          have d1 : state = L.state := d1
          have d2 : pending = L.pending := d2
          have hnb : L.state ≠ .busy := fun e => by rw [d1, e] at b2; cases b2
          have b2 : putBlk st3 st1.next (.loop ⟨.exhausted, pending, fn', fr0, params, assign, body, defers⟩) (fun s => afterF st.next pending fr s kn ke) = .ok := by
            rw [← d1] at hnb
            cases state with
            | busy => exact absurd rfl hnb
            | _ => exact b2
          obtain ⟨st4, p1, p2, p3⟩ := putBlk_ok b2
          have x4 : Ext (Sl P) (Nt P) ψ3 st3 w3 ψ3 st4 { w3 with heap := w3.heap.setIfInBounds w1.heap.size (.loop { L with state := .exhausted }) } :=
            Ext.turn y1.rel b1 hl3 rfl p1 p2.1 p2.2 rfl ⟨rfl, rfl, rfl⟩ ⟨rfl, d2, d3, d4, d5, d6, d7, d8⟩
          generalize hw4 : ({ w3 with heap := w3.heap.setIfInBounds w1.heap.size (.loop { L with state := .exhausted }) } : World) = w4 at x4
          refine ⟨L.pending, w4, by rw [← hw4]; exact run_endLoop c2 hnb, ?_⟩
          have xall := (x12.trans y1).trans x4
          cases fr with
          | mk q0 q1 q2 q3 more defs =>
          have hat' : At P nt ψ3 gl [] [] ⟨q0, q1, q2, q3, more, .mark st.next :: defs⟩ { a with defers := [{ target := .collected w.heap.size, args := #[] }] ++ a.defers } := by
            refine ⟨relFr_mono xall.le hat.frm, relEnv_nil, hat.glob.mono xall.le, hat.nt, .cons ⟨_, y1.le _ _ (x2.le _ _ hr1), rfl⟩ (hat.defs.mono fun _ _ => relDef_mono xall.le)⟩
          rw [← d2]
          cases pending with
          | none => exact hQ.n ψ3 _ [] _ st4 _ hat' xall (fun h => by cases h) p3
          | some c =>
            cases c with
            | exit id => exact wpIn_exit (hQ.x (.exit id) ψ3 _ [] _ st4 _ hat' xall (fun h => by cases h) p3)
            | goto l => exact wpIn_goto (hQ.x (.goto l) ψ3 _ [] _ st4 _ hat' xall (fun h => by cases h) p3)
            | ret => exact wpIn_ret (hQ.x .ret ψ3 _ [] _ st4 _ hat' xall (fun h => by cases h) p3)
            | _ => cases p3
        | _ => exact c3.elim
      · cases b2
  · exfalso
    cases fv with
    | fn f nf env =>
      cases f with
      | func f =>
        obtain ⟨x, y, e1, _⟩ := hfv
        rw [e1] at g1
        cases g1
      | yield p => cases hfn
    | _ => cases hfn
theorem exOf_inBlock {id : Nat} {Q : Exit → Act → World → Prop} {x : Ex} {a : Act} {w : World} : Exit.inBlock id Q (exOf x) a w = (match x with | .exit j => if j = id then Q .normal a w else Q (.exit j) a w | x => Q (exOf x) a w) := by
  cases x <;> rfl
attribute [local irreducible] fuelL in
theorem compCode_ok {cl : Caller} (hcl : CallOk P cl) (hm : P.follows .mixedOrders = true) {round : Bool} {r : Option Nat} (hr : round = false → r = none) {nt : Nat} {gl : List Nat} {fnum : Nat} (hgl : round = false → gl = Sl P fnum ∧ nt = Nt P fnum) :
    ∀ (c : Code) (ds : List Nat), dstOk nt c = true → CodeOk P cl r nt gl c ds (compCode P gl fnum round ds c) := by
  intro c
  induction c with
  | skip => intro ds _ e fr st kn ke a w φ hat hw h m Q pl hpl hQ; exact wpIn_skip (hQ.n φ w [] fr st a hat.nil (Ext.refl hw) (fun _ => rfl) h)
  | label l => intro ds _ e fr st kn ke a w φ hat hw h m Q pl hpl hQ; exact wpIn_label (hQ.n φ w [] fr st a hat.nil (Ext.refl hw) (fun _ => rfl) h)
  | exit id => intro ds _ e fr st kn ke a w φ hat hw h m Q pl hpl hQ; exact wpIn_exit (hQ.x (.exit id) φ w [] fr st a hat.nil (Ext.refl hw) (fun _ => rfl) h)
  | goto l => intro ds _ e fr st kn ke a w φ hat hw h m Q pl hpl hQ; exact wpIn_goto (hQ.x (.goto l) φ w [] fr st a hat.nil (Ext.refl hw) (fun _ => rfl) h)
  | ret => intro ds _ e fr st kn ke a w φ hat hw h m Q pl hpl hQ; exact wpIn_ret (hQ.x .ret φ w [] fr st a hat.nil (Ext.refl hw) (fun _ => rfl) h)
  | refuse s => intro ds _ e fr st kn ke a w φ hat hw h m Q pl hpl hQ; cases h
  | region id ops drawn =>
    intro ds hd e fr st kn ke a w φ hat hw h m Q pl hpl hQ
    cases drawn with
    | true => exact compDraw_ok hcl hm hd hat hw (e1 := []) h m Q id fun ψ w' e' fr' st' a' h1 h2 h4 h3 => hQ.n ψ w' e' fr' st' a' h1 h2 (fun _ => h4) h3
    | false =>
      refine wpIn_region ?_
      have := compOps_ok (r := r) hcl (round := round) hr ops.toList 0 [] rfl ⟨rfl, fun j hj => by omega⟩ hd hat.nil hw (e := []) h m Q
      simp only [List.append_nil] at this
      rw [List.range_eq_range']
      have e1 : ops.toList.length = ops.size := by simp
      rw [e1] at this
      exact this fun ψ w' e' fr' st' a' h1 h2 h4 h3 => hQ.n ψ w' e' fr' st' a' h1 h2 (fun hp => h4 (hpl hp)) h3
  | seq x y ihx ihy =>
    intro ds hd e fr st kn ke a w φ hat hw h m Q pl hpl hQ
    simp only [dstOk, Bool.and_eq_true] at hd
    refine wpIn_seq (ihx ds hd.1 hat hw (kn := fun e fr st => (compCode P gl fnum round (compCode P gl fnum round ds x).ds y).cc.run cl e fr st kn ke) (ke := ke) h m _ pl (fun hp => (and_t (hpl hp)).1) ?_)
    refine ⟨fun ψ w' e' fr' st' a' h1 h2 h4 h3 => ?_, fun z ψ w' e' fr' st' a' h1 h2 h4 h3 => ?_⟩
    · exact ihy _ hd.2 h1 h2.rel h3 m Q pl (fun hp => (and_t (hpl hp)).2) (hQ.trans h2 h4)
    · have := hQ.x z ψ w' e' fr' st' a' h1 h2 h4 h3
      cases z <;> exact this
  | cond c x y ihx ihy =>
    intro ds hd e fr st kn ke a w φ hat hw h m Q pl hpl hQ
    simp only [dstOk, Bool.and_eq_true] at hd
    obtain ⟨v, h1, h2⟩ := src_ok (h : (src P gl ds c).run e fr _ = .ok)
    obtain ⟨b, rfl, h3⟩ := vBool_ok' h1
    have hv := h2 φ a hat.here
    refine wpIn_cond (t := b) hv ?_
    have hQ' : Ends P nt gl (compCode P gl fnum round [] x).ds pl fr.defs φ st w (fun _ => kn []) ke Q ∧ Ends P nt gl (compCode P gl fnum round [] y).ds pl fr.defs φ st w (fun _ => kn []) ke Q :=
      ⟨⟨fun ψ w' e' fr' st' a' h1 h2 h4 h3 => hQ.n ψ w' [] fr' st' a' h1.nil h2 h4 h3, hQ.x⟩, ⟨fun ψ w' e' fr' st' a' h1 h2 h4 h3 => hQ.n ψ w' [] fr' st' a' h1.nil h2 h4 h3, hQ.x⟩⟩
    cases b with
    | true => exact ihx [] hd.1 hat.nil hw (e := []) h3 m Q pl (fun hp => (and_t (hpl hp)).1) hQ'.1
    | false => exact ihy [] hd.2 hat.nil hw (e := []) h3 m Q pl (fun hp => (and_t (hpl hp)).2) hQ'.2
  | block id x ih =>
    intro ds hd e fr st kn ke a w φ hat hw h m Q pl hpl hQ
    refine wpIn_block (ih ds hd hat hw (kn := fun _ => kn []) (ke := fun x fr st => match x with | .exit j => Bool.casesOn (Nat.beq j id) (ke x fr st) (kn [] fr st) | x => ke x fr st) h m _ pl hpl ?_)
    refine ⟨fun ψ w' e' fr' st' a' h1 h2 h4 h3 => hQ.n ψ w' [] fr' st' a' h1.nil h2 h4 h3, fun z ψ w' e' fr' st' a' h1 h2 h4 h3 => ?_⟩
    rw [exOf_inBlock]
    cases z with
    | exit j =>
      simp only [] at h3 ⊢
      cases hb : Nat.beq j id with
      | true =>
        rw [hb] at h3
        rw [if_pos (beq_t hb)]
        exact hQ.n ψ w' [] fr' st' a' h1.nil h2 h4 h3
      | false =>
        rw [hb] at h3
        rw [if_neg (beq_f hb)]
        exact hQ.x (.exit j) ψ w' e' fr' st' a' h1 h2 h4 h3
    | goto l => exact hQ.x (.goto l) ψ w' e' fr' st' a' h1 h2 h4 h3
    | ret => exact hQ.x .ret ψ w' e' fr' st' a' h1 h2 h4 h3
  | loop x ih =>
    intro ds hd e fr st kn ke a w φ hat hw h m Q pl hpl hQ
    have h : natR2 (A := Fr) (B := St) (fun _ _ => .bad 161) (fun ih fr st => (compCode P gl fnum round [] x).cc.run cl [] fr st (fun _ => ih) ke) fuelL fr st = .ok := h
    generalize hf : fuelL = N at h
    let go : Nat → Fr → St → R := natR2 (A := Fr) (B := St) (fun _ _ => .bad 161) (fun ih fr st => (compCode P gl fnum round [] x).cc.run cl [] fr st (fun _ => ih) ke)
    have hz : ∀ fr st, go 0 fr st = .bad 161 := fun _ _ => rfl
    have hs : ∀ n fr st, go (n + 1) fr st = (compCode P gl fnum round [] x).cc.run cl [] fr st (fun _ => go n) ke := fun _ _ _ => rfl
    have h : go N fr st = .ok := h
    refine wpIn_loopN (n0 := N) (fun n a' w' => ∃ ψ fr' st', At P nt ψ gl [] [] fr' a' ∧ Ext (Sl P) (Nt P) φ st w ψ st' w' ∧ (pl = true → fr'.defs = fr.defs) ∧ go n fr' st' = .ok) ⟨φ, fr, st, hat.nil, Ext.refl hw, fun _ => rfl, h⟩ ?_ ?_
    · rintro a' w' ⟨ψ, fr', st', _, _, _, h3⟩
      rw [hz] at h3; cases h3
    · rintro n a' w' ⟨ψ, fr', st', h1, h2, h4, h3⟩
      rw [hs] at h3
      refine ih [] hd h1 h2.rel h3 m _ pl hpl ⟨fun χ w'' e'' fr'' st'' a'' g1 g2 g4 g3 => ?_, fun z χ w'' e'' fr'' st'' a'' g1 g2 g4 g3 => ?_⟩
      · exact ⟨χ, fr'', st'', g1.nil, h2.trans g2, fun hp => (g4 hp).trans (h4 hp), g3⟩
      · have := hQ.x z χ w'' e'' fr'' st'' a'' g1 (h2.trans g2) (fun hp => (g4 hp).trans (h4 hp)) g3
        cases z <;> exact this
  | scope x ih =>
    intro ds hd e fr st kn ke a w φ hat hw h m Q pl hpl hQ
    refine wpIn_scope (ih [] hd hat.nil hw (e := []) (kn := fun _ => kn []) (ke := fun x fr st => match x with | .goto _ => .bad 162 | x => ke x fr st) h m _ pl hpl ?_)
    refine ⟨fun ψ w' e' fr' st' a' h1 h2 h4 h3 => hQ.n ψ w' [] fr' st' a' h1.nil h2 h4 h3, fun z ψ w' e' fr' st' a' h1 h2 h4 h3 => ?_⟩
    cases z with
    | goto l => cases h3
    | exit j => exact hQ.x (.exit j) ψ w' e' fr' st' a' h1 h2 h4 h3
    | ret => exact hQ.x .ret ψ w' e' fr' st' a' h1 h2 h4 h3
  | rangeFunc g ps x y ihx ihy =>
    intro ds hd e fr st kn ke a w φ hat hw h m Q pl hpl hQ
    cases hround : round with
    | true => subst hround; cases h
    | false =>
      have hn := hr hround
      obtain ⟨e1, e2⟩ := hgl hround
      subst hn
      subst hround
      have hplf : pl = false := by cases pl with | false => rfl | true => cases hpl rfl
      subst hplf
      exact rangeF_ok hcl e1 e2 hat hw h m Q hQ
end
end Ev
/-! Functions. -/
namespace Ev
open Go
set_option linter.unusedVariables false
section
variable {P : Program}

theorem resultsOf_cell {gl : List Nat} {a t : Nat} {rest : List ResultVar} {ti : TI} (ht : tinfo P t = some ti) {fr : Fr} {st : St} {k : List El → R} : (resultsOf P gl (.cell a t :: rest)).run fr st k =
    if ti.agg = true then (src P gl [] (.tmp a)).run [] fr (fun v => vPtr v fun p off => loadA ti.size st p off fun v => rvEl v fun v => (resultsOf P gl rest).run fr st fun vs => k (v :: vs))
    else (src P gl [] (.tmp a)).run [] fr (fun v => vPtr v fun p off => load1 st p off fun v => rvEl v fun v => (resultsOf P gl rest).run fr st fun vs => k (v :: vs)) := by
  rw [resultsOf]
  simp only [ht]
  split <;> rfl
theorem resultsOf_tmp {gl : List Nat} {t : Nat} {rest : List ResultVar} {fr : Fr} {st : St} {k : List El → R} : (resultsOf P gl (.tmp t :: rest)).run fr st k =
    (src P gl [] (.tmp t)).run [] fr (fun v => rvEl v fun v => (resultsOf P gl rest).run fr st fun vs => k (v :: vs)) := by
  rw [resultsOf]
/-- results are read -/
theorem resultsOf_ok {gl : List Nat} {φ : Emb} {st : St} {w : World} {fr : Fr} {a : Act} (hw : relW (Sl P) (Nt P) φ st w) (hh : Here P φ gl [] [] fr a.tmps) {f : ResultVar → Sem Value} (hf1 : ∀ t, f (.tmp t) = pure (a.tmps.getD t undef))
    (hf2 : ∀ c t, f (.cell c t) = (do loadVar t (← asAddr (a.tmps.getD c undef)))) : ∀ (rs : List ResultVar) {k : List El → R}, (resultsOf P gl rs).run fr st k = .ok → ∃ vs cvs, k vs = .ok ∧ Rel2 (relEl φ) vs cvs ∧ (rs.mapM f).run P w = .ok cvs w := by
  intro rs
  induction rs with
  | nil => intro k h; exact ⟨[], [], h, .nil, rfl⟩
  | cons x rest ih =>
    intro k h
    have fin : ∀ {v : RV} {cv : Value} , relV φ v cv → (f x).run P w = .ok cv w → rvEl v (fun v => (resultsOf P gl rest).run fr st fun vs => k (v :: vs)) = .ok → ∃ vs cvs, k vs = .ok ∧ Rel2 (relEl φ) vs cvs ∧ ((x :: rest).mapM f).run P w = .ok cvs w := by
      intro v cv hv hr h
      obtain ⟨y, h1, h2⟩ := rvEl_ok h
      obtain ⟨vs, cvs, h3, h4, h5⟩ := ih h1
      refine ⟨y :: vs, cv :: cvs, h3, .cons (h2 φ _ hv) h4, ?_⟩
      rw [List.mapM_cons, run_bind_ok hr, run_bind_ok h5]; rfl
    cases x with
    | tmp t =>
      rw [resultsOf_tmp] at h
      obtain ⟨v, h1, h2⟩ := src_ok h
      exact fin (h2 φ a hh) (by rw [hf1]; rfl) h1
    | cell c t =>
      cases ht : tinfo P t with
      | none =>
        rw [resultsOf] at h
        simp only [ht] at h
        cases h
      | some ti =>
        rw [resultsOf_cell ht] at h
        have hti := tinfo_ok ht
        cases hag : ti.agg with
        | true =>
          rw [hag, if_pos rfl] at h
          obtain ⟨v, h1, h2⟩ := src_ok h
          obtain ⟨p, off, rfl, h3⟩ := vPtr_ok h1
          obtain ⟨l, hl, hv⟩ := h2 φ a hh
          have hv : a.tmps.getD c undef = .pointer (some ⟨l.b, l.base + off, none⟩) := hv
          obtain ⟨rp, cs, h4, h5, h6⟩ := loadA_ok hw hl h3
          refine fin (v := .a rp) (cv := .agg cs) ⟨cs, rfl, h5⟩ ?_ h4
          rw [hf2, hv, run_bind_ok (a := (⟨l.b, l.base + off, none⟩ : Addr)) (w' := w) rfl]
          unfold loadVar
          obtain ⟨i, hi, hs, _⟩ := hti.info
          rw [run_bind_ok (run_isAgg hti), hag]
          show Sem.run P (do pure (Value.agg (← loadCells _ (← Go.sizeOf t)))) w = _
          rw [run_bind_ok (run_sizeOf hi), hs, run_bind_ok h6]; rfl
        | false =>
          rw [hag, if_neg (by simp)] at h
          obtain ⟨v, h1, h2⟩ := src_ok h
          obtain ⟨p, off, rfl, h3⟩ := vPtr_ok h1
          obtain ⟨l, hl, hv⟩ := h2 φ a hh
          have hv : a.tmps.getD c undef = .pointer (some ⟨l.b, l.base + off, none⟩) := hv
          obtain ⟨cc, y, h4, h5, h6⟩ := load1_ok hw hl h3
          refine fin (v := .c cc) (cv := y) h5 ?_ h4
          rw [hf2, hv, run_bind_ok (a := (⟨l.b, l.base + off, none⟩ : Addr)) (w' := w) rfl]
          unfold loadVar
          rw [run_bind_ok (run_isAgg hti), hag]
          exact h6
theorem results_ok {gl : List Nat} {φ : Emb} {st : St} {w : World} {fr : Fr} {a : Act} {fn : Func} (hw : relW (Sl P) (Nt P) φ st w) (hh : Here P φ gl [] [] fr a.tmps) {k : RV → R}
    (h : (resultsOf P gl fn.results.toList).run fr st (fun vs => one vs k) = .ok) : ∃ rv v, k rv = .ok ∧ relV φ rv v ∧ (results fn a.tmps).run P w = .ok v w := by
  let f : ResultVar → Sem Value := fun
    | .tmp t => pure (a.tmps.getD t undef)
    | .cell c t => do loadVar t (← asAddr (a.tmps.getD c undef))
  obtain ⟨vs, cvs, h1, h2, h3⟩ := resultsOf_ok hw hh (f := f) (fun _ => rfl) (fun _ _ => rfl) fn.results.toList h
  have hrun : (results fn a.tmps).run P w = .ok (if h : cvs.toArray.size = 1 then cvs.toArray[0] else .tuple cvs.toArray) w := by
    unfold results
    have e : (fn.results.mapM fun x => f x) = List.toArray <$> fn.results.toList.mapM f := by
      rw [Array.mapM_eq_mapM_toList]
    have e2 : (fn.results.mapM fun x => f x).run P w = .ok cvs.toArray w := by
      rw [e, map_eq_pure_bind, run_bind_ok h3]; rfl
    refine Eq.trans (run_bind_ok (show Sem.run P (fn.results.mapM _) w = .ok cvs.toArray w from ?_)) rfl
    exact e2
  refine ⟨(match vs with | [v] => v.rv | vs => .t vs), _, ?_, ?_, hrun⟩
  · unfold one at h1
    cases vs with
    | nil => exact h1
    | cons x xs => cases xs <;> exact h1
  · cases h2 with
    | nil => exact ⟨_, rfl, .nil⟩
    | cons r1 r2 =>
      cases r2 with
      | nil => exact relV_rv r1
      | cons r2 r3 => exact ⟨_, by simp, .cons r1 (.cons r2 r3)⟩
end
end Ev
/-! Functions: entered, left; rounds. -/
namespace Ev
open Go
set_option linter.unusedVariables false
section
variable {P : Program}

theorem enter_cons {gl : List Nat} {n m r : Nat} (hr : idx n gl 0 = some r) {args : List El} {fr : Fr} {k : Fr → R} : (enter gl n (m + 1)).run args fr k =
    (match args with | a :: rest => (frSet r).run fr a.rv fun fr => (enter gl (n + 1) m).run rest fr k | [] => .bad 178) := by
  rw [enter]; simp only [hr]
  cases args <;> rfl
/-- the arguments are laid into their slots -/
theorem enter_ok {gl : List Nat} {k : Fr → R} : ∀ (m n : Nat) (args : List El) (fr : Fr), (enter gl n m).run args fr k = .ok →
    args.length = m ∧ ∃ fr', k fr' = .ok ∧ fr'.defs = fr.defs ∧ ∀ r v, fr'.get r = some v → (∃ j x, idx (n + j) gl 0 = some r ∧ args[j]? = some x ∧ v = x.rv) ∨ ((∀ j, j < m → idx (n + j) gl 0 ≠ some r) ∧ fr.get r = some v) := by
  intro m
  induction m with
  | zero =>
    intro n args fr h
    cases args with
    | nil => exact ⟨rfl, fr, h, rfl, fun r v hv => .inr ⟨fun j hj => by omega, hv⟩⟩
    | cons x xs => cases h
  | succ m ih =>
    intro n args fr h
    cases hr : idx n gl 0 with
    | none => rw [enter] at h; simp only [hr] at h; cases h
    | some q =>
      rw [enter_cons hr] at h
      cases args with
      | nil => cases h
      | cons x xs =>
        obtain ⟨fr1, f1, f2, f3⟩ := frSet_ok h
        obtain ⟨h1, fr', h2, h3, h4⟩ := ih (n + 1) xs fr1 f3
        refine ⟨by simp [h1], fr', h2, h3.trans f2, fun r v hv => ?_⟩
        rcases h4 r v hv with ⟨j, y, g1, g2, g3⟩ | ⟨g1, g2⟩
        · exact .inl ⟨j + 1, y, by rw [← g1]; congr 1; omega, by simpa using g2, g3⟩
        · rw [f1] at g2
          by_cases e : r = q
          · subst e
            rw [if_pos rfl] at g2
            cases g2
            exact .inl ⟨0, x, hr, rfl, rfl⟩
          · rw [if_neg e] at g2
            refine .inr ⟨fun j hj => ?_, g2⟩
            cases j with
            | zero => rw [Nat.add_zero, hr]; intro e'; cases e'; exact e rfl
            | succ j => have := g1 j (by omega); rw [show n + (j + 1) = n + 1 + j from by omega]; exact this
theorem emptyFr_get {n r : Nat} {v : RV} (h : (emptyFr n).get r = some v) : v = .t [] := by
  unfold Fr.get emptyFr u0 at h
  split at h <;> first | (cases h; rfl; done) | skip
  rw [List.getElem?_replicate] at h
  split at h
  · cases h; rfl
  · cases h
/-- what lies behind: deferred calls and marks -/
theorem runDefs_ok {cl : Caller} (hcl : CallOk P cl) {fn : Func} {tmps : Array Value} {Rr : Ending → World → Prop} : ∀ (ds : List ADef) {defers : List Deferred} {φ : Emb} {st : St} {w : World} {k : St → R}, Rel2 (relDef φ) ds defers → relW (Sl P) (Nt P) φ st w → GlobOk P φ →
    runDefs P cl ds st k = .ok → ∀ m, (∀ ψ st' w', Ext (Sl P) (Nt P) φ st w ψ st' w' → k st' = .ok → LeavesIn (FF none) m P fn tmps Rr [] .returning w') → LeavesInM (FF none) m P fn tmps Rr defers .returning w := by
  intro ds
  induction ds with
  | nil =>
    intro defers φ st w k hd hw hg h m hk
    cases hd
    exact hk φ st w (Ext.refl hw) h
  | cons d ds ih =>
    intro defers φ st w k hd hw hg h m hk
    cases hd with
    | cons hd1 hd2 =>
    rename_i dd ms
    refine ⟨by simp, ?_⟩
    cases d with
    | mark p =>
      obtain ⟨l, hl, rfl⟩ := hd1
      have h : ownBlk st p (fun b => match b with
        | .deferred (some []) => putBlk st p (.deferred none) fun st => runDefs P cl ds st k
        | _ => .bad 176) = .ok := h
      obtain ⟨b, hb, h1⟩ := ownBlk_ok h
      obtain ⟨l', ob, g1, g2, g3⟩ := hw.blk _ _ (look_own hb)
      rw [hl] at g1; cases g1
      split at h1
      · cases ob with
        | deferred o =>
          cases o with
          | none => exact g3.elim
          | some o =>
            have g3 : Rel2 (relDef φ) [] o := g3
            cases g3
            obtain ⟨st', p1, p2, p3⟩ := putBlk_ok h1
            have x1 : Ext (Sl P) (Nt P) φ st w φ st' { w with heap := w.heap.setIfInBounds l.b (.deferred none) } := Ext.turn hw hb hl rfl p1 p2.1 p2.2 rfl ⟨rfl, rfl, rfl⟩ trivial
            refine .inl ⟨l.b, _, rfl, ?_, ih hd2 x1.rel hg p3 m fun ψ st'' w'' e1 e2 => hk ψ st'' w'' (x1.trans e1) e2⟩
            unfold Instr.takeDeferred
            rw [run_bind_ok (run_getObj g2 (by intros; simp))]
            simp only []
            rw [run_bind_ok (run_setObj g2 (by intros; simp))]; rfl
        | _ => exact g3.elim
      · cases h1
    | call f args =>
      cases f with
      | yield l => exact hd1.elim
      | func f =>
        obtain ⟨cap, as, e1, e2, e3⟩ := hd1
        have h : (if plainF P f = true then cl (.f f) args st fun _ st => runDefs P cl ds st k else .bad 177) = .ok := h
        split at h
        · rename_i hp
          obtain ⟨g1, g2⟩ := hcl.fn _ _ _ _ h
          refine .inr ⟨(fun h => (by cases h)), _, cap, f, as ++ cap, e1, ?_, fun _ _ => trivial, ?_⟩
          · rw [e1, e2]; exact run_callFunc g1
          · refine CallsDIn.mono ((g2 φ w (as ++ cap) hw hg e3 (m - 1)).2 hp .returning) ?_
            rintro e u' w' ⟨rfl, v, rfl, ψ, st', rv, q1, q2, q3⟩
            exact ih (hd2.mono fun _ _ => relDef_mono q1.le) q1.rel (hg.mono q1.le) q3 m fun χ st'' w'' f1 f2 => hk χ st'' w'' (q1.trans f1) f2
        · cases h
/-- a function's closure, with those that it calls -/
theorem compF_ok {cl : Caller} (hcl : CallOk P cl) (hm : P.follows .mixedOrders = true) {n : Nat} {args : List El} {st : St} {k : RV → St → R} (h : (compF P n).run cl args st k = .ok) : FnAt P n args st k := by
  unfold compF at h
  cases hfn : fnI P n with
  | none => rw [hfn] at h; cases h
  | some fn =>
    rw [hfn] at h
    simp only [] at h
    cases hb : fn.body with
    | none => rw [hb] at h; cases h
    | some code =>
      rw [hb] at h
      simp only [] at h
      split at h
      · cases h
      · rename_i hchk
        simp only [Bool.or_eq_true, Bool.not_eq_true', not_or, Bool.not_eq_true, Bool.not_eq_false] at hchk
        obtain ⟨hdst, hname⟩ := hchk
        have hf := fnI_ok hfn
        have hsl : slotsOf fn code = Sl P n := by unfold Sl slotsOfF; rw [hfn]; simp only [hb]
        have hnt : fn.ntmps = Nt P n := by unfold Nt ntOfF; rw [hfn]
        generalize hgl : slotsOf fn code = gl at h hsl
        have h : (enter gl 0 (fn.params.size + fn.nfree)).run args (emptyFr (gl.length - 16)) (fun fr => (compCode P gl n false [] code).cc.run cl [] fr st
          (fun _ fr st => runDefs P cl fr.defs st fun st => (resultsOf P gl fn.results.toList).run fr st fun vs => one vs fun v => k v st)
          (fun x fr st => match x with | .ret => runDefs P cl fr.defs st fun st => (resultsOf P gl fn.results.toList).run fr st fun vs => one vs fun v => k v st | _ => .bad 180)) = .ok := h
        obtain ⟨hlen, fr0, h1, h2, h3⟩ := enter_ok _ _ _ _ h
        refine ⟨⟨fn, hf, by simpa using hname, by simp [hb]⟩, fun φ w as hw hg ha m => ?_⟩
        have hsz : as.size = args.length := by rw [ha.length]; simp
        let a0 : Act := { tmps := as ++ Array.replicate (fn.ntmps - as.size) undef, defers := [] }
        have hat : At P fn.ntmps φ gl [] [] fr0 a0 := by
          refine ⟨fun r t v g1 g2 => ?_, relEnv_nil, hg, by simp [a0]; omega, by rw [h2]; exact .nil⟩
          rcases h3 r v g2 with ⟨j, x, e1, e2, e3⟩ | ⟨e1, e2⟩
          · rw [Nat.zero_add] at e1
            have := idx_inj e1 g1
            subst this
            obtain ⟨y, f1, f2⟩ := ha.get e2
            have hj : j < as.size := by rw [← Array.length_toList]; exact (List.getElem?_eq_some_iff.1 f1).1
            have : (as ++ Array.replicate (fn.ntmps - as.size) undef).getD j undef = y := by
              rw [Array.getD_eq_getD_getElem?, Array.getElem?_append_left hj]
              have : as[j]? = some y := by simpa using f1
              rw [this]; rfl
            show relV φ v ((as ++ Array.replicate (fn.ntmps - as.size) undef).getD j undef)
            rw [this, e3]
            exact relV_rv f2
          · have := emptyFr_get e2
            subst this
            have ht : ¬ t < as.size := fun hlt => e1 t (by rw [hsz, hlen] at hlt; exact hlt) (by rw [Nat.zero_add]; exact g1)
            have : (as ++ Array.replicate (fn.ntmps - as.size) undef).getD t undef = undef := by
              rw [Array.getD_eq_getD_getElem?, Array.getElem?_append_right (Nat.le_of_not_lt ht), Array.getElem?_replicate]
              split <;> rfl
            show relV φ (.t []) ((as ++ Array.replicate (fn.ntmps - as.size) undef).getD t undef)
            rw [this]; exact relV_undef
        have hcode : CodeOk P cl none fn.ntmps gl code [] (compCode P gl n false [] code) := compCode_ok hcl hm (round := false) (r := none) (fun _ => rfl) (nt := fn.ntmps) (gl := gl) (fnum := n) (fun _ => ⟨hsl, hnt⟩) code [] hdst
        -- what lies behind the body
        have leave : ∀ {m : Nat} {ψ : Emb} {w' : World} {e' : Env} {fr' : Fr} {st' : St} {a' : Act}, At P fn.ntmps ψ gl [] e' fr' a' → Ext (Sl P) (Nt P) φ st w ψ st' w' →
            runDefs P cl fr'.defs st' (fun st => (resultsOf P gl fn.results.toList).run fr' st fun vs => one vs fun v => k v st) = .ok → LeavesInM (FF none) m P fn a'.tmps (Ret P φ st w k) a'.defers .returning w' := by
          intro m ψ w' e' fr' st' a' g1 g2 g3
          refine runDefs_ok hcl _ g1.defs g2.rel g1.glob g3 m fun χ st'' w'' g4 g5 => ?_
          obtain ⟨rv, v, r1, r2, r3⟩ := results_ok (a := a') g4.rel ⟨fun r t v q1 _ q2 => relV_mono g4.le (g1.frm r t v q1 q2), relEnv_nil, g1.glob.mono g4.le⟩ g5
          exact ⟨v, r3, v, rfl, χ, st'', rv, g2.trans g4, r2, r1⟩
        refine ⟨callsIn_of_wp_marks hf hb trivial (hcode hat hw h1 m _ false (fun h => by cases h) ⟨?_, ?_⟩), fun hp u => callsDIn_of_wp hf hb trivial (hcode hat hw h1 m _ true (fun _ => ?_) ⟨?_, ?_⟩)⟩
        · intro ψ w' e' fr' st' a' g1 g2 _ g3
          exact leave ⟨g1.frm, relEnv_nil, g1.glob, g1.nt, g1.defs⟩ g2 g3 (e' := [])
        · intro x ψ w' e' fr' st' a' g1 g2 _ g3
          cases x with
          | ret => exact leave g1 g2 g3
          | _ => cases g3
        · unfold plainF at hp
          rw [hfn] at hp
          simpa [hb] using hp
        · intro ψ w' e' fr' st' a' g1 g2 g4 g3
          have hnil := g1.defs
          rw [(g4 rfl).trans h2] at hnil
          have hnil : a'.defers = [] := by cases hx : a'.defers with | nil => rfl | cons y ys => rw [hx] at hnil; cases hnil
          have := leave (m := m) (e' := []) ⟨g1.frm, relEnv_nil, g1.glob, g1.nt, g1.defs⟩ g2 g3
          rw [hnil] at this
          exact ⟨hnil, this⟩
        · intro x ψ w' e' fr' st' a' g1 g2 g4 g3
          cases x with
          | ret =>
            have hnil := g1.defs
            rw [(g4 rfl).trans h2] at hnil
            have hnil : a'.defers = [] := by cases hx : a'.defers with | nil => rfl | cons y ys => rw [hx] at hnil; cases hnil
            have := leave (m := m) g1 g2 g3
            rw [hnil] at this
            exact ⟨hnil, this⟩
          | _ => cases g3
end
end Ev
/-! Rounds of a range over a function. -/
namespace Ev
open Go
set_option linter.unusedVariables false
section
variable {P : Program}

theorem setParams_cons {gl ps : List Nat} {p r : Nat} (hr : idx p gl 0 = some r) {args : List El} {fr : Fr} {k : Fr → R} : (setParams gl (p :: ps)).run args fr k =
    (match args with | a :: rest => (frSet r).run fr a.rv fun fr => (setParams gl ps).run rest fr k | [] => .bad 183) := by
  rw [setParams]; simp only [hr]
  cases args <;> rfl
theorem setParams_ok {φ : Emb} {gl : List Nat} {k : Fr → R} : ∀ (ps : List Nat) {args : List El} {as : List Value} {fr : Fr} {tmps : Array Value}, relFr φ gl fr tmps → (∀ p ∈ ps, p < tmps.size) → Rel2 (relEl φ) args as → (setParams gl ps).run args fr k = .ok →
    as.length = ps.length ∧ ∃ fr', k fr' = .ok ∧ fr'.defs = fr.defs ∧ relFr φ gl fr' ((ps.zip as).foldl (fun (tmps : Array Value) (x : Nat × Value) => tmps.setIfInBounds x.1 x.2) tmps) ∧ ((ps.zip as).foldl (fun (tmps : Array Value) (x : Nat × Value) => tmps.setIfInBounds x.1 x.2) tmps).size = tmps.size := by
  intro ps
  induction ps with
  | nil =>
    intro args as fr tmps hf hp ha h
    cases ha with
    | nil => exact ⟨rfl, fr, h, rfl, hf, rfl⟩
    | cons _ _ => cases h
  | cons p ps ih =>
    intro args as fr tmps hf hp ha h
    cases hr : idx p gl 0 with
    | none => rw [setParams] at h; simp only [hr] at h; cases h
    | some r =>
      rw [setParams_cons hr] at h
      cases ha with
      | nil => cases h
      | cons h1 h2 =>
        rename_i x v xs vs
        obtain ⟨fr1, f1, f2⟩ := setF_ok hr h
        have hpt := hp p (List.mem_cons_self ..)
        have hrel : relFr φ gl fr1 (tmps.setIfInBounds p v) := by
          intro r' t y g1 g2
          rw [f1.2] at g2
          simp only [Option.bind_some, hr] at g2
          rw [getD_set]
          by_cases e : r' = r
          · subst e
            rw [if_pos rfl] at g2
            cases g2
            have := idx_inj hr g1
            subst this
            rw [if_pos ⟨rfl, hpt⟩]; exact relV_rv h1
          · rw [if_neg e] at g2
            rw [if_neg]
            · exact hf r' t y g1 g2
            · rintro ⟨e', _⟩
              subst e'
              rw [hr] at g1; cases g1; exact e rfl
        obtain ⟨g1, fr', g2, g3, g4, g5⟩ := ih hrel (fun q hq => by simpa using hp q (List.mem_cons_of_mem _ hq)) h2 f2
        refine ⟨by simp [g1], fr', g2, g3.trans f1.1, g4, by rw [List.zip_cons_cons, List.foldl_cons, g5]; simp⟩
theorem loop_blk {φ : Emb} {st : St} {w : World} (hw : relW (Sl P) (Nt P) φ st w) {p : Pos} {l : Loc} (hl : φ p = some l) {L : ALoop} (hp : st.heap.at p = some (.loop L)) : ∃ M, w.heap[l.b]? = some (.loop M) ∧ relBlk (Sl P) (Nt P) φ (.loop L) (.loop M) l := by
  obtain ⟨l', ob, h1, h2, h3⟩ := hw.blk _ _ (look_own hp)
  rw [hl] at h1; cases h1
  cases ob with
  | loop M => exact ⟨M, h2, h3⟩
  | _ => exact h3.elim
theorem endR_ok {φ : Emb} {st : St} {w : World} (hw : relW (Sl P) (Nt P) φ st w) {p : Pos} {l : Loc} (hl : φ p = some l) {jump : Option Code} {k : St → R} (h : endR st p (if jump.isNone then .ready else .done) jump k = .ok) :
    ∃ st' w', k st' = .ok ∧ Ext (Sl P) (Nt P) φ st w φ st' w' ∧ (Instr.endRound l.b jump).run P w = .ok (.bool jump.isNone) w' := by
  unfold endR at h
  obtain ⟨b, hb, h1⟩ := ownBlk_ok h
  split at h1
  · obtain ⟨M, g1, d1, d2, d3, d4, d5, d6, d7, d8⟩ := loop_blk hw hl hb
    obtain ⟨st', p1, p2, p3⟩ := putBlk_ok h1
    refine ⟨st', _, p3, ?_, run_endRound g1⟩
    exact Ext.turn hw hb hl rfl p1 p2.1 p2.2 rfl ⟨rfl, rfl, rfl⟩ ⟨rfl, rfl, d3, d4, d5, d6, d7, d8⟩
  · cases h1
theorem beginR_ok {φ : Emb} {st : St} {w : World} (hw : relW (Sl P) (Nt P) φ st w) {p : Pos} {l : Loc} (hl : φ p = some l) {k : St → R} (h : beginR st p k = .ok) :
    ∃ st' w', k st' = .ok ∧ Ext (Sl P) (Nt P) φ st w φ st' w' ∧ (Instr.beginRound l.b).run P w = .ok () w' := by
  unfold beginR at h
  obtain ⟨b, hb, h1⟩ := ownBlk_ok h
  split at h1
  · obtain ⟨M, g1, d1, d2, d3, d4, d5, d6, d7, d8⟩ := loop_blk hw hl hb
    obtain ⟨st', p1, p2, p3⟩ := putBlk_ok h1
    refine ⟨st', _, p3, ?_, run_beginRound g1 d1.symm⟩
    exact Ext.turn hw hb hl rfl p1 p2.1 p2.2 rfl ⟨rfl, rfl, rfl⟩ ⟨rfl, d2, d3, d4, d5, d6, d7, d8⟩
  · cases h1
theorem codeEx_run {l : Nat} {R' : Ending → World → Prop} {x : Ex} {a : Act} {w w' : World} (h : (Instr.endRound l (some (codeEx x))).run P w = .ok (.bool false) w') (hR : R' (.returned (.bool false)) w') : roundPost P l R' (exOf x) a w := by
  cases x <;> exact ⟨_, _, h, hR⟩
theorem compRound_eq {fn : Nat} {params : List Nat} {assign body : Code} : compRound P fn params assign body =
    if !(params.all (fun t => Nat.blt t (ntOfF P fn)) && dstOk (ntOfF P fn) assign && dstOk (ntOfF P fn) body) then ⟨fun _ _ _ _ _ _ => .bad 187⟩ else ⟨fun c l args fr st k => (setParams (slotsOfF P fn) params).run args fr fun fr =>
      (compCode P (slotsOfF P fn) fn true [] assign).cc.run c [] fr st (fun _ fr st => beginR st l fun st =>
        (compCode P (slotsOfF P fn) fn true [] body).cc.run c [] fr st (fun _ _ st => endR st l .ready none fun st => k (.c (.bool true)) st) (fun x _ st => endR st l .done (some (codeEx x)) fun st => k (.c (.bool false)) st)) (fun _ _ _ => .bad 189)⟩ := rfl
theorem doRound_ok {cl : Caller} (hcl : CallOk P cl) (hm : P.follows .mixedOrders = true) {l : Pos} {args : List El} {st : St} {k : RV → St → R} (h : doRound P cl l args st k = .ok) {φ : Emb} {w : World} {loc : Loc} {as : Array Value}
    (hw : relW (Sl P) (Nt P) φ st w) (hg : GlobOk P φ) (hl : φ l = some loc) (ha : Rel2 (relEl φ) args as.toList) :
    ∃ f tmps assign body, (Instr.yield loc.b as).run P w = .ok (.round loc.b f tmps assign body) w ∧ ∀ m, RoundIn (FF none) m P loc.b f tmps assign body w (Ret P φ st w k) := by
  unfold doRound at h
  obtain ⟨b, hb, h1⟩ := ownBlk_ok h
  split at h1
  · rename_i state pending fn fr params assign body defers
    obtain ⟨M, g1, d1, d2, d3, d4, d5, d6, d7, d8⟩ := loop_blk hw hl hb
    cases fr with
    | mk q0 q1 q2 q3 more defs =>
    have d3 : Nt P fn ≤ M.tmps.size := d3
    have d8 : relFr φ (Sl P fn) ⟨q0, q1, q2, q3, more, defs⟩ M.tmps := d8
    have d4 : params = M.params.toList := d4
    have d5 : assign = M.assign := d5
    have d6 : body = M.body := d6
    have h1 : (compRound P fn params assign body).run cl l args ⟨q0, q1, q2, q3, more, []⟩ st k = .ok := h1
    rw [compRound_eq] at h1
    split at h1
    · cases h1
    · rename_i hchk
      simp only [Bool.not_eq_true, Bool.not_eq_false', Bool.and_eq_true] at hchk
      obtain ⟨⟨c1, c2⟩, c3⟩ := hchk
      have h1 : (setParams (Sl P fn) params).run args ⟨q0, q1, q2, q3, more, []⟩ (fun fr =>
        (compCode P (Sl P fn) fn true [] assign).cc.run cl [] fr st (fun _ fr st => beginR st l fun st =>
          (compCode P (Sl P fn) fn true [] body).cc.run cl [] fr st (fun _ _ st => endR st l .ready none fun st => k (.c (.bool true)) st) (fun x _ st => endR st l .done (some (codeEx x)) fun st => k (.c (.bool false)) st)) (fun _ _ _ => .bad 189)) = .ok := h1
      have hps : ∀ p ∈ params, p < M.tmps.size := fun p hp => Nat.lt_of_lt_of_le (blt_t (List.all_eq_true.1 c1 p hp)) d3
      obtain ⟨s1, fr', s2, s3, s4, s5⟩ := setParams_ok params (fr := ⟨q0, q1, q2, q3, more, []⟩) (tmps := M.tmps) d8 hps ha h1
      let tmps := (M.params.zip as).foldl (fun (tmps : Array Value) (x : Nat × Value) => tmps.setIfInBounds x.1 x.2) M.tmps
      have htm : tmps = (params.zip as.toList).foldl (fun (tmps : Array Value) (x : Nat × Value) => tmps.setIfInBounds x.1 x.2) M.tmps := by
        show Array.foldl _ _ _ = _
        rw [← Array.foldl_toList, Array.toList_zip, d4]
      rw [← htm] at s4 s5
      refine ⟨M.fn, tmps, M.assign, M.body, ?_, fun m => ?_⟩
      · unfold Instr.yield
        rw [run_bind_ok (run_getLoop g1)]
        have hsz : as.size = M.params.size := by rw [← Array.length_toList, s1, d4]; simp
        simp only [hsz, ne_eq, not_true_eq_false, if_false]
        rfl
      · refine roundIn_of_wpIn trivial ?_
        rw [← d5, ← d6]
        have hat : At P (Nt P fn) φ (Sl P fn) [] [] fr' { tmps, defers := [] } := ⟨s4, relEnv_nil, hg, by show Nt P fn ≤ tmps.size; rw [s5]; exact d3, by rw [s3]; exact .nil⟩
        have ca : CodeOk P cl (some loc.b) (Nt P fn) (Sl P fn) assign [] (compCode P (Sl P fn) fn true [] assign) := compCode_ok hcl hm (fun h => by cases h) (fun h => by cases h) assign [] c2
        have cb : CodeOk P cl (some loc.b) (Nt P fn) (Sl P fn) body [] (compCode P (Sl P fn) fn true [] body) := compCode_ok hcl hm (fun h => by cases h) (fun h => by cases h) body [] c3
        refine ca hat hw s2 m _ false (fun h => by cases h) ⟨?_, ?_⟩
        · intro ψ w1 e1 fr1 st1 a1 g2 g3 _ g4
          obtain ⟨st2, w2, b1, b2, b3⟩ := beginR_ok g3.rel (g3.le _ _ hl) g4
          refine ⟨w2, b3, ?_⟩
          have x2 := g3.trans b2
          refine cb (φ := ψ) (e := []) ⟨g2.frm, relEnv_nil, g2.glob, g2.nt, g2.defs⟩ b2.rel b1 m _ false (fun h => by cases h) ⟨?_, ?_⟩
          · intro χ w3 e3 fr3 st3 a3 f1 f2 _ f3
            obtain ⟨st4, w4, r1, r2, r3⟩ := endR_ok f2.rel (f2.le _ _ (g3.le _ _ hl)) (jump := none) f3
            exact ⟨_, w4, r3, _, rfl, χ, st4, .c (.bool true), (x2.trans f2).trans r2, rfl, r1⟩
          · intro x χ w3 e3 fr3 st3 a3 f1 f2 _ f3
            obtain ⟨st4, w4, r1, r2, r3⟩ := endR_ok f2.rel (f2.le _ _ (g3.le _ _ hl)) (jump := some (codeEx x)) f3
            exact codeEx_run r3 ⟨_, rfl, χ, st4, .c (.bool false), (x2.trans f2).trans r2, rfl, r1⟩
        · intro x ψ w1 e1 fr1 st1 a1 g2 g3 _ g4
          cases g4
  · cases h1
end
end Ev
/-! Joined calls; all calls. -/
namespace Ev
open Go
set_option linter.unusedVariables false
section
variable {P : Program}

theorem fzPos_ok (p : Pos) : ∀ {k : Pos → R}, fzPos p k = .ok → k p = .ok := by
  induction p with
  | z => intro k h; exact h
  | d0 p ih => intro k h; exact ih (k := fun q => k (.d0 q)) h
  | d1 p ih => intro k h; exact ih (k := fun q => k (.d1 q)) h
  | d2 p ih => intro k h; exact ih (k := fun q => k (.d2 q)) h
  | d3 p ih => intro k h; exact ih (k := fun q => k (.d3 q)) h
  | d4 p ih => intro k h; exact ih (k := fun q => k (.d4 q)) h
  | d5 p ih => intro k h; exact ih (k := fun q => k (.d5 q)) h
  | d6 p ih => intro k h; exact ih (k := fun q => k (.d6 q)) h
  | d7 p ih => intro k h; exact ih (k := fun q => k (.d7 q)) h
/-- blocks laid over a heap -/
theorem expo_ok {s : HT} : ∀ (ps : List Pos) {h : HT} {k : HT → R}, expo s ps h k = .ok → ∃ h', k h' = .ok ∧ ∀ q, h'.at q = if q ∈ ps ∧ (s.at q).isSome then s.at q else h.at q := by
  intro ps
  induction ps with
  | nil => intro h k hk; exact ⟨h, hk, fun q => by simp⟩
  | cons p ps ih =>
    intro h k hk
    unfold expo at hk
    cases hs : s.at p with
    | none =>
      rw [hs] at hk
      obtain ⟨h', g1, g2⟩ := ih hk
      refine ⟨h', g1, fun q => ?_⟩
      rw [g2]
      by_cases e : q = p
      · subst e; simp [hs]
      · simp [e]
    | some b =>
      rw [hs] at hk
      obtain ⟨h1, ⟨s1, s2⟩, s3⟩ := hSet_ok hk
      obtain ⟨h', g1, g2⟩ := ih s3
      refine ⟨h', g1, fun q => ?_⟩
      rw [g2]
      by_cases e : q = p
      · subst e; simp [hs, s1]
      · rw [s2 q e]; simp [e]
theorem sameC_toL {a b : Rope} (h : a.sameC b = true) (hb : b.wf) : a.toL = b.toL ∧ a.wf := by
  unfold Rope.sameC at h
  rcases Bool.or_eq_true _ _ ▸ h with h | h
  · rw [rope_same h]; exact ⟨rfl, hb⟩
  · have h := and_t h
    exact ⟨sameL_eq h.2, rope_wfB h.1⟩
theorem joined_eq {g : FC} {c : Caller} {args : List El} {st : St} {k : RV → St → R} : joined g c args st k =
  match g.run c args ⟨st.next, .e, st.heap :: st.old⟩ fun v s => .out v s with
  | .out v s => fzPos (nextOf st.next s.next) fun n =>
    match g.run c args ⟨st.next, .e, st.heap :: st.old⟩ fun v' s' => bif v.same v' && Nat.ble s'.next.num n.num && (posV v).all (sameBlk st.next.num s.heap s'.heap) then .ok else .bad 195 with
    | .ok => expo s.heap (posV v) st.heap fun h => k v ⟨n, h, st.old⟩
    | x => x
  | .ok => .bad 196
  | x => x := rfl
/-- the layers below can't be turned -/
theorem relW.down {φ : Emb} {st : St} {w : World} (h : relW (Sl P) (Nt P) φ st w) : relW (Sl P) (Nt P) φ ⟨st.next, .e, st.heap :: st.old⟩ w := by
  have hl : ∀ p, St.look ⟨st.next, .e, st.heap :: st.old⟩ p = st.look p := fun p => by
    unfold St.look
    show lookL (.e :: st.heap :: st.old) p = _
    rw [lookL, at_e]
  refine ⟨fun p b hb => h.blk p b (by rw [hl] at hb; exact hb), fun p q b c l m hb => ?_, h.old, h.free, fun p b hb => ?_⟩
  · have : HT.e.at p = some b := hb
    rw [at_e] at this; cases this
  · have : HT.e.at p = some b := hb
    rw [at_e] at this; cases this
/-- back above them, with what is handed out -/
theorem Ext.up {φ ψ : Emb} {st st' : St} {w w' : World} (h0 : relW (Sl P) (Nt P) φ st w) (x : Ext (Sl P) (Nt P) φ ⟨st.next, .e, st.heap :: st.old⟩ w ψ st' w') {s h : HT} {ps : List Pos} {n : Pos}
    (hn : st'.next.num ≤ n.num) (hs : ps.all (sameBlk st.next.num s st'.heap) = true) (hh : ∀ q, h.at q = if q ∈ ps ∧ (s.at q).isSome then s.at q else st.heap.at q) : Ext (Sl P) (Nt P) φ st w ψ ⟨n, h, st.old⟩ w' := by
  have hold : st'.old = st.heap :: st.old := x.lay
  have noOwn : ∀ b, ¬ Own φ ⟨st.next, .e, st.heap :: st.old⟩ b := fun b ⟨p, blk, l, g1, _⟩ => by
    have : HT.e.at p = some blk := g1
    rw [at_e] at this; cases this
  -- what is handed out
  have out : ∀ q b, q ∈ ps → s.at q = some b → ∃ r r' e ro t, b = .cells r e ro t ∧ st'.heap.at q = some (.cells r' e ro t) ∧ r.sameC r' = true ∧ φ q = none ∧ st.look q = none := by
    intro q b hq hb
    have h1 := List.all_eq_true.1 hs q hq
    unfold sameBlk at h1
    rw [hb] at h1
    cases hb' : st'.heap.at q with
    | none => rw [hb'] at h1; cases b <;> cases h1
    | some b' =>
      rw [hb'] at h1
      cases b with
      | cells r e ro t =>
        cases b' with
        | cells r' e' ro' t' =>
          simp only [Bool.and_eq_true, beq_iff_eq] at h1
          obtain ⟨⟨⟨⟨g1, g2⟩, g3⟩, g4⟩, g5⟩ := h1
          have g4 := beq_t g4
          subst g2; subst g3; subst g4
          have hno : φ q = none := by
            cases hq' : φ q with
            | none => rfl
            | some l =>
              have := h0.free q l hq'
              have g5 := Nat.le_of_ble_eq_true g5
              omega
          refine ⟨r, r', e, ro, t, rfl, rfl, g1, hno, ?_⟩
          cases hl : st.look q with
          | none => rfl
          | some c => obtain ⟨l, _, g, _⟩ := h0.blk q c hl; rw [hno] at g; cases g
        | _ => cases h1
      | _ => cases b' <;> cases h1
  -- what lies in the new heap: handed out, or as it was
  have cs : ∀ q b, h.at q = some b → (q ∈ ps ∧ s.at q = some b) ∨ (st.heap.at q = some b ∧ ¬ (q ∈ ps ∧ (s.at q).isSome = true)) := by
    intro q b hb
    rw [hh] at hb
    split at hb
    · rename_i hc; exact .inl ⟨hc.1, hb⟩
    · rename_i hc; exact .inr ⟨hb, hc⟩
  have oldlook : ∀ q b, st.look q = some b → st'.look q = some b := by
    intro q b hb
    have hb' : lookL st'.old q = some b := by rw [hold]; exact hb
    unfold St.look lookL
    cases hq : st'.heap.at q with
    | none => exact hb'
    | some c => have := x.rel.sep q c hq; rw [this] at hb'; cases hb'
  -- what is seen in the new state
  have look : ∀ q b, St.look ⟨n, h, st.old⟩ q = some b → (q ∈ ps ∧ s.at q = some b) ∨ st.look q = some b := by
    intro q b hb
    have hb : lookL (h :: st.old) q = some b := hb
    unfold lookL at hb
    cases hq : h.at q with
    | some c =>
      rw [hq] at hb
      cases hb
      rcases cs q b hq with g | ⟨g, _⟩
      · exact .inl g
      · exact .inr (look_own g)
    | none =>
      rw [hq] at hb
      have hs' : st.heap.at q = none := by
        rw [hh] at hq
        split at hq
        · rename_i hc; have hc2 := hc.2; rw [hq] at hc2; cases hc2
        · exact hq
      refine .inr ?_
      unfold St.look lookL
      rw [hs']; exact hb
  have newB : ∀ q l, φ q = none → ψ q = some l → w.heap.size ≤ l.b := fun q l h1 h2 => (x.new q l h2 h1).2.resolve_right (noOwn _)
  refine ⟨x.le, ⟨?_, ?_, x.rel.old, fun p l hl => Nat.lt_of_lt_of_le (x.rel.free p l hl) hn, ?_⟩, x.size, ?_, fun b hb _ => x.keep b hb (noOwn b), fun p l h1 h2 => ⟨(x.new p l h1 h2).1, .inl (newB p l h2 h1)⟩, Nat.le_trans x.next hn, x.tape, x.os, x.out, rfl⟩
  · intro q b hb
    rcases look q b hb with ⟨g1, g2⟩ | g
    · obtain ⟨r, r', e, ro, t, rfl, f2, f3, f4, f5⟩ := out q b g1 g2
      obtain ⟨l, o, k1, k2, k3⟩ := x.rel.blk q _ (look_own f2)
      refine ⟨l, o, k1, k2, ?_⟩
      cases o with
      | cells c t' fz =>
        obtain ⟨a1, a2, a3, a4, a5, a6⟩ := k3
        obtain ⟨b1, b2⟩ := sameC_toL f3 a5.1
        have hsz : r.size = r'.size := by rw [← r.length_toL b2, ← r'.length_toL a5.1, b1]
        exact ⟨a1, a2, by rw [hsz]; exact a3, by rw [hsz]; exact a4, ⟨b2, by rw [b1, hsz]; exact a5.2⟩, a6⟩
      | _ => exact k3.elim
    · exact x.rel.blk q b (oldlook q b g)
  · intro p q b c l m hb hc hl hm hpq hro
    have hb : h.at p = some b := hb
    rcases cs p b hb with ⟨g1, g2⟩ | ⟨g, _⟩
    · obtain ⟨r, r', e, ro, t, rfl, f2, f3, f4, f5⟩ := out p b g1 g2
      rcases look q c hc with ⟨k1, k2⟩ | k
      · obtain ⟨_, r2, e2, ro2, t2, rfl, j2, _⟩ := out q c k1 k2
        exact x.rel.apart p q _ _ l m f2 (look_own j2) hl hm hpq hro
      · exact x.rel.apart p q _ _ l m f2 (oldlook q c k) hl hm hpq hro
    · obtain ⟨lp, _, e1, _⟩ := h0.blk p b (look_own g)
      have e2 := x.le _ _ e1
      rw [hl] at e2; cases e2
      rcases look q c hc with ⟨k1, k2⟩ | k
      · obtain ⟨_, _, _, _, _, _, _, _, j3, _⟩ := out q c k1 k2
        have := newB q m j3 hm
        have := h0.old p l e1
        omega
      · obtain ⟨mq, _, e3, _⟩ := h0.blk q c k
        have e4 := x.le _ _ e3
        rw [hm] at e4; cases e4
        exact h0.apart p q b c l m g k e1 e3 hpq hro
  · intro q b hb
    have hb : h.at q = some b := hb
    show lookL st.old q = none
    rcases cs q b hb with ⟨g1, g2⟩ | ⟨g, _⟩
    · obtain ⟨_, _, _, _, _, _, _, _, _, f5⟩ := out q b g1 g2
      unfold St.look lookL at f5
      cases hq : st.heap.at q with
      | none => rw [hq] at f5; exact f5
      | some c => rw [hq] at f5; cases f5
    · exact h0.sep q b g
  · rintro y hy ⟨p, blk, l, g1, g2, g3, g4⟩
    have g1 : h.at p = some blk := g1
    rcases cs p blk g1 with ⟨k1, k2⟩ | ⟨k, _⟩
    · obtain ⟨_, _, _, _, _, _, _, _, j3, _⟩ := out p blk k1 k2
      have := newB p l j3 g3
      omega
    · obtain ⟨lp, _, e1, _⟩ := h0.blk p blk (look_own k)
      have e2 := x.le _ _ e1
      rw [g3] at e2; cases e2
      exact ⟨p, blk, l, k, g2, e1, g4⟩
theorem joined_ok {g : FC} {cl : Caller} {n : Nat} {args : List El} (hg : ∀ st k, g.run cl args st k = .ok → FnAt P n args st k) {st : St} {k : RV → St → R} (h : joined g cl args st k = .ok) : FnAt P n args st k := by
  rw [joined_eq] at h
  split at h
  · rename_i v s _
    have h := fzPos_ok _ h
    generalize nextOf st.next s.next = nx at h
    split at h
    · rename_i h2
      obtain ⟨hp, e1, e2⟩ := expo_ok _ h
      obtain ⟨f1, f2⟩ := hg _ _ h2
      have conv : ∀ {φ : Emb} {w : World}, relW (Sl P) (Nt P) φ st w → ∀ e w', Ret P φ ⟨st.next, .e, st.heap :: st.old⟩ w (fun v' s' => bif v.same v' && Nat.ble s'.next.num nx.num && (posV v).all (sameBlk st.next.num s.heap s'.heap) then .ok else .bad 195) e w' → Ret P φ st w k e w' := by
        rintro φ w hw e w' ⟨cv, rfl, ψ, st', rv, x1, x2, x3⟩
        have x3 : (bif v.same rv && Nat.ble st'.next.num nx.num && (posV v).all (sameBlk st.next.num s.heap st'.heap) then R.ok else .bad 195) = .ok := x3
        cases hc : (v.same rv && Nat.ble st'.next.num nx.num && (posV v).all (sameBlk st.next.num s.heap st'.heap)) with
        | false => rw [hc] at x3; cases x3
        | true =>
          obtain ⟨c1, c2⟩ := and_t hc
          obtain ⟨c3, c4⟩ := and_t c1
          exact ⟨cv, rfl, ψ, ⟨nx, hp, st.old⟩, v, Ext.up hw x1 (Nat.le_of_ble_eq_true c4) c2 e2, rv_same c3 x2, e1⟩
      refine ⟨f1, fun φ w as hw hgl ha m => ?_⟩
      obtain ⟨g1, g2⟩ := f2 φ w as hw.down hgl ha m
      exact ⟨g1.mono (conv hw), fun hp u => (g2 hp u).mono fun e u' w' ⟨q1, q2⟩ => ⟨q1, conv hw e w' q2⟩⟩
    · rename_i hx
      rw [h] at hx
      exact absurd rfl hx
  · cases h
  · rename_i _ hx
    exact absurd h hx
/-- every call, with so much fuel -/
theorem callN_ok (hm : P.follows .mixedOrders = true) (J : Nat → Bool) : ∀ fuel, CallOk P (callN P J fuel) := by
  intro fuel
  induction fuel with
  | zero => exact ⟨fun n args st k h => (by cases h), fun l args st k h => (by cases h)⟩
  | succ fuel ih =>
    refine ⟨fun n args st k h => ?_, fun l args st k h φ w loc as hw hg hl ha => doRound_ok ih hm (k := k) (st := st) h hw hg hl ha⟩
    have h : (bif J n then joined ⟨(compF P n).run⟩ (callN P J fuel) args st k else (compF P n).run (callN P J fuel) args st k) = .ok := h
    cases hJ : J n with
    | true => rw [hJ] at h; exact joined_ok (fun st k h => compF_ok ih hm h) h
    | false => rw [hJ] at h; exact compF_ok ih hm h
end
end Ev
/-! Known calls. -/
namespace Ev
open Go
set_option linter.unusedVariables false
section
variable {P : Program}

theorem eqv_eq {a b : El} (h : a.eqv b = true) : a = b := by
  cases a <;> cases b <;> first | (cases h; done) | (rw [cell_same h]; done) | (rw [rope_same h]; done)
theorem sameM_eq {a b : List MEnt} (h : sameM a b = true) : a = b := by
  induction a generalizing b with
  | nil => cases b <;> first | rfl | cases h
  | cons x xs ih =>
    cases b with
    | nil => cases h
    | cons y ys =>
      have h := and_t h
      have h1 := and_t h.1
      have h2 := and_t h1.1
      obtain ⟨k1, v1, b1⟩ := x
      obtain ⟨k2, v2, b2⟩ := y
      rw [ih h.2]
      have e1 := cell_same h2.1
      have e2 := eqv_eq h2.2
      have e3 := beq_t h1.2
      simp only [] at e1 e2 e3
      rw [e1, e2, e3]
theorem blk_same {a b : Blk} (h : a.same b = true) : a = b := by
  cases a with
  | cells r e ro t =>
    cases b with
    | cells r' e' ro' t' =>
      have h := and_t h
      have h1 := and_t h.1
      have h2 := and_t h1.1
      rw [rope_same h2.1, eq_of_beq h2.2, eq_of_beq h1.2, beq_t h.2]
    | _ => cases h
  | map es c =>
    cases b with
    | map es' c' => have h := and_t h; rw [sameM_eq h.1, beq_t h.2]
    | _ => cases h
  | _ => cases b <;> cases h
theorem atSame_ok {h : HT} {p : Pos} {b : Blk} (hs : atSame h p b = true) : h.at p = some b := by
  unfold atSame at hs
  cases hp : h.at p with
  | none => rw [hp] at hs; cases hs
  | some b' => rw [hp] at hs; rw [blk_same hs]
theorem layB_ok : ∀ (l : List (Pos × Blk)) {h : HT} {k : HT → R}, layB l h k = .ok → ∃ h', k h' = .ok ∧ ∀ q, (∃ b, (q, b) ∈ l ∧ h'.at q = some b) ∨ ((∀ b, (q, b) ∉ l) ∧ h'.at q = h.at q) := by
  intro l
  induction l with
  | nil => intro h k hk; exact ⟨h, hk, fun q => .inr ⟨fun b hb => (by cases hb), rfl⟩⟩
  | cons x l ih =>
    intro h k hk
    obtain ⟨h1, ⟨s1, s2⟩, s3⟩ := hSet_ok (show hSet x.1 h (some x.2) (fun h => layB l h k) = .ok from hk)
    obtain ⟨h', g1, g2⟩ := ih s3
    refine ⟨h', g1, fun q => ?_⟩
    rcases g2 q with ⟨b, c1, c2⟩ | ⟨c1, c2⟩
    · exact .inl ⟨b, List.mem_cons_of_mem _ c1, c2⟩
    · by_cases e : q = x.1
      · subst e
        exact .inl ⟨x.2, List.mem_cons_self .., by rw [c2]; exact s1⟩
      · refine .inr ⟨fun b hb => ?_, by rw [c2]; exact s2 q e⟩
        rcases List.mem_cons.1 hb with h | h
        · exact e (congrArg Prod.fst h)
        · exact c1 b h
theorem layN_ok : ∀ (l : List Pos) {h : HT} {k : HT → R}, layN l h k = .ok → ∃ h', k h' = .ok ∧ ∀ q, (q ∈ l ∧ h'.at q = none) ∨ (q ∉ l ∧ h'.at q = h.at q) := by
  intro l
  induction l with
  | nil => intro h k hk; exact ⟨h, hk, fun q => .inr ⟨fun hb => (by cases hb), rfl⟩⟩
  | cons x l ih =>
    intro h k hk
    obtain ⟨h1, ⟨s1, s2⟩, s3⟩ := hSet_ok (show hSet x h none (fun h => layN l h k) = .ok from hk)
    obtain ⟨h', g1, g2⟩ := ih s3
    refine ⟨h', g1, fun q => ?_⟩
    rcases g2 q with ⟨c1, c2⟩ | ⟨c1, c2⟩
    · exact .inl ⟨List.mem_cons_of_mem _ c1, c2⟩
    · by_cases e : q = x
      · subst e; exact .inl ⟨List.mem_cons_self .., by rw [c2]; exact s1⟩
      · exact .inr ⟨fun hb => (List.mem_cons.1 hb).elim e c1, by rw [c2]; exact s2 q e⟩
theorem preOk_ok {h : HT} : ∀ {l : List (Pos × Blk)}, preOk h l = true → ∀ q b, (q, b) ∈ l → h.at q = some b := by
  intro l
  induction l with
  | nil => intro _ q b hb; cases hb
  | cons x l ih =>
    intro hs q b hb
    have hs := and_t (show (atSame h x.1 x.2 && preOk h l) = true from hs)
    rcases List.mem_cons.1 hb with e | hb
    · subst e; exact atSame_ok hs.1
    · exact ih hs.2 q b hb
theorem inPs_ok {p : Pos} : ∀ {l : List Pos}, inPs p l = true → p ∈ l := by
  intro l
  induction l with
  | nil => intro h; cases h
  | cons x l ih =>
    intro h
    rcases Bool.or_eq_true _ _ ▸ (show (x.beq p || inPs p l) = true from h) with h | h
    · rw [pos_beq h]; exact List.mem_cons_self ..
    · exact List.mem_cons_of_mem _ (ih h)
theorem isAt_ok {h : HT} {p : Pos} (hs : isAt h p = true) : ∃ b, h.at p = some b := by
  unfold isAt at hs
  cases hp : h.at p with
  | none => rw [hp] at hs; cases hs
  | some b => exact ⟨b, rfl⟩
theorem postIn_ok {h : HT} {next : Pos} {s : HT} : ∀ {l : List (Pos × Blk)}, postIn h next s l = true → ∀ q b, (q, b) ∈ l → s.at q = some b ∧ ((∃ c, h.at q = some c) ∨ next.num ≤ q.num) := by
  intro l
  induction l with
  | nil => intro _ q b hb; cases hb
  | cons x l ih =>
    intro hs q b hb
    have hs := and_t (show (atSame s x.1 x.2 && (isAt h x.1 || Nat.ble next.num x.1.num) && postIn h next s l) = true from hs)
    have h1 := and_t hs.1
    rcases List.mem_cons.1 hb with e | hb
    · subst e
      refine ⟨atSame_ok h1.1, ?_⟩
      rcases Bool.or_eq_true _ _ ▸ h1.2 with g | g
      · exact .inl (isAt_ok g)
      · exact .inr (Nat.le_of_ble_eq_true g)
    · exact ih hs.2 q b hb
theorem preIn_ok {ph : HT} {gone : List Pos} {s : HT} : ∀ {l : List (Pos × Blk)}, preIn ph gone s l = true → ∀ q b, (q, b) ∈ l → (∃ c, ph.at q = some c) ∨ q ∈ gone ∨ s.at q = some b := by
  intro l
  induction l with
  | nil => intro _ q b hb; cases hb
  | cons x l ih =>
    intro hs q b hb
    have hs := and_t (show ((isAt ph x.1 || inPs x.1 gone || atSame s x.1 x.2) && preIn ph gone s l) = true from hs)
    rcases List.mem_cons.1 hb with e | hb
    · subst e
      rcases Bool.or_eq_true _ _ ▸ hs.1 with g | g
      · rcases Bool.or_eq_true _ _ ▸ g with g | g
        · exact .inl (isAt_ok g)
        · exact .inr (.inl (inPs_ok g))
      · exact .inr (.inr (atSame_ok g))
    · exact ih hs.2 q b hb
/-- what a known call promises -/
def KnownOk (P : Program) (n : Nat) (e : Known) : Prop :=
  ∃ h ph : HT, (∀ q, (∃ b, (q, b) ∈ e.pre ∧ h.at q = some b) ∨ ((∀ b, (q, b) ∉ e.pre) ∧ h.at q = none)) ∧ (∀ q, (∃ b, (q, b) ∈ e.post ∧ ph.at q = some b) ∨ ((∀ b, (q, b) ∉ e.post) ∧ ph.at q = none)) ∧
    FnAt P n e.args ⟨e.next, h, []⟩ (knownEnd e h ph)
/-- the run by itself shows it -/
theorem known_of_run {c : Caller} (hc : CallOk P c) {n : Nat} {e : Known} (h : knownRun c n e = .ok) : KnownOk P n e := by
  obtain ⟨h1, g1, g2⟩ := layB_ok _ (show layB e.pre .e (fun h => layB e.post .e fun ph => c (.f n) e.args ⟨e.next, h, []⟩ (knownEnd e h ph)) = .ok from h)
  obtain ⟨ph, g3, g4⟩ := layB_ok _ g1
  exact ⟨h1, ph, fun q => (g2 q).imp id fun ⟨a, b⟩ => ⟨a, by rw [b, at_e]⟩, fun q => (g4 q).imp id fun ⟨a, b⟩ => ⟨a, by rw [b, at_e]⟩, hc.fn _ _ _ _ g3⟩
theorem look_nil {n : Pos} {h : HT} {p : Pos} : St.look ⟨n, h, []⟩ p = h.at p := by
  unfold St.look lookL
  show (match h.at p with | some b => some b | none => lookL [] p) = h.at p
  cases h.at p <;> rfl
/-- the state that a known call starts from stands for the world, too -/
theorem relW.part {φ : Emb} {st : St} {w : World} (h0 : relW (Sl P) (Nt P) φ st w) {h : HT} (hs : ∀ p b, h.at p = some b → st.heap.at p = some b) : relW (Sl P) (Nt P) φ ⟨st.next, h, []⟩ w := by
  refine ⟨fun p b hb => ?_, fun p q b c l m hb hc => ?_, h0.old, h0.free, fun p b hb => rfl⟩
  · rw [look_nil] at hb; exact h0.blk p b (look_own (hs p b hb))
  · rw [look_nil] at hc; exact h0.apart p q b c l m (hs p b hb) (look_own (hs q c hc))
theorem Ext.frame {φ ψ : Emb} {next : Pos} {hp : HT} {st' : St} {w w' : World} (h0 : relW (Sl P) (Nt P) φ ⟨next, hp, []⟩ w) {h : HT} (hs : ∀ p b, h.at p = some b → hp.at p = some b)
    (x : Ext (Sl P) (Nt P) φ ⟨next, h, []⟩ w ψ st' w') {h2 : HT} {n : Pos} (hn : st'.next.num ≤ n.num)
    (hin : ∀ q b, h2.at q = some b → (st'.heap.at q = some b ∧ ((∃ c, h.at q = some c) ∨ next.num ≤ q.num)) ∨ (hp.at q = some b ∧ h.at q = none)) : Ext (Sl P) (Nt P) φ ⟨next, hp, []⟩ w ψ ⟨n, h2, []⟩ w' := by
  have ownS : ∀ b, Own φ ⟨next, h, []⟩ b → Own φ ⟨next, hp, []⟩ b := fun b ⟨p, blk, l, g1, g2⟩ => ⟨p, blk, l, hs p blk g1, g2⟩
  -- a block that the call leaves alone
  have out : ∀ q b, hp.at q = some b → h.at q = none → ∃ l o, φ q = some l ∧ w.heap[l.b]? = some o ∧ relBlk (Sl P) (Nt P) φ b o l ∧ ¬ Own φ ⟨next, h, []⟩ l.b := by
    intro q b hb hq
    obtain ⟨l, o, g1, g2, g3⟩ := h0.blk q b (by rw [look_nil]; exact hb)
    refine ⟨l, o, g1, g2, g3, fun ⟨p, c, m, k1, k2, k3, k4⟩ => ?_⟩
    have k1 : h.at p = some c := k1
    have hne : p ≠ q := fun e => by rw [e, hq] at k1; cases k1
    exact h0.apart p q c b m l (hs p c k1) (by rw [look_nil]; exact hb) k3 g1 hne k2 k4
  have back : ∀ q l, ψ q = some l → ∀ l', φ q = some l' → l = l' := fun q l h1 l' h2 => by
    have := x.le q l' h2
    rw [h1] at this; cases this; rfl
  refine ⟨x.le, ⟨?_, ?_, x.rel.old, fun p l hl => Nat.lt_of_lt_of_le (x.rel.free p l hl) hn, fun p b hb => rfl⟩, x.size, ?_, fun b hb hno => x.keep b hb (fun ho => hno (ownS b ho)), fun p l h1 h2 => ?_, Nat.le_trans x.next hn, x.tape, x.os, x.out, rfl⟩
  · intro q b hb
    rw [look_nil] at hb
    rcases hin q b hb with ⟨g, _⟩ | ⟨g1, g2⟩
    · exact x.rel.blk q b (look_own g)
    · obtain ⟨l, o, k1, k2, k3, k4⟩ := out q b g1 g2
      exact ⟨l, o, x.le _ _ k1, by rw [x.keep _ (h0.old _ _ k1) k4]; exact k2, relBlk_mono x.le k3⟩
  · intro p q b c l m hb hc hl hm hpq hro
    have hb : h2.at p = some b := hb
    rw [look_nil] at hc
    rcases hin p b hb with ⟨g1, g2⟩ | ⟨g1, g2⟩
    · rcases hin q c hc with ⟨k1, _⟩ | ⟨k1, k2⟩
      · exact x.rel.apart p q b c l m g1 (look_own k1) hl hm hpq hro
      · obtain ⟨m', o, j1, j2, j3, j4⟩ := out q c k1 k2
        have := back q m hm m' j1
        subst this
        intro e
        have ho : Own ψ st' l.b := ⟨p, b, l, g1, hro, hl, rfl⟩
        by_cases hlt : l.b < w.heap.size
        · exact j4 (by rw [← e]; exact x.own _ hlt ho)
        · have := h0.old q m j1; omega
    · obtain ⟨l', o, j1, j2, j3, j4⟩ := out p b g1 g2
      have := back p l hl l' j1
      subst this
      rcases hin q c hc with ⟨k1, k2⟩ | ⟨k1, k2⟩
      · rcases k2 with ⟨c', k2⟩ | k2
        · have hq := hs q c' k2
          obtain ⟨m', _, i1, _⟩ := h0.blk q c' (by rw [look_nil]; exact hq)
          have := back q m hm m' i1
          subst this
          exact h0.apart p q b c' l m g1 (by rw [look_nil]; exact hq) j1 i1 hpq hro
        · have hno : φ q = none := by
            cases hq : φ q with
            | none => rfl
            | some m' => have : q.num < next.num := h0.free q m' hq; omega
          intro e
          rcases (x.new q m hm hno).2 with i | i
          · have := h0.old p l j1; omega
          · exact j4 (by rw [e]; exact i)
      · obtain ⟨m', _, i1, _⟩ := out q c k1 k2
        have := back q m hm m' i1
        subst this
        exact h0.apart p q b c l m g1 (by rw [look_nil]; exact k1) j1 i1 hpq hro
  · rintro y hy ⟨p, blk, l, g1, g2, g3, g4⟩
    have g1 : h2.at p = some blk := g1
    rcases hin p blk g1 with ⟨k1, _⟩ | ⟨k1, k2⟩
    · exact ownS y (x.own y hy ⟨p, blk, l, k1, g2, g3, g4⟩)
    · obtain ⟨l', _, j1, _⟩ := out p blk k1 k2
      have := back p l g3 l' j1
      subst this
      exact ⟨p, blk, l, k1, g2, j1, g4⟩
  · obtain ⟨g1, g2⟩ := x.new p l h1 h2
    exact ⟨g1, g2.imp id (ownS _)⟩
theorem findK_ok {p : Pos} : ∀ {l : List Known} {e : Known}, findK p l = some e → e ∈ l ∧ e.next = p := by
  intro l
  induction l with
  | nil => intro e h; cases h
  | cons x l ih =>
    intro e h
    have h : (bif x.next.beq p then some x else findK p l) = some e := h
    cases hb : x.next.beq p with
    | true => rw [hb] at h; cases h; exact ⟨List.mem_cons_self .., pos_beq hb⟩
    | false => rw [hb] at h; obtain ⟨g1, g2⟩ := ih h; exact ⟨List.mem_cons_of_mem _ g1, g2⟩
theorem useK_ok {n : Nat} {es : List Known} (hes : ∀ e ∈ es, KnownOk P n e) {args : List El} {st : St} {k : RV → St → R} {d : R} (hd : d = .ok → FnAt P n args st k) (h : useK es args st k d = .ok) : FnAt P n args st k := by
  unfold useK at h
  split at h
  · exact hd h
  · split at h
    · rename_i hold
      split at h
      · rename_i e he
        obtain ⟨m1, m2⟩ := findK_ok he
        cases hc : (sameE e.args args && preOk st.heap e.pre) with
        | false => rw [hc] at h; cases h
        | true =>
          rw [hc] at h
          obtain ⟨c1, c2⟩ := and_t hc
          obtain ⟨h1, k1, k2⟩ := layN_ok _ (show layN e.gone st.heap (fun h => layB e.post h fun h => k e.res ⟨e.next', h, []⟩) = .ok from h)
          obtain ⟨h2, k3, k4⟩ := layB_ok _ k1
          obtain ⟨hh, ph, p1, p2, f1, f2⟩ := hes e m1
          obtain ⟨nx, hp, old⟩ := st
          have hold : old = [] := hold
          subst hold
          have m2 : e.next = nx := m2
          subst m2
          have c2 := preOk_ok c2
          have hs : ∀ p b, hh.at p = some b → hp.at p = some b := by
            intro p b hb
            rcases p1 p with ⟨b', q1, q2⟩ | ⟨_, q2⟩
            · rw [hb] at q2; cases q2; exact c2 p b q1
            · rw [hb] at q2; cases q2
          have conv : ∀ {φ : Emb} {w : World}, relW (Sl P) (Nt P) φ ⟨e.next, hp, []⟩ w → ∀ ee w', Ret P φ ⟨e.next, hh, []⟩ w (knownEnd e hh ph) ee w' → Ret P φ ⟨e.next, hp, []⟩ w k ee w' := by
            rintro φ w hw ee w' ⟨cv, rfl, ψ, st', rv, x1, x2, x3⟩
            have x3 : (bif e.res.same rv && postIn hh e.next st'.heap e.post && preIn ph e.gone st'.heap e.pre && Nat.ble st'.next.num e.next'.num then R.ok else .bad 200) = .ok := x3
            cases hcc : (e.res.same rv && postIn hh e.next st'.heap e.post && preIn ph e.gone st'.heap e.pre && Nat.ble st'.next.num e.next'.num) with
            | false => rw [hcc] at x3; cases x3
            | true =>
              obtain ⟨d1, d2⟩ := and_t hcc
              obtain ⟨d1, d3⟩ := and_t d1
              obtain ⟨d1, d4⟩ := and_t d1
              have d4 := postIn_ok d4
              have d3 := preIn_ok d3
              refine ⟨cv, rfl, ψ, ⟨e.next', h2, []⟩, e.res, Ext.frame hw hs x1 (Nat.le_of_ble_eq_true d2) ?_, rv_same d1 x2, k3⟩
              intro q b hb
              rcases k4 q with ⟨b', q1, q2⟩ | ⟨q1, q2⟩
              · rw [hb] at q2; cases q2
                exact .inl (d4 q b q1)
              · rw [hb] at q2
                rcases k2 q with ⟨_, r2⟩ | ⟨r1, r2⟩
                · rw [r2] at q2; cases q2
                · rw [r2] at q2
                  rcases p1 q with ⟨bp, t1, t2⟩ | ⟨t1, t2⟩
                  · have := c2 q bp t1
                    rw [← q2] at this; cases this
                    rcases d3 q b t1 with ⟨c, u⟩ | u | u
                    · rcases p2 q with ⟨b', v1, _⟩ | ⟨_, v2⟩
                      · exact absurd v1 (q1 b')
                      · rw [u] at v2; cases v2
                    · exact absurd u r1
                    · exact .inl ⟨u, .inl ⟨b, t2⟩⟩
                  · exact .inr ⟨q2.symm, t2⟩
          refine ⟨f1, fun φ w as hw hg ha m => ?_⟩
          obtain ⟨g1, g2⟩ := f2 φ w as (hw.part hs) hg (sameE_rel c1 ha) m
          exact ⟨g1.mono (conv hw), fun hpl u => (g2 hpl u).mono fun ee u' w' ⟨q1, q2⟩ => ⟨q1, conv hw ee w' q2⟩⟩
      · exact hd h
    · exact hd h
/-- every call, with known ones -/
theorem callK_ok (hm : P.follows .mixedOrders = true) (J : Nat → Bool) {T : Nat → List Known} (hT : ∀ n, ∀ e ∈ T n, KnownOk P n e) : ∀ fuel, CallOk P (callK P J T fuel) := by
  intro fuel
  induction fuel with
  | zero => exact ⟨fun n args st k h => (by cases h), fun l args st k h => (by cases h)⟩
  | succ fuel ih =>
    refine ⟨fun n args st k h => ?_, fun l args st k h φ w loc as hw hg hl ha => doRound_ok ih hm (k := k) (st := st) h hw hg hl ha⟩
    have h : useK (T n) args st k (bif J n then joined ⟨(compF P n).run⟩ (callK P J T fuel) args st k else (compF P n).run (callK P J T fuel) args st k) = .ok := h
    refine useK_ok (hT n) (fun h => ?_) h
    cases hJ : J n with
    | true => rw [hJ] at h; exact joined_ok (fun st k h => compF_ok ih hm h) h
    | false => rw [hJ] at h; exact compF_ok ih hm h
end
end Ev
/-! The start: what the row's condition lays, as a state. -/
namespace Ev
open Go
set_option linter.unusedVariables false
section
variable {P : Program}

theorem bits_num : ∀ (f n : Nat), n < 8 ^ f → (Pos.bits f n).num = n := by
  intro f
  induction f with
  | zero => intro n h; have : n = 0 := by simpa using h
            subst this; rfl
  | succ f ih =>
    intro n h
    unfold Pos.bits
    cases hb : Nat.beq n 0 with
    | true => have := Nat.eq_of_beq_eq_true hb; subst this; rfl
    | false =>
      have hd : Nat.div n 8 < 8 ^ f := by
        show n / 8 < 8 ^ f
        rw [Nat.pow_succ] at h
        omega
      have := ih _ hd
      have h8 : n % 8 < 8 := Nat.mod_lt _ (by omega)
      have hn : n = 8 * (n / 8) + n % 8 := by omega
      have e0 : Nat.div n 8 = n / 8 := rfl
      have e1 : Nat.mod n 8 = n % 8 := rfl
      rw [e0] at this ⊢
      rw [e1]
      show Pos.num (match n % 8 with | 0 => .d0 (Pos.bits f (n / 8)) | 1 => .d1 (Pos.bits f (n / 8)) | 2 => .d2 (Pos.bits f (n / 8)) | 3 => .d3 (Pos.bits f (n / 8)) | 4 => .d4 (Pos.bits f (n / 8)) | 5 => .d5 (Pos.bits f (n / 8)) | 6 => .d6 (Pos.bits f (n / 8)) | _ => .d7 (Pos.bits f (n / 8))) = n
      generalize n % 8 = m at *
      match m, h8 with
      | 0, _ => show 8 * Pos.num _ = n; omega
      | 1, _ => show 8 * Pos.num _ + 1 = n; omega
      | 2, _ => show 8 * Pos.num _ + 2 = n; omega
      | 3, _ => show 8 * Pos.num _ + 3 = n; omega
      | 4, _ => show 8 * Pos.num _ + 4 = n; omega
      | 5, _ => show 8 * Pos.num _ + 5 = n; omega
      | 6, _ => show 8 * Pos.num _ + 6 = n; omega
      | 7, _ => show 8 * Pos.num _ + 7 = n; omega

/-! ### a datum's cells -/
def flatS (g : TypeId → DataW Unit → Option (List Cell)) : List Field → List (DataW Unit) → Nat → Option (List Cell)
  | [], [], _ => some []
  | f :: fs, d :: ds, off => if f.offset = off then (match g f.type d with | some a => (match flatS g fs ds (off + a.length) with | some b => some (a ++ b) | none => none) | none => none) else none
  | _, _, _ => none
def flatA (g : DataW Unit → Option (List Cell)) (sz : Nat) : List (DataW Unit) → Option (List Cell)
  | [] => some []
  | d :: ds => match g d with | some a => if a.length = sz then (match flatA g sz ds with | some b => some (a ++ b) | none => none) else none | none => none
def flatD (P : Program) : Nat → TypeId → DataW Unit → Option (List Cell)
  | 0, _, _ => none
  | n + 1, t, d => match P.underlying t, d with
    | some .bool, .lit (.bool b) => some [.bool b]
    | some (.int _), .lit (.int k z) => (cellOfV (.int k z)).map fun c => [c]
    | some .string, .lit (.string s) => (cellOfV (.string ⟨s.toArray⟩)).map fun c => [c]
    | some (.struct fs), .agg ds => (match flatS (flatD P n) fs.toList ds 0 with | some l => if l.length = P.cellsOf t then some l else none | none => none)
    | some (.array m e), .agg ds => if ds.length = m ∧ P.cellsOf t = m * P.cellsOf e then flatA (flatD P n e) (P.cellsOf e) ds else none
    | _, _ => none
theorem mapM_some {α β : Type} {f : α → Option β} : ∀ {l : List α} {r : List β}, l.mapM f = some r → Rel2 (fun a b => f a = some b) l r := by
  intro l
  induction l with
  | nil => intro r h; cases h; exact .nil
  | cons x l ih =>
    intro r h
    simp only [List.mapM_cons, Option.bind_eq_bind, Option.bind_eq_some_iff, Option.pure_def, Option.some.injEq] at h
    obtain ⟨b, hb, r', hr', rfl⟩ := h
    exact .cons hb (ih hr')
theorem Rel2.one {α β : Type} {R : α → β → Prop} {a : α} {b : β} (h : R a b) : Rel2 R [a] [b] := .cons h .nil
section
variable {φ : Emb} {w : World} {base : Nat} {sp : Nat → Bool} {held : Bool}
abbrev trodU (P : Program) (w : World) (base : Nat) (sp : Nat → Bool) (held : Bool) := DataW.trod (fun _ : TypeId × Value => ()) P w base sp held
theorem Rel2.of_get {α β : Type} {R : α → β → Prop} : ∀ {l : List α} {m : List β}, l.length = m.length → (∀ (i : Nat) (a : α), l[i]? = some a → ∃ b, m[i]? = some b ∧ R a b) → Rel2 R l m := by
  intro l
  induction l with
  | nil => intro m h _; cases m with | nil => exact .nil | cons _ _ => simp at h
  | cons a l ih =>
    intro m h hr
    cases m with
    | nil => simp at h
    | cons b m =>
      obtain ⟨b', h1, h2⟩ := hr 0 a rfl
      simp at h1; subst h1
      exact .cons h2 (ih (by simpa using h) fun i x hx => by simpa using hr (i + 1) x (by simpa using hx))
theorem take_len {α : Type} {l : List α} {n k : Nat} (h : (l.take n).length = k) : l.take n = l.take k := by
  subst h
  rw [List.length_take]
  by_cases e : n ≤ l.length
  · rw [Nat.min_eq_left e]
  · rw [Nat.min_eq_right (by omega), List.take_of_length_le (by omega), List.take_of_length_le (by omega)]
theorem flatS_ok {g : TypeId → DataW Unit → Option (List Cell)} {m : Nat} {cs : List Value} (hg : ∀ t d l cs p, g t d = some l → trodU P w base sp held m t cs = some (d, p) → Rel2 (relC φ) l cs) :
    ∀ (fs : List Field) (xs : List (DataW Unit × List MemPlace)) (off : Nat) (l : List Cell), flatS g fs (xs.map (·.1)) off = some l →
      Rel2 (fun (f : Field) x => trodU P w base sp held m f.type ((cs.drop f.offset).take (P.cellsOf f.type)) = some x) fs xs → Rel2 (relC φ) l ((cs.drop off).take l.length) := by
  intro fs
  induction fs with
  | nil => intro xs off l h hr; cases hr; cases h; exact .nil
  | cons f fs ih =>
    intro xs off l h hr
    cases hr with
    | cons hx hr =>
      rename_i x xs
      unfold flatS at h
      simp only [List.map_cons] at h
      split at h
      · rename_i ho
        split at h
        · rename_i a ha
          split at h
          · rename_i b hb
            cases h
            have r1 := hg _ _ _ _ x.2 ha (by rw [hx])
            have r3 := ih xs _ b hb hr
            subst ho
            rw [take_len r1.length.symm] at r1
            have e : (cs.drop f.offset).take (a ++ b).length = (cs.drop f.offset).take a.length ++ (cs.drop (f.offset + a.length)).take b.length := by
              rw [List.length_append, List.take_add, List.drop_drop]
            rw [e]
            exact r1.append r3
          · cases h
        · cases h
      · cases h
theorem flatA_ok {g : DataW Unit → Option (List Cell)} {sz : Nat} {cs : List Value} :
    ∀ (ds : List (DataW Unit)) (l : List Cell) (k : Nat), (∀ (i : Nat) d, ds[i]? = some d → ∀ a, g d = some a → a.length = sz → Rel2 (relC φ) a ((cs.drop ((k + i) * sz)).take sz)) →
      flatA g sz ds = some l → l.length = ds.length * sz ∧ Rel2 (relC φ) l ((cs.drop (k * sz)).take (ds.length * sz)) := by
  intro ds
  induction ds with
  | nil => intro l k _ h; cases h; exact ⟨by simp, by simp; exact .nil⟩
  | cons d ds ih =>
    intro l k hg h
    unfold flatA at h
    split at h
    · rename_i a ha
      split at h
      · rename_i hs
        split at h
        · rename_i b hb
          cases h
          have r1 := hg 0 d rfl a ha hs
          obtain ⟨r2, r3⟩ := ih b (k + 1) (fun i d' hd a' ha' hs' => by have := hg (i + 1) d' (by simpa using hd) a' ha' hs'; rwa [show k + (i + 1) = k + 1 + i by omega] at this) hb
          refine ⟨by rw [List.length_append, r2, hs, List.length_cons, Nat.add_mul]; omega, ?_⟩
          rw [Nat.add_zero] at r1
          rw [List.length_cons, show (ds.length + 1) * sz = sz + ds.length * sz by rw [Nat.add_mul]; omega, List.take_add, List.drop_drop]
          rw [show (k + 1) * sz = k * sz + sz by rw [Nat.add_mul]; omega] at r3
          exact r1.append r3
        · cases h
      · cases h
    · cases h
theorem flat_ok : ∀ (f : Nat) (t : TypeId) (d : DataW Unit) (l : List Cell) (m : Nat) (cs : List Value) (p : List MemPlace), flatD P f t d = some l → trodU P w base sp held m t cs = some (d, p) → Rel2 (relC φ) l cs := by
  intro f
  induction f with
  | zero => intro t d l m cs p h; cases h
  | succ f ih =>
    intro t d l m cs p h ht
    unfold flatD at h
    split at h
    · rename_i hu
      cases h
      obtain ⟨b, rfl, e⟩ := DataW.trod_bool hu ht
      cases e
      exact .one rfl
    · rename_i hu
      obtain ⟨c, hc, rfl⟩ := Option.map_eq_some_iff.1 h
      obtain ⟨z, rfl, e, _⟩ := DataW.trod_int hu ht
      cases e
      exact .one (relC_const hc)
    · rename_i hu
      obtain ⟨c, hc, rfl⟩ := Option.map_eq_some_iff.1 h
      obtain ⟨s, rfl, e, _⟩ := DataW.trod_string hu ht
      cases e
      exact .one (relC_const hc)
    · rename_i fs ds hu
      split at h
      · rename_i l' hl
        split at h
        · rename_i hlen
          cases h
          obtain ⟨xs, m', rfl, e, hc, hxl, hf⟩ := DataW.trod_struct hu ht
          cases e
          have := flatS_ok (φ := φ) (cs := cs) (m := m') (fun t d l cs p h1 h2 => ih t d l m' cs p h1 h2) fs.toList xs 0 _ hl (Rel2.of_get (by simpa using hxl.symm) fun i f hi => by
            have hi' : fs[i]? = some f := by simpa using hi
            have hlt : i < xs.length := by rw [hxl]; exact (Array.getElem?_eq_some_iff.1 hi').1
            exact ⟨xs[i], List.getElem?_eq_getElem hlt, by rw [← List.getElem?_eq_getElem hlt]; exact hf i f hi'⟩)
          rw [List.drop_zero, hlen, ← hc, List.take_length] at this
          exact this
        · cases h
      · cases h
    · rename_i n e ds hu
      split at h
      · rename_i hh
        obtain ⟨h1, h2⟩ := hh
        obtain ⟨xs, m', rfl, e', hc, hxl, hx⟩ := DataW.trod_array hu ht
        cases e'
        have hn : xs.length * P.cellsOf e = cs.length := by rw [hc, h2, hxl]
        obtain ⟨g1, g2⟩ := flatA_ok (φ := φ) (cs := cs) (sz := P.cellsOf e) (g := flatD P f e) (xs.map (·.1)) l 0 (fun i d hd a ha has => by
          rw [List.getElem?_map] at hd
          obtain ⟨x, hxi, rfl⟩ := Option.map_eq_some_iff.1 hd
          have hi : i < n := by rw [← hxl]; exact (List.getElem?_eq_some_iff.1 hxi).1
          rw [Nat.zero_add]
          exact ih _ _ _ m' _ x.2 ha (by rw [trodU, hx i hi]; exact hxi)) h
        rw [Nat.zero_mul, List.drop_zero, List.length_map, hn, List.take_length] at g2
        exact g2
      · cases h
    · cases h
end
/-! ### the start -/
theorem laid_at {w : World} : ∀ {laid : List (String × DataW Unit)} {ps : List MemPlace}, DataW.LaidVars P w laid ps → ∀ (i : Nat) n d, laid[i]? = some (n, d) →
    ∃ g t cs fuel p, P.globalNamed n = some g ∧ (P.globals[g]?).map (·.type) = some t ∧ w.var? P n = some cs ∧ DataW.trod (fun _ => ()) P w 0 (fun _ => true) false fuel t cs.toList = some (d, p) := by
  intro laid
  induction laid with
  | nil => intro ps _ i n d h; simp at h
  | cons x r ih =>
    intro ps h i n d hi
    obtain ⟨n', d'⟩ := x
    obtain ⟨g, t, cs, fuel, p, q, h1, h2, h3, h4, h5, _⟩ := h
    cases i with
    | zero => simp at hi; obtain ⟨rfl, rfl⟩ := hi; exact ⟨g, t, cs, fuel, p, h1, h2, h3, h4⟩
    | succ i => exact ih h5 i n d (by simpa using hi)
/-- do the blocks hold what is laid? -/
def iniOk (P : Program) (laid : List (String × DataW Unit)) : List Nat → List (Pos × Blk) → Bool
  | [], [] => true
  | i :: is, x :: pre => (match laid[i]?, x.2 with
    | some nd, .cells r _ true _ => (match P.globalNamed nd.1 with
      | some g => (match (P.globals[g]?).map (·.type) with
        | some t => (match flatD P 8 t nd.2 with | some l => x.1.beq (Pos.bits 30 g) && Nat.blt g P.globals.size && r.wfB && sameL r.toL l | none => false)
        | none => false)
      | none => false)
    | _, _ => false) && iniOk P laid is pre
  | _, _ => false
open Classical in
/-- where the variables lie -/
noncomputable def phi0 (P : Program) (w : World) : Emb := fun p => if p = Pos.bits 30 p.num ∧ p.num < P.globals.size then some ⟨p.num, 0, match w.heap[p.num]? with | some (.cells cs _ _) => cs.size | _ => 0⟩ else none
theorem phi0_at {w : World} {g : Nat} (hg : g < P.globals.size) (h8 : P.globals.size ≤ 100000) : phi0 P w (Pos.bits 30 g) = some ⟨g, 0, match w.heap[g]? with | some (.cells cs _ _) => cs.size | _ => 0⟩ := by
  have : (Pos.bits 30 g).num = g := bits_num 30 g (Nat.lt_of_lt_of_le (Nat.lt_of_lt_of_le hg h8) (by decide))
  unfold phi0
  rw [this, if_pos ⟨rfl, hg⟩]
theorem phi0_glob {w : World} (h8 : P.globals.size ≤ 100000) : GlobOk P (phi0 P w) := fun g hg => ⟨_, phi0_at hg h8, rfl, rfl⟩
theorem ini_blk {laid : List (String × DataW Unit)} {w : World} (hL : laidMet P laid w) (h8 : P.globals.size ≤ 100000) : ∀ {is : List Nat} {pre : List (Pos × Blk)}, iniOk P laid is pre = true → ∀ p b, (p, b) ∈ pre →
    b.isRo = true ∧ ∃ l o, phi0 P w p = some l ∧ w.heap[l.b]? = some o ∧ relBlk (Sl P) (Nt P) (phi0 P w) b o l := by
  intro is
  induction is with
  | nil => intro pre h p b hb; cases pre with | nil => cases hb | cons _ _ => cases h
  | cons i is ih =>
    intro pre h p b hb
    cases pre with
    | nil => cases hb
    | cons x pre =>
      obtain ⟨h1, h2⟩ := and_t (show (_ && iniOk P laid is pre) = true from h)
      rcases List.mem_cons.1 hb with e | hb
      · subst e
        simp only [] at h1
        split at h1
        · rename_i nd r ex t0 hi
          split at h1
          · rename_i g hg
            split at h1
            · rename_i t ht
              split at h1
              · rename_i l hl
                obtain ⟨h1, c1⟩ := and_t h1
                obtain ⟨h1, c2⟩ := and_t h1
                obtain ⟨c3, c4⟩ := and_t h1
                obtain ⟨ps, hV, _⟩ := hL
                obtain ⟨g', t', cs, fuel, pp, g1, g2, g3, g4⟩ := laid_at hV i nd.1 nd.2 hi
                rw [hg] at g1; cases g1
                rw [ht] at g2; cases g2
                have hp := pos_beq c3
                subst hp
                have hglt : g < P.globals.size := Nat.lt_of_succ_le (Nat.le_of_ble_eq_true c4)
                have hr : Rel2 (relC (phi0 P w)) l cs.toList := flat_ok 8 t nd.2 l fuel cs.toList pp hl g4
                have hrl : r.toL = l := sameL_eq c1
                have hwf : r.wf := rope_wfB c2
                have hheap : ∃ tt fz, w.heap[g]? = some (.cells cs tt fz) := by
                  unfold World.var? at g3
                  rw [hg] at g3
                  simp only [Option.bind_some] at g3
                  split at g3
                  · rename_i a b c d; cases g3; exact ⟨_, _, d⟩
                  · cases g3
                obtain ⟨tt, fz, hheap⟩ := hheap
                refine ⟨rfl, _, _, phi0_at hglt h8, hheap, ?_⟩
                have hsz : r.size = cs.size := by rw [← r.length_toL hwf, hrl, hr.length]; simp
                rw [hheap]
                refine ⟨fun e => (by cases e), by show _ = 0 + cs.size; omega, by show _ ≤ cs.size; omega, fun _ => ⟨hsz, rfl⟩, ⟨hwf, ?_⟩, fun e => (by cases e)⟩
                show Rel2 _ _ ((cs.toList.drop 0).take r.size)
                rw [hrl, hsz, List.drop_zero, show cs.size = cs.toList.length by simp, List.take_length]
                exact hr
              · cases h1
            · cases h1
          · cases h1
        · cases h1
      · exact ih h2 p b hb
theorem start_rel {laid : List (String × DataW Unit)} {w : World} (hL : laidMet P laid w) (hw : P.globals.size ≤ w.heap.size) {is : List Nat} {pre : List (Pos × Blk)} {next : Pos} (hi : iniOk P laid is pre = true)
    (hn : (Nat.ble P.globals.size next.num && Nat.ble P.globals.size 100000) = true) {h : HT} (hh : ∀ q, (∃ b, (q, b) ∈ pre ∧ h.at q = some b) ∨ ((∀ b, (q, b) ∉ pre) ∧ h.at q = none)) :
    relW (Sl P) (Nt P) (phi0 P w) ⟨next, h, []⟩ w := by
  obtain ⟨n1, n2⟩ := and_t hn
  have n1 := Nat.le_of_ble_eq_true n1
  have n2 := Nat.le_of_ble_eq_true n2
  have get : ∀ p b, h.at p = some b → (p, b) ∈ pre := fun p b hb => by
    rcases hh p with ⟨b', h1, h2⟩ | ⟨_, h2⟩
    · rw [hb] at h2; cases h2; exact h1
    · rw [hb] at h2; cases h2
  have dom : ∀ p l, phi0 P w p = some l → p.num < P.globals.size ∧ l.b = p.num := fun p l hl => by
    unfold phi0 at hl
    split at hl
    · rename_i hc; cases hl; exact ⟨hc.2, rfl⟩
    · cases hl
  refine ⟨fun p b hb => ?_, fun p q b c l m hb _ _ _ _ hro => ?_, fun p l hl => ?_, fun p l hl => ?_, fun p b _ => rfl⟩
  · rw [look_nil] at hb
    exact (ini_blk hL n2 hi p b (get p b hb)).2
  · have := (ini_blk hL n2 hi p b (get p b hb)).1
    rw [hro] at this; cases this
  · obtain ⟨a, b⟩ := dom p l hl; omega
  · obtain ⟨a, b⟩ := dom p l hl; show p.num < next.num; omega
/-- **a known call that begins with what is laid alone: its value, and nothing that was is turned** -/
theorem known_call {laid : List (String × DataW Unit)} {w : World} (hL : laidMet P laid w) (hw : P.globals.size ≤ w.heap.size) {is : List Nat} {n : Nat} {e : Known} (hi : iniOk P laid is e.pre = true)
    (hn : (Nat.ble P.globals.size e.next.num && Nat.ble P.globals.size 100000) = true) (hk : KnownOk P n e) {as : Array Value} (ha : Rel2 (relEl (phi0 P w)) e.args as.toList) :
    Calls P n as w fun x w' => ∃ v, x = .returned v ∧ (∃ ψ, relV ψ e.res v) ∧ w.heap.size ≤ w'.heap.size ∧ (∀ b, b < w.heap.size → w'.heap[b]? = w.heap[b]?) ∧ w'.tape = w.tape ∧ w'.os = w.os ∧ w'.output = w.output := by
  obtain ⟨h, ph, p1, _, f⟩ := hk
  have hrel := start_rel hL hw hi hn p1
  have := (f.2 (phi0 P w) w as hrel (phi0_glob (Nat.le_of_ble_eq_true (and_t hn).2)) ha 0).1
  refine (callsIn_wide.1 this).mono fun x w' ⟨v, hx, ψ, st', rv, x1, x2, x3⟩ => ?_
  refine ⟨v, hx, ⟨ψ, ?_⟩, x1.size, fun b hb => x1.keep b hb ?_, x1.tape, x1.os, x1.out⟩
  · have x3 : (bif e.res.same rv && postIn h e.next st'.heap e.post && preIn ph e.gone st'.heap e.pre && Nat.ble st'.next.num e.next'.num then R.ok else .bad 200) = .ok := x3
    cases hcc : (e.res.same rv && postIn h e.next st'.heap e.post && preIn ph e.gone st'.heap e.pre && Nat.ble st'.next.num e.next'.num) with
    | false => rw [hcc] at x3; cases x3
    | true =>
      obtain ⟨d1, _⟩ := and_t hcc
      obtain ⟨d1, _⟩ := and_t d1
      obtain ⟨d1, _⟩ := and_t d1
      exact rv_same d1 x2
  · rintro ⟨p, blk, l, g1, g2, g3, g4⟩
    have g1 : h.at p = some blk := g1
    rcases p1 p with ⟨b', h1, h2⟩ | ⟨_, h2⟩
    · rw [g1] at h2; cases h2
      have := (ini_blk hL (Nat.le_of_ble_eq_true (and_t hn).2) hi p blk h1).1
      rw [g2] at this; cases this
    · rw [g1] at h2; cases h2
end
end Ev
namespace Ev
open Go
section
variable {P : Program}
/-! ### tables of known calls -/
def tabT : List (Nat × Known) → Nat → List Known
  | [], _ => []
  | x :: l, n => bif Nat.beq x.1 n then x.2 :: tabT l n else tabT l n
def KnAll (P : Program) : List (Nat × Known) → Prop
  | [] => True
  | x :: l => KnownOk P x.1 x.2 ∧ KnAll P l
theorem knNil : KnAll P [] := trivial
theorem knCons {n : Nat} {e : Known} {l : List (Nat × Known)} (h : KnownOk P n e) (hl : KnAll P l) : KnAll P ((n, e) :: l) := ⟨h, hl⟩
theorem tabT_ok : ∀ {l : List (Nat × Known)}, KnAll P l → ∀ n, ∀ e ∈ tabT l n, KnownOk P n e := by
  intro l
  induction l with
  | nil => intro _ n e he; cases he
  | cons x l ih =>
    intro h n e he
    unfold tabT at he
    cases hb : Nat.beq x.1 n with
    | true =>
      rw [hb] at he
      have hx := Nat.eq_of_beq_eq_true hb
      rcases List.mem_cons.1 he with rfl | he
      · rw [← hx]; exact h.1
      · exact ih h.2 n e he
    | false => rw [hb] at he; exact ih h.2 n e he
def R.isOk : R → Bool | .ok => true | _ => false
theorem R.of_isOk {r : R} (h : r.isOk = true) : r = .ok := by cases r <;> first | rfl | cases h
/-- a run by itself, the inner calls known -/
theorem known_tab (hm : P.follows .mixedOrders = true) (J : Nat → Bool) {n : Nat} {e : Known} (l : List (Nat × Known)) (hl : KnAll P l) (fuel : Nat) (h : R.isOk (knownRun (callK P J (tabT l) fuel) n e) = true) : KnownOk P n e :=
  known_of_run (callK_ok hm J (tabT_ok hl) fuel) (R.of_isOk h)
end
end Ev
