/- Known calls in use: from any world in which what they read lies, wherever it lies. -/
import Derived.Test.YtfdhdhmeahdpbaaGreatDoorVD
import Derived.Test.YtfdhdhmeahdpbaaGreatDoorB0
namespace Go.Proofs.YtfdhdhmeahdpbaaGreatDoor
open Go Ev
set_option linter.unusedVariables false
abbrev Pre := List (Pos × Blk)
/-- a heap of what a list names, and of nothing else -/
def HasL (pre : Pre) (h : HT) : Prop := ∀ q, (∃ b, (q, b) ∈ pre ∧ h.at q = some b) ∨ ((∀ b, (q, b) ∉ pre) ∧ h.at q = none)
theorem HasL.mem {pre : Pre} {h : HT} (x : HasL pre h) {q : Pos} {b : Blk} (hb : h.at q = some b) : (q, b) ∈ pre := by
  rcases x q with ⟨c, h1, h2⟩ | ⟨_, h2⟩
  · rw [hb] at h2; cases h2; exact h1
  · rw [hb] at h2; cases h2
def RelL (φ : Emb) (next : Pos) (pre : Pre) (w : World) : Prop := ∀ h, HasL pre h → relW (Sl Tryz.prog) (Nt Tryz.prog) φ ⟨next, h, []⟩ w
theorem RelL.ro {φ : Emb} {next : Pos} {pre : Pre} {w : World} (ro : ∀ p b, (p, b) ∈ pre → b.isRo = true) (hb : ∀ p b, (p, b) ∈ pre → ∃ l o, φ p = some l ∧ w.heap[l.b]? = some o ∧ relBlk (Sl Tryz.prog) (Nt Tryz.prog) φ b o l)
    (old : ∀ p l, φ p = some l → l.b < w.heap.size) (free : ∀ p l, φ p = some l → p.num < next.num) : RelL φ next pre w := by
  intro h hh
  refine ⟨fun p b hp => ?_, fun p q b c l m hp _ _ _ _ hro => ?_, old, free, fun p b _ => rfl⟩
  · rw [look_nil] at hp
    exact hb p b (hh.mem hp)
  · have := ro p b (hh.mem hp)
    rw [hro] at this; cases this
/-- a block that is not to be turned any more -/
def roOf : Blk → Blk | .cells r e _ t => .cells r e true t | b => b
theorem RelL.pick {ψ : Emb} {st : St} {w : World} (h : relW (Sl Tryz.prog) (Nt Tryz.prog) ψ st w) (ho : st.old = []) {next : Pos} (hn : st.next.num ≤ next.num) {pre : Pre}
    (hs : ∀ p b, (p, b) ∈ pre → ∃ c, st.heap.at p = some c ∧ (b = c ∨ b = roOf c)) : RelL ψ next pre w := by
  obtain ⟨nx, hp, old⟩ := st
  have ho : old = [] := ho
  subst ho
  intro h2 hh
  refine ⟨fun p b hb => ?_, fun p q b c l m hb hc hl hm hpq hro => ?_, h.old, fun p l hl => Nat.lt_of_lt_of_le (h.free p l hl) hn, fun p b _ => rfl⟩
  · rw [look_nil] at hb
    obtain ⟨c, h1, h2⟩ := hs p b (hh.mem hb)
    obtain ⟨l, o, k1, k2, k3⟩ := h.blk p c (by rw [look_nil]; exact h1)
    refine ⟨l, o, k1, k2, ?_⟩
    rcases h2 with rfl | rfl
    · exact k3
    · cases c with
      | cells r e ro t =>
        cases o with
        | cells cs t' fz => exact ⟨fun e => (by cases e), k3.2.1, k3.2.2.1, k3.2.2.2.1, k3.2.2.2.2.1, fun e => (by cases e)⟩
        | _ => exact k3.elim
      | _ => exact k3
  · rw [look_nil] at hc
    obtain ⟨c1, g1, g2⟩ := hs p b (hh.mem hb)
    obtain ⟨c2, g3, g4⟩ := hs q c (hh.mem hc)
    have hb1 : c1.isRo = false := by
      rcases g2 with rfl | rfl
      · exact hro
      · cases c1 with
        | cells r e ro t => cases hro
        | _ => rfl
    exact h.apart p q c1 c2 l m g1 (by rw [look_nil]; exact g3) hl hm hpq hb1
theorem RelL.fr {φ : Emb} {next : Pos} {pre : Pre} {w w' : World} (h : RelL φ next pre w) (f : Fr (fun _ => False) w w') : RelL φ next pre w' := fun hp hh => by
  have h := h hp hh
  exact ⟨fun p b hb => by
      obtain ⟨l, o, h1, h2, h3⟩ := h.blk p b hb
      exact ⟨l, o, h1, by rw [f.block l.b (h.old p l h1) (fun h => h)]; exact h2, h3⟩, h.apart, fun p l hl => Nat.lt_of_lt_of_le (h.old p l hl) f.size, h.free, h.sep⟩
/-- what a call may turn -/
def TurnL (φ : Emb) (pre : Pre) (k : Nat) : Prop := ∃ p b l, (p, b) ∈ pre ∧ b.isRo = false ∧ φ p = some l ∧ l.b = k
structure Out (φ : Emb) (e : Known) (w : World) (v : Value) (ψ : Emb) (st : St) (w' : World) : Prop where
  val : relV ψ e.res v
  le : φ.le ψ
  rel : relW (Sl Tryz.prog) (Nt Tryz.prog) ψ st w'
  old : st.old = []
  next : st.next.num ≤ e.next'.num
  post : ∀ q b, (q, b) ∈ e.post → st.heap.at q = some b
  new : ∀ p l, ψ p = some l → φ p = none → w.heap.size ≤ l.b ∨ TurnL φ e.pre l.b
  fr : Fr (TurnL φ e.pre) w w'
theorem call_known {w : World} {n : Nat} {e : Known} {φ : Emb} (hk : KnownOk Tryz.prog n e) (h0 : RelL φ e.next e.pre w) (hg : GlobOk Tryz.prog φ) {vs : Array Value} (ha : Rel2 (relEl φ) e.args vs.toList) :
    Calls Tryz.prog n vs w fun x w' => ∃ v ψ st, x = .returned v ∧ Out φ e w v ψ st w' := by
  obtain ⟨h, ph, p1, p2, f⟩ := hk
  have this := (f.2 φ w vs (h0 h p1) hg ha 0).1
  refine (callsIn_wide.1 this).mono fun x w' ⟨v, hx, ψ, st', rv, x1, x2, x3⟩ => ?_
  have x3 : (bif e.res.same rv && postIn h e.next st'.heap e.post && preIn ph e.gone st'.heap e.pre && Nat.ble st'.next.num e.next'.num then R.ok else .bad 200) = .ok := x3
  have own : ∀ b, Own φ ⟨e.next, h, []⟩ b → TurnL φ e.pre b := fun b ⟨p, blk, l, g1, g2, g3, g4⟩ => ⟨p, blk, l, HasL.mem p1 g1, g2, g3, g4⟩
  cases hcc : (e.res.same rv && postIn h e.next st'.heap e.post && preIn ph e.gone st'.heap e.pre && Nat.ble st'.next.num e.next'.num) with
  | false => rw [hcc] at x3; cases x3
  | true =>
    obtain ⟨d1, d4⟩ := and_t hcc
    obtain ⟨d1, d3⟩ := and_t d1
    obtain ⟨d1, d2⟩ := and_t d1
    exact ⟨v, ψ, st', hx, rv_same d1 x2, x1.le, x1.rel, x1.lay, Nat.le_of_ble_eq_true d4, fun q b hb => (postIn_ok d2 q b hb).1, fun p l h1 h2 => (x1.new p l h1 h2).2.imp id (own _),
      x1.os, x1.tape, x1.out, x1.size, fun b hb hn => x1.keep b hb (fun ho => hn (own b ho))⟩
theorem TurnL.none {φ : Emb} {pre : Pre} (ro : ∀ p b, (p, b) ∈ pre → b.isRo = true) {k : Nat} : ¬ TurnL φ pre k := fun ⟨p, b, l, h1, h2, _⟩ => by
  rw [ro p b h1] at h2; cases h2
theorem Out.still {φ ψ : Emb} {e : Known} {w w' : World} {v : Value} {st : St} (h : Out φ e w v ψ st w') (ro : ∀ p b, (p, b) ∈ e.pre → b.isRo = true) : Fr (fun _ => False) w w' :=
  h.fr.mono fun k _ hk => (TurnL.none ro hk).elim
/-! ### letters -/
/-- an embedding with one place more -/
def emb1 (φ : Emb) (p : Pos) (l : Ev.Loc) : Emb := fun q => if q = p then some l else φ q
theorem emb1_at (φ : Emb) (p : Pos) (l : Ev.Loc) : emb1 φ p l p = some l := if_pos rfl
theorem emb1_le {φ : Emb} {p : Pos} {l : Ev.Loc} (h : φ p = none) : φ.le (emb1 φ p l) := fun q m hq => by
  unfold emb1
  by_cases e : q = p
  · subst e; rw [h] at hq; cases hq
  · rw [if_neg e]; exact hq
theorem emb1_all {φ : Emb} {p : Pos} {l : Ev.Loc} {C : Pos → Ev.Loc → Prop} (h : ∀ q m, φ q = some m → C q m) (hp : C p l) : ∀ q m, emb1 φ p l q = some m → C q m := fun q m hq => by
  unfold emb1 at hq
  by_cases e : q = p
  · subst e; rw [if_pos rfl] at hq; cases hq; exact hp
  · rw [if_neg e] at hq; exact h q m hq
/-- a slice that is not looked at -/
def slC (p : Pos) (a : Option Addr) (n c : Nat) : Cell := match a with | none => .nil .s | some _ => .sl p 0 n c
/-- a slice of an argument: nil, or a place in a block that is there -/
def SlOk (w : World) (a : Option Addr) (n c : Nat) : Prop := (a = none ∧ n = 0 ∧ c = 0) ∨ ∃ b o, a = some ⟨b, o, none⟩ ∧ b < w.heap.size
def locS (a : Option Addr) : Ev.Loc := match a with | none => ⟨0, 0, 0⟩ | some a => ⟨a.block, a.off, 0⟩
theorem SlOk.fr {S : Nat → Prop} {w w' : World} {a : Option Addr} {n c : Nat} (h : SlOk w a n c) (f : Fr S w w') : SlOk w' a n c := h.imp id fun ⟨b, o, h1, h2⟩ => ⟨b, o, h1, Nat.lt_of_lt_of_le h2 f.size⟩
theorem SlOk.loc {w : World} {a : Option Addr} {n c : Nat} (h : SlOk w a n c) (h0 : 0 < w.heap.size) : (locS a).b < w.heap.size := by
  rcases h with ⟨rfl, _, _⟩ | ⟨b, o, rfl, hb⟩
  · exact h0
  · exact hb
theorem SlOk.rel {w : World} {a : Option Addr} {n c : Nat} (h : SlOk w a n c) {φ : Emb} {p : Pos} (hp : φ p = some (locS a)) : relC φ (slC p a n c) (.slice a n c) := by
  rcases h with ⟨rfl, rfl, rfl⟩ | ⟨b, o, rfl, hb⟩
  · exact rfl
  · exact ⟨_, hp, rfl⟩
/-- an int as a letter -/
def intC : Int → Cell | .ofNat n => .i n | .negSucc n => .neg .i64 n
theorem intC_rel (φ : Emb) (z : Int) : relC φ (intC z) (.int .i64 z) := by cases z <;> exact rfl
end Go.Proofs.YtfdhdhmeahdpbaaGreatDoor
