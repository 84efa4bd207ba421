/- This text proves contracts of costs.Text, Total, and the law's awake; no condition beyond those that each statement names. -/
import Derived.Test.YtogjfifpbplahaaGreatDoorJc
import Derived.Test.YtogjfifpbplahaaGreatDoorJb
import Derived.Lib.AppendIntMem
import Derived.Lib.ItoaLen
import Derived.Deep.CutRange
import Derived.Deep.Cut
namespace Go.Proofs.YtogjfifpbplahaaGreatDoor
open Go.RowKit Go.Shelf
open CM
set_option linter.unusedVariables false
attribute [local go_sem] Oper.semAt_some

/-! the text, in bytes -/
def fldB (u : Nat → Int) (j : Nat) : List UInt8 := (if j = 0 then [] else [32]) ++ Lib.itoa (u j)
def rowT (u : Nat → Int) (pre : List (Fin 8)) : List UInt8 := pre.flatMap (fun x => fldB u x.val)
def textB (U : Nat → Nat → Int) : Nat → List UInt8
  | 0 => []
  | n + 1 => textB U n ++ rowT (U n) all8 ++ [10]
theorem rowT_snoc (u : Nat → Int) (pre : List (Fin 8)) (x : Fin 8) : rowT u (pre ++ [x]) = rowT u pre ++ fldB u x.val := by simp [rowT]
theorem itoa_len {z : Int} (h0 : -3 ≤ z) (h1 : z ≤ 1000000) : (Lib.itoa z).length ≤ 21 := Lib.itoa_length_le z (by omega) (by omega)
theorem fldB_len {u : Nat → Int} {j : Nat} (h0 : -3 ≤ u j) (h1 : u j ≤ 1000000) : (fldB u j).length ≤ 22 := by
  have := itoa_len h0 h1
  unfold fldB
  split <;> simp <;> omega
theorem rowT_len {u : Nat → Int} (h : ok1 u = true) : ∀ (pre : List (Fin 8)), (rowT u pre).length ≤ 22 * pre.length
  | [] => by simp [rowT]
  | x :: l => by
    have h1 := rowT_len h l
    have h2 := ok1_bd0 h x.val x.isLt
    have h3 := fldB_len h2.1 h2.2
    have : rowT u (x :: l) = fldB u x.val ++ rowT u l := by simp [rowT]
    rw [this]
    simp only [List.length_append, List.length_cons]
    omega
theorem textB_len {U : Nat → Nat → Int} : ∀ {n : Nat}, okB U n = true → (textB U n).length ≤ 177 * n
  | 0, _ => by simp [textB]
  | n + 1, h => by
    have h1 := textB_len (okB_le h (show n ≤ n + 1 by omega))
    have h2 := rowT_len (okB_at h (show n < n + 1 by omega)) all8
    have h3 : all8.length = 8 := by decide
    simp only [textB, List.length_append, List.length_cons, List.length_nil]
    omega

/-! what a call on the builder in block b leaves as it was: all below it; above it, all but rows of bytes -/
structure TF (b : Nat) (w w' : World) : Prop where
  bel : Below b w w'
  oth : Lib.OthersKept 5 (some b) w w'
theorem TF.refl (b : Nat) (w : World) : TF b w w := ⟨Below.refl b w, Lib.OthersKept.refl _ _ w⟩
theorem TF.trans {b : Nat} {x y z : World} (h : TF b x y) (k : TF b y z) : TF b x z := ⟨h.bel.trans k.bel, h.oth.trans k.oth⟩
theorem TF.of_fr {b : Nat} {w w' : World} (h : Fr (fun _ => False) w w') (hb : b ≤ w.heap.size) : TF b w w' :=
  ⟨h.bel.mono hb, fun k o hk _ _ => (h.block k (Array.getElem?_eq_some_iff.1 hk).1 (fun h => h)).trans hk⟩
theorem TF.cell {b : Nat} {w w' : World} (f : TF b w w') {p : Addr} {v : Value} (hp : p.block < b) (h : w.cell? p = some v) : w'.cell? p = some v :=
  (World.cell?_of_block (f.bel.block p.block hp)).trans h
theorem TF.row {b : Nat} {w w' : World} (f : TF b w w') {k T : Nat} {vs : List Value} (hk : k ≠ b) (hT : T ≠ 5) (h : RowB w k T vs) : RowB w' k T vs :=
  f.oth k _ h (fun e => hk (Option.some.inj e)) (fun c fz e => by injection e with _ e2 _; exact hT e2)
theorem TF.keeps {b : Nat} {w w' : World} (f : TF b w w') {c : Array Value} {T : TypeId} {q : Nat × Nat} (hb : w.heap[b]? = some (.cells c T q)) : KeepsOthers w w' :=
  ⟨f.bel.size, fun k o hk ho => f.oth k o hk (fun e => by
    have e := Option.some.inj e
    subst e
    rw [hb] at hk
    cases hk
    cases ho) (fun c fz e => by subst e; cases ho)⟩
theorem TF.k56 {b : Nat} {w w' : World} (f : TF b w w') {c : Array Value} {T : TypeId} {q : Nat × Nat} (hb : w.heap[b]? = some (.cells c T q)) (hT : T ≠ 69) : K56 w w' :=
  ⟨f.bel.size, fun k c' q' hk => f.oth k _ hk (fun e => by
    have e := Option.some.inj e
    subst e
    rw [hb] at hk
    cases hk
    exact hT rfl) (fun c fz e => by injection e with _ e2 _; exact absurd e2 (by decide))⟩
theorem TF.marks {b : Nat} {w w' : World} {ds : List Deferred} (f : TF b w w') (h : Marks (b + 1) w ds) : Marks (b + 1) w' ds :=
  h.kept (fun D h1 h2 _ => f.oth D _ h2 (fun e => by have e := Option.some.inj e; omega) (fun c fz e => by cases e))
theorem bis_block {b : Nat} {bs : List Value} {w : World} (h : BIs b b bs w) : ∃ c, w.heap[b]? = some (.cells c 64 (0, 0)) := by
  rcases h with ⟨_, v, h, _⟩ | ⟨_, v, h, _⟩ <;> exact ⟨_, h⟩
theorem bis_lt {b : Nat} {bs : List Value} {w : World} (h : BIs b b bs w) : b < w.heap.size := by
  obtain ⟨c, h⟩ := bis_block h
  exact (Array.getElem?_eq_some_iff.1 h).1
theorem bat_kept {b : Nat} {bs : List Value} {w w' : World} {p : Value} (h : Lib.BuilderAtF 64 5 b b p bs w) (hk : ∀ (k : Nat) (c : Array Value) (T : TypeId) (q : Nat × Nat), w.heap[k]? = some (Obj.cells c T q) → w'.heap[k]? = some (Obj.cells c T q)) : Lib.BuilderAtF 64 5 b b p bs w' := by
  obtain ⟨hB, v, hbk, hown, hne⟩ := h
  refine ⟨hB, v, hk _ _ _ _ hbk, ⟨hown.1, ?_⟩, hne⟩
  rcases hown.2 with h | ⟨g, cap, cur, fz, hv, h1, h2, r⟩
  · exact .inl h
  · exact .inr ⟨g, cap, cur, fz, hv, h1, hk _ _ _ _ h2, r⟩
theorem bis_kept {b : Nat} {bs : List Value} {w w' : World} (h : BIs b b bs w) (hk : ∀ (k : Nat) (c : Array Value) (T : TypeId) (q : Nat × Nat), w.heap[k]? = some (Obj.cells c T q) → w'.heap[k]? = some (Obj.cells c T q)) : BIs b b bs w' :=
  h.imp (fun h => bat_kept h hk) (fun h => bat_kept h hk)
theorem bis_fr {b : Nat} {bs : List Value} {w w' : World} (h : BIs b b bs w) (f : Fr (fun _ => False) w w') : BIs b b bs w' :=
  bis_kept h (fun k c T q hk => (f.block k (Array.getElem?_eq_some_iff.1 hk).1 (fun h => h)).trans hk)
theorem ownFrom_bis {β : Type} {B b : Nat} {bs : β → List Value} : OwnFrom B (fun (s : β) W => BIs b b (bs s) W) := fun s W W' row hs hg hr =>
  bis_kept hs (fun k c T q hk => (hg.block k (Array.getElem?_eq_some_iff.1 hk).1 (fun e => by
    obtain ⟨_, o, ho, hc⟩ := hr k e.symm
    rw [hk] at ho
    cases ho
    cases hc)).trans hk)
theorem ownFrom_tf {β : Type} {b B : Nat} {w₀ : World} (hb : b ≤ w₀.heap.size) (hB : w₀.heap.size ≤ B) : OwnFrom B (fun (_ : β) W => TF b w₀ W) := fun _ W W' row hs hg hr =>
  ⟨⟨hg.os.trans hs.bel.os, hg.tape.trans hs.bel.tape, hg.output.trans hs.bel.output, Nat.le_trans hs.bel.size hg.size, fun k hk =>
    (hg.block k (by have := hs.bel.size; omega) (fun e => by have := (hr k e.symm).1; omega)).trans (hs.bel.block k hk)⟩,
   fun k o hk h1 h2 => (hg.block k (Array.getElem?_eq_some_iff.1 (hs.oth k o hk h1 h2)).1 (fun e => by
    have := (hr k e.symm).1
    have := (Array.getElem?_eq_some_iff.1 hk).1
    omega)).trans (hs.oth k o hk h1 h2)⟩
/-! the table of the powers of ten -/
def PTab (w : World) : Prop := Lib.TabIs Tryz.prog w "internal/strconv.uint64pow10" .u64 Lib.pow10Tab
theorem pow_named : Tryz.prog.globalNamed "internal/strconv.uint64pow10" = some 0 := by kernel_rfl
theorem PTab.of_block {w w' : World} (h : PTab w) (e : w'.heap[0]? = w.heap[0]?) : PTab w' := by
  unfold PTab Lib.TabIs World.var? at *
  rw [pow_named] at *
  simp only [Option.bind_some] at *
  rw [e]
  exact h
theorem PTab.pos {w : World} (h : PTab w) : 0 < w.heap.size := by
  unfold PTab Lib.TabIs World.var? at h
  rw [pow_named] at h
  rcases Nat.lt_or_ge 0 w.heap.size with h' | h'
  · exact h'
  · simp [Array.getElem?_eq_none h'] at h
theorem PTab.fr {w w' : World} (h : PTab w) (f : Fr (fun _ => False) w w') : PTab w' := h.of_block (f.block 0 h.pos (fun h => h))
theorem fr_sgrow (w : World) (k : Nat) (os : Array Obj) : Fr (fun _ => False) w (Go.Sort.grow (w.drewN k) os) :=
  ⟨rfl, rfl, rfl, by simp [Go.Sort.grow, World.drewN], fun i hi _ => by
    show (w.heap ++ os)[i]? = _
    rw [Array.getElem?_append_left hi]⟩
theorem itoa_walk (z : Int) (h0 : -3 ≤ z) (h1 : z ≤ 1000000) (w : World) (h : PTab w) : Calls Tryz.prog 27 #[.int .i64 z] w (Ret (.string ⟨(Lib.itoa z).toArray⟩) w) := by
  refine (Tryz.strconv_Itoa z (by omega) (by omega) w h).mono ?_
  rintro e w' ⟨rfl, k, os, rfl⟩
  exact ⟨rfl, fr_sgrow w k os⟩

/-- what Text returns -/
def textV (n : Nat) (U : Nat → Nat → Int) : Value := .tuple #[.string ⟨(if listE n U = 0 then textB U n else []).toArray⟩, .int .i64 (listE n U)]
/-- the frame at the head of Text's loop -/
def TxI (a0 : Option Addr) (n c S : Nat) (U : Nat → Nat → Int) (W2 : World) (a : Act) (wr : World) : Prop :=
  ∃ (k : Nat) (ds : List Deferred) (u7 u18 u19 u20 u21 u32 u33 : Value), k ≤ n ∧ Marks (S + 1) wr ds ∧ BIs S S (Lib.byteCells (textB U k)) wr ∧ TF S W2 wr ∧
    a = { tmps := #[.slice a0 n c, undef, .string ⟨#[]⟩, .int .i64 0, .int .i64 0, .pointer (some ⟨S, 0, none⟩), undef, u7, undef, undef, .slice a0 n c, .int .i64 0, .int .i64 0, .bool false, undef, .slice a0 n c, .int .i64 (n : Int), .int .i64 (k : Int), u18, u19, u20, u21, undef, undef, undef, undef, undef, undef, undef, undef, undef, undef, u32, u33, undef], defers := ds }
def TxM (n : Nat) (a : Act) (_ : World) : Nat := n - (intOf (a.tmps.getD 17 undef)).toNat

set_option maxRecDepth 100000 in
set_option maxHeartbeats 4000000 in
theorem text_ok (n c b o : Nat) (a0 : Option Addr) (U : Nat → Nat → Int) (w : World) (hPT : PTab w) (hE : listE n U = 0) (hU : Hid (Uses w a0 n U)) (ha : 0 < n → a0 = some ⟨b, o, none⟩) (hb : 0 < n → b < w.heap.size) (hc : Hid (∀ i j, i < n → j < 8 → w.cell? ⟨b, o + i * 8 + j, none⟩ = some (.int .i64 (U i j)))) :
    Calls Tryz.prog 15 #[.slice a0 n c] w (Ret (.tuple #[.string ⟨(textB U n).toArray⟩, .int .i64 0]) w) := by
  have HL := Lib.hid (fun (w0 : World) (hF : Fr (fun _ => False) w w0) => check_walk n c a0 U w0 (hU.out.fr hF (fun _ _ h => h)))
  rw [hE] at HL
  obtain ⟨hn, hok⟩ := listE_ok hE
  have HOK := Lib.hid hok
  have HPT := Lib.hid hPT
  clear hE hok hPT
  refine (callsIn_wide (n := 4)).1 ?_
  refine callsIn_of_wp_marks Tryz.func15 rfl trivial ?_ rfl
  simp only [Tryz.ntmps15, List.size_toArray, List.length_cons, List.length_nil, Nat.reduceAdd, Nat.reduceSub, Array.replicate_succ, Array.replicate_zero, List.push_toArray, List.append_toArray, List.nil_append, List.cons_append]
  refine wpIn_wide.2 ?_
  go_wp2_with (go_at_call 22; go_must (refine (HL.out _ (Fr.refl _ _)).mono ?_; rintro e w1 ⟨rfl, hF⟩; have HF1 := Lib.hid hF; clear hF))
  have hF2 : Fr (fun _ => False) w (w1.alloc (Obj.cells #[Value.pointer none, Value.slice none 0 0] 64)) := HF1.out.alloc _
  have hS2 : BIs w1.heap.size w1.heap.size (Lib.byteCells (textB U 0)) (w1.alloc (Obj.cells #[Value.pointer none, Value.slice none 0 0] 64)) := Lib.IsBuilderF.of (Lib.fresh_isBuilder 64 5 w1)
  have hwS : w.heap.size ≤ w1.heap.size := HF1.out.size
  generalize w1.alloc (Obj.cells #[Value.pointer none, Value.slice none 0 0] 64) = W2 at *
  generalize w1.heap.size = S at *
  have HF2 := Lib.hid hF2
  have HS2 := Lib.hid hS2
  have hS2s : S < W2.heap.size := bis_lt hS2
  have HPT2 := Lib.hid (HPT.out.fr hF2)
  have h0S : 0 < S := by have := HPT.out.pos; omega
  clear hF2 hS2 HF1
  have HA := Lib.hid ha
  have HB := Lib.hid hb
  clear ha hb
  refine wp_loop (TxI a0 n c S U W2) (TxM n) ?_ ?_
  · exact ⟨0, [], _, _, _, _, _, _, _, by omega, trivial, HS2.out, TF.refl _ _, rfl⟩
  · rintro a wr ⟨k, ds, u7, u18, u19, u20, u21, u32, u33, hk, hM, hS, hT, rfl⟩
    have HM := Lib.hid hM
    have HS := Lib.hid hS
    have HT := Lib.hid hT
    clear hM hS hT
    have hTL := textB_len (okB_le HOK.out hk)
    by_cases hlt : k < n
    · have ha := HA.out (by omega)
      have hb : b < w.heap.size := HB.out (by omega)
      have hbS : b < S := by omega
      clear HA HL hU
      subst ha
      have c0 : wr.cell? ⟨b, o + k * 8, none⟩ = some (.int .i64 (U k 0)) := HT.out.cell (p := ⟨b, o + k * 8, none⟩) hbS (HF2.out.cell hb (fun h => h) (hc.out k 0 hlt (by omega)))
      have c1 : wr.cell? ⟨b, o + k * 8 + 1, none⟩ = some (.int .i64 (U k 1)) := HT.out.cell (p := ⟨b, o + k * 8 + 1, none⟩) hbS (HF2.out.cell hb (fun h => h) (hc.out k 1 hlt (by omega)))
      have c2 : wr.cell? ⟨b, o + k * 8 + 2, none⟩ = some (.int .i64 (U k 2)) := HT.out.cell (p := ⟨b, o + k * 8 + 2, none⟩) hbS (HF2.out.cell hb (fun h => h) (hc.out k 2 hlt (by omega)))
      have c3 : wr.cell? ⟨b, o + k * 8 + 3, none⟩ = some (.int .i64 (U k 3)) := HT.out.cell (p := ⟨b, o + k * 8 + 3, none⟩) hbS (HF2.out.cell hb (fun h => h) (hc.out k 3 hlt (by omega)))
      have c4 : wr.cell? ⟨b, o + k * 8 + 4, none⟩ = some (.int .i64 (U k 4)) := HT.out.cell (p := ⟨b, o + k * 8 + 4, none⟩) hbS (HF2.out.cell hb (fun h => h) (hc.out k 4 hlt (by omega)))
      have c5 : wr.cell? ⟨b, o + k * 8 + 5, none⟩ = some (.int .i64 (U k 5)) := HT.out.cell (p := ⟨b, o + k * 8 + 5, none⟩) hbS (HF2.out.cell hb (fun h => h) (hc.out k 5 hlt (by omega)))
      have c6 : wr.cell? ⟨b, o + k * 8 + 6, none⟩ = some (.int .i64 (U k 6)) := HT.out.cell (p := ⟨b, o + k * 8 + 6, none⟩) hbS (HF2.out.cell hb (fun h => h) (hc.out k 6 hlt (by omega)))
      have c7 : wr.cell? ⟨b, o + k * 8 + 7, none⟩ = some (.int .i64 (U k 7)) := HT.out.cell (p := ⟨b, o + k * 8 + 7, none⟩) hbS (HF2.out.cell hb (fun h => h) (hc.out k 7 hlt (by omega)))
      have hz2 : W2.heap.size ≤ wr.heap.size := HT.out.bel.size
      go_wp2_with (go_at_call 24; go_must (refine (fields_make _ _).mono ?_; rintro e w' ⟨rfl, rfl⟩))
      have hF1 : Fr (fun _ => False) wr ((wr.alloc (Obj.cells #[Value.int .i64 (U k 0), Value.int .i64 (U k 1), Value.int .i64 (U k 2), Value.int .i64 (U k 3), Value.int .i64 (U k 4), Value.int .i64 (U k 5), Value.int .i64 (U k 6), Value.int .i64 (U k 7)] 45)).alloc (Obj.cells #[Value.pointer (some ⟨wr.heap.size, 0, none⟩)] 68)) := ((Fr.refl _ wr).alloc _).alloc _
      have hX1 : RowB ((wr.alloc (Obj.cells #[Value.int .i64 (U k 0), Value.int .i64 (U k 1), Value.int .i64 (U k 2), Value.int .i64 (U k 3), Value.int .i64 (U k 4), Value.int .i64 (U k 5), Value.int .i64 (U k 6), Value.int .i64 (U k 7)] 45)).alloc (Obj.cells #[Value.pointer (some ⟨wr.heap.size, 0, none⟩)] 68)) wr.heap.size 45 (useV (U k)) := (RowB.new wr 45 (useV (U k))).fr ((Fr.refl (fun _ => False) _).alloc _) (fun h => h)
      have hP1 : RowB ((wr.alloc (Obj.cells #[Value.int .i64 (U k 0), Value.int .i64 (U k 1), Value.int .i64 (U k 2), Value.int .i64 (U k 3), Value.int .i64 (U k 4), Value.int .i64 (U k 5), Value.int .i64 (U k 6), Value.int .i64 (U k 7)] 45)).alloc (Obj.cells #[Value.pointer (some ⟨wr.heap.size, 0, none⟩)] 68)) (wr.heap.size + 1) 68 [Value.pointer (some ⟨wr.heap.size, 0, none⟩)] := by
        have := RowB.new (wr.alloc (Obj.cells #[Value.int .i64 (U k 0), Value.int .i64 (U k 1), Value.int .i64 (U k 2), Value.int .i64 (U k 3), Value.int .i64 (U k 4), Value.int .i64 (U k 5), Value.int .i64 (U k 6), Value.int .i64 (U k 7)] 45)) 68 [Value.pointer (some ⟨wr.heap.size, 0, none⟩)]
        rw [alloc_size] at this
        exact this
      generalize (wr.alloc (Obj.cells #[Value.int .i64 (U k 0), Value.int .i64 (U k 1), Value.int .i64 (U k 2), Value.int .i64 (U k 3), Value.int .i64 (U k 4), Value.int .i64 (U k 5), Value.int .i64 (U k 6), Value.int .i64 (U k 7)] 45)).alloc (Obj.cells #[Value.pointer (some ⟨wr.heap.size, 0, none⟩)] 68) = W3 at *
      clear c0 c1 c2 c3 c4 c5 c6 c7
      have hBz : S < wr.heap.size := by omega
      have HS3 := Lib.hid (bis_fr HS.out hF1)
      have HM3 := Lib.hid (HM.out.fr hF1 (fun _ _ h _ => h))
      have HT3 := Lib.hid (HT.out.trans (TF.of_fr hF1 (Nat.le_of_lt hBz)))
      have HP3 : Hid (PTab W3) := Lib.hid (HPT2.out.of_block (HT3.out.bel.block 0 h0S))
      generalize wr.heap.size = B at *
      have HX1 := Lib.hid hX1
      have hsz3 : S < W3.heap.size := bis_lt HS3.out
      refine range_fields (B + 1) B rfl rfl hP1.lt (hP1.cell 0) (fun pre W => TF S W3 W ∧ BIs S S (Lib.byteCells (textB U k ++ rowT (U k) pre)) W)
        (fun c pre W => False)
        (OwnFrom.and (ownFrom_tf (Nat.le_of_lt hsz3) (Nat.le_refl _)) (ownFrom_bis (β := List (Fin 8)) (bs := fun pre => Lib.byteCells (textB U k ++ rowT (U k) pre)))) (fun c => fun _ _ _ _ h _ _ => h.elim)
        ⟨TF.refl _ _, by simpa [rowT] using HS3.out⟩ (fun x => { tmps := #[.slice (some ⟨b, o, none⟩) n c, undef, .string ⟨#[]⟩, .int .i64 0, .int .i64 0, .pointer (some ⟨S, 0, none⟩), undef, .pointer (some ⟨B, 0, none⟩), .int .i64 (x.val : Int), .pointer (some ⟨B, x.val, none⟩), .slice (some ⟨b, o, none⟩) n c, .int .i64 0, .int .i64 0, .bool false, undef, .slice (some ⟨b, o, none⟩) n c, .int .i64 (n : Int), .int .i64 (k : Int), .bool true, .pointer (some ⟨b, o + k * 8, none⟩), .agg #[.int .i64 (U k 0), .int .i64 (U k 1), .int .i64 (U k 2), .int .i64 (U k 3), .int .i64 (U k 4), .int .i64 (U k 5), .int .i64 (U k 6), .int .i64 (U k 7)], .func (.func 35) #[] #[.pointer (some ⟨B + 1, 0, none⟩)], .int .i64 (x.val : Int), .pointer (some ⟨B, x.val, none⟩), undef, undef, undef, undef, undef, undef, undef, undef, u32, u33, undef], defers := [] }) ?assign ?body ?done ?stop
      case assign =>
        intro l x W K hK
        unfold enc8
        gi_wp2
        exact hK
      case body =>
        rintro l pre ⟨x, hxlt⟩ W ⟨hT4, hS4⟩ hlen
        have hX4 := hT4.row (k := B) (by omega) (by decide) HX1.out
        have hcx : W.cell? ⟨B, x, none⟩ = some (.int .i64 (U k x)) := by rw [hX4.cell x]; exact useV_at (U k) x hxlt
        have g1 : (0 : Int) ≤ (x : Int) := by omega
        have hb0 := ok1_bd0 (okB_at HOK.out hlt) x hxlt
        have hRL := rowT_len (okB_at HOK.out hlt) pre
        have hIL := itoa_len hb0.1 hb0.2
        have HT4 := Lib.hid hT4
        have HS4 := Lib.hid hS4
        have HX4 := Lib.hid hX4
        have HP4 : Hid (PTab W) := Lib.hid (HP3.out.of_block (hT4.bel.block 0 h0S))
        have HIT := Lib.hid (fun (w0 : World) (h : PTab w0) => itoa_walk (U k x) hb0.1 hb0.2 w0 h)
        have HST := Lib.hid (fun (bs : List UInt8) (w0 : World) (h : BIs S S (Lib.byteCells bs) w0) (hl : bs.length ≤ 13000) => str_walk S S (Lib.byteCells bs) ⟨(Lib.itoa (U k x)).toArray⟩ w0 h (by rw [Lib.byteCells_length]; show bs.length + (Lib.itoa (U k x)).toArray.size ≤ _; simp; omega) (Nat.le_of_lt (bis_lt h)))
        have HBY := Lib.hid (fun (bs : List UInt8) (w0 : World) (h : BIs S S (Lib.byteCells bs) w0) (hl : bs.length ≤ 13000) => byte_walk S S (Lib.byteCells bs) 32 w0 h (by rw [Lib.byteCells_length]; omega) (Nat.le_of_lt (bis_lt h)))
        have HLN : Hid ((textB U k ++ rowT (U k) pre).length ≤ 12999) := Lib.hid (by simp only [List.length_append]; omega)
        clear hT4 hS4 hX4 hX1 hP1 hF1 hb0 hRL hIL hTL
        have hfn1 : Fence.wide.fn 25 := trivial
        have hfn2 : Fence.wide.fn 26 := trivial
        have hfn3 : Fence.wide.fn 27 := trivial
        by_cases hx0 : x = 0
        · subst hx0
          gi_wp2_with (first
            | (gi_at_call 27; refine (CallsIn.inRound l (callsIn_wide.2 (HIT.out _ (by exact HP4.out)))).mono ?_; rintro e w5 ⟨rfl, hF5⟩; have HF5 := Lib.hid hF5; have HS5 := Lib.hid (bis_fr HS4.out hF5); clear hF5)
            | (gi_at_call 26; refine (CallsIn.inRound l (callsIn_wide.2 (HST.out _ _ (by exact HS5.out) (by have := HLN.out; omega)))).mono ?_; rintro e w6 ⟨rfl, hB6, hT6⟩; have HB6 := Lib.hid hB6; have HT6 : Hid (TF S w5 w6) := Lib.hid ⟨hT6.1, hT6.2⟩; clear hB6 hT6))
          have q1 : TF S W w6 := (TF.of_fr HF5.out (Nat.le_of_lt (bis_lt HS4.out))).trans HT6.out
          obtain ⟨cb, hcb⟩ := bis_block HS4.out
          exact ⟨(q1.keeps hcb).from _, q1.k56 hcb (by decide), HT4.out.trans q1, by
            have h := HB6.out
            rw [Lib.strCells_toArray] at h
            rw [rowT_snoc, show fldB (U k) 0 = Lib.itoa (U k 0) from rfl, ← List.append_assoc]
            unfold Lib.byteCells at *
            rw [List.map_append]
            exact .inr h⟩
        · have g2 : (0 : Int) < (x : Int) := by omega
          gi_wp2_with (first
            | (gi_at_call 25; refine (CallsIn.inRound l (callsIn_wide.2 (HBY.out _ _ (by exact HS4.out) (by have := HLN.out; omega)))).mono ?_; rintro e w4 ⟨rfl, hB7, hT7⟩; have HT7 : Hid (TF S W w4) := Lib.hid ⟨hT7.1, hT7.2⟩; have HS7 : Hid (BIs S S (Lib.byteCells (textB U k ++ rowT (U k) pre ++ [32])) w4) := Lib.hid (by have h := hB7; unfold Lib.byteCells at *; rw [List.map_append (l₂ := [32])]; exact .inr h); have HP7 : Hid (PTab w4) := Lib.hid (HP4.out.of_block (HT7.out.bel.block 0 h0S)); have hcx4 : w4.cell? ⟨B, x, none⟩ = some (.int .i64 (U k x)) := (by rw [(HT7.out.row (k := B) (by omega) (by decide) HX4.out).cell x]; exact useV_at (U k) x hxlt); clear hB7 hT7)
            | (gi_at_call 27; refine (CallsIn.inRound l (callsIn_wide.2 (HIT.out _ (by exact HP7.out)))).mono ?_; rintro e w5 ⟨rfl, hF5⟩; have HF5 := Lib.hid hF5; have HS5 := Lib.hid (bis_fr HS7.out hF5); clear hF5)
            | (gi_at_call 26; refine (CallsIn.inRound l (callsIn_wide.2 (HST.out _ _ (by exact HS5.out) (by have := HLN.out; rw [List.length_append]; simp only [List.length_cons, List.length_nil]; omega)))).mono ?_; rintro e w6 ⟨rfl, hB6, hT6⟩; have HB6 := Lib.hid hB6; have HT6 : Hid (TF S w5 w6) := Lib.hid ⟨hT6.1, hT6.2⟩; clear hB6 hT6))
          have q1 : TF S W w6 := (HT7.out.trans (TF.of_fr HF5.out (Nat.le_of_lt (bis_lt HS7.out)))).trans HT6.out
          obtain ⟨cb, hcb⟩ := bis_block HS4.out
          exact ⟨(q1.keeps hcb).from _, q1.k56 hcb (by decide), HT4.out.trans q1, by
            have h := HB6.out
            rw [Lib.strCells_toArray] at h
            rw [rowT_snoc, show fldB (U k) x = [32] ++ Lib.itoa (U k x) by unfold fldB; rw [if_neg hx0], ← List.append_assoc, ← List.append_assoc]
            unfold Lib.byteCells at *
            rw [List.map_append]
            exact .inr h⟩
      case done =>
        rintro D W hD ⟨hT4, hS4⟩ hK
        have HM4 := Lib.hid (show Marks (S + 1) W ({ target := .collected D, args := #[] } :: ds) from ⟨D, rfl, by omega, hK, fun d hd e => by
          subst e
          have := HM3.out.lt D hd
          omega, hT4.marks HM3.out⟩)
        have hRL := rowT_len (okB_at HOK.out hlt) all8
        have h8 : all8.length = 8 := by decide
        have HBY := Lib.hid (byte_walk S S (Lib.byteCells (textB U k ++ rowT (U k) all8)) 10 W hS4 (by rw [Lib.byteCells_length, List.length_append]; omega) (Nat.le_of_lt (bis_lt hS4)))
        have HT5 := Lib.hid (HT3.out.trans hT4)
        clear hT4 hS4 hK hX1 hP1 hF1 hRL h8 hTL
        go_wp2_with (go_at_call 25; go_must (refine HBY.out.mono ?_; rintro e w4 ⟨rfl, hB7, hT7⟩; have HT7 : Hid (TF S W w4) := Lib.hid ⟨hT7.1, hT7.2⟩; have HS7 : Hid (BIs S S (Lib.byteCells (textB U (k + 1))) w4) := Lib.hid (by have h := hB7; show BIs S S (Lib.byteCells (textB U k ++ rowT (U k) all8 ++ [10])) w4; unfold Lib.byteCells at *; rw [List.map_append (l₂ := [10])]; exact .inr h); clear hB7 hT7))
        exact ⟨⟨k + 1, _, _, _, _, _, _, _, _, by omega, HT7.out.marks HM4.out, HS7.out, HT5.out.trans HT7.out, by rw [show ((k : Int) + 1) = ((k + 1 : Nat) : Int) by omega]⟩, by simp [TxM, intOf]; omega⟩
      case stop =>
        rintro D c pre W hD h hK
        exact h.elim
    · obtain rfl : n = k := by omega
      have HST := Lib.hid (Tryz.Builder_String_any_k S S (textB U n) wr HS.out (Nat.le_of_lt (bis_lt HS.out)))
      go_wp2_with (go_at_call 28; go_must (refine HST.out.mono ?_; rintro e w4 ⟨rfl, hB7, hT7⟩; have HT7 : Hid (TF S wr w4) := Lib.hid ⟨hT7.1, hT7.2⟩; clear hB7 hT7))
      refine leaves_marks _ _ (HT7.out.marks HM.out) (fun w' f => ?_)
      refine ⟨.tuple #[.string ⟨(textB U n).toArray⟩, .int .i64 0], by simp [results, Tryz.results15, go_sem], rfl, ?_⟩
      have q1 : Below S W2 w4 := HT.out.bel.trans HT7.out.bel
      have q2 : Fr (fun x => S ≤ x) W2 w4 := ⟨q1.os, q1.tape, q1.output, q1.size, fun k hk hn => q1.block k (by omega)⟩
      have q3 : Fr (fun x => S ≤ x) w w4 := (HF2.out.up (S := fun x => S ≤ x)).trans q2 (fun x _ h => h)
      have q4 : Fr (fun x => S ≤ x) w w' := q3.trans f (fun x _ h => by have := h.1; omega)
      exact q4.mono (fun x hx h => by omega)
end Go.Proofs.YtogjfifpbplahaaGreatDoor

namespace Go.Proofs.YtogjfifpbplahaaGreatDoor
open Go.RowKit Go.Shelf
open CM
set_option linter.unusedVariables false

set_option maxRecDepth 100000 in
set_option maxHeartbeats 1000000 in
theorem text_bad (n c : Nat) (a0 : Option Addr) (U : Nat → Nat → Int) (w : World) (hE : listE n U ≠ 0) (h : Uses w a0 n U) :
    Calls Tryz.prog 15 #[.slice a0 n c] w (Ret (.tuple #[.string ⟨#[]⟩, .int .i64 (listE n U)]) w) := by
  have HL := Lib.hid (check_walk n c a0 U w h)
  generalize listE n U = E at *
  have e1 : (E != 0) = true := by simp [hE]
  clear hE h
  go_enter Tryz.func15, Tryz.ntmps15
  go_wp2_with (go_at_call 22; go_must (refine HL.out.mono ?_; rintro e w1 ⟨rfl, hF⟩; have HF1 := Lib.hid hF; clear hF))
  exact bodyPost_ret (v := .tuple #[.string ⟨#[]⟩, .int .i64 E]) (by simp [results, Tryz.results15, go_sem]) rfl ⟨rfl, HF1.out⟩
theorem text_walk (n c : Nat) (a0 : Option Addr) (U : Nat → Nat → Int) (w : World) (hP : PTab w) (h : Uses w a0 n U) :
    Calls Tryz.prog 15 #[.slice a0 n c] w (Ret (textV n U) w) := by
  unfold textV
  by_cases hE : listE n U = 0
  · rw [if_pos hE]
    rw [hE]
    by_cases h0 : 0 < n
    · obtain ⟨b, o, rfl, hb, hc⟩ := h h0
      exact text_ok n c b o _ U w hP hE (Lib.hid h) (fun _ => rfl) (fun _ => hb) (Lib.hid hc)
    · exact text_ok n c 0 0 _ U w hP hE (Lib.hid h) (fun hn => absurd hn h0) (fun hn => absurd hn h0) (Lib.hid (fun i j hi => by omega))
  · rw [if_neg hE]
    exact text_bad n c a0 U w hE h
theorem itoa_one {z : Int} (h0 : 0 ≤ z) (h9 : z ≤ 9) : Lib.itoa z = [UInt8.ofNat (48 + z).toNat] := by
  unfold Lib.itoa
  rw [if_neg (by omega), Lib.decDigits, dif_pos (by omega)]
  congr 2
  omega
theorem itoa_neg {z : Int} (h0 : z < 0) (h9 : -9 ≤ z) : Lib.itoa z = 45 :: Lib.itoa (-z) := by
  unfold Lib.itoa
  rw [if_pos h0, if_neg (by omega)]
  congr 2
  omega
theorem itoa_big {z : Int} (h9 : 9 < z) : Lib.itoa z = Lib.itoa (z.tdiv 10) ++ [UInt8.ofNat (48 + z.tmod 10).toNat] := by
  obtain ⟨m, rfl⟩ : ∃ m : Nat, z = m := ⟨z.toNat, by omega⟩
  have e1 : (m : Int).tdiv 10 = ((m / 10 : Nat) : Int) := by rw [Int.tdiv_eq_ediv_of_nonneg (by omega)]; rfl
  have e2 : (m : Int).tmod 10 = ((m % 10 : Nat) : Int) := by rw [Int.tmod_eq_emod_of_nonneg (by omega)]; rfl
  rw [e1, e2]
  unfold Lib.itoa
  rw [if_neg (by omega), if_neg (by omega), Int.toNat_natCast, Int.toNat_natCast, Lib.decDigits, dif_neg (by omega)]
  congr 3
/-- what Total returns at good sizes -/
theorem total_good (x y z u v : Int) (w : World) (h0 : 1 ≤ x ∧ x ≤ 120) (h1 : 1 ≤ y ∧ y ≤ x) (h2 : 0 ≤ v ∧ v ≤ x) : Calls Tryz.prog 10 #[.agg #[.int .i64 x, .int .i64 y, .int .i64 z, .int .i64 u, .int .i64 v]] w (Ret (.tuple #[.int .i64 (2 * (2 * y + x + v)), .int .i64 0]) w) := by
  obtain ⟨a1, a2⟩ := h0
  obtain ⟨b1, b2⟩ := h1
  obtain ⟨c1, c2⟩ := h2
  go_enter Tryz.func10, Tryz.ntmps10
  go_wp2
  exact bodyPost_ret (v := .tuple #[.int .i64 (2 * (2 * y + x + v)), .int .i64 0]) (by simp [results, Tryz.results10, go_sem]) rfl ⟨rfl, (Fr.refl _ w).alloc _⟩
/-- batches off a list of numbers -/
def UL (l : List Int) (i j : Nat) : Int := l.getD (i * 8 + j) 0
theorem uses_new (w : World) (B n : Nat) (l : List Int) (vs : Array Value) (hB : w.heap.size = B) (hl : l.length = n * 8) (hv : vs = (l.map (Value.int .i64)).toArray) : Uses (w.alloc (.cells vs 45)) (some ⟨B, 0, none⟩) n (UL l) := fun _ => by
  subst hB
  subst hv
  have h := RowB.new w 45 (l.map (Value.int .i64))
  refine ⟨w.heap.size, 0, rfl, h.lt, fun i j hi hj => ?_⟩
  rw [show 0 + i * 8 + j = i * 8 + j by omega, h.cell]
  unfold UL
  have hlt : i * 8 + j < l.length := by omega
  rw [List.getElem?_map, List.getElem?_eq_getElem hlt, List.getD_eq_getElem?_getD, List.getElem?_eq_getElem hlt]
  rfl
theorem chk1 (w : World) (B : Nat) (hB : w.heap.size = B) : Calls Tryz.prog 13 #[.slice (some ⟨B, 0, none⟩) 1 1, .int .i64 3, .int .i64 0] (w.alloc (.cells #[Value.int .i64 0, Value.int .i64 2, Value.int .i64 31, Value.int .i64 64, Value.int .i64 0, Value.int .i64 0, Value.int .i64 0, Value.int .i64 0] 45)) (Ret (.tuple #[.int .i64 (-1), .int .i64 0, .int .i64 0]) (w.alloc (.cells #[Value.int .i64 0, Value.int .i64 2, Value.int .i64 31, Value.int .i64 64, Value.int .i64 0, Value.int .i64 0, Value.int .i64 0, Value.int .i64 0] 45))) :=
  ccheck_walk 1 1 (some ⟨B, 0, none⟩) (UL [0, 2, 31, 64, 0, 0, 0, 0]) 3 0 _ (uses_new w B 1 [0, 2, 31, 64, 0, 0, 0, 0] _ hB rfl rfl)
theorem chk2 (w : World) (B : Nat) (hB : w.heap.size = B) : Calls Tryz.prog 13 #[.slice (some ⟨B, 0, none⟩) 1 1, .int .i64 3, .int .i64 0] (w.alloc (.cells #[Value.int .i64 0, Value.int .i64 2, Value.int .i64 31, Value.int .i64 63, Value.int .i64 0, Value.int .i64 0, Value.int .i64 0, Value.int .i64 0] 45)) (Ret (.tuple #[.int .i64 0, .int .i64 2, .int .i64 0]) (w.alloc (.cells #[Value.int .i64 0, Value.int .i64 2, Value.int .i64 31, Value.int .i64 63, Value.int .i64 0, Value.int .i64 0, Value.int .i64 0, Value.int .i64 0] 45))) :=
  ccheck_walk 1 1 (some ⟨B, 0, none⟩) (UL [0, 2, 31, 63, 0, 0, 0, 0]) 3 0 _ (uses_new w B 1 [0, 2, 31, 63, 0, 0, 0, 0] _ hB rfl rfl)
theorem peak3 (w : World) (B : Nat) (hB : w.heap.size = B) : Calls Tryz.prog 14 #[.slice (some ⟨B, 0, none⟩) 3 3] (w.alloc (.cells #[Value.int .i64 0, Value.int .i64 0, Value.int .i64 0, Value.int .i64 0, Value.int .i64 3, Value.int .i64 1, Value.int .i64 0, Value.int .i64 0, Value.int .i64 0, Value.int .i64 0, Value.int .i64 0, Value.int .i64 0, Value.int .i64 0, Value.int .i64 2, Value.int .i64 0, Value.int .i64 0, Value.int .i64 0, Value.int .i64 0, Value.int .i64 0, Value.int .i64 0, Value.int .i64 1, Value.int .i64 0, Value.int .i64 0, Value.int .i64 0] 45)) (Ret (.tuple #[.int .i64 2, .int .i64 0]) (w.alloc (.cells #[Value.int .i64 0, Value.int .i64 0, Value.int .i64 0, Value.int .i64 0, Value.int .i64 3, Value.int .i64 1, Value.int .i64 0, Value.int .i64 0, Value.int .i64 0, Value.int .i64 0, Value.int .i64 0, Value.int .i64 0, Value.int .i64 0, Value.int .i64 2, Value.int .i64 0, Value.int .i64 0, Value.int .i64 0, Value.int .i64 0, Value.int .i64 0, Value.int .i64 0, Value.int .i64 1, Value.int .i64 0, Value.int .i64 0, Value.int .i64 0] 45))) :=
  peak_walk 3 3 (some ⟨B, 0, none⟩) (UL [0, 0, 0, 0, 3, 1, 0, 0, 0, 0, 0, 0, 0, 2, 0, 0, 0, 0, 0, 0, 1, 0, 0, 0]) _ (uses_new w B 3 [0, 0, 0, 0, 3, 1, 0, 0, 0, 0, 0, 0, 0, 2, 0, 0, 0, 0, 0, 0, 1, 0, 0, 0] _ hB rfl rfl)
theorem text4_is : textV 1 (UL [(-1), 0, 5, 12, 0, 1, 2, 0]) = .tuple #[.string ⟨#[45, 49, 32, 48, 32, 53, 32, 49, 50, 32, 48, 32, 49, 32, 50, 32, 48, 10]⟩, .int .i64 0] := by
  have e0 : Lib.itoa 0 = [48] := itoa_one (by omega) (by omega)
  have e1 : Lib.itoa 1 = [49] := itoa_one (by omega) (by omega)
  have e2 : Lib.itoa 2 = [50] := itoa_one (by omega) (by omega)
  have e5 : Lib.itoa 5 = [53] := itoa_one (by omega) (by omega)
  have em : Lib.itoa (-1) = [45, 49] := by rw [itoa_neg (by omega) (by omega)]; exact congrArg _ e1
  have e12 : Lib.itoa 12 = [49, 50] := by
    rw [itoa_big (by omega)]
    have h1 : (12 : Int).tdiv 10 = 1 := rfl
    have h2 : (12 : Int).tmod 10 = 2 := rfl
    rw [h1, h2, e1]
    rfl
  have hl : listE 1 (UL [(-1), 0, 5, 12, 0, 1, 2, 0]) = 0 := rfl
  unfold textV
  rw [if_pos hl, hl]
  have : textB (UL [(-1), 0, 5, 12, 0, 1, 2, 0]) 1 = [45, 49, 32, 48, 32, 53, 32, 49, 50, 32, 48, 32, 49, 32, 50, 32, 48, 10] := by
    have h8 : all8 = [0, 1, 2, 3, 4, 5, 6, 7] := by decide
    show [] ++ rowT (UL [(-1), 0, 5, 12, 0, 1, 2, 0] 0) all8 ++ [10] = _
    rw [h8]
    show [] ++ ([] ++ Lib.itoa (-1) ++ ([32] ++ Lib.itoa 0 ++ ([32] ++ Lib.itoa 5 ++ ([32] ++ Lib.itoa 12 ++ ([32] ++ Lib.itoa 0 ++ ([32] ++ Lib.itoa 1 ++ ([32] ++ Lib.itoa 2 ++ ([32] ++ Lib.itoa 0 ++ [])))))))) ++ [10] = _
    rw [e0, e1, e2, e5, em, e12]
    rfl
  rw [this]
theorem text4 (w : World) (B : Nat) (hB : w.heap.size = B) (hP : PTab w) : Calls Tryz.prog 15 #[.slice (some ⟨B, 0, none⟩) 1 1] (w.alloc (.cells #[Value.int .i64 (-1), Value.int .i64 0, Value.int .i64 5, Value.int .i64 12, Value.int .i64 0, Value.int .i64 1, Value.int .i64 2, Value.int .i64 0] 45)) (Ret (.tuple #[.string ⟨#[45, 49, 32, 48, 32, 53, 32, 49, 50, 32, 48, 32, 49, 32, 50, 32, 48, 10]⟩, .int .i64 0]) (w.alloc (.cells #[Value.int .i64 (-1), Value.int .i64 0, Value.int .i64 5, Value.int .i64 12, Value.int .i64 0, Value.int .i64 1, Value.int .i64 2, Value.int .i64 0] 45))) := by
  have h := text_walk 1 1 (some ⟨B, 0, none⟩) (UL [(-1), 0, 5, 12, 0, 1, 2, 0]) (w.alloc (.cells #[Value.int .i64 (-1), Value.int .i64 0, Value.int .i64 5, Value.int .i64 12, Value.int .i64 0, Value.int .i64 1, Value.int .i64 2, Value.int .i64 0] 45)) (hP.fr ((Fr.refl _ w).alloc _)) (uses_new w B 1 [(-1), 0, 5, 12, 0, 1, 2, 0] _ hB rfl rfl)
  rw [text4_is] at h
  exact h
theorem bnd1 (w : World) : Calls Tryz.prog 6 #[.int .i64 0, .int .i64 2, .int .i64 3, .int .i64 0] w (Ret (.tuple #[.agg #[.int .i64 31, .int .i64 25, .int .i64 6], .int .i64 0]) w) := bound_walk 0 2 3 0 w
theorem bnd2 (w : World) : Calls Tryz.prog 6 #[.int .i64 (-1), .int .i64 0, .int .i64 3, .int .i64 2] w (Ret (.tuple #[.agg #[.int .i64 38, .int .i64 16, .int .i64 3], .int .i64 0]) w) := bound_walk (-1) 0 3 2 w
theorem bnd3 (w : World) : Calls Tryz.prog 6 #[.int .i64 4, .int .i64 0, .int .i64 3, .int .i64 0] w (Ret (.tuple #[.agg #[.int .i64 0, .int .i64 0, .int .i64 0], .int .i64 7]) w) := bound_walk 4 0 3 0 w
theorem tot1 (w : World) : Calls Tryz.prog 10 #[.agg #[.int .i64 10, .int .i64 3, .int .i64 0, .int .i64 0, .int .i64 1]] w (Ret (.tuple #[.int .i64 34, .int .i64 0]) w) := total_good 10 3 0 0 1 w (by omega) (by omega) (by omega)

set_option maxRecDepth 100000 in
set_option maxHeartbeats 4000000 in
theorem awake_walk (w : World) (hP : PTab w) : Calls Tryz.prog 5 #[] w (Ret (.bool true) w) := by
  have HP := Lib.hid hP
  clear hP
  go_enter Tryz.func5, Tryz.ntmps5
  go_upto_region 2 with (go_at_call 6; go_must (refine (bnd1 _).mono ?_; rintro e w1 ⟨rfl, hF⟩; have HF1 := Lib.hid hF; clear hF))
  have hG1 : Fr (fun _ => False) w (w1.alloc (Obj.cells #[Value.int .i64 31, Value.int .i64 25, Value.int .i64 6] 30)) := HF1.out.alloc _
  have hR1 : RowB (w1.alloc (Obj.cells #[Value.int .i64 31, Value.int .i64 25, Value.int .i64 6] 30)) w1.heap.size 30 [Value.int .i64 31, Value.int .i64 25, Value.int .i64 6] := RowB.new w1 _ _
  generalize w1.alloc (Obj.cells #[Value.int .i64 31, Value.int .i64 25, Value.int .i64 6] 30) = A1 at *
  generalize w1.heap.size = B1 at *
  have HG1 := Lib.hid hG1
  have HR1 := Lib.hid hR1
  clear hG1 hR1
  go_upto_region 3 with (go_at_call 6; go_must (refine (bnd2 _).mono ?_; rintro e w2 ⟨rfl, hF⟩; have HF2 := Lib.hid (HG1.out.then hF); have HR12 := Lib.hid (HR1.out.fr hF (fun h => h)); clear hF))
  have hG2 : Fr (fun _ => False) w (w2.alloc (Obj.cells #[Value.int .i64 38, Value.int .i64 16, Value.int .i64 3] 30)) := HF2.out.alloc _
  have hR2 : RowB (w2.alloc (Obj.cells #[Value.int .i64 38, Value.int .i64 16, Value.int .i64 3] 30)) w2.heap.size 30 [Value.int .i64 38, Value.int .i64 16, Value.int .i64 3] := RowB.new w2 _ _
  have hR22 : RowB (w2.alloc (Obj.cells #[Value.int .i64 38, Value.int .i64 16, Value.int .i64 3] 30)) B1 30 [Value.int .i64 31, Value.int .i64 25, Value.int .i64 6] := HR12.out.fr ((Fr.refl (fun _ => False) w2).alloc _) (fun h => h)
  have hlt2 : B1 < w2.heap.size := HR12.out.lt
  generalize w2.alloc (Obj.cells #[Value.int .i64 38, Value.int .i64 16, Value.int .i64 3] 30) = A2 at *
  generalize w2.heap.size = B2 at *
  have HG2 := Lib.hid hG2
  have HR2 := Lib.hid hR2
  have HR22 := Lib.hid hR22
  clear hG2 hR2 hR22
  go_upto_region 4 with (go_at_call 6; go_must (refine (bnd3 _).mono ?_; rintro e w3 ⟨rfl, hF⟩; have HF3 := Lib.hid (HG2.out.then hF); have HR13 := Lib.hid (HR22.out.fr hF (fun h => h)); have HR33 := Lib.hid (HR2.out.fr hF (fun h => h)); clear hF))
  go_upto_region 5 with (fail)
  have hG3 : Fr (fun _ => False) w ((w3.alloc (Obj.cells #[Value.int .i64 0, Value.int .i64 0, Value.int .i64 0] 30)).alloc (Obj.cells #[Value.int .i64 0, Value.int .i64 2, Value.int .i64 31, Value.int .i64 64, Value.int .i64 0, Value.int .i64 0, Value.int .i64 0, Value.int .i64 0] 45)) := (HF3.out.alloc _).alloc _
  have hq : Fr (fun _ => False) w3 ((w3.alloc (Obj.cells #[Value.int .i64 0, Value.int .i64 0, Value.int .i64 0] 30)).alloc (Obj.cells #[Value.int .i64 0, Value.int .i64 2, Value.int .i64 31, Value.int .i64 64, Value.int .i64 0, Value.int .i64 0, Value.int .i64 0, Value.int .i64 0] 45)) := ((Fr.refl (fun _ => False) w3).alloc _).alloc _
  have hRa3 : RowB ((w3.alloc (Obj.cells #[Value.int .i64 0, Value.int .i64 0, Value.int .i64 0] 30)).alloc (Obj.cells #[Value.int .i64 0, Value.int .i64 2, Value.int .i64 31, Value.int .i64 64, Value.int .i64 0, Value.int .i64 0, Value.int .i64 0, Value.int .i64 0] 45)) B1 30 [Value.int .i64 31, Value.int .i64 25, Value.int .i64 6] := HR13.out.fr hq (fun h => h)
  have hRb3 : RowB ((w3.alloc (Obj.cells #[Value.int .i64 0, Value.int .i64 0, Value.int .i64 0] 30)).alloc (Obj.cells #[Value.int .i64 0, Value.int .i64 2, Value.int .i64 31, Value.int .i64 64, Value.int .i64 0, Value.int .i64 0, Value.int .i64 0, Value.int .i64 0] 45)) B2 30 [Value.int .i64 38, Value.int .i64 16, Value.int .i64 3] := HR33.out.fr hq (fun h => h)
  have hRu3 : RowB ((w3.alloc (Obj.cells #[Value.int .i64 0, Value.int .i64 0, Value.int .i64 0] 30)).alloc (Obj.cells #[Value.int .i64 0, Value.int .i64 2, Value.int .i64 31, Value.int .i64 64, Value.int .i64 0, Value.int .i64 0, Value.int .i64 0, Value.int .i64 0] 45)) (w3.heap.size + 1) 45 [Value.int .i64 0, Value.int .i64 2, Value.int .i64 31, Value.int .i64 64, Value.int .i64 0, Value.int .i64 0, Value.int .i64 0, Value.int .i64 0] := by
    have := RowB.new (w3.alloc (Obj.cells #[Value.int .i64 0, Value.int .i64 0, Value.int .i64 0] 30)) 45 [Value.int .i64 0, Value.int .i64 2, Value.int .i64 31, Value.int .i64 64, Value.int .i64 0, Value.int .i64 0, Value.int .i64 0, Value.int .i64 0]
    rw [alloc_size] at this
    exact this
  have hlt3 : B2 < w3.heap.size := HR33.out.lt
  have hw3 : w.heap.size ≤ w3.heap.size := HF3.out.size
  generalize (w3.alloc (Obj.cells #[Value.int .i64 0, Value.int .i64 0, Value.int .i64 0] 30)).alloc (Obj.cells #[Value.int .i64 0, Value.int .i64 2, Value.int .i64 31, Value.int .i64 64, Value.int .i64 0, Value.int .i64 0, Value.int .i64 0, Value.int .i64 0] 45) = A3 at *
  obtain ⟨B7, hB7⟩ : ∃ B7, w3.heap.size + 1 = B7 := ⟨_, rfl⟩
  rw [hB7] at hRu3 ⊢
  have hw7 : w.heap.size < B7 := by omega
  have hb7 : B2 < B7 := by omega
  clear hB7
  have HG3 := Lib.hid hG3
  have HRa3 := Lib.hid hRa3
  have HRb3 := Lib.hid hRb3
  have HRu3 := Lib.hid hRu3
  have v0 : A3.cell? ⟨B7, 0, none⟩ = some (.int .i64 0) := HRu3.out.cell 0
  have v1 : A3.cell? ⟨B7, 1, none⟩ = some (.int .i64 2) := HRu3.out.cell 1
  have v2 : A3.cell? ⟨B7, 2, none⟩ = some (.int .i64 31) := HRu3.out.cell 2
  have v3 : A3.cell? ⟨B7, 3, none⟩ = some (.int .i64 64) := HRu3.out.cell 3
  have v4 : A3.cell? ⟨B7, 4, none⟩ = some (.int .i64 0) := HRu3.out.cell 4
  have v5 : A3.cell? ⟨B7, 5, none⟩ = some (.int .i64 0) := HRu3.out.cell 5
  have v6 : A3.cell? ⟨B7, 6, none⟩ = some (.int .i64 0) := HRu3.out.cell 6
  have v7 : A3.cell? ⟨B7, 7, none⟩ = some (.int .i64 0) := HRu3.out.cell 7
  clear hG3 hRa3 hRb3 hRu3 hq
  go_upto_region 6 with (go_at_call 13; go_must (refine (chk1 _ _ (by simp)).mono ?_; rintro e w5 ⟨rfl, hF⟩; have hG := ((Fr.refl (fun _ => False) A3).alloc _).then hF; have HG5 := Lib.hid (HG3.out.then hG); have HRa := Lib.hid (HRa3.out.fr hG (fun h => h)); have HRb := Lib.hid (HRb3.out.fr hG (fun h => h)); have HRu := Lib.hid (HRu3.out.fr hG (fun h => h)); clear hF hG))
  clear v0 v1 v2 v3 v4 v5 v6 v7
  have s3 : w5.cell? ⟨B7, 3, none⟩ = some (.int .i64 64) := HRu.out.cell 3
  have f3 := HRu.out.frozen 3
  go_upto_region 7 with (fail)
  have hG6 : Fr (fun x => x = B7) w (w5.setCell ⟨B7, 3, none⟩ (Value.int .i64 63)) := Fr.setCell (S := fun x => x = B7) HG5.out.up (a := ⟨B7, 3, none⟩) (fun _ => rfl) _
  have hq : Fr (fun x => x = B7) w5 (w5.setCell ⟨B7, 3, none⟩ (Value.int .i64 63)) := Fr.setCell (S := fun x => x = B7) (Fr.refl _ w5) (a := ⟨B7, 3, none⟩) (fun _ => rfl) _
  have hRa6 : RowB (w5.setCell ⟨B7, 3, none⟩ (Value.int .i64 63)) B1 30 [Value.int .i64 31, Value.int .i64 25, Value.int .i64 6] := HRa.out.fr hq (fun h => by have h : B1 = B7 := h; omega)
  have hRb6 : RowB (w5.setCell ⟨B7, 3, none⟩ (Value.int .i64 63)) B2 30 [Value.int .i64 38, Value.int .i64 16, Value.int .i64 3] := HRb.out.fr hq (fun h => by have h : B2 = B7 := h; omega)
  have hRu6 : RowB (w5.setCell ⟨B7, 3, none⟩ (Value.int .i64 63)) B7 45 [Value.int .i64 0, Value.int .i64 2, Value.int .i64 31, Value.int .i64 63, Value.int .i64 0, Value.int .i64 0, Value.int .i64 0, Value.int .i64 0] := HRu.out.set 3 (Value.int .i64 63)
  have hP6 : PTab (w5.setCell ⟨B7, 3, none⟩ (Value.int .i64 63)) := HP.out.of_block (hG6.block 0 HP.out.pos (fun h => by have h : 0 = B7 := h; omega))
  generalize w5.setCell ⟨B7, 3, none⟩ (Value.int .i64 63) = A6 at *
  have HG6 := Lib.hid hG6
  have HRa6 := Lib.hid hRa6
  have HRb6 := Lib.hid hRb6
  have HP6 := Lib.hid hP6
  have u0 : A6.cell? ⟨B7, 0, none⟩ = some (.int .i64 0) := hRu6.cell 0
  have u1 : A6.cell? ⟨B7, 1, none⟩ = some (.int .i64 2) := hRu6.cell 1
  have u2 : A6.cell? ⟨B7, 2, none⟩ = some (.int .i64 31) := hRu6.cell 2
  have u3 : A6.cell? ⟨B7, 3, none⟩ = some (.int .i64 63) := hRu6.cell 3
  have u4 : A6.cell? ⟨B7, 4, none⟩ = some (.int .i64 0) := hRu6.cell 4
  have u5 : A6.cell? ⟨B7, 5, none⟩ = some (.int .i64 0) := hRu6.cell 5
  have u6 : A6.cell? ⟨B7, 6, none⟩ = some (.int .i64 0) := hRu6.cell 6
  have u7 : A6.cell? ⟨B7, 7, none⟩ = some (.int .i64 0) := hRu6.cell 7
  clear hG6 hRa6 hRb6 hRu6 hq hP6 s3 f3
  go_upto_region 8 with (go_at_call 13; go_must (refine (chk2 _ _ (by simp)).mono ?_; rintro e w7 ⟨rfl, hF⟩; have hG := ((Fr.refl (fun _ => False) A6).alloc _).then hF; have HG7 := Lib.hid (HG6.out.trans hG (fun _ _ h => h.elim)); have HRa7 := Lib.hid (HRa6.out.fr hG (fun h => h)); have HRb7 := Lib.hid (HRb6.out.fr hG (fun h => h)); have HP7 := Lib.hid (HP6.out.fr hG); clear hF hG))
  clear u0 u1 u2 u3 u4 u5 u6 u7
  go_upto_region 9 with (go_at_call 14; go_must (refine (peak3 _ _ (by simp)).mono ?_; rintro e w8 ⟨rfl, hF⟩; have hG := ((Fr.refl (fun _ => False) w7).alloc _).then hF; have HG8 := Lib.hid (HG7.out.trans hG (fun _ _ h => h.elim)); have HRa8 := Lib.hid (HRa7.out.fr hG (fun h => h)); have HRb8 := Lib.hid (HRb7.out.fr hG (fun h => h)); have HP8 := Lib.hid (HP7.out.fr hG); clear hF hG))
  go_upto_region 10 with (go_at_call 15; go_must (refine (text4 _ _ (by simp) HP8.out).mono ?_; rintro e w9 ⟨rfl, hF⟩; have hG := ((Fr.refl (fun _ => False) w8).alloc _).then hF; have HG9 := Lib.hid (HG8.out.trans hG (fun _ _ h => h.elim)); have HRa9 := Lib.hid (HRa8.out.fr hG (fun h => h)); have HRb9 := Lib.hid (HRb8.out.fr hG (fun h => h)); clear hF hG))
  go_wp2_with (go_at_call 10; go_must (refine (tot1 _).mono ?_; rintro e w10 ⟨rfl, hG⟩; have HG10 := Lib.hid (HG9.out.trans hG (fun _ _ h => h.elim)); have HRa10 := Lib.hid (HRa9.out.fr hG (fun h => h)); have HRb10 := Lib.hid (HRb9.out.fr hG (fun h => h)); have a0 : w10.cell? ⟨B1, 0, none⟩ = some (.int .i64 31) := HRa10.out.cell 0; have a1 : w10.cell? ⟨B1, 1, none⟩ = some (.int .i64 25) := HRa10.out.cell 1; have a2 : w10.cell? ⟨B1, 2, none⟩ = some (.int .i64 6) := HRa10.out.cell 2; have b0 : w10.cell? ⟨B2, 0, none⟩ = some (.int .i64 38) := HRb10.out.cell 0; have b1 : w10.cell? ⟨B2, 1, none⟩ = some (.int .i64 16) := HRb10.out.cell 1; have b2 : w10.cell? ⟨B2, 2, none⟩ = some (.int .i64 3) := HRb10.out.cell 2; clear hG))
  go_ret
  exact ⟨rfl, HG10.out.mono (fun x hx h => by have h : x = B7 := h; omega)⟩
end Go.Proofs.YtogjfifpbplahaaGreatDoor
