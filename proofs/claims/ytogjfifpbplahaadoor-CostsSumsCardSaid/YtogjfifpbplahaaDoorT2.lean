/- costs.Text, walked. -/
import Derived.Test.YtogjfifpbplahaaDoorT1
import Derived.Test.YtogjfifpbplahaaDoorU2
import Derived.Lib.AppendIntMem
import Derived.Lib.ItoaLen
namespace Go.Proofs.YtogjfifpbplahaaDoor
open Go.RowKit Go.Shelf
open CM
set_option linter.unusedVariables false
attribute [local go_sem] Oper.semAt_some

/-! the text, in bytes -/
def fldB (u : Nat → Int) (j : Nat) : List UInt8 := (if j = 0 then [] else [32]) ++ Lib.itoa (u j)
def rowT (u : Nat → Int) (pre : List (Fin 8)) : List UInt8 := pre.flatMap (fun x => fldB u x.val)
def textB (U : Nat → Nat → Int) : Nat → List UInt8
  | 0 => []
  | n + 1 => textB U n ++ rowT (U n) all8 ++ [10]
theorem rowT_snoc (u : Nat → Int) (pre : List (Fin 8)) (x : Fin 8) : rowT u (pre ++ [x]) = rowT u pre ++ fldB u x.val := by simp [rowT]
theorem itoa_len {z : Int} (h0 : -3 ≤ z) (h1 : z ≤ 1000000) : (Lib.itoa z).length ≤ 21 := Lib.itoa_length_le z (by omega) (by omega)
theorem fldB_len {u : Nat → Int} {j : Nat} (h0 : -3 ≤ u j) (h1 : u j ≤ 1000000) : (fldB u j).length ≤ 22 := by
  have := itoa_len h0 h1
  unfold fldB
  split <;> simp <;> omega
theorem rowT_len {u : Nat → Int} (h : ok1 u = true) : ∀ (pre : List (Fin 8)), (rowT u pre).length ≤ 22 * pre.length
  | [] => by simp [rowT]
  | x :: l => by
    have h1 := rowT_len h l
    have h2 := ok1_bd0 h x.val x.isLt
    have h3 := fldB_len h2.1 h2.2
    have : rowT u (x :: l) = fldB u x.val ++ rowT u l := by simp [rowT]
    rw [this]
    simp only [List.length_append, List.length_cons]
    omega
theorem textB_len {U : Nat → Nat → Int} : ∀ {n : Nat}, okB U n = true → (textB U n).length ≤ 177 * n
  | 0, _ => by simp [textB]
  | n + 1, h => by
    have h1 := textB_len (okB_le h (show n ≤ n + 1 by omega))
    have h2 := rowT_len (okB_at h (show n < n + 1 by omega)) all8
    have h3 : all8.length = 8 := by decide
    simp only [textB, List.length_append, List.length_cons, List.length_nil]
    omega

/-! what a call on the builder in block b leaves as it was: all below it; above it, all but rows of bytes -/
structure TF (b : Nat) (w w' : World) : Prop where
  bel : Below b w w'
  oth : Lib.OthersKept 5 (some b) w w'
theorem TF.refl (b : Nat) (w : World) : TF b w w := ⟨Below.refl b w, Lib.OthersKept.refl _ _ w⟩
theorem TF.trans {b : Nat} {x y z : World} (h : TF b x y) (k : TF b y z) : TF b x z := ⟨h.bel.trans k.bel, h.oth.trans k.oth⟩
theorem TF.of_fr {b : Nat} {w w' : World} (h : Fr (fun _ => False) w w') (hb : b ≤ w.heap.size) : TF b w w' :=
  ⟨h.bel.mono hb, fun k o hk _ _ => (h.block k (Array.getElem?_eq_some_iff.1 hk).1 (fun h => h)).trans hk⟩
theorem TF.cell {b : Nat} {w w' : World} (f : TF b w w') {p : Addr} {v : Value} (hp : p.block < b) (h : w.cell? p = some v) : w'.cell? p = some v :=
  (World.cell?_of_block (f.bel.block p.block hp)).trans h
theorem TF.row {b : Nat} {w w' : World} (f : TF b w w') {k T : Nat} {vs : List Value} (hk : k ≠ b) (hT : T ≠ 5) (h : RowB w k T vs) : RowB w' k T vs :=
  f.oth k _ h (fun e => hk (Option.some.inj e)) (fun c fz e => by injection e with _ e2 _; exact hT e2)
theorem TF.keeps {b : Nat} {w w' : World} (f : TF b w w') {c : Array Value} {T : TypeId} {q : Nat × Nat} (hb : w.heap[b]? = some (.cells c T q)) : KeepsOthers w w' :=
  ⟨f.bel.size, fun k o hk ho => f.oth k o hk (fun e => by
    have e := Option.some.inj e
    subst e
    rw [hb] at hk
    cases hk
    cases ho) (fun c fz e => by subst e; cases ho)⟩
theorem TF.k56 {b : Nat} {w w' : World} (f : TF b w w') {c : Array Value} {T : TypeId} {q : Nat × Nat} (hb : w.heap[b]? = some (.cells c T q)) (hT : T ≠ 56) : K56 w w' :=
  ⟨f.bel.size, fun k c' q' hk => f.oth k _ hk (fun e => by
    have e := Option.some.inj e
    subst e
    rw [hb] at hk
    cases hk
    exact hT rfl) (fun c fz e => by injection e with _ e2 _; exact absurd e2 (by decide))⟩
theorem TF.marks {b : Nat} {w w' : World} {ds : List Deferred} (f : TF b w w') (h : Marks (b + 1) w ds) : Marks (b + 1) w' ds :=
  h.kept (fun D h1 h2 _ => f.oth D _ h2 (fun e => by have e := Option.some.inj e; omega) (fun c fz e => by cases e))
theorem bis_block {b : Nat} {bs : List Value} {w : World} (h : BIs b b bs w) : ∃ c, w.heap[b]? = some (.cells c 62 (0, 0)) := by
  rcases h with ⟨_, v, h, _⟩ | ⟨_, v, h, _⟩ <;> exact ⟨_, h⟩
theorem bis_lt {b : Nat} {bs : List Value} {w : World} (h : BIs b b bs w) : b < w.heap.size := by
  obtain ⟨c, h⟩ := bis_block h
  exact (Array.getElem?_eq_some_iff.1 h).1
theorem bat_kept {b : Nat} {bs : List Value} {w w' : World} {p : Value} (h : Lib.BuilderAtF 62 5 b b p bs w) (hk : ∀ (k : Nat) (c : Array Value) (T : TypeId) (q : Nat × Nat), w.heap[k]? = some (Obj.cells c T q) → w'.heap[k]? = some (Obj.cells c T q)) : Lib.BuilderAtF 62 5 b b p bs w' := by
  obtain ⟨hB, v, hbk, hown, hne⟩ := h
  refine ⟨hB, v, hk _ _ _ _ hbk, ⟨hown.1, ?_⟩, hne⟩
  rcases hown.2 with h | ⟨g, cap, cur, fz, hv, h1, h2, r⟩
  · exact .inl h
  · exact .inr ⟨g, cap, cur, fz, hv, h1, hk _ _ _ _ h2, r⟩
theorem bis_kept {b : Nat} {bs : List Value} {w w' : World} (h : BIs b b bs w) (hk : ∀ (k : Nat) (c : Array Value) (T : TypeId) (q : Nat × Nat), w.heap[k]? = some (Obj.cells c T q) → w'.heap[k]? = some (Obj.cells c T q)) : BIs b b bs w' :=
  h.imp (fun h => bat_kept h hk) (fun h => bat_kept h hk)
theorem bis_fr {b : Nat} {bs : List Value} {w w' : World} (h : BIs b b bs w) (f : Fr (fun _ => False) w w') : BIs b b bs w' :=
  bis_kept h (fun k c T q hk => (f.block k (Array.getElem?_eq_some_iff.1 hk).1 (fun h => h)).trans hk)
theorem ownFrom_bis {β : Type} {B b : Nat} {bs : β → List Value} : OwnFrom B (fun (s : β) W => BIs b b (bs s) W) := fun s W W' row hs hg hr =>
  bis_kept hs (fun k c T q hk => (hg.block k (Array.getElem?_eq_some_iff.1 hk).1 (fun e => by
    obtain ⟨_, o, ho, hc⟩ := hr k e.symm
    rw [hk] at ho
    cases ho
    cases hc)).trans hk)
theorem ownFrom_tf {β : Type} {b B : Nat} {w₀ : World} (hb : b ≤ w₀.heap.size) (hB : w₀.heap.size ≤ B) : OwnFrom B (fun (_ : β) W => TF b w₀ W) := fun _ W W' row hs hg hr =>
  ⟨⟨hg.os.trans hs.bel.os, hg.tape.trans hs.bel.tape, hg.output.trans hs.bel.output, Nat.le_trans hs.bel.size hg.size, fun k hk =>
    (hg.block k (by have := hs.bel.size; omega) (fun e => by have := (hr k e.symm).1; omega)).trans (hs.bel.block k hk)⟩,
   fun k o hk h1 h2 => (hg.block k (Array.getElem?_eq_some_iff.1 (hs.oth k o hk h1 h2)).1 (fun e => by
    have := (hr k e.symm).1
    have := (Array.getElem?_eq_some_iff.1 hk).1
    omega)).trans (hs.oth k o hk h1 h2)⟩
/-! the table of the powers of ten -/
def PTab (w : World) : Prop := Lib.TabIs Tryd.prog w "internal/strconv.uint64pow10" .u64 Lib.pow10Tab
theorem pow_named : Tryd.prog.globalNamed "internal/strconv.uint64pow10" = some 0 := by kernel_rfl
theorem PTab.of_block {w w' : World} (h : PTab w) (e : w'.heap[0]? = w.heap[0]?) : PTab w' := by
  unfold PTab Lib.TabIs World.var? at *
  rw [pow_named] at *
  simp only [Option.bind_some] at *
  rw [e]
  exact h
theorem PTab.pos {w : World} (h : PTab w) : 0 < w.heap.size := by
  unfold PTab Lib.TabIs World.var? at h
  rw [pow_named] at h
  rcases Nat.lt_or_ge 0 w.heap.size with h' | h'
  · exact h'
  · simp [Array.getElem?_eq_none h'] at h
theorem PTab.fr {w w' : World} (h : PTab w) (f : Fr (fun _ => False) w w') : PTab w' := h.of_block (f.block 0 h.pos (fun h => h))
theorem fr_grow (w : World) (k : Nat) (os : Array Obj) : Fr (fun _ => False) w (Go.Sort.grow (w.drewN k) os) :=
  ⟨rfl, rfl, rfl, by simp [Go.Sort.grow, World.drewN], fun i hi _ => by
    show (w.heap ++ os)[i]? = _
    rw [Array.getElem?_append_left hi]⟩
theorem itoa_walk (z : Int) (h0 : -3 ≤ z) (h1 : z ≤ 1000000) (w : World) (h : PTab w) : Calls Tryd.prog 26 #[.int .i64 z] w (Ret (.string ⟨(Lib.itoa z).toArray⟩) w) := by
  refine (Tryd.strconv_Itoa z (by omega) (by omega) w h).mono ?_
  rintro e w' ⟨rfl, k, os, rfl⟩
  exact ⟨rfl, fr_grow w k os⟩

/-- what Text returns -/
def textV (n : Nat) (U : Nat → Nat → Int) : Value := .tuple #[.string ⟨(if listE n U = 0 then textB U n else []).toArray⟩, .int .i64 (listE n U)]
/-- the frame at the head of Text's loop -/
def TxI (a0 : Option Addr) (n c S : Nat) (U : Nat → Nat → Int) (W2 : World) (a : Act) (wr : World) : Prop :=
  ∃ (k : Nat) (ds : List Deferred) (u7 u18 u19 u20 u21 u32 u33 : Value), k ≤ n ∧ Marks (S + 1) wr ds ∧ BIs S S (Lib.byteCells (textB U k)) wr ∧ TF S W2 wr ∧
    a = { tmps := #[.slice a0 n c, undef, .string ⟨#[]⟩, .int .i64 0, .int .i64 0, .pointer (some ⟨S, 0, none⟩), undef, u7, undef, undef, .slice a0 n c, .int .i64 0, .int .i64 0, .bool false, undef, .slice a0 n c, .int .i64 (n : Int), .int .i64 (k : Int), u18, u19, u20, u21, undef, undef, undef, undef, undef, undef, undef, undef, undef, undef, u32, u33, undef], defers := ds }
def TxM (n : Nat) (a : Act) (_ : World) : Nat := n - (intOf (a.tmps.getD 17 undef)).toNat

set_option maxRecDepth 100000 in
set_option maxHeartbeats 4000000 in
theorem text_ok (n c b o : Nat) (a0 : Option Addr) (U : Nat → Nat → Int) (w : World) (hPT : PTab w) (hE : listE n U = 0) (hU : Hid (Uses w a0 n U)) (ha : 0 < n → a0 = some ⟨b, o, none⟩) (hb : 0 < n → b < w.heap.size) (hc : Hid (∀ i j, i < n → j < 8 → w.cell? ⟨b, o + i * 8 + j, none⟩ = some (.int .i64 (U i j)))) :
    Calls Tryd.prog 12 #[.slice a0 n c] w (Ret (.tuple #[.string ⟨(textB U n).toArray⟩, .int .i64 0]) w) := by
  have HL := Lib.hid (fun (w0 : World) (hF : Fr (fun _ => False) w w0) => check_walk n c a0 U w0 (hU.out.fr hF (fun _ _ h => h)))
  rw [hE] at HL
  obtain ⟨hn, hok⟩ := listE_ok hE
  have HOK := Lib.hid hok
  have HPT := Lib.hid hPT
  clear hE hok hPT
  refine (callsIn_wide (n := 4)).1 ?_
  refine callsIn_of_wp_marks Tryd.func12 rfl trivial ?_ rfl
  simp only [Tryd.ntmps12, List.size_toArray, List.length_cons, List.length_nil, Nat.reduceAdd, Nat.reduceSub, Array.replicate_succ, Array.replicate_zero, List.push_toArray, List.append_toArray, List.nil_append, List.cons_append]
  refine wpIn_wide.2 ?_
  go_wp2_with (go_at_call 16; go_must (refine (HL.out _ (Fr.refl _ _)).mono ?_; rintro e w1 ⟨rfl, hF⟩; have HF1 := Lib.hid hF; clear hF))
  have hF2 : Fr (fun _ => False) w (w1.alloc (Obj.cells #[Value.pointer none, Value.slice none 0 0] 62)) := HF1.out.alloc _
  have hS2 : BIs w1.heap.size w1.heap.size (Lib.byteCells (textB U 0)) (w1.alloc (Obj.cells #[Value.pointer none, Value.slice none 0 0] 62)) := Lib.IsBuilderF.of (Lib.fresh_isBuilder 62 5 w1)
  have hwS : w.heap.size ≤ w1.heap.size := HF1.out.size
  generalize w1.alloc (Obj.cells #[Value.pointer none, Value.slice none 0 0] 62) = W2 at *
  generalize w1.heap.size = S at *
  have HF2 := Lib.hid hF2
  have HS2 := Lib.hid hS2
  have hS2s : S < W2.heap.size := bis_lt hS2
  have HPT2 := Lib.hid (HPT.out.fr hF2)
  have h0S : 0 < S := by have := HPT.out.pos; omega
  clear hF2 hS2 HF1
  have HA := Lib.hid ha
  have HB := Lib.hid hb
  clear ha hb
  refine wp_loop (TxI a0 n c S U W2) (TxM n) ?_ ?_
  · exact ⟨0, [], _, _, _, _, _, _, _, by omega, trivial, HS2.out, TF.refl _ _, rfl⟩
  · rintro a wr ⟨k, ds, u7, u18, u19, u20, u21, u32, u33, hk, hM, hS, hT, rfl⟩
    have HM := Lib.hid hM
    have HS := Lib.hid hS
    have HT := Lib.hid hT
    clear hM hS hT
    have hTL := textB_len (okB_le HOK.out hk)
    by_cases hlt : k < n
    · have ha := HA.out (by omega)
      have hb : b < w.heap.size := HB.out (by omega)
      have hbS : b < S := by omega
      clear HA HL hU
      subst ha
      have c0 : wr.cell? ⟨b, o + k * 8, none⟩ = some (.int .i64 (U k 0)) := HT.out.cell (p := ⟨b, o + k * 8, none⟩) hbS (HF2.out.cell hb (fun h => h) (hc.out k 0 hlt (by omega)))
      have c1 : wr.cell? ⟨b, o + k * 8 + 1, none⟩ = some (.int .i64 (U k 1)) := HT.out.cell (p := ⟨b, o + k * 8 + 1, none⟩) hbS (HF2.out.cell hb (fun h => h) (hc.out k 1 hlt (by omega)))
      have c2 : wr.cell? ⟨b, o + k * 8 + 2, none⟩ = some (.int .i64 (U k 2)) := HT.out.cell (p := ⟨b, o + k * 8 + 2, none⟩) hbS (HF2.out.cell hb (fun h => h) (hc.out k 2 hlt (by omega)))
      have c3 : wr.cell? ⟨b, o + k * 8 + 3, none⟩ = some (.int .i64 (U k 3)) := HT.out.cell (p := ⟨b, o + k * 8 + 3, none⟩) hbS (HF2.out.cell hb (fun h => h) (hc.out k 3 hlt (by omega)))
      have c4 : wr.cell? ⟨b, o + k * 8 + 4, none⟩ = some (.int .i64 (U k 4)) := HT.out.cell (p := ⟨b, o + k * 8 + 4, none⟩) hbS (HF2.out.cell hb (fun h => h) (hc.out k 4 hlt (by omega)))
      have c5 : wr.cell? ⟨b, o + k * 8 + 5, none⟩ = some (.int .i64 (U k 5)) := HT.out.cell (p := ⟨b, o + k * 8 + 5, none⟩) hbS (HF2.out.cell hb (fun h => h) (hc.out k 5 hlt (by omega)))
      have c6 : wr.cell? ⟨b, o + k * 8 + 6, none⟩ = some (.int .i64 (U k 6)) := HT.out.cell (p := ⟨b, o + k * 8 + 6, none⟩) hbS (HF2.out.cell hb (fun h => h) (hc.out k 6 hlt (by omega)))
      have c7 : wr.cell? ⟨b, o + k * 8 + 7, none⟩ = some (.int .i64 (U k 7)) := HT.out.cell (p := ⟨b, o + k * 8 + 7, none⟩) hbS (HF2.out.cell hb (fun h => h) (hc.out k 7 hlt (by omega)))
      have hz2 : W2.heap.size ≤ wr.heap.size := HT.out.bel.size
      go_wp2_with (go_at_call 21; go_must (refine (fields_make _ _).mono ?_; rintro e w' ⟨rfl, rfl⟩))
      have hF1 : Fr (fun _ => False) wr ((wr.alloc (Obj.cells #[Value.int .i64 (U k 0), Value.int .i64 (U k 1), Value.int .i64 (U k 2), Value.int .i64 (U k 3), Value.int .i64 (U k 4), Value.int .i64 (U k 5), Value.int .i64 (U k 6), Value.int .i64 (U k 7)] 28)).alloc (Obj.cells #[Value.pointer (some ⟨wr.heap.size, 0, none⟩)] 55)) := ((Fr.refl _ wr).alloc _).alloc _
      have hX1 : RowB ((wr.alloc (Obj.cells #[Value.int .i64 (U k 0), Value.int .i64 (U k 1), Value.int .i64 (U k 2), Value.int .i64 (U k 3), Value.int .i64 (U k 4), Value.int .i64 (U k 5), Value.int .i64 (U k 6), Value.int .i64 (U k 7)] 28)).alloc (Obj.cells #[Value.pointer (some ⟨wr.heap.size, 0, none⟩)] 55)) wr.heap.size 28 (useV (U k)) := (RowB.new wr 28 (useV (U k))).fr ((Fr.refl (fun _ => False) _).alloc _) (fun h => h)
      have hP1 : RowB ((wr.alloc (Obj.cells #[Value.int .i64 (U k 0), Value.int .i64 (U k 1), Value.int .i64 (U k 2), Value.int .i64 (U k 3), Value.int .i64 (U k 4), Value.int .i64 (U k 5), Value.int .i64 (U k 6), Value.int .i64 (U k 7)] 28)).alloc (Obj.cells #[Value.pointer (some ⟨wr.heap.size, 0, none⟩)] 55)) (wr.heap.size + 1) 55 [Value.pointer (some ⟨wr.heap.size, 0, none⟩)] := by
        have := RowB.new (wr.alloc (Obj.cells #[Value.int .i64 (U k 0), Value.int .i64 (U k 1), Value.int .i64 (U k 2), Value.int .i64 (U k 3), Value.int .i64 (U k 4), Value.int .i64 (U k 5), Value.int .i64 (U k 6), Value.int .i64 (U k 7)] 28)) 55 [Value.pointer (some ⟨wr.heap.size, 0, none⟩)]
        rw [alloc_size] at this
        exact this
      generalize (wr.alloc (Obj.cells #[Value.int .i64 (U k 0), Value.int .i64 (U k 1), Value.int .i64 (U k 2), Value.int .i64 (U k 3), Value.int .i64 (U k 4), Value.int .i64 (U k 5), Value.int .i64 (U k 6), Value.int .i64 (U k 7)] 28)).alloc (Obj.cells #[Value.pointer (some ⟨wr.heap.size, 0, none⟩)] 55) = W3 at *
      clear c0 c1 c2 c3 c4 c5 c6 c7
      have hBz : S < wr.heap.size := by omega
      have HS3 := Lib.hid (bis_fr HS.out hF1)
      have HM3 := Lib.hid (HM.out.fr hF1 (fun _ _ h _ => h))
      have HT3 := Lib.hid (HT.out.trans (TF.of_fr hF1 (Nat.le_of_lt hBz)))
      have HP3 : Hid (PTab W3) := Lib.hid (HPT2.out.of_block (HT3.out.bel.block 0 h0S))
      generalize wr.heap.size = B at *
      have HX1 := Lib.hid hX1
      have hsz3 : S < W3.heap.size := bis_lt HS3.out
      refine range_fields (B + 1) B rfl rfl hP1.lt (hP1.cell 0) (fun pre W => TF S W3 W ∧ BIs S S (Lib.byteCells (textB U k ++ rowT (U k) pre)) W)
        (fun c pre W => False)
        (OwnFrom.and (ownFrom_tf (Nat.le_of_lt hsz3) (Nat.le_refl _)) (ownFrom_bis (β := List (Fin 8)) (bs := fun pre => Lib.byteCells (textB U k ++ rowT (U k) pre)))) (fun c => fun _ _ _ _ h _ _ => h.elim)
        ⟨TF.refl _ _, by simpa [rowT] using HS3.out⟩ (fun x => { tmps := #[.slice (some ⟨b, o, none⟩) n c, undef, .string ⟨#[]⟩, .int .i64 0, .int .i64 0, .pointer (some ⟨S, 0, none⟩), undef, .pointer (some ⟨B, 0, none⟩), .int .i64 (x.val : Int), .pointer (some ⟨B, x.val, none⟩), .slice (some ⟨b, o, none⟩) n c, .int .i64 0, .int .i64 0, .bool false, undef, .slice (some ⟨b, o, none⟩) n c, .int .i64 (n : Int), .int .i64 (k : Int), .bool true, .pointer (some ⟨b, o + k * 8, none⟩), .agg #[.int .i64 (U k 0), .int .i64 (U k 1), .int .i64 (U k 2), .int .i64 (U k 3), .int .i64 (U k 4), .int .i64 (U k 5), .int .i64 (U k 6), .int .i64 (U k 7)], .func (.func 32) #[] #[.pointer (some ⟨B + 1, 0, none⟩)], .int .i64 (x.val : Int), .pointer (some ⟨B, x.val, none⟩), undef, undef, undef, undef, undef, undef, undef, undef, u32, u33, undef], defers := [] }) ?assign ?body ?done ?stop
      case assign =>
        intro l x W K hK
        unfold enc8
        gi_wp2
        exact hK
      case body =>
        rintro l pre ⟨x, hxlt⟩ W ⟨hT4, hS4⟩ hlen
        have hX4 := hT4.row (k := B) (by omega) (by decide) HX1.out
        have hcx : W.cell? ⟨B, x, none⟩ = some (.int .i64 (U k x)) := by rw [hX4.cell x]; exact useV_at (U k) x hxlt
        have g1 : (0 : Int) ≤ (x : Int) := by omega
        have hb0 := ok1_bd0 (okB_at HOK.out hlt) x hxlt
        have hRL := rowT_len (okB_at HOK.out hlt) pre
        have hIL := itoa_len hb0.1 hb0.2
        have HT4 := Lib.hid hT4
        have HS4 := Lib.hid hS4
        have HX4 := Lib.hid hX4
        have HP4 : Hid (PTab W) := Lib.hid (HP3.out.of_block (hT4.bel.block 0 h0S))
        have HIT := Lib.hid (fun (w0 : World) (h : PTab w0) => itoa_walk (U k x) hb0.1 hb0.2 w0 h)
        have HST := Lib.hid (fun (bs : List UInt8) (w0 : World) (h : BIs S S (Lib.byteCells bs) w0) (hl : bs.length ≤ 13000) => str_walk S S (Lib.byteCells bs) ⟨(Lib.itoa (U k x)).toArray⟩ w0 h (by rw [Lib.byteCells_length]; show bs.length + (Lib.itoa (U k x)).toArray.size ≤ _; simp; omega) (Nat.le_of_lt (bis_lt h)))
        have HBY := Lib.hid (fun (bs : List UInt8) (w0 : World) (h : BIs S S (Lib.byteCells bs) w0) (hl : bs.length ≤ 13000) => byte_walk S S (Lib.byteCells bs) 32 w0 h (by rw [Lib.byteCells_length]; omega) (Nat.le_of_lt (bis_lt h)))
        have HLN : Hid ((textB U k ++ rowT (U k) pre).length ≤ 12999) := Lib.hid (by simp only [List.length_append]; omega)
        clear hT4 hS4 hX4 hX1 hP1 hF1 hb0 hRL hIL hTL
        have hfn1 : Fence.wide.fn 24 := trivial
        have hfn2 : Fence.wide.fn 25 := trivial
        have hfn3 : Fence.wide.fn 26 := trivial
        by_cases hx0 : x = 0
        · subst hx0
          gi_wp2_with (first
            | (gi_at_call 26; refine (CallsIn.inRound l (callsIn_wide.2 (HIT.out _ (by exact HP4.out)))).mono ?_; rintro e w5 ⟨rfl, hF5⟩; have HF5 := Lib.hid hF5; have HS5 := Lib.hid (bis_fr HS4.out hF5); clear hF5)
            | (gi_at_call 25; refine (CallsIn.inRound l (callsIn_wide.2 (HST.out _ _ (by exact HS5.out) (by have := HLN.out; omega)))).mono ?_; rintro e w6 ⟨rfl, hB6, hT6⟩; have HB6 := Lib.hid hB6; have HT6 : Hid (TF S w5 w6) := Lib.hid ⟨hT6.1, hT6.2⟩; clear hB6 hT6))
          have q1 : TF S W w6 := (TF.of_fr HF5.out (Nat.le_of_lt (bis_lt HS4.out))).trans HT6.out
          obtain ⟨cb, hcb⟩ := bis_block HS4.out
          exact ⟨(q1.keeps hcb).from _, q1.k56 hcb (by decide), HT4.out.trans q1, by
            have h := HB6.out
            rw [Lib.strCells_toArray] at h
            rw [rowT_snoc, show fldB (U k) 0 = Lib.itoa (U k 0) from rfl, ← List.append_assoc]
            unfold Lib.byteCells at *
            rw [List.map_append]
            exact .inr h⟩
        · have g2 : (0 : Int) < (x : Int) := by omega
          gi_wp2_with (first
            | (gi_at_call 24; refine (CallsIn.inRound l (callsIn_wide.2 (HBY.out _ _ (by exact HS4.out) (by have := HLN.out; omega)))).mono ?_; rintro e w4 ⟨rfl, hB7, hT7⟩; have HT7 : Hid (TF S W w4) := Lib.hid ⟨hT7.1, hT7.2⟩; have HS7 : Hid (BIs S S (Lib.byteCells (textB U k ++ rowT (U k) pre ++ [32])) w4) := Lib.hid (by have h := hB7; unfold Lib.byteCells at *; rw [List.map_append (l₂ := [32])]; exact .inr h); have HP7 : Hid (PTab w4) := Lib.hid (HP4.out.of_block (HT7.out.bel.block 0 h0S)); have hcx4 : w4.cell? ⟨B, x, none⟩ = some (.int .i64 (U k x)) := (by rw [(HT7.out.row (k := B) (by omega) (by decide) HX4.out).cell x]; exact useV_at (U k) x hxlt); clear hB7 hT7)
            | (gi_at_call 26; refine (CallsIn.inRound l (callsIn_wide.2 (HIT.out _ (by exact HP7.out)))).mono ?_; rintro e w5 ⟨rfl, hF5⟩; have HF5 := Lib.hid hF5; have HS5 := Lib.hid (bis_fr HS7.out hF5); clear hF5)
            | (gi_at_call 25; refine (CallsIn.inRound l (callsIn_wide.2 (HST.out _ _ (by exact HS5.out) (by have := HLN.out; rw [List.length_append]; simp only [List.length_cons, List.length_nil]; omega)))).mono ?_; rintro e w6 ⟨rfl, hB6, hT6⟩; have HB6 := Lib.hid hB6; have HT6 : Hid (TF S w5 w6) := Lib.hid ⟨hT6.1, hT6.2⟩; clear hB6 hT6))
          have q1 : TF S W w6 := (HT7.out.trans (TF.of_fr HF5.out (Nat.le_of_lt (bis_lt HS7.out)))).trans HT6.out
          obtain ⟨cb, hcb⟩ := bis_block HS4.out
          exact ⟨(q1.keeps hcb).from _, q1.k56 hcb (by decide), HT4.out.trans q1, by
            have h := HB6.out
            rw [Lib.strCells_toArray] at h
            rw [rowT_snoc, show fldB (U k) x = [32] ++ Lib.itoa (U k x) by unfold fldB; rw [if_neg hx0], ← List.append_assoc, ← List.append_assoc]
            unfold Lib.byteCells at *
            rw [List.map_append]
            exact .inr h⟩
      case done =>
        rintro D W hD ⟨hT4, hS4⟩ hK
        have HM4 := Lib.hid (show Marks (S + 1) W ({ target := .collected D, args := #[] } :: ds) from ⟨D, rfl, by omega, hK, fun d hd e => by
          subst e
          have := HM3.out.lt D hd
          omega, hT4.marks HM3.out⟩)
        have hRL := rowT_len (okB_at HOK.out hlt) all8
        have h8 : all8.length = 8 := by decide
        have HBY := Lib.hid (byte_walk S S (Lib.byteCells (textB U k ++ rowT (U k) all8)) 10 W hS4 (by rw [Lib.byteCells_length, List.length_append]; omega) (Nat.le_of_lt (bis_lt hS4)))
        have HT5 := Lib.hid (HT3.out.trans hT4)
        clear hT4 hS4 hK hX1 hP1 hF1 hRL h8 hTL
        go_wp2_with (go_at_call 24; go_must (refine HBY.out.mono ?_; rintro e w4 ⟨rfl, hB7, hT7⟩; have HT7 : Hid (TF S W w4) := Lib.hid ⟨hT7.1, hT7.2⟩; have HS7 : Hid (BIs S S (Lib.byteCells (textB U (k + 1))) w4) := Lib.hid (by have h := hB7; show BIs S S (Lib.byteCells (textB U k ++ rowT (U k) all8 ++ [10])) w4; unfold Lib.byteCells at *; rw [List.map_append (l₂ := [10])]; exact .inr h); clear hB7 hT7))
        exact ⟨⟨k + 1, _, _, _, _, _, _, _, _, by omega, HT7.out.marks HM4.out, HS7.out, HT5.out.trans HT7.out, by rw [show ((k : Int) + 1) = ((k + 1 : Nat) : Int) by omega]⟩, by simp [TxM, intOf]; omega⟩
      case stop =>
        rintro D c pre W hD h hK
        exact h.elim
    · obtain rfl : n = k := by omega
      have HST := Lib.hid (Tryd.Builder_String_any_k S S (textB U n) wr HS.out (Nat.le_of_lt (bis_lt HS.out)))
      go_wp2_with (go_at_call 27; go_must (refine HST.out.mono ?_; rintro e w4 ⟨rfl, hB7, hT7⟩; have HT7 : Hid (TF S wr w4) := Lib.hid ⟨hT7.1, hT7.2⟩; clear hB7 hT7))
      refine leaves_marks _ _ (HT7.out.marks HM.out) (fun w' f => ?_)
      refine ⟨.tuple #[.string ⟨(textB U n).toArray⟩, .int .i64 0], by simp [results, Tryd.results12, go_sem], rfl, ?_⟩
      have q1 : Below S W2 w4 := HT.out.bel.trans HT7.out.bel
      have q2 : Fr (fun x => S ≤ x) W2 w4 := ⟨q1.os, q1.tape, q1.output, q1.size, fun k hk hn => q1.block k (by omega)⟩
      have q3 : Fr (fun x => S ≤ x) w w4 := (HF2.out.up (S := fun x => S ≤ x)).trans q2 (fun x _ h => h)
      have q4 : Fr (fun x => S ≤ x) w w' := q3.trans f (fun x _ h => by have := h.1; omega)
      exact q4.mono (fun x hx h => by omega)
end Go.Proofs.YtogjfifpbplahaaDoor
