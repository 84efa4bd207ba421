/- The law CostsSums, walked. -/
import Derived.Test.YtogjfifpbplahaaDoorG1
import Derived.Test.YtogjfifpbplahaaDoorM1
namespace Go.Proofs.YtogjfifpbplahaaDoor
open Go.RowKit Go.Shelf
open CM
set_option linter.unusedVariables false

theorem sumV_shape' (n : Nat) (U : Nat → Nat → Int) : ∃ s0 s1 s2 s3 s4 s5 s6 s7 : Int, sumV n U = .tuple #[.agg #[.int .i64 s0, .int .i64 s1, .int .i64 s2, .int .i64 s3, .int .i64 s4, .int .i64 s5, .int .i64 s6, .int .i64 s7], .int .i64 (listE n U)] := by
  by_cases h : listE n U = 0
  · rw [h]
    exact ⟨_, _, _, _, _, _, _, _, sumV_ok h⟩
  · exact ⟨_, _, _, _, _, _, _, _, sumV_bad h⟩
theorem wpList_append_uses {w : World} {ops : Array Oper} {rest : List Oper} {o : Oper} {a : Act} {Q : Exit → Act → World → Prop} (hgd : o.guard = none) (s x : Operand)
    (ho : o.op = .call { callee := .builtin .append, args := #[s, x], argTypes := #[22, 22] })
    (base g n cap : Nat) (xs : List Value) (hs : a.eval s = .slice (some ⟨g, 0, none⟩) n cap) (hown : w.ownsRow base 28 8 (.slice (some ⟨g, 0, none⟩) n cap) n xs) (hnc : n ≤ cap)
    (a0 : Option Addr) (m c : Nat) (U : Nat → Nat → Int) (hx : a.eval x = .slice a0 m c) (hU : Uses w a0 m U) (hm : n + m ≤ 1000) (hbase : base ≤ w.heap.size)
    (h : ∀ g' cap' w', n + m ≤ cap' → w'.ownsRow base 28 8 (.slice (some ⟨g', 0, none⟩) (n + m) cap') (n + m) (xs ++ cellsU U m) → w.grownBy w' (some g) → wpList Tryd.prog ops Q rest (a.put o.dst (.slice (some ⟨g', 0, none⟩) (n + m) cap')) w') :
    wpList Tryd.prog ops Q (o :: rest) a w := by
  refine wpList_plain hgd fun K hK => ?_
  obtain ⟨g', cap', w', hr, h1, h2, h3⟩ := run_append_uses w base o.type g n cap xs hown hnc a0 m c U hU hm hbase
  unfold Oper.wp execOp
  simp only [ho, resolve, invoke, builtin, Sem.run_bind, Sem.run_pure, Result.andThen_ok, List.map_toArray, List.map_cons, List.map_nil, hs, hx, hr]
  exact hK _ _ (h g' cap' w' h1 h2 h3)
theorem fr_grown {w0 w w' : World} {g : Nat} (h : Fr (fun _ => False) w0 w) (k : w.grownBy w' (some g)) (hg : w0.heap.size ≤ g) : Fr (fun _ => False) w0 w' :=
  ⟨k.os.trans h.os, k.tape.trans h.tape, k.output.trans h.output, Nat.le_trans h.size k.size, fun i hi _ =>
    (k.block i (Nat.lt_of_lt_of_le hi h.size) (fun e => by have := Option.some.inj e; omega)).trans (h.block i hi (fun h => h))⟩
theorem own_ge {w : World} {base g n cap : Nat} {xs : List Value} {e : TypeId} {s : Nat} (h : w.ownsRow base e s (.slice (some ⟨g, 0, none⟩) n cap) n xs) : base ≤ g := by
  rcases h.2 with ⟨hv, _⟩ | ⟨g', _, _, hv, hb, _⟩
  · cases hv
  · cases hv; exact hb

set_option maxRecDepth 100000 in
set_option maxHeartbeats 4000000 in
theorem sums_far (n c : Nat) (a0 : Option Addr) (m d : Nat) (b0 : Option Addr) (w : World) (hP : PTab w) (hn : 100 < n ∨ 100 < m) :
    Calls Tryd.prog 4 #[.slice a0 n c, .slice b0 m d] w (Ret (.bool true) w) := by
  have HW := Lib.hid (awake_walk w hP)
  clear hP
  by_cases h : 100 < n
  · have hn' : (100 : Int) < (n : Int) := by omega
    clear hn h
    go_enter Tryd.func4, Tryd.ntmps4
    go_wp2_with (go_at_call 5; go_must (refine HW.out.mono ?_; rintro e w1 ⟨rfl, hF⟩; have HF := Lib.hid hF; clear hF))
    go_ret
    exact ⟨rfl, HF.out⟩
  · have hn' : ¬ (100 : Int) < (n : Int) := by omega
    have hm' : (100 : Int) < (m : Int) := by omega
    clear hn h
    go_enter Tryd.func4, Tryd.ntmps4
    go_wp2_with (go_at_call 5; go_must (refine HW.out.mono ?_; rintro e w1 ⟨rfl, hF⟩; have HF := Lib.hid hF; clear hF))
    go_ret
    exact ⟨rfl, HF.out⟩
set_option maxRecDepth 100000 in
set_option maxHeartbeats 4000000 in
theorem sums_bad1 (n c : Nat) (a0 : Option Addr) (U : Nat → Nat → Int) (m d : Nat) (b0 : Option Addr) (V : Nat → Nat → Int) (w : World) (hP : PTab w) (hU : Uses w a0 n U) (hV : Uses w b0 m V) (hn : n ≤ 100) (hm : m ≤ 100) (hbad : listE n U ≠ 0) :
    Calls Tryd.prog 4 #[.slice a0 n c, .slice b0 m d] w (Ret (.bool true) w) := by
  have HP := Lib.hid hP
  have HU := Lib.hid hU
  have HV := Lib.hid hV
  have hn' : ¬ (100 : Int) < (n : Int) := by omega
  have hm' : ¬ (100 : Int) < (m : Int) := by omega

  clear hP hU hV
  go_enter Tryd.func4, Tryd.ntmps4
  go_upto_region 3 with (fail)
  go_wp2_with (at_builtin; refine wpList_append_uses rfl _ _ rfl w.heap.size w.heap.size 0 0 [] rfl ?k1 (Nat.le_refl _) a0 n c U rfl ?k2 (by omega) (by simp) ?_)
  case k1 => exact ⟨rfl, .inr ⟨w.heap.size, 0, #[], rfl, Nat.le_refl _, RowB.new w 28 [], Nat.le_refl _, by unfold maxLen; omega, rfl, rfl⟩⟩
  case k2 => exact HU.out.fr ((Fr.refl _ w).alloc _) (fun _ _ h => h)
  intro g1 cap1 w1 hc1 ho1 hg1
  have HF1 := Lib.hid (fr_grown ((Fr.refl (fun _ => False) w).alloc _) hg1 (Nat.le_refl _))
  have HO1 : Hid (w1.ownsRow w.heap.size 28 8 (.slice (some ⟨g1, 0, none⟩) n cap1) n (cellsU U n)) := Lib.hid ho1
  clear hg1 ho1
  go_wp2_with (at_builtin; refine wpList_append_uses rfl _ _ rfl w.heap.size g1 n cap1 (cellsU U n) rfl HO1.out hc1 b0 m d V rfl ?k3 (by omega) HF1.out.size ?_)
  case k3 => exact HV.out.fr HF1.out (fun _ _ h => h)
  intro g2 cap2 w2 hc2 ho2 hg2
  have HF2 := Lib.hid (fr_grown HF1.out hg2 (own_ge HO1.out))
  have HX := Lib.hid (uses_own ho2)
  clear hg2 ho2 HO1 hc1
  have S1 := Lib.hid (fun (w0 : World) (hF : Fr (fun _ => False) w w0) => sum_walk n c a0 U w0 (HU.out.fr hF (fun _ _ h => h)))
  have S2 := Lib.hid (fun (w0 : World) (hF : Fr (fun _ => False) w w0) => sum_walk m d b0 V w0 (HV.out.fr hF (fun _ _ h => h)))
  have S3 := Lib.hid (fun (w0 : World) (hF : Fr (fun _ => False) w2 w0) => sum_walk (n + m) cap2 (some ⟨g2, 0, none⟩) (cat n U V) w0 (HX.out.fr hF (fun _ _ h => h)))
  have P1 := Lib.hid (fun (w0 : World) (hF : Fr (fun _ => False) w w0) => peak_walk n c a0 U w0 (HU.out.fr hF (fun _ _ h => h)))
  have P2 := Lib.hid (fun (w0 : World) (hF : Fr (fun _ => False) w w0) => peak_walk m d b0 V w0 (HV.out.fr hF (fun _ _ h => h)))
  have P3 := Lib.hid (fun (w0 : World) (hF : Fr (fun _ => False) w2 w0) => peak_walk (n + m) cap2 (some ⟨g2, 0, none⟩) (cat n U V) w0 (HX.out.fr hF (fun _ _ h => h)))
  have C5 := Lib.hid (fun (w0 : World) (hF : Fr (fun _ => False) w w0) => awake_walk w0 (HP.out.fr hF))
  obtain ⟨a0', a1, a2, a3, a4, a5, a6, a7, ha⟩ := sumV_shape' n U
  obtain ⟨b0', b1, b2, b3, b4, b5, b6, b7, hb⟩ := sumV_shape' m V
  obtain ⟨x0, x1, x2, x3, x4, x5, x6, x7, hx⟩ := sumV_shape' (n + m) (cat n U V)
  rw [ha] at S1
  rw [hb] at S2
  rw [hx] at S3
  clear ha hb hx P1 P2 P3
  have h3 : listE (n + m) (cat n U V) ≠ 0 := fun h => by
    have := list_cat.1 h
    omega
  have e3 : (listE (n + m) (cat n U V) != 0) = true := by simp [h3]
  generalize listE (n + m) (cat n U V) = E3 at *
  generalize listE n U = E1 at *
  generalize listE m V = E2 at *
  go_upto_region 5 with (go_at_call 8; go_must (refine (S1.out _ HF2.out).mono ?_; rintro e w3 ⟨rfl, hF⟩; have HF3 := Lib.hid (HF2.out.then hF); have HG3 := Lib.hid hF; clear hF))
  have hX : Fr (fun _ => False) w (w3.alloc (Obj.cells #[Value.int .i64 a0', Value.int .i64 a1, Value.int .i64 a2, Value.int .i64 a3, Value.int .i64 a4, Value.int .i64 a5, Value.int .i64 a6, Value.int .i64 a7] 28)) := HF3.out.alloc _
  have hY : Fr (fun _ => False) w2 (w3.alloc (Obj.cells #[Value.int .i64 a0', Value.int .i64 a1, Value.int .i64 a2, Value.int .i64 a3, Value.int .i64 a4, Value.int .i64 a5, Value.int .i64 a6, Value.int .i64 a7] 28)) := HG3.out.alloc _
  have hR : RowB (w3.alloc (Obj.cells #[Value.int .i64 a0', Value.int .i64 a1, Value.int .i64 a2, Value.int .i64 a3, Value.int .i64 a4, Value.int .i64 a5, Value.int .i64 a6, Value.int .i64 a7] 28)) w3.heap.size 28 [.int .i64 a0', .int .i64 a1, .int .i64 a2, .int .i64 a3, .int .i64 a4, .int .i64 a5, .int .i64 a6, .int .i64 a7] := RowB.new w3 _ _
  generalize w3.alloc (Obj.cells #[Value.int .i64 a0', Value.int .i64 a1, Value.int .i64 a2, Value.int .i64 a3, Value.int .i64 a4, Value.int .i64 a5, Value.int .i64 a6, Value.int .i64 a7] 28) = A3 at *
  generalize w3.heap.size = BA at *
  have HX3 := Lib.hid hX
  have HY3 := Lib.hid hY
  have HR3 := Lib.hid hR
  clear hX hY hR
  go_upto_region 6 with (go_at_call 8; go_must (refine (S2.out _ HX3.out).mono ?_; rintro e w4 ⟨rfl, hF⟩; have HF4 := Lib.hid (HX3.out.then hF); have HG4 := Lib.hid (HY3.out.then hF); have HR4 := Lib.hid (HR3.out.fr hF (fun h => h)); clear hF))
  have hX : Fr (fun _ => False) w (w4.alloc (Obj.cells #[Value.int .i64 b0', Value.int .i64 b1, Value.int .i64 b2, Value.int .i64 b3, Value.int .i64 b4, Value.int .i64 b5, Value.int .i64 b6, Value.int .i64 b7] 28)) := HF4.out.alloc _
  have hY : Fr (fun _ => False) w2 (w4.alloc (Obj.cells #[Value.int .i64 b0', Value.int .i64 b1, Value.int .i64 b2, Value.int .i64 b3, Value.int .i64 b4, Value.int .i64 b5, Value.int .i64 b6, Value.int .i64 b7] 28)) := HG4.out.alloc _
  have hR : RowB (w4.alloc (Obj.cells #[Value.int .i64 b0', Value.int .i64 b1, Value.int .i64 b2, Value.int .i64 b3, Value.int .i64 b4, Value.int .i64 b5, Value.int .i64 b6, Value.int .i64 b7] 28)) BA 28 [.int .i64 a0', .int .i64 a1, .int .i64 a2, .int .i64 a3, .int .i64 a4, .int .i64 a5, .int .i64 a6, .int .i64 a7] := HR4.out.fr ((Fr.refl (fun _ => False) w4).alloc _) (fun h => h)
  have hQ : RowB (w4.alloc (Obj.cells #[Value.int .i64 b0', Value.int .i64 b1, Value.int .i64 b2, Value.int .i64 b3, Value.int .i64 b4, Value.int .i64 b5, Value.int .i64 b6, Value.int .i64 b7] 28)) w4.heap.size 28 [.int .i64 b0', .int .i64 b1, .int .i64 b2, .int .i64 b3, .int .i64 b4, .int .i64 b5, .int .i64 b6, .int .i64 b7] := RowB.new w4 _ _
  generalize w4.alloc (Obj.cells #[Value.int .i64 b0', Value.int .i64 b1, Value.int .i64 b2, Value.int .i64 b3, Value.int .i64 b4, Value.int .i64 b5, Value.int .i64 b6, Value.int .i64 b7] 28) = A4 at *
  generalize w4.heap.size = BB at *
  have HX4 := Lib.hid hX
  have HY4 := Lib.hid hY
  have HRa4 := Lib.hid hR
  have HRb4 := Lib.hid hQ
  clear hX hY hR hQ
  go_upto_region 7 with (go_at_call 8; go_must (refine (S3.out _ HY4.out).mono ?_; rintro e w5 ⟨rfl, hF⟩; have HF5 := Lib.hid (HX4.out.then hF); have HG5 := Lib.hid (HY4.out.then hF); have HRa5 := Lib.hid (HRa4.out.fr hF (fun h => h)); have HRb5 := Lib.hid (HRb4.out.fr hF (fun h => h)); clear hF))
  have hX : Fr (fun _ => False) w (w5.alloc (Obj.cells #[Value.int .i64 x0, Value.int .i64 x1, Value.int .i64 x2, Value.int .i64 x3, Value.int .i64 x4, Value.int .i64 x5, Value.int .i64 x6, Value.int .i64 x7] 28)) := HF5.out.alloc _
  have hY : Fr (fun _ => False) w2 (w5.alloc (Obj.cells #[Value.int .i64 x0, Value.int .i64 x1, Value.int .i64 x2, Value.int .i64 x3, Value.int .i64 x4, Value.int .i64 x5, Value.int .i64 x6, Value.int .i64 x7] 28)) := HG5.out.alloc _
  have hR : RowB (w5.alloc (Obj.cells #[Value.int .i64 x0, Value.int .i64 x1, Value.int .i64 x2, Value.int .i64 x3, Value.int .i64 x4, Value.int .i64 x5, Value.int .i64 x6, Value.int .i64 x7] 28)) BA 28 [.int .i64 a0', .int .i64 a1, .int .i64 a2, .int .i64 a3, .int .i64 a4, .int .i64 a5, .int .i64 a6, .int .i64 a7] := HRa5.out.fr ((Fr.refl (fun _ => False) w5).alloc _) (fun h => h)
  have hQ : RowB (w5.alloc (Obj.cells #[Value.int .i64 x0, Value.int .i64 x1, Value.int .i64 x2, Value.int .i64 x3, Value.int .i64 x4, Value.int .i64 x5, Value.int .i64 x6, Value.int .i64 x7] 28)) BB 28 [.int .i64 b0', .int .i64 b1, .int .i64 b2, .int .i64 b3, .int .i64 b4, .int .i64 b5, .int .i64 b6, .int .i64 b7] := HRb5.out.fr ((Fr.refl (fun _ => False) w5).alloc _) (fun h => h)
  have hO : RowB (w5.alloc (Obj.cells #[Value.int .i64 x0, Value.int .i64 x1, Value.int .i64 x2, Value.int .i64 x3, Value.int .i64 x4, Value.int .i64 x5, Value.int .i64 x6, Value.int .i64 x7] 28)) w5.heap.size 28 [.int .i64 x0, .int .i64 x1, .int .i64 x2, .int .i64 x3, .int .i64 x4, .int .i64 x5, .int .i64 x6, .int .i64 x7] := RowB.new w5 _ _
  generalize w5.alloc (Obj.cells #[Value.int .i64 x0, Value.int .i64 x1, Value.int .i64 x2, Value.int .i64 x3, Value.int .i64 x4, Value.int .i64 x5, Value.int .i64 x6, Value.int .i64 x7] 28) = A5 at *
  generalize w5.heap.size = BC at *
  have HX5 := Lib.hid hX
  have HY5 := Lib.hid hY
  have HRa6 := Lib.hid hR
  have HRb6 := Lib.hid hQ
  have HRc6 := Lib.hid hO
  clear hX hY hR hQ hO
  have e1 : (E1 != 0) = true := by simp [hbad]
  clear hbad h3
  go_wp2_with (go_at_call 5; go_must (refine (C5.out _ HX5.out).mono ?_; rintro e w9 ⟨rfl, hF⟩; have HF9 := Lib.hid (HX5.out.then hF); clear hF))
  go_ret
  exact ⟨rfl, HF9.out⟩
set_option maxRecDepth 100000 in
set_option maxHeartbeats 4000000 in
theorem sums_bad2 (n c : Nat) (a0 : Option Addr) (U : Nat → Nat → Int) (m d : Nat) (b0 : Option Addr) (V : Nat → Nat → Int) (w : World) (hP : PTab w) (hU : Uses w a0 n U) (hV : Uses w b0 m V) (hn : n ≤ 100) (hm : m ≤ 100) (hz : listE n U = 0) (hbad : listE m V ≠ 0) :
    Calls Tryd.prog 4 #[.slice a0 n c, .slice b0 m d] w (Ret (.bool true) w) := by
  have HP := Lib.hid hP
  have HU := Lib.hid hU
  have HV := Lib.hid hV
  have hn' : ¬ (100 : Int) < (n : Int) := by omega
  have hm' : ¬ (100 : Int) < (m : Int) := by omega

  clear hP hU hV
  go_enter Tryd.func4, Tryd.ntmps4
  go_upto_region 3 with (fail)
  go_wp2_with (at_builtin; refine wpList_append_uses rfl _ _ rfl w.heap.size w.heap.size 0 0 [] rfl ?k1 (Nat.le_refl _) a0 n c U rfl ?k2 (by omega) (by simp) ?_)
  case k1 => exact ⟨rfl, .inr ⟨w.heap.size, 0, #[], rfl, Nat.le_refl _, RowB.new w 28 [], Nat.le_refl _, by unfold maxLen; omega, rfl, rfl⟩⟩
  case k2 => exact HU.out.fr ((Fr.refl _ w).alloc _) (fun _ _ h => h)
  intro g1 cap1 w1 hc1 ho1 hg1
  have HF1 := Lib.hid (fr_grown ((Fr.refl (fun _ => False) w).alloc _) hg1 (Nat.le_refl _))
  have HO1 : Hid (w1.ownsRow w.heap.size 28 8 (.slice (some ⟨g1, 0, none⟩) n cap1) n (cellsU U n)) := Lib.hid ho1
  clear hg1 ho1
  go_wp2_with (at_builtin; refine wpList_append_uses rfl _ _ rfl w.heap.size g1 n cap1 (cellsU U n) rfl HO1.out hc1 b0 m d V rfl ?k3 (by omega) HF1.out.size ?_)
  case k3 => exact HV.out.fr HF1.out (fun _ _ h => h)
  intro g2 cap2 w2 hc2 ho2 hg2
  have HF2 := Lib.hid (fr_grown HF1.out hg2 (own_ge HO1.out))
  have HX := Lib.hid (uses_own ho2)
  clear hg2 ho2 HO1 hc1
  have S1 := Lib.hid (fun (w0 : World) (hF : Fr (fun _ => False) w w0) => sum_walk n c a0 U w0 (HU.out.fr hF (fun _ _ h => h)))
  have S2 := Lib.hid (fun (w0 : World) (hF : Fr (fun _ => False) w w0) => sum_walk m d b0 V w0 (HV.out.fr hF (fun _ _ h => h)))
  have S3 := Lib.hid (fun (w0 : World) (hF : Fr (fun _ => False) w2 w0) => sum_walk (n + m) cap2 (some ⟨g2, 0, none⟩) (cat n U V) w0 (HX.out.fr hF (fun _ _ h => h)))
  have P1 := Lib.hid (fun (w0 : World) (hF : Fr (fun _ => False) w w0) => peak_walk n c a0 U w0 (HU.out.fr hF (fun _ _ h => h)))
  have P2 := Lib.hid (fun (w0 : World) (hF : Fr (fun _ => False) w w0) => peak_walk m d b0 V w0 (HV.out.fr hF (fun _ _ h => h)))
  have P3 := Lib.hid (fun (w0 : World) (hF : Fr (fun _ => False) w2 w0) => peak_walk (n + m) cap2 (some ⟨g2, 0, none⟩) (cat n U V) w0 (HX.out.fr hF (fun _ _ h => h)))
  have C5 := Lib.hid (fun (w0 : World) (hF : Fr (fun _ => False) w w0) => awake_walk w0 (HP.out.fr hF))
  obtain ⟨a0', a1, a2, a3, a4, a5, a6, a7, ha⟩ := sumV_shape' n U
  obtain ⟨b0', b1, b2, b3, b4, b5, b6, b7, hb⟩ := sumV_shape' m V
  obtain ⟨x0, x1, x2, x3, x4, x5, x6, x7, hx⟩ := sumV_shape' (n + m) (cat n U V)
  rw [ha] at S1
  rw [hb] at S2
  rw [hx] at S3
  clear ha hb hx P1 P2 P3
  have h3 : listE (n + m) (cat n U V) ≠ 0 := fun h => by
    have := list_cat.1 h
    omega
  have e3 : (listE (n + m) (cat n U V) != 0) = true := by simp [h3]
  generalize listE (n + m) (cat n U V) = E3 at *
  generalize listE n U = E1 at *
  generalize listE m V = E2 at *
  go_upto_region 5 with (go_at_call 8; go_must (refine (S1.out _ HF2.out).mono ?_; rintro e w3 ⟨rfl, hF⟩; have HF3 := Lib.hid (HF2.out.then hF); have HG3 := Lib.hid hF; clear hF))
  have hX : Fr (fun _ => False) w (w3.alloc (Obj.cells #[Value.int .i64 a0', Value.int .i64 a1, Value.int .i64 a2, Value.int .i64 a3, Value.int .i64 a4, Value.int .i64 a5, Value.int .i64 a6, Value.int .i64 a7] 28)) := HF3.out.alloc _
  have hY : Fr (fun _ => False) w2 (w3.alloc (Obj.cells #[Value.int .i64 a0', Value.int .i64 a1, Value.int .i64 a2, Value.int .i64 a3, Value.int .i64 a4, Value.int .i64 a5, Value.int .i64 a6, Value.int .i64 a7] 28)) := HG3.out.alloc _
  have hR : RowB (w3.alloc (Obj.cells #[Value.int .i64 a0', Value.int .i64 a1, Value.int .i64 a2, Value.int .i64 a3, Value.int .i64 a4, Value.int .i64 a5, Value.int .i64 a6, Value.int .i64 a7] 28)) w3.heap.size 28 [.int .i64 a0', .int .i64 a1, .int .i64 a2, .int .i64 a3, .int .i64 a4, .int .i64 a5, .int .i64 a6, .int .i64 a7] := RowB.new w3 _ _
  generalize w3.alloc (Obj.cells #[Value.int .i64 a0', Value.int .i64 a1, Value.int .i64 a2, Value.int .i64 a3, Value.int .i64 a4, Value.int .i64 a5, Value.int .i64 a6, Value.int .i64 a7] 28) = A3 at *
  generalize w3.heap.size = BA at *
  have HX3 := Lib.hid hX
  have HY3 := Lib.hid hY
  have HR3 := Lib.hid hR
  clear hX hY hR
  go_upto_region 6 with (go_at_call 8; go_must (refine (S2.out _ HX3.out).mono ?_; rintro e w4 ⟨rfl, hF⟩; have HF4 := Lib.hid (HX3.out.then hF); have HG4 := Lib.hid (HY3.out.then hF); have HR4 := Lib.hid (HR3.out.fr hF (fun h => h)); clear hF))
  have hX : Fr (fun _ => False) w (w4.alloc (Obj.cells #[Value.int .i64 b0', Value.int .i64 b1, Value.int .i64 b2, Value.int .i64 b3, Value.int .i64 b4, Value.int .i64 b5, Value.int .i64 b6, Value.int .i64 b7] 28)) := HF4.out.alloc _
  have hY : Fr (fun _ => False) w2 (w4.alloc (Obj.cells #[Value.int .i64 b0', Value.int .i64 b1, Value.int .i64 b2, Value.int .i64 b3, Value.int .i64 b4, Value.int .i64 b5, Value.int .i64 b6, Value.int .i64 b7] 28)) := HG4.out.alloc _
  have hR : RowB (w4.alloc (Obj.cells #[Value.int .i64 b0', Value.int .i64 b1, Value.int .i64 b2, Value.int .i64 b3, Value.int .i64 b4, Value.int .i64 b5, Value.int .i64 b6, Value.int .i64 b7] 28)) BA 28 [.int .i64 a0', .int .i64 a1, .int .i64 a2, .int .i64 a3, .int .i64 a4, .int .i64 a5, .int .i64 a6, .int .i64 a7] := HR4.out.fr ((Fr.refl (fun _ => False) w4).alloc _) (fun h => h)
  have hQ : RowB (w4.alloc (Obj.cells #[Value.int .i64 b0', Value.int .i64 b1, Value.int .i64 b2, Value.int .i64 b3, Value.int .i64 b4, Value.int .i64 b5, Value.int .i64 b6, Value.int .i64 b7] 28)) w4.heap.size 28 [.int .i64 b0', .int .i64 b1, .int .i64 b2, .int .i64 b3, .int .i64 b4, .int .i64 b5, .int .i64 b6, .int .i64 b7] := RowB.new w4 _ _
  generalize w4.alloc (Obj.cells #[Value.int .i64 b0', Value.int .i64 b1, Value.int .i64 b2, Value.int .i64 b3, Value.int .i64 b4, Value.int .i64 b5, Value.int .i64 b6, Value.int .i64 b7] 28) = A4 at *
  generalize w4.heap.size = BB at *
  have HX4 := Lib.hid hX
  have HY4 := Lib.hid hY
  have HRa4 := Lib.hid hR
  have HRb4 := Lib.hid hQ
  clear hX hY hR hQ
  go_upto_region 7 with (go_at_call 8; go_must (refine (S3.out _ HY4.out).mono ?_; rintro e w5 ⟨rfl, hF⟩; have HF5 := Lib.hid (HX4.out.then hF); have HG5 := Lib.hid (HY4.out.then hF); have HRa5 := Lib.hid (HRa4.out.fr hF (fun h => h)); have HRb5 := Lib.hid (HRb4.out.fr hF (fun h => h)); clear hF))
  have hX : Fr (fun _ => False) w (w5.alloc (Obj.cells #[Value.int .i64 x0, Value.int .i64 x1, Value.int .i64 x2, Value.int .i64 x3, Value.int .i64 x4, Value.int .i64 x5, Value.int .i64 x6, Value.int .i64 x7] 28)) := HF5.out.alloc _
  have hY : Fr (fun _ => False) w2 (w5.alloc (Obj.cells #[Value.int .i64 x0, Value.int .i64 x1, Value.int .i64 x2, Value.int .i64 x3, Value.int .i64 x4, Value.int .i64 x5, Value.int .i64 x6, Value.int .i64 x7] 28)) := HG5.out.alloc _
  have hR : RowB (w5.alloc (Obj.cells #[Value.int .i64 x0, Value.int .i64 x1, Value.int .i64 x2, Value.int .i64 x3, Value.int .i64 x4, Value.int .i64 x5, Value.int .i64 x6, Value.int .i64 x7] 28)) BA 28 [.int .i64 a0', .int .i64 a1, .int .i64 a2, .int .i64 a3, .int .i64 a4, .int .i64 a5, .int .i64 a6, .int .i64 a7] := HRa5.out.fr ((Fr.refl (fun _ => False) w5).alloc _) (fun h => h)
  have hQ : RowB (w5.alloc (Obj.cells #[Value.int .i64 x0, Value.int .i64 x1, Value.int .i64 x2, Value.int .i64 x3, Value.int .i64 x4, Value.int .i64 x5, Value.int .i64 x6, Value.int .i64 x7] 28)) BB 28 [.int .i64 b0', .int .i64 b1, .int .i64 b2, .int .i64 b3, .int .i64 b4, .int .i64 b5, .int .i64 b6, .int .i64 b7] := HRb5.out.fr ((Fr.refl (fun _ => False) w5).alloc _) (fun h => h)
  have hO : RowB (w5.alloc (Obj.cells #[Value.int .i64 x0, Value.int .i64 x1, Value.int .i64 x2, Value.int .i64 x3, Value.int .i64 x4, Value.int .i64 x5, Value.int .i64 x6, Value.int .i64 x7] 28)) w5.heap.size 28 [.int .i64 x0, .int .i64 x1, .int .i64 x2, .int .i64 x3, .int .i64 x4, .int .i64 x5, .int .i64 x6, .int .i64 x7] := RowB.new w5 _ _
  generalize w5.alloc (Obj.cells #[Value.int .i64 x0, Value.int .i64 x1, Value.int .i64 x2, Value.int .i64 x3, Value.int .i64 x4, Value.int .i64 x5, Value.int .i64 x6, Value.int .i64 x7] 28) = A5 at *
  generalize w5.heap.size = BC at *
  have HX5 := Lib.hid hX
  have HY5 := Lib.hid hY
  have HRa6 := Lib.hid hR
  have HRb6 := Lib.hid hQ
  have HRc6 := Lib.hid hO
  clear hX hY hR hQ hO
  subst hz
  have e2 : (E2 != 0) = true := by simp [hbad]
  clear hbad h3
  go_wp2_with (go_at_call 5; go_must (refine (C5.out _ HX5.out).mono ?_; rintro e w9 ⟨rfl, hF⟩; have HF9 := Lib.hid (HX5.out.then hF); clear hF))
  go_ret
  exact ⟨rfl, HF9.out⟩
set_option maxRecDepth 100000 in
set_option maxHeartbeats 4000000 in
theorem sums_bad3 (n c : Nat) (a0 : Option Addr) (U : Nat → Nat → Int) (m d : Nat) (b0 : Option Addr) (V : Nat → Nat → Int) (w : World) (hP : PTab w) (hU : Uses w a0 n U) (hV : Uses w b0 m V) (hn : n ≤ 100) (hm : m ≤ 100) (hz : listE n U = 0) (hz2 : listE m V = 0) (hbad : 70 < n + m) :
    Calls Tryd.prog 4 #[.slice a0 n c, .slice b0 m d] w (Ret (.bool true) w) := by
  have HP := Lib.hid hP
  have HU := Lib.hid hU
  have HV := Lib.hid hV
  have hn' : ¬ (100 : Int) < (n : Int) := by omega
  have hm' : ¬ (100 : Int) < (m : Int) := by omega

  clear hP hU hV
  go_enter Tryd.func4, Tryd.ntmps4
  go_upto_region 3 with (fail)
  go_wp2_with (at_builtin; refine wpList_append_uses rfl _ _ rfl w.heap.size w.heap.size 0 0 [] rfl ?k1 (Nat.le_refl _) a0 n c U rfl ?k2 (by omega) (by simp) ?_)
  case k1 => exact ⟨rfl, .inr ⟨w.heap.size, 0, #[], rfl, Nat.le_refl _, RowB.new w 28 [], Nat.le_refl _, by unfold maxLen; omega, rfl, rfl⟩⟩
  case k2 => exact HU.out.fr ((Fr.refl _ w).alloc _) (fun _ _ h => h)
  intro g1 cap1 w1 hc1 ho1 hg1
  have HF1 := Lib.hid (fr_grown ((Fr.refl (fun _ => False) w).alloc _) hg1 (Nat.le_refl _))
  have HO1 : Hid (w1.ownsRow w.heap.size 28 8 (.slice (some ⟨g1, 0, none⟩) n cap1) n (cellsU U n)) := Lib.hid ho1
  clear hg1 ho1
  go_wp2_with (at_builtin; refine wpList_append_uses rfl _ _ rfl w.heap.size g1 n cap1 (cellsU U n) rfl HO1.out hc1 b0 m d V rfl ?k3 (by omega) HF1.out.size ?_)
  case k3 => exact HV.out.fr HF1.out (fun _ _ h => h)
  intro g2 cap2 w2 hc2 ho2 hg2
  have HF2 := Lib.hid (fr_grown HF1.out hg2 (own_ge HO1.out))
  have HX := Lib.hid (uses_own ho2)
  clear hg2 ho2 HO1 hc1
  have S1 := Lib.hid (fun (w0 : World) (hF : Fr (fun _ => False) w w0) => sum_walk n c a0 U w0 (HU.out.fr hF (fun _ _ h => h)))
  have S2 := Lib.hid (fun (w0 : World) (hF : Fr (fun _ => False) w w0) => sum_walk m d b0 V w0 (HV.out.fr hF (fun _ _ h => h)))
  have S3 := Lib.hid (fun (w0 : World) (hF : Fr (fun _ => False) w2 w0) => sum_walk (n + m) cap2 (some ⟨g2, 0, none⟩) (cat n U V) w0 (HX.out.fr hF (fun _ _ h => h)))
  have P1 := Lib.hid (fun (w0 : World) (hF : Fr (fun _ => False) w w0) => peak_walk n c a0 U w0 (HU.out.fr hF (fun _ _ h => h)))
  have P2 := Lib.hid (fun (w0 : World) (hF : Fr (fun _ => False) w w0) => peak_walk m d b0 V w0 (HV.out.fr hF (fun _ _ h => h)))
  have P3 := Lib.hid (fun (w0 : World) (hF : Fr (fun _ => False) w2 w0) => peak_walk (n + m) cap2 (some ⟨g2, 0, none⟩) (cat n U V) w0 (HX.out.fr hF (fun _ _ h => h)))
  have C5 := Lib.hid (fun (w0 : World) (hF : Fr (fun _ => False) w w0) => awake_walk w0 (HP.out.fr hF))
  obtain ⟨a0', a1, a2, a3, a4, a5, a6, a7, ha⟩ := sumV_shape' n U
  obtain ⟨b0', b1, b2, b3, b4, b5, b6, b7, hb⟩ := sumV_shape' m V
  obtain ⟨x0, x1, x2, x3, x4, x5, x6, x7, hx⟩ := sumV_shape' (n + m) (cat n U V)
  rw [ha] at S1
  rw [hb] at S2
  rw [hx] at S3
  clear ha hb hx P1 P2 P3
  have h3 : listE (n + m) (cat n U V) ≠ 0 := fun h => by
    have := list_cat.1 h
    omega
  have e3 : (listE (n + m) (cat n U V) != 0) = true := by simp [h3]
  generalize listE (n + m) (cat n U V) = E3 at *
  generalize listE n U = E1 at *
  generalize listE m V = E2 at *
  go_upto_region 5 with (go_at_call 8; go_must (refine (S1.out _ HF2.out).mono ?_; rintro e w3 ⟨rfl, hF⟩; have HF3 := Lib.hid (HF2.out.then hF); have HG3 := Lib.hid hF; clear hF))
  have hX : Fr (fun _ => False) w (w3.alloc (Obj.cells #[Value.int .i64 a0', Value.int .i64 a1, Value.int .i64 a2, Value.int .i64 a3, Value.int .i64 a4, Value.int .i64 a5, Value.int .i64 a6, Value.int .i64 a7] 28)) := HF3.out.alloc _
  have hY : Fr (fun _ => False) w2 (w3.alloc (Obj.cells #[Value.int .i64 a0', Value.int .i64 a1, Value.int .i64 a2, Value.int .i64 a3, Value.int .i64 a4, Value.int .i64 a5, Value.int .i64 a6, Value.int .i64 a7] 28)) := HG3.out.alloc _
  have hR : RowB (w3.alloc (Obj.cells #[Value.int .i64 a0', Value.int .i64 a1, Value.int .i64 a2, Value.int .i64 a3, Value.int .i64 a4, Value.int .i64 a5, Value.int .i64 a6, Value.int .i64 a7] 28)) w3.heap.size 28 [.int .i64 a0', .int .i64 a1, .int .i64 a2, .int .i64 a3, .int .i64 a4, .int .i64 a5, .int .i64 a6, .int .i64 a7] := RowB.new w3 _ _
  generalize w3.alloc (Obj.cells #[Value.int .i64 a0', Value.int .i64 a1, Value.int .i64 a2, Value.int .i64 a3, Value.int .i64 a4, Value.int .i64 a5, Value.int .i64 a6, Value.int .i64 a7] 28) = A3 at *
  generalize w3.heap.size = BA at *
  have HX3 := Lib.hid hX
  have HY3 := Lib.hid hY
  have HR3 := Lib.hid hR
  clear hX hY hR
  go_upto_region 6 with (go_at_call 8; go_must (refine (S2.out _ HX3.out).mono ?_; rintro e w4 ⟨rfl, hF⟩; have HF4 := Lib.hid (HX3.out.then hF); have HG4 := Lib.hid (HY3.out.then hF); have HR4 := Lib.hid (HR3.out.fr hF (fun h => h)); clear hF))
  have hX : Fr (fun _ => False) w (w4.alloc (Obj.cells #[Value.int .i64 b0', Value.int .i64 b1, Value.int .i64 b2, Value.int .i64 b3, Value.int .i64 b4, Value.int .i64 b5, Value.int .i64 b6, Value.int .i64 b7] 28)) := HF4.out.alloc _
  have hY : Fr (fun _ => False) w2 (w4.alloc (Obj.cells #[Value.int .i64 b0', Value.int .i64 b1, Value.int .i64 b2, Value.int .i64 b3, Value.int .i64 b4, Value.int .i64 b5, Value.int .i64 b6, Value.int .i64 b7] 28)) := HG4.out.alloc _
  have hR : RowB (w4.alloc (Obj.cells #[Value.int .i64 b0', Value.int .i64 b1, Value.int .i64 b2, Value.int .i64 b3, Value.int .i64 b4, Value.int .i64 b5, Value.int .i64 b6, Value.int .i64 b7] 28)) BA 28 [.int .i64 a0', .int .i64 a1, .int .i64 a2, .int .i64 a3, .int .i64 a4, .int .i64 a5, .int .i64 a6, .int .i64 a7] := HR4.out.fr ((Fr.refl (fun _ => False) w4).alloc _) (fun h => h)
  have hQ : RowB (w4.alloc (Obj.cells #[Value.int .i64 b0', Value.int .i64 b1, Value.int .i64 b2, Value.int .i64 b3, Value.int .i64 b4, Value.int .i64 b5, Value.int .i64 b6, Value.int .i64 b7] 28)) w4.heap.size 28 [.int .i64 b0', .int .i64 b1, .int .i64 b2, .int .i64 b3, .int .i64 b4, .int .i64 b5, .int .i64 b6, .int .i64 b7] := RowB.new w4 _ _
  generalize w4.alloc (Obj.cells #[Value.int .i64 b0', Value.int .i64 b1, Value.int .i64 b2, Value.int .i64 b3, Value.int .i64 b4, Value.int .i64 b5, Value.int .i64 b6, Value.int .i64 b7] 28) = A4 at *
  generalize w4.heap.size = BB at *
  have HX4 := Lib.hid hX
  have HY4 := Lib.hid hY
  have HRa4 := Lib.hid hR
  have HRb4 := Lib.hid hQ
  clear hX hY hR hQ
  go_upto_region 7 with (go_at_call 8; go_must (refine (S3.out _ HY4.out).mono ?_; rintro e w5 ⟨rfl, hF⟩; have HF5 := Lib.hid (HX4.out.then hF); have HG5 := Lib.hid (HY4.out.then hF); have HRa5 := Lib.hid (HRa4.out.fr hF (fun h => h)); have HRb5 := Lib.hid (HRb4.out.fr hF (fun h => h)); clear hF))
  have hX : Fr (fun _ => False) w (w5.alloc (Obj.cells #[Value.int .i64 x0, Value.int .i64 x1, Value.int .i64 x2, Value.int .i64 x3, Value.int .i64 x4, Value.int .i64 x5, Value.int .i64 x6, Value.int .i64 x7] 28)) := HF5.out.alloc _
  have hY : Fr (fun _ => False) w2 (w5.alloc (Obj.cells #[Value.int .i64 x0, Value.int .i64 x1, Value.int .i64 x2, Value.int .i64 x3, Value.int .i64 x4, Value.int .i64 x5, Value.int .i64 x6, Value.int .i64 x7] 28)) := HG5.out.alloc _
  have hR : RowB (w5.alloc (Obj.cells #[Value.int .i64 x0, Value.int .i64 x1, Value.int .i64 x2, Value.int .i64 x3, Value.int .i64 x4, Value.int .i64 x5, Value.int .i64 x6, Value.int .i64 x7] 28)) BA 28 [.int .i64 a0', .int .i64 a1, .int .i64 a2, .int .i64 a3, .int .i64 a4, .int .i64 a5, .int .i64 a6, .int .i64 a7] := HRa5.out.fr ((Fr.refl (fun _ => False) w5).alloc _) (fun h => h)
  have hQ : RowB (w5.alloc (Obj.cells #[Value.int .i64 x0, Value.int .i64 x1, Value.int .i64 x2, Value.int .i64 x3, Value.int .i64 x4, Value.int .i64 x5, Value.int .i64 x6, Value.int .i64 x7] 28)) BB 28 [.int .i64 b0', .int .i64 b1, .int .i64 b2, .int .i64 b3, .int .i64 b4, .int .i64 b5, .int .i64 b6, .int .i64 b7] := HRb5.out.fr ((Fr.refl (fun _ => False) w5).alloc _) (fun h => h)
  have hO : RowB (w5.alloc (Obj.cells #[Value.int .i64 x0, Value.int .i64 x1, Value.int .i64 x2, Value.int .i64 x3, Value.int .i64 x4, Value.int .i64 x5, Value.int .i64 x6, Value.int .i64 x7] 28)) w5.heap.size 28 [.int .i64 x0, .int .i64 x1, .int .i64 x2, .int .i64 x3, .int .i64 x4, .int .i64 x5, .int .i64 x6, .int .i64 x7] := RowB.new w5 _ _
  generalize w5.alloc (Obj.cells #[Value.int .i64 x0, Value.int .i64 x1, Value.int .i64 x2, Value.int .i64 x3, Value.int .i64 x4, Value.int .i64 x5, Value.int .i64 x6, Value.int .i64 x7] 28) = A5 at *
  generalize w5.heap.size = BC at *
  have HX5 := Lib.hid hX
  have HY5 := Lib.hid hY
  have HRa6 := Lib.hid hR
  have HRb6 := Lib.hid hQ
  have HRc6 := Lib.hid hO
  clear hX hY hR hQ hO
  subst hz
  subst hz2
  have e2 : (70 : Int) < (n : Int) + (m : Int) := by omega
  clear hbad h3
  go_wp2_with (go_at_call 5; go_must (refine (C5.out _ HX5.out).mono ?_; rintro e w9 ⟨rfl, hF⟩; have HF9 := Lib.hid (HX5.out.then hF); clear hF))
  go_ret
  exact ⟨rfl, HF9.out⟩
set_option maxRecDepth 10000000 in
set_option maxHeartbeats 4000000 in
theorem sums_good (n c : Nat) (a0 : Option Addr) (U : Nat → Nat → Int) (m d : Nat) (b0 : Option Addr) (V : Nat → Nat → Int) (w : World) (hP : PTab w) (hU : Uses w a0 n U) (hV : Uses w b0 m V) (hn : n ≤ 100) (hm : m ≤ 100) (hz : listE n U = 0) (hz2 : listE m V = 0) (h70 : n + m ≤ 70) :
    Calls Tryd.prog 4 #[.slice a0 n c, .slice b0 m d] w (Ret (.bool true) w) := by
  have HP := Lib.hid hP
  have HU := Lib.hid hU
  have HV := Lib.hid hV
  have hn' : ¬ (100 : Int) < (n : Int) := by omega
  have hm' : ¬ (100 : Int) < (m : Int) := by omega

  clear hP hU hV
  go_enter Tryd.func4, Tryd.ntmps4
  go_upto_region 3 with (fail)
  go_wp2_with (at_builtin; refine wpList_append_uses rfl _ _ rfl w.heap.size w.heap.size 0 0 [] rfl ?k1 (Nat.le_refl _) a0 n c U rfl ?k2 (by omega) (by simp) ?_)
  case k1 => exact ⟨rfl, .inr ⟨w.heap.size, 0, #[], rfl, Nat.le_refl _, RowB.new w 28 [], Nat.le_refl _, by unfold maxLen; omega, rfl, rfl⟩⟩
  case k2 => exact HU.out.fr ((Fr.refl _ w).alloc _) (fun _ _ h => h)
  intro g1 cap1 w1 hc1 ho1 hg1
  have HF1 := Lib.hid (fr_grown ((Fr.refl (fun _ => False) w).alloc _) hg1 (Nat.le_refl _))
  have HO1 : Hid (w1.ownsRow w.heap.size 28 8 (.slice (some ⟨g1, 0, none⟩) n cap1) n (cellsU U n)) := Lib.hid ho1
  clear hg1 ho1
  go_wp2_with (at_builtin; refine wpList_append_uses rfl _ _ rfl w.heap.size g1 n cap1 (cellsU U n) rfl HO1.out hc1 b0 m d V rfl ?k3 (by omega) HF1.out.size ?_)
  case k3 => exact HV.out.fr HF1.out (fun _ _ h => h)
  intro g2 cap2 w2 hc2 ho2 hg2
  have HF2 := Lib.hid (fr_grown HF1.out hg2 (own_ge HO1.out))
  have HX := Lib.hid (uses_own ho2)
  clear hg2 ho2 HO1 hc1
  have S1 := Lib.hid (fun (w0 : World) (hF : Fr (fun _ => False) w w0) => sum_walk n c a0 U w0 (HU.out.fr hF (fun _ _ h => h)))
  have S2 := Lib.hid (fun (w0 : World) (hF : Fr (fun _ => False) w w0) => sum_walk m d b0 V w0 (HV.out.fr hF (fun _ _ h => h)))
  have S3 := Lib.hid (fun (w0 : World) (hF : Fr (fun _ => False) w2 w0) => sum_walk (n + m) cap2 (some ⟨g2, 0, none⟩) (cat n U V) w0 (HX.out.fr hF (fun _ _ h => h)))
  have P1 := Lib.hid (fun (w0 : World) (hF : Fr (fun _ => False) w w0) => peak_walk n c a0 U w0 (HU.out.fr hF (fun _ _ h => h)))
  have P2 := Lib.hid (fun (w0 : World) (hF : Fr (fun _ => False) w w0) => peak_walk m d b0 V w0 (HV.out.fr hF (fun _ _ h => h)))
  have P3 := Lib.hid (fun (w0 : World) (hF : Fr (fun _ => False) w2 w0) => peak_walk (n + m) cap2 (some ⟨g2, 0, none⟩) (cat n U V) w0 (HX.out.fr hF (fun _ _ h => h)))
  have C5 := Lib.hid (fun (w0 : World) (hF : Fr (fun _ => False) w w0) => awake_walk w0 (HP.out.fr hF))
  have hz3 : listE (n + m) (cat n U V) = 0 := list_cat.2 ⟨hz, hz2, h70⟩
  rw [sumV_ok hz] at S1
  rw [sumV_ok hz2] at S2
  rw [sumV_ok hz3] at S3
  simp only [sum_cat] at S3
  unfold peakV at P1 P2 P3
  rw [if_pos hz, hz] at P1
  rw [if_pos hz2, hz2] at P2
  rw [if_pos hz3, hz3, most_cat] at P3
  obtain ⟨hn70, ok1n⟩ := listE_ok hz
  obtain ⟨hm70, ok1m⟩ := listE_ok hz2
  have hp := mostF_bd (U := U) (n := n) (fun k hk => (nowF_bd ok1n hn70 k hk).2)
  have hq := mostF_bd (U := V) (n := m) (fun k hk => (nowF_bd ok1m hm70 k hk).2)
  unfold nowF at P3
  clear hz hz2 hz3
  obtain ⟨la1, ua1⟩ := sumF_le ok1n hn70 (Nat.le_refl n) 1 (by omega) (by omega)
  obtain ⟨lb1, ub1⟩ := sumF_le ok1m hm70 (Nat.le_refl m) 1 (by omega) (by omega)
  generalize sumF U 1 n = a1 at *
  generalize sumF V 1 m = b1 at *
  obtain ⟨la2, ua2⟩ := sumF_le ok1n hn70 (Nat.le_refl n) 2 (by omega) (by omega)
  obtain ⟨lb2, ub2⟩ := sumF_le ok1m hm70 (Nat.le_refl m) 2 (by omega) (by omega)
  generalize sumF U 2 n = a2 at *
  generalize sumF V 2 m = b2 at *
  obtain ⟨la3, ua3⟩ := sumF_le ok1n hn70 (Nat.le_refl n) 3 (by omega) (by omega)
  obtain ⟨lb3, ub3⟩ := sumF_le ok1m hm70 (Nat.le_refl m) 3 (by omega) (by omega)
  generalize sumF U 3 n = a3 at *
  generalize sumF V 3 m = b3 at *
  obtain ⟨la4, ua4⟩ := sumF_le ok1n hn70 (Nat.le_refl n) 4 (by omega) (by omega)
  obtain ⟨lb4, ub4⟩ := sumF_le ok1m hm70 (Nat.le_refl m) 4 (by omega) (by omega)
  generalize sumF U 4 n = a4 at *
  generalize sumF V 4 m = b4 at *
  obtain ⟨la5, ua5⟩ := sumF_le ok1n hn70 (Nat.le_refl n) 5 (by omega) (by omega)
  obtain ⟨lb5, ub5⟩ := sumF_le ok1m hm70 (Nat.le_refl m) 5 (by omega) (by omega)
  generalize sumF U 5 n = a5 at *
  generalize sumF V 5 m = b5 at *
  obtain ⟨la6, ua6⟩ := sumF_le ok1n hn70 (Nat.le_refl n) 6 (by omega) (by omega)
  obtain ⟨lb6, ub6⟩ := sumF_le ok1m hm70 (Nat.le_refl m) 6 (by omega) (by omega)
  generalize sumF U 6 n = a6 at *
  generalize sumF V 6 m = b6 at *
  obtain ⟨la7, ua7⟩ := sumF_le ok1n hn70 (Nat.le_refl n) 7 (by omega) (by omega)
  obtain ⟨lb7, ub7⟩ := sumF_le ok1m hm70 (Nat.le_refl m) 7 (by omega) (by omega)
  generalize sumF U 7 n = a7 at *
  generalize sumF V 7 m = b7 at *
  clear ok1n ok1m
  generalize mostF U n = p at *
  generalize mostF V m = q at *
  obtain ⟨hp1, hp2⟩ := hp
  obtain ⟨hq1, hq2⟩ := hq
  have h70' : ¬ (70 : Int) < (n : Int) + (m : Int) := by omega
  go_upto_region 5 with (go_at_call 8; go_must (refine (S1.out _ HF2.out).mono ?_; rintro e w3 ⟨rfl, hF⟩; have HF3 := Lib.hid (HF2.out.then hF); have HG3 := Lib.hid hF; clear hF))
  have hX : Fr (fun _ => False) w (w3.alloc (Obj.cells #[Value.int .i64 0, Value.int .i64 a1, Value.int .i64 a2, Value.int .i64 a3, Value.int .i64 a4, Value.int .i64 a5, Value.int .i64 a6, Value.int .i64 a7] 28)) := HF3.out.alloc _
  have hY : Fr (fun _ => False) w2 (w3.alloc (Obj.cells #[Value.int .i64 0, Value.int .i64 a1, Value.int .i64 a2, Value.int .i64 a3, Value.int .i64 a4, Value.int .i64 a5, Value.int .i64 a6, Value.int .i64 a7] 28)) := HG3.out.alloc _
  have hR : RowB (w3.alloc (Obj.cells #[Value.int .i64 0, Value.int .i64 a1, Value.int .i64 a2, Value.int .i64 a3, Value.int .i64 a4, Value.int .i64 a5, Value.int .i64 a6, Value.int .i64 a7] 28)) w3.heap.size 28 [Value.int .i64 0, Value.int .i64 a1, Value.int .i64 a2, Value.int .i64 a3, Value.int .i64 a4, Value.int .i64 a5, Value.int .i64 a6, Value.int .i64 a7] := RowB.new w3 _ _
  generalize w3.alloc (Obj.cells #[Value.int .i64 0, Value.int .i64 a1, Value.int .i64 a2, Value.int .i64 a3, Value.int .i64 a4, Value.int .i64 a5, Value.int .i64 a6, Value.int .i64 a7] 28) = A3 at *
  generalize w3.heap.size = BA at *
  have HX3 := Lib.hid hX
  have HY3 := Lib.hid hY
  have HR3 := Lib.hid hR
  clear hX hY hR
  go_upto_region 6 with (go_at_call 8; go_must (refine (S2.out _ HX3.out).mono ?_; rintro e w4 ⟨rfl, hF⟩; have HF4 := Lib.hid (HX3.out.then hF); have HG4 := Lib.hid (HY3.out.then hF); have HR4 := Lib.hid (HR3.out.fr hF (fun h => h)); clear hF))
  have hX : Fr (fun _ => False) w (w4.alloc (Obj.cells #[Value.int .i64 0, Value.int .i64 b1, Value.int .i64 b2, Value.int .i64 b3, Value.int .i64 b4, Value.int .i64 b5, Value.int .i64 b6, Value.int .i64 b7] 28)) := HF4.out.alloc _
  have hY : Fr (fun _ => False) w2 (w4.alloc (Obj.cells #[Value.int .i64 0, Value.int .i64 b1, Value.int .i64 b2, Value.int .i64 b3, Value.int .i64 b4, Value.int .i64 b5, Value.int .i64 b6, Value.int .i64 b7] 28)) := HG4.out.alloc _
  have hR : RowB (w4.alloc (Obj.cells #[Value.int .i64 0, Value.int .i64 b1, Value.int .i64 b2, Value.int .i64 b3, Value.int .i64 b4, Value.int .i64 b5, Value.int .i64 b6, Value.int .i64 b7] 28)) BA 28 [Value.int .i64 0, Value.int .i64 a1, Value.int .i64 a2, Value.int .i64 a3, Value.int .i64 a4, Value.int .i64 a5, Value.int .i64 a6, Value.int .i64 a7] := HR4.out.fr ((Fr.refl (fun _ => False) w4).alloc _) (fun h => h)
  have hQ : RowB (w4.alloc (Obj.cells #[Value.int .i64 0, Value.int .i64 b1, Value.int .i64 b2, Value.int .i64 b3, Value.int .i64 b4, Value.int .i64 b5, Value.int .i64 b6, Value.int .i64 b7] 28)) w4.heap.size 28 [Value.int .i64 0, Value.int .i64 b1, Value.int .i64 b2, Value.int .i64 b3, Value.int .i64 b4, Value.int .i64 b5, Value.int .i64 b6, Value.int .i64 b7] := RowB.new w4 _ _
  generalize w4.alloc (Obj.cells #[Value.int .i64 0, Value.int .i64 b1, Value.int .i64 b2, Value.int .i64 b3, Value.int .i64 b4, Value.int .i64 b5, Value.int .i64 b6, Value.int .i64 b7] 28) = A4 at *
  generalize w4.heap.size = BB at *
  have HX4 := Lib.hid hX
  have HY4 := Lib.hid hY
  have HRa4 := Lib.hid hR
  have HRb4 := Lib.hid hQ
  clear hX hY hR hQ
  go_upto_region 7 with (go_at_call 8; go_must (refine (S3.out _ HY4.out).mono ?_; rintro e w5 ⟨rfl, hF⟩; have HF5 := Lib.hid (HX4.out.then hF); have HG5 := Lib.hid (HY4.out.then hF); have HRa5 := Lib.hid (HRa4.out.fr hF (fun h => h)); have HRb5 := Lib.hid (HRb4.out.fr hF (fun h => h)); clear hF))
  have hX : Fr (fun _ => False) w (w5.alloc (Obj.cells #[Value.int .i64 0, Value.int .i64 (a1 + b1), Value.int .i64 (a2 + b2), Value.int .i64 (a3 + b3), Value.int .i64 (a4 + b4), Value.int .i64 (a5 + b5), Value.int .i64 (a6 + b6), Value.int .i64 (a7 + b7)] 28)) := HF5.out.alloc _
  have hY : Fr (fun _ => False) w2 (w5.alloc (Obj.cells #[Value.int .i64 0, Value.int .i64 (a1 + b1), Value.int .i64 (a2 + b2), Value.int .i64 (a3 + b3), Value.int .i64 (a4 + b4), Value.int .i64 (a5 + b5), Value.int .i64 (a6 + b6), Value.int .i64 (a7 + b7)] 28)) := HG5.out.alloc _
  have hR : RowB (w5.alloc (Obj.cells #[Value.int .i64 0, Value.int .i64 (a1 + b1), Value.int .i64 (a2 + b2), Value.int .i64 (a3 + b3), Value.int .i64 (a4 + b4), Value.int .i64 (a5 + b5), Value.int .i64 (a6 + b6), Value.int .i64 (a7 + b7)] 28)) BA 28 [Value.int .i64 0, Value.int .i64 a1, Value.int .i64 a2, Value.int .i64 a3, Value.int .i64 a4, Value.int .i64 a5, Value.int .i64 a6, Value.int .i64 a7] := HRa5.out.fr ((Fr.refl (fun _ => False) w5).alloc _) (fun h => h)
  have hQ : RowB (w5.alloc (Obj.cells #[Value.int .i64 0, Value.int .i64 (a1 + b1), Value.int .i64 (a2 + b2), Value.int .i64 (a3 + b3), Value.int .i64 (a4 + b4), Value.int .i64 (a5 + b5), Value.int .i64 (a6 + b6), Value.int .i64 (a7 + b7)] 28)) BB 28 [Value.int .i64 0, Value.int .i64 b1, Value.int .i64 b2, Value.int .i64 b3, Value.int .i64 b4, Value.int .i64 b5, Value.int .i64 b6, Value.int .i64 b7] := HRb5.out.fr ((Fr.refl (fun _ => False) w5).alloc _) (fun h => h)
  have hO : RowB (w5.alloc (Obj.cells #[Value.int .i64 0, Value.int .i64 (a1 + b1), Value.int .i64 (a2 + b2), Value.int .i64 (a3 + b3), Value.int .i64 (a4 + b4), Value.int .i64 (a5 + b5), Value.int .i64 (a6 + b6), Value.int .i64 (a7 + b7)] 28)) w5.heap.size 28 [Value.int .i64 0, Value.int .i64 (a1 + b1), Value.int .i64 (a2 + b2), Value.int .i64 (a3 + b3), Value.int .i64 (a4 + b4), Value.int .i64 (a5 + b5), Value.int .i64 (a6 + b6), Value.int .i64 (a7 + b7)] := RowB.new w5 _ _
  generalize w5.alloc (Obj.cells #[Value.int .i64 0, Value.int .i64 (a1 + b1), Value.int .i64 (a2 + b2), Value.int .i64 (a3 + b3), Value.int .i64 (a4 + b4), Value.int .i64 (a5 + b5), Value.int .i64 (a6 + b6), Value.int .i64 (a7 + b7)] 28) = A5 at *
  generalize w5.heap.size = BC at *
  have HX5 := Lib.hid hX
  have HY5 := Lib.hid hY
  have HRa6 := Lib.hid hR
  have HRb6 := Lib.hid hQ
  have HRc6 := Lib.hid hO
  clear hX hY hR hQ hO
  by_cases hpq : p < q + a4 - a5
  · obtain ⟨r, hr⟩ : ∃ r, q + a4 - a5 = r := ⟨_, rfl⟩
    rw [show max p (q + (a4 - a5)) = r by omega] at P3
    have hr1 : -9000000000 ≤ r := by omega
    have hr2 : r ≤ 9000000000 := by omega
    have hpr : p < r := by omega
    have hmx : max p r = r := by omega
    clear hpq
    have T1 : Hid True := Lib.hid trivial
    have T2 : Hid True := Lib.hid trivial
    have T3 : Hid True := Lib.hid trivial
    go_upto_region 12 with (first
    | (go_at_call 10; have tok := T1.out; go_must (refine (P1.out _ HX5.out).mono ?_; rintro e w6 ⟨rfl, hF⟩; have HX6 := Lib.hid (HX5.out.then hF); have HY6 := Lib.hid (HY5.out.then hF); have HRa7 := Lib.hid (HRa6.out.fr hF (fun h => h)); have HRb7 := Lib.hid (HRb6.out.fr hF (fun h => h)); have HRc7 := Lib.hid (HRc6.out.fr hF (fun h => h)); clear hF); clear T1)
    | (go_at_call 10; have tok := T2.out; go_must (refine (P2.out _ HX6.out).mono ?_; rintro e w7 ⟨rfl, hF⟩; have HX7 := Lib.hid (HX6.out.then hF); have HY7 := Lib.hid (HY6.out.then hF); have HRa8 := Lib.hid (HRa7.out.fr hF (fun h => h)); have HRb8 := Lib.hid (HRb7.out.fr hF (fun h => h)); have HRc8 := Lib.hid (HRc7.out.fr hF (fun h => h)); clear hF); clear T2)
    | (go_at_call 10; have tok := T3.out; go_must (refine (P3.out _ HY7.out).mono ?_; rintro e w8 ⟨rfl, hF⟩; have HX8 := Lib.hid (HX7.out.then hF); have HRa9 := Lib.hid (HRa8.out.fr hF (fun h => h)); have HRb9 := Lib.hid (HRb8.out.fr hF (fun h => h)); have HRc9 := Lib.hid (HRc8.out.fr hF (fun h => h)); clear hF); clear T3))
    have za0 : w8.cell? ⟨BA, 0, none⟩ = some (.int .i64 0) := HRa9.out.cell 0
    have za1 : w8.cell? ⟨BA, 1, none⟩ = some (.int .i64 a1) := HRa9.out.cell 1
    have za2 : w8.cell? ⟨BA, 2, none⟩ = some (.int .i64 a2) := HRa9.out.cell 2
    have za3 : w8.cell? ⟨BA, 3, none⟩ = some (.int .i64 a3) := HRa9.out.cell 3
    have za4 : w8.cell? ⟨BA, 4, none⟩ = some (.int .i64 a4) := HRa9.out.cell 4
    have za5 : w8.cell? ⟨BA, 5, none⟩ = some (.int .i64 a5) := HRa9.out.cell 5
    have za6 : w8.cell? ⟨BA, 6, none⟩ = some (.int .i64 a6) := HRa9.out.cell 6
    have za7 : w8.cell? ⟨BA, 7, none⟩ = some (.int .i64 a7) := HRa9.out.cell 7
    have zb0 : w8.cell? ⟨BB, 0, none⟩ = some (.int .i64 0) := HRb9.out.cell 0
    have zb1 : w8.cell? ⟨BB, 1, none⟩ = some (.int .i64 b1) := HRb9.out.cell 1
    have zb2 : w8.cell? ⟨BB, 2, none⟩ = some (.int .i64 b2) := HRb9.out.cell 2
    have zb3 : w8.cell? ⟨BB, 3, none⟩ = some (.int .i64 b3) := HRb9.out.cell 3
    have zb4 : w8.cell? ⟨BB, 4, none⟩ = some (.int .i64 b4) := HRb9.out.cell 4
    have zb5 : w8.cell? ⟨BB, 5, none⟩ = some (.int .i64 b5) := HRb9.out.cell 5
    have zb6 : w8.cell? ⟨BB, 6, none⟩ = some (.int .i64 b6) := HRb9.out.cell 6
    have zb7 : w8.cell? ⟨BB, 7, none⟩ = some (.int .i64 b7) := HRb9.out.cell 7
    have zc0 : w8.cell? ⟨BC, 0, none⟩ = some (.int .i64 0) := HRc9.out.cell 0
    have zc1 : w8.cell? ⟨BC, 1, none⟩ = some (.int .i64 (a1 + b1)) := HRc9.out.cell 1
    have zc2 : w8.cell? ⟨BC, 2, none⟩ = some (.int .i64 (a2 + b2)) := HRc9.out.cell 2
    have zc3 : w8.cell? ⟨BC, 3, none⟩ = some (.int .i64 (a3 + b3)) := HRc9.out.cell 3
    have zc4 : w8.cell? ⟨BC, 4, none⟩ = some (.int .i64 (a4 + b4)) := HRc9.out.cell 4
    have zc5 : w8.cell? ⟨BC, 5, none⟩ = some (.int .i64 (a5 + b5)) := HRc9.out.cell 5
    have zc6 : w8.cell? ⟨BC, 6, none⟩ = some (.int .i64 (a6 + b6)) := HRc9.out.cell 6
    have zc7 : w8.cell? ⟨BC, 7, none⟩ = some (.int .i64 (a7 + b7)) := HRc9.out.cell 7
    have hsza : BA < w8.heap.size := HRa9.out.lt
    have hszb : BB < w8.heap.size := HRb9.out.lt
    have hszc : BC < w8.heap.size := HRc9.out.lt
    go_upto_region 13 with (fail)
    clear zb0 zb1 zb2 zb3 zb4 zb5 zb6 zb7 za0 za1 za2 za3 za6 za7 hn70 hm70 h70 h70' hn hm hn' hm'
    generalize a1 + b1 = d1 at *
    generalize a2 + b2 = d2 at *
    generalize a3 + b3 = d3 at *
    generalize a4 + b4 = d4 at *
    generalize a5 + b5 = d5 at *
    generalize a6 + b6 = d6 at *
    generalize a7 + b7 = d7 at *
    clear la1 ua1 la2 ua2 la3 ua3 la6 ua6 la7 ua7 lb1 ub1 lb2 ub2 lb3 ub3 lb4 ub4 lb5 ub5 lb6 ub6 lb7 ub7
    go_wp2_with (first
    | (go_at_call 5; go_must (refine (C5.out _ (HX8.out.alloc _)).mono ?_; rintro e w9 ⟨rfl, hF⟩; have HF9 := Lib.hid ((HX8.out.alloc _).then hF); clear hF)))
    go_ret
    exact ⟨rfl, HF9.out⟩
  · obtain ⟨r, hr⟩ : ∃ r, q + a4 - a5 = r := ⟨_, rfl⟩
    rw [show max p (q + (a4 - a5)) = p by omega] at P3
    have hr1 : -9000000000 ≤ r := by omega
    have hr2 : r ≤ 9000000000 := by omega
    have hpr : ¬ p < r := by omega
    have hmx : max p r = p := by omega
    clear hpq
    have T1 : Hid True := Lib.hid trivial
    have T2 : Hid True := Lib.hid trivial
    have T3 : Hid True := Lib.hid trivial
    go_upto_region 12 with (first
    | (go_at_call 10; have tok := T1.out; go_must (refine (P1.out _ HX5.out).mono ?_; rintro e w6 ⟨rfl, hF⟩; have HX6 := Lib.hid (HX5.out.then hF); have HY6 := Lib.hid (HY5.out.then hF); have HRa7 := Lib.hid (HRa6.out.fr hF (fun h => h)); have HRb7 := Lib.hid (HRb6.out.fr hF (fun h => h)); have HRc7 := Lib.hid (HRc6.out.fr hF (fun h => h)); clear hF); clear T1)
    | (go_at_call 10; have tok := T2.out; go_must (refine (P2.out _ HX6.out).mono ?_; rintro e w7 ⟨rfl, hF⟩; have HX7 := Lib.hid (HX6.out.then hF); have HY7 := Lib.hid (HY6.out.then hF); have HRa8 := Lib.hid (HRa7.out.fr hF (fun h => h)); have HRb8 := Lib.hid (HRb7.out.fr hF (fun h => h)); have HRc8 := Lib.hid (HRc7.out.fr hF (fun h => h)); clear hF); clear T2)
    | (go_at_call 10; have tok := T3.out; go_must (refine (P3.out _ HY7.out).mono ?_; rintro e w8 ⟨rfl, hF⟩; have HX8 := Lib.hid (HX7.out.then hF); have HRa9 := Lib.hid (HRa8.out.fr hF (fun h => h)); have HRb9 := Lib.hid (HRb8.out.fr hF (fun h => h)); have HRc9 := Lib.hid (HRc8.out.fr hF (fun h => h)); clear hF); clear T3))
    have za0 : w8.cell? ⟨BA, 0, none⟩ = some (.int .i64 0) := HRa9.out.cell 0
    have za1 : w8.cell? ⟨BA, 1, none⟩ = some (.int .i64 a1) := HRa9.out.cell 1
    have za2 : w8.cell? ⟨BA, 2, none⟩ = some (.int .i64 a2) := HRa9.out.cell 2
    have za3 : w8.cell? ⟨BA, 3, none⟩ = some (.int .i64 a3) := HRa9.out.cell 3
    have za4 : w8.cell? ⟨BA, 4, none⟩ = some (.int .i64 a4) := HRa9.out.cell 4
    have za5 : w8.cell? ⟨BA, 5, none⟩ = some (.int .i64 a5) := HRa9.out.cell 5
    have za6 : w8.cell? ⟨BA, 6, none⟩ = some (.int .i64 a6) := HRa9.out.cell 6
    have za7 : w8.cell? ⟨BA, 7, none⟩ = some (.int .i64 a7) := HRa9.out.cell 7
    have zb0 : w8.cell? ⟨BB, 0, none⟩ = some (.int .i64 0) := HRb9.out.cell 0
    have zb1 : w8.cell? ⟨BB, 1, none⟩ = some (.int .i64 b1) := HRb9.out.cell 1
    have zb2 : w8.cell? ⟨BB, 2, none⟩ = some (.int .i64 b2) := HRb9.out.cell 2
    have zb3 : w8.cell? ⟨BB, 3, none⟩ = some (.int .i64 b3) := HRb9.out.cell 3
    have zb4 : w8.cell? ⟨BB, 4, none⟩ = some (.int .i64 b4) := HRb9.out.cell 4
    have zb5 : w8.cell? ⟨BB, 5, none⟩ = some (.int .i64 b5) := HRb9.out.cell 5
    have zb6 : w8.cell? ⟨BB, 6, none⟩ = some (.int .i64 b6) := HRb9.out.cell 6
    have zb7 : w8.cell? ⟨BB, 7, none⟩ = some (.int .i64 b7) := HRb9.out.cell 7
    have zc0 : w8.cell? ⟨BC, 0, none⟩ = some (.int .i64 0) := HRc9.out.cell 0
    have zc1 : w8.cell? ⟨BC, 1, none⟩ = some (.int .i64 (a1 + b1)) := HRc9.out.cell 1
    have zc2 : w8.cell? ⟨BC, 2, none⟩ = some (.int .i64 (a2 + b2)) := HRc9.out.cell 2
    have zc3 : w8.cell? ⟨BC, 3, none⟩ = some (.int .i64 (a3 + b3)) := HRc9.out.cell 3
    have zc4 : w8.cell? ⟨BC, 4, none⟩ = some (.int .i64 (a4 + b4)) := HRc9.out.cell 4
    have zc5 : w8.cell? ⟨BC, 5, none⟩ = some (.int .i64 (a5 + b5)) := HRc9.out.cell 5
    have zc6 : w8.cell? ⟨BC, 6, none⟩ = some (.int .i64 (a6 + b6)) := HRc9.out.cell 6
    have zc7 : w8.cell? ⟨BC, 7, none⟩ = some (.int .i64 (a7 + b7)) := HRc9.out.cell 7
    have hsza : BA < w8.heap.size := HRa9.out.lt
    have hszb : BB < w8.heap.size := HRb9.out.lt
    have hszc : BC < w8.heap.size := HRc9.out.lt
    go_upto_region 13 with (fail)
    clear zb0 zb1 zb2 zb3 zb4 zb5 zb6 zb7 za0 za1 za2 za3 za6 za7 hn70 hm70 h70 h70' hn hm hn' hm'
    generalize a1 + b1 = d1 at *
    generalize a2 + b2 = d2 at *
    generalize a3 + b3 = d3 at *
    generalize a4 + b4 = d4 at *
    generalize a5 + b5 = d5 at *
    generalize a6 + b6 = d6 at *
    generalize a7 + b7 = d7 at *
    clear la1 ua1 la2 ua2 la3 ua3 la6 ua6 la7 ua7 lb1 ub1 lb2 ub2 lb3 ub3 lb4 ub4 lb5 ub5 lb6 ub6 lb7 ub7
    go_wp2_with (first
    | (go_at_call 5; go_must (refine (C5.out _ (HX8.out.alloc _)).mono ?_; rintro e w9 ⟨rfl, hF⟩; have HF9 := Lib.hid ((HX8.out.alloc _).then hF); clear hF)))
    go_ret
    exact ⟨rfl, HF9.out⟩
theorem sums_walk (n c : Nat) (a0 : Option Addr) (U : Nat → Nat → Int) (m d : Nat) (b0 : Option Addr) (V : Nat → Nat → Int) (w : World) (hP : PTab w) (hU : Uses w a0 n U) (hV : Uses w b0 m V) :
    Calls Tryd.prog 4 #[.slice a0 n c, .slice b0 m d] w (Ret (.bool true) w) := by
  by_cases h : 100 < n ∨ 100 < m
  · exact sums_far n c a0 m d b0 w hP h
  · by_cases h1 : listE n U = 0
    · by_cases h2 : listE m V = 0
      · by_cases h3 : 70 < n + m
        · exact sums_bad3 n c a0 U m d b0 V w hP hU hV (by omega) (by omega) h1 h2 h3
        · exact sums_good n c a0 U m d b0 V w hP hU hV (by omega) (by omega) h1 h2 (by omega)
      · exact sums_bad2 n c a0 U m d b0 V w hP hU hV (by omega) (by omega) h1 h2
    · exact sums_bad1 n c a0 U m d b0 V w hP hU hV (by omega) (by omega) h1
end Go.Proofs.YtogjfifpbplahaaDoor
