/- The sets that were put, and crash.Keeps, walked. -/
import Derived.Test.YtfdhdhmeahdpbaaGreatDoorUA
import Derived.Deep.Cut
import Derived.Deep.CutRange
import Derived.Laws.EntriesVeiled
namespace Go.Proofs.YtfdhdhmeahdpbaaGreatDoor
open Go.RowKit
set_option linter.unusedVariables false

/-- a slice of slices of ints that stands for a list of lists -/
def OutAt (w : World) (base : Nat) (v : Value) (L : List (List Int)) : Prop :=
  ∃ vs : List Value, w.ownsRow base 27 1 v L.length vs ∧ ∀ i, i < L.length → ∃ u, vs[i]? = some u ∧ u.oneCell' = true ∧ IntsAt w u (L.getD i [])
/-- rows of other types stay -/
def Keep (w w' : World) : Prop := ∀ b T vs, T ≠ 23 → T ≠ 27 → RowB w b T vs → RowB w' b T vs
theorem Keep.refl (w : World) : Keep w w := fun _ _ _ _ _ h => h
theorem Keep.trans {a b c : World} (h : Keep a b) (k : Keep b c) : Keep a c := fun x T vs h1 h2 r => k x T vs h1 h2 (h x T vs h1 h2 r)
theorem Keep.of_fr {w w' : World} (f : Fr (fun _ => False) w w') : Keep w w' := fun b T vs _ _ r => r.fr f (fun h => h)
theorem IntsAt.keep {w w' : World} {v : Value} {l : List Int} (h : IntsAt w v l) (k : Keep w w') : IntsAt w' v l := by
  rcases h.2 with ⟨rfl, h0⟩ | ⟨g, cap, cur, rfl, hb, hg, hr⟩
  · exact ⟨h.1, .inl ⟨rfl, h0⟩⟩
  · refine ⟨h.1, .inr ⟨g, cap, cur, rfl, hb, ?_, hr⟩⟩
    have := k g 3 cur.toList (by decide) (by decide) (by unfold RowB; rw [hg])
    unfold RowB at this
    rw [this]
theorem OutAt.fr {w w' : World} {base : Nat} {v : Value} {L : List (List Int)} (h : OutAt w base v L) (f : Fr (fun _ => False) w w') : OutAt w' base v L := by
  obtain ⟨vs, h1, h2⟩ := h
  exact ⟨vs, own_fr h1 f (fun _ _ h => h), fun i hi => by obtain ⟨u, a, b, c⟩ := h2 i hi; exact ⟨u, a, b, c.fr f⟩⟩
theorem OutAt.get {w : World} {base : Nat} {v : Value} {L : List (List Int)} (h : OutAt w base v L) : ∃ a0 c, v = .slice a0 L.length c ∧
    (0 < L.length → ∃ g, a0 = some ⟨g, 0, none⟩ ∧ ∀ w', Fr (fun _ => False) w w' → ∀ j, j < L.length → ∃ u, w'.cell? ⟨g, j, none⟩ = some u ∧ IntsAt w' u (L.getD j [])) := by
  obtain ⟨vs, h1, h2⟩ := h
  obtain ⟨a0, c, rfl, hc, hr⟩ := own_slice h1
  refine ⟨a0, c, rfl, fun hm => ?_⟩
  obtain ⟨g, rfl, hb, hlt, hj⟩ := hr hm
  exact ⟨g, rfl, fun w' f j hj2 => by
    obtain ⟨u, k1, _, k2⟩ := h2 j hj2
    exact ⟨u, f.cell (p := ⟨g, j, none⟩) hlt (fun h => h) (hj j u k1), k2.fr f⟩⟩
set_option maxRecDepth 100000 in
set_option maxHeartbeats 4000000 in
theorem like_walk (b : Nat) (x y : List Int) (v u : Value) (w : World) (hb : RowB w b 27 [v]) (hv : IntsAt w v x) (hu : IntsAt w u y) (hx : x.length ≤ 1000) (hy : y.length ≤ 1000) :
    Calls Tryz.prog 16 #[u, .pointer (some ⟨b, 0, none⟩)] w (Ret (.bool (decide (x = y))) w) := by
  have v0 : w.cell? ⟨b, 0, none⟩ = some v := hb.cell 0
  have HQ := Lib.hid (fun (w' : World) (f : Fr (fun _ => False) w w') => equal_walk x y v u w' (hv.fr f) (hu.fr f) hx hy)
  clear hb hv hu
  generalize decide (x = y) = r at *
  go_enter Tryz.func16, Tryz.ntmps16
  go_wp2_with (go_at_call 17; go_must (refine (HQ.out _ (Fr.refl _ _)).mono ?_; rintro e w1 ⟨rfl, hG⟩; have HF1 := Lib.hid hG; clear hG))
  go_ret
  exact ⟨rfl, HF1.out⟩
set_option maxRecDepth 100000 in
set_option maxHeartbeats 4000000 in
theorem index_walk (b base : Nat) (x : List Int) (v vx : Value) (L : List (List Int)) (w : World) (hb : RowB w b 27 [vx]) (hv : IntsAt w vx x) (hL : OutAt w base v L) (hx : x.length ≤ 1000) (hy : ∀ y ∈ L, y.length ≤ 1000) (hn : L.length ≤ 1000) :
    Calls Tryz.prog 34 #[v, .func (.func 16) #[] #[.pointer (some ⟨b, 0, none⟩)]] w
      (fun e w' => ∃ i : Int, e = .returned (.int .i64 i) ∧ Fr (fun _ => False) w w' ∧ (0 ≤ i ↔ x ∈ L)) := by
  obtain ⟨a0, c, rfl, hg⟩ := hL.get
  have HL := Lib.hid hg
  have HW := Lib.hid (fun (w' : World) (f : Fr (fun _ => False) w w') (u : Value) (k : Nat) (hk : k < L.length) (hu : IntsAt w' u (L.getD k [])) => like_walk b x (L.getD k []) vx u w' (hb.fr f (fun h => h)) (hv.fr f) hu hx (hy _ (by simp [List.getD, hk])))
  have HM : Hid (∀ k, k < L.length → decide (x = L.getD k []) = true → x ∈ L) := Lib.hid (fun k hk e => by
    have := of_decide_eq_true e
    rw [this]; simp [List.getD, hk])
  have HN : Hid ((∀ k, k < L.length → decide (x = L.getD k []) = false) → x ∉ L) := Lib.hid (fun h hm => by
    obtain ⟨k, hk, e⟩ := List.getElem_of_mem hm
    have h2 := of_decide_eq_false (h k hk)
    exact h2 (by simp [List.getD, hk, e]))
  clear hb hv hL hx hy hg
  generalize L.length = n at *
  go_enter Tryz.func34, Tryz.ntmps34
  go_wp2_with fail
  go_loopw [5, 8] (fun _ i wr => ∃ k : Nat, k ≤ n ∧ i = .int .i64 k ∧ Fr (fun _ => False) w wr ∧ Hid (∀ j, j < k → decide (x = L.getD j []) = false)) (fun _ i _ => n - (intOf i).toNat)
  case atStart => exact ⟨0, by omega, rfl, Fr.refl _ _, Lib.hid (fun j hj => by omega)⟩
  case round =>
    obtain ⟨k, hk, rfl, hF, HJ⟩ := hrel
    by_cases hlt : k < n
    · obtain ⟨g, rfl, hcc⟩ := HL.out (by omega)
      obtain ⟨u, c0, hu⟩ := hcc wr hF k hlt
      have CL := Lib.hid (fun (w0 : World) (hG : Fr (fun _ => False) wr w0) => HW.out w0 (hF.then hG) u k hlt (hu.fr hG))
      have g1 : (0 : Int) ≤ (k : Int) := by omega
      have g2 : (k : Int) < n := by omega
      have HF := Lib.hid hF
      clear hF hcc hu
      cases hq : decide (x = L.getD k [])
      · have HX := Lib.hid hq
        rw [hq] at CL
        clear hq
        go_wp2_with (first | (rw [enter_16]) | (go_at_call 16; go_must (refine (CL.out _ (by first | exact Fr.refl _ _ | exact (Fr.refl _ _).drew | exact (Fr.refl _ _).drewN _ | fail)).mono ?_; rintro e w1 ⟨rfl, hG⟩; have HG := Lib.hid hG; clear hG)))
        go_roundw
        case rel => exact ⟨k + 1, by omega, by go_num, HF.out.then HG.out, Lib.hid (fun j hj => by
          by_cases e : j = k
          · subst e; exact HX.out
          · exact HJ.out j (by omega))⟩
        case measure => simp [intOf]; omega
      · have HX := Lib.hid (HM.out k hlt hq)
        rw [hq] at CL
        clear hq
        go_wp2_with (first | (rw [enter_16]) | (go_at_call 16; go_must (refine (CL.out _ (by first | exact Fr.refl _ _ | exact (Fr.refl _ _).drew | exact (Fr.refl _ _).drewN _ | fail)).mono ?_; rintro e w1 ⟨rfl, hG⟩; have HG := Lib.hid hG; clear hG)))
        go_ret
        exact ⟨_, rfl, HF.out.then HG.out, ⟨fun _ => HX.out, fun _ => by omega⟩⟩
    · obtain rfl : k = n := by omega
      have HF := Lib.hid hF
      clear hF
      go_wp2_with fail
      go_ret
      exact ⟨-1, rfl, HF.out, ⟨fun h => by omega, fun h => absurd h (HN.out HJ.out)⟩⟩
set_option maxRecDepth 100000 in
set_option maxHeartbeats 4000000 in
theorem contains_walk (b base : Nat) (x : List Int) (v vx : Value) (L : List (List Int)) (w : World) (hb : RowB w b 27 [vx]) (hv : IntsAt w vx x) (hL : OutAt w base v L) (hx : x.length ≤ 1000) (hy : ∀ y ∈ L, y.length ≤ 1000) (hn : L.length ≤ 1000) :
    Calls Tryz.prog 15 #[v, .func (.func 16) #[] #[.pointer (some ⟨b, 0, none⟩)]] w
      (Ret (.bool (decide (x ∈ L))) w) := by
  have HW := Lib.hid (index_walk b base x v vx L w hb hv hL hx hy hn)
  clear hb hv hL hx hy hn
  by_cases hm : x ∈ L
  · have HD := Lib.hid (decide_eq_true hm)
    generalize decide (x ∈ L) = r at *
    go_enter Tryz.func15, Tryz.ntmps15
    go_wp2_with (go_at_call 34; go_must (refine HW.out.mono ?_; rintro e w1 ⟨i, rfl, hF, hi⟩; have hi2 : 0 ≤ i := hi.2 hm; have HF1 := Lib.hid hF; clear hF hi))
    go_ret
    exact ⟨by rw [HD.out] <;> first | rfl | simp [hi2], HF1.out⟩
  · have HD := Lib.hid (decide_eq_false hm)
    generalize decide (x ∈ L) = r at *
    go_enter Tryz.func15, Tryz.ntmps15
    go_wp2_with (go_at_call 34; go_must (refine HW.out.mono ?_; rintro e w1 ⟨i, rfl, hF, hi⟩; have hi2 : ¬ 0 ≤ i := fun h => hm (hi.1 h); have HF1 := Lib.hid hF; clear hF hi))
    go_ret
    exact ⟨by rw [HD.out] <;> first | rfl | simp [hi2], HF1.out⟩
end Go.Proofs.YtfdhdhmeahdpbaaGreatDoor
namespace Go.Proofs.YtfdhdhmeahdpbaaGreatDoor
open Go.RowKit
set_option linter.unusedVariables false

/-- the state of Keeps: its boxes, and the sets -/
structure St (w0 w : World) (b2 b3 b6 n m : Nat) (L : List (List Int)) : Prop where
  fr : Fr (fun _ => False) w0 w
  bn : RowB w b2 3 [.int .i64 n]
  bm : RowB w b3 3 [.int .i64 m]
  hb : w0.heap.size ≤ b6
  out : ∃ v, RowB w b6 23 [v] ∧ OutAt w w0.heap.size v L
theorem St.drewN {w0 w : World} {b2 b3 b6 n m : Nat} {L : List (List Int)} (h : St w0 w b2 b3 b6 n m L) (k : Nat) : St w0 (w.drewN k) b2 b3 b6 n m L := ⟨h.fr.drewN k, h.bn, h.bm, h.hb, h.out⟩
theorem St.step {w0 w w' : World} {b2 b3 b6 n m : Nat} {L : List (List Int)} (h : St w0 w b2 b3 b6 n m L) (f : Fr (fun _ => False) w w') : St w0 w' b2 b3 b6 n m L :=
  ⟨h.fr.then f, h.bn.fr f (fun h => h), h.bm.fr f (fun h => h), h.hb, by obtain ⟨v, a, b⟩ := h.out; exact ⟨v, a.fr f (fun h => h), b.fr f⟩⟩
/-- the list with one more -/
def putL (m : Nat) (L : List (List Int)) (x : List Int) : List (List Int) := if L.length < m ∧ x ∉ L then L ++ [x] else L
/-- a store into the box of the sets -/
theorem St.set {w0 w : World} {b2 b3 b6 n m : Nat} {L' : List (List Int)} {v0 : Value} (hf : Fr (fun _ => False) w0 w) (hbn : RowB w b2 3 [.int .i64 n]) (hbm : RowB w b3 3 [.int .i64 m]) (hb : w0.heap.size ≤ b6)
    (a : RowB w b6 23 [v0]) {v : Value} (hv : OutAt w w0.heap.size v L') : St w0 (w.setCell ⟨b6, 0, none⟩ v) b2 b3 b6 n m L' := by
  have hk : Fr (fun k => k = b6) w (w.setCell ⟨b6, 0, none⟩ v) := (Fr.refl (fun k => k = b6) w).setCell (fun _ => rfl) v
  have ne : ∀ {b T vs}, T ≠ 23 → RowB w b T vs → ¬ b = b6 := fun hT r e => by
    subst e
    unfold RowB at r a
    rw [r] at a
    cases a
    exact hT rfl
  have f0 : Fr (fun _ => False) w0 (w.setCell ⟨b6, 0, none⟩ v) := hf.setCell (fun hlt => by simp at hlt; omega) v
  refine ⟨f0, hbn.fr hk (ne (by decide) hbn), hbm.fr hk (ne (by decide) hbm), hb, v, a.set 0 v, ?_⟩
  obtain ⟨vs, h1, h2⟩ := hv
  refine ⟨vs, own_fr h1 hk (fun g hg e => ?_), fun i hi => ?_⟩
  · subst e
    rcases h1.2 with ⟨rfl, _⟩ | ⟨g', cap, cur, rfl, _, hg', _⟩
    · cases hg
    · cases hg
      unfold RowB at a
      rw [hg'] at a
      cases a
  · obtain ⟨u, k1, k2, k3⟩ := h2 i hi
    refine ⟨u, k1, k2, own_fr k3 hk (fun g hg e => ?_)⟩
    subst e
    rcases k3.2 with ⟨rfl, _⟩ | ⟨g', cap, cur, rfl, _, hg', _⟩
    · cases hg
    · cases hg
      unfold RowB at a
      rw [hg'] at a
      cases a
theorem keep_set {w : World} {b6 : Nat} {v v0 : Value} (a : RowB w b6 23 [v0]) : Keep w (w.setCell ⟨b6, 0, none⟩ v) := fun b T vs h1 h2 r =>
  r.fr ((Fr.refl (fun k => k = b6) w).setCell (fun _ => rfl) v) (fun e => by
    subst e
    unfold RowB at r a
    rw [r] at a
    cases a
    exact h1 rfl)
/-- behind an append to the sets -/
theorem out_grow {w w' : World} {base : Nat} {v v' u : Value} {L : List (List Int)} {x : List Int} {vs : List Value} (h1 : w.ownsRow base 27 1 v L.length vs)
    (h2 : ∀ i, i < L.length → ∃ u, vs[i]? = some u ∧ u.oneCell' = true ∧ IntsAt w u (L.getD i [])) (hu : IntsAt w u x) (hu1 : u.oneCell' = true)
    (ho : w'.ownsRow base 27 1 v' (L.length + 1) (vs ++ [u])) (k : Keep w w') : OutAt w' base v' (L ++ [x]) := by
  have hl : vs.length = L.length := by simpa using h1.1
  refine ⟨vs ++ [u], by simpa using ho, fun i hi => ?_⟩
  have hi : i < L.length + 1 := by simpa using hi
  by_cases e : i < L.length
  · obtain ⟨u', k1, k2, k3⟩ := h2 i e
    refine ⟨u', by rw [List.getElem?_append_left (by omega)]; exact k1, k2, ?_⟩
    have : (L ++ [x]).getD i [] = L.getD i [] := by simp [List.getD, List.getElem?_append_left e]
    rw [this]; exact k3.keep k
  · obtain rfl : i = L.length := by omega
    refine ⟨u, by rw [List.getElem?_append_right (by omega)]; simp [hl], hu1, ?_⟩
    have : (L ++ [x]).getD L.length [] = x := by simp [List.getD]
    rw [this]; exact hu.keep k
theorem row_grow {w w' : World} {base : Nat} {v : Value} {n : Nat} {vs : List Value} (h : w.ownsRow base 27 1 v n vs) (g : w.grownBy w' v.ownBlock) {b T : Nat} {xs : List Value} (h2 : T ≠ 27) (r : RowB w b T xs) : RowB w' b T xs := by
  refine r.of_block (g.block b r.lt (fun e => ?_))
  rcases h.2 with ⟨rfl, _⟩ | ⟨g', cap, cur, rfl, _, hg', _⟩
  · cases e
  · cases e
    unfold RowB at r
    rw [hg'] at r
    cases r
    exact h2 rfl
theorem keep_grow {w w' : World} {base : Nat} {v : Value} {n : Nat} {vs : List Value} (h : w.ownsRow base 27 1 v n vs) (g : w.grownBy w' v.ownBlock) : Keep w w' := fun _ _ _ _ h2 r => row_grow h g h2 r
theorem own_one {w : World} {base e size n : Nat} {v : Value} {xs : List Value} (h : w.ownsRow base e size v n xs) : v.oneCell' = true := by
  rcases h.2 with ⟨rfl, _⟩ | ⟨g', cap, cur, rfl, _, hg', _⟩ <;> rfl
set_option maxRecDepth 100000 in
set_option maxHeartbeats 4000000 in
theorem put_walk (w0 w : World) (b2 b3 b6 n m : Nat) (L : List (List Int)) (F : FuncId) (b : Array Value) (p : Nat → Bool) (hS : St w0 w b2 b3 b6 n m L) (hn : n ≤ 1000) (hL : L.length ≤ 1000) (hy : ∀ y ∈ L, y.length ≤ 1000)
    (hE : ∀ (xs : Array Value) (w' : World), Sem.run Tryz.prog (callFunc F xs) w' = .ok (.enter F xs) w')
    (hc : ∀ w', Fr (fun _ => False) w w' → ∀ k : Nat, k < n → Calls Tryz.prog F (#[.int .i64 k] ++ b) w' (Ret (.bool (p k)) w')) :
    Calls Tryz.prog 14 #[.func (.func F) #[] b, .pointer (some ⟨b2, 0, none⟩), .pointer (some ⟨b6, 0, none⟩), .pointer (some ⟨b3, 0, none⟩)] w
      (fun e w' => (∃ x, e = .returned x) ∧ St w0 w' b2 b3 b6 n m (putL m L (filt p n)) ∧ Keep w w') := by
  obtain ⟨vo, ho, hO⟩ := hS.out
  have v2 : w.cell? ⟨b2, 0, none⟩ = some (.int .i64 n) := hS.bn.cell 0
  have HW := Lib.hid (some_walk n hn F b p w hE hc)
  have HS := Lib.hid hS
  have hlen := filt_len p n
  clear hS hc ho hO hE
  generalize filt p n = x at *
  go_enter Tryz.func14, Tryz.ntmps14
  go_upto_region 1 with (go_at_call 12; go_must (refine HW.out.mono ?_; rintro e w1 ⟨vx, rfl, hX, hF⟩; obtain ⟨ax, cx, rfl, _, _⟩ := own_slice hX; have HX := Lib.hid hX; have HF := Lib.hid hF; clear hX hF))
  change Code.wp _ _ _ _ (w1.alloc (Obj.cells #[Value.slice ax x.length cx] 27))
  have FW : Fr (fun _ => False) w1 (w1.alloc (Obj.cells #[Value.slice ax x.length cx] 27)) := (Fr.refl _ w1).alloc _
  have HSW := Lib.hid (HS.out.step (HF.out.then FW))
  have HX1 := Lib.hid (show IntsAt _ _ x from own_mono (own_fr HX.out FW (fun _ _ h => h)) (Nat.zero_le _))
  have HB := Lib.hid (RowB.new w1 27 [.slice ax x.length cx])
  have HK := Lib.hid (Keep.of_fr (HF.out.then FW))
  clear FW HX HW v2
  have HFW := Lib.hid HF.out.size
  clear HF
  generalize w1.heap.size = b5 at *
  generalize (w1.alloc (Obj.cells #[Value.slice ax x.length cx] 27)) = W at *
  obtain ⟨vo, ho, hO⟩ := HSW.out.out
  obtain ⟨ao, co, rfl, _⟩ := hO.get
  have HO := Lib.hid hO
  have v0 : W.cell? ⟨b6, 0, none⟩ = some (.slice ao L.length co) := ho.cell 0
  have v3 : W.cell? ⟨b3, 0, none⟩ = some (.int .i64 m) := HSW.out.bm.cell 0
  have HHO := Lib.hid ho
  clear ho hO HS
  by_cases hlt : L.length < m
  · have q1 : (L.length : Int) < (m : Int) := by omega
    have HC := Lib.hid (contains_walk b5 w0.heap.size x _ _ L W HB.out HX1.out HO.out (by omega) hy hL)
    by_cases hm : x ∈ L
    · have HP := Lib.hid (show putL m L x = L by unfold putL; rw [if_neg (fun h => h.2 hm)])
      rw [decide_eq_true hm] at HC
      clear hm hy
      go_wp2_with (go_at_call 15; go_must (refine HC.out.mono ?_; rintro e w2 ⟨rfl, hG⟩; have HG := Lib.hid hG; clear hG))
      exact ⟨rfl, _, results_none rfl _ _ _, ⟨_, rfl⟩, by rw [HP.out]; exact HSW.out.step HG.out, HK.out.trans (Keep.of_fr HG.out)⟩
    · have HP := Lib.hid (show putL m L x = L ++ [x] by unfold putL; rw [if_pos ⟨hlt, hm⟩])
      rw [decide_eq_false hm] at HC
      obtain ⟨vs, h1, h2⟩ := HO.out
      have HO1 := Lib.hid h1
      have HO2 := Lib.hid h2
      obtain ⟨i0, hinf, hz0, hz1, hz2⟩ := info_parts ints_info
      have HI := Lib.hid (And.intro hinf (And.intro hz0 (And.intro hz1 hz2)))
      clear hm hy h1 h2 hinf hz0 hz1 hz2
      go_wp2_with (first | (go_at_call 15; go_must (refine HC.out.mono ?_; rintro e w2 ⟨rfl, hG⟩; have HG := Lib.hid hG; clear hG; have c6 : w2.cell? ⟨b6, 0, none⟩ = some (.slice ao L.length co) := (HHO.out.fr HG.out (fun h => h)).cell 0; have c5 : w2.cell? ⟨b5, 0, none⟩ = some (.slice ax x.length cx) := (HB.out.fr HG.out (fun h => h)).cell 0)) | (at_builtin; go_must (refine wpList_append_any rfl _ _ 23 rfl w0.heap.size 27 i0 _ 1 24 Tryz.underlying23 HI.out.1 HI.out.2.1 HI.out.2.2.1 HI.out.2.2.2 rfl (by decide) (.slice ao L.length co) L.length vs rfl (own_fr HO1.out (HG.out.alloc _) (fun _ _ h => h)) (some ⟨w2.heap.size, 0, none⟩) 1 1 [.slice ax x.length cx] rfl rfl (fun _ => ⟨w2.heap.size, 0, rfl, fun j u hj => ((RowB.new w2 27 [.slice ax x.length cx]).cell (0 + j)).trans (by rw [Nat.zero_add]; exact hj)⟩) (fun u hu => by rw [List.mem_singleton.1 hu]; rfl) (by unfold maxLen; omega) (by omega) (by have h1 := HSW.out.fr.size; have h2 := HG.out.size; rw [alloc_size]; omega) ?_; intro v' w3 hown hgrow hat; obtain ⟨a', c', rfl, _, _⟩ := own_slice hown; have HO3 := Lib.hid hown; have HGR := Lib.hid hgrow; have HOA := Lib.hid (own_fr HO1.out (HG.out.alloc (Obj.cells #[.slice ax x.length cx] 27)) (fun _ _ h => h)); have R6 := Lib.hid (row_grow HOA.out HGR.out (by decide) (HHO.out.fr (HG.out.alloc (Obj.cells #[.slice ax x.length cx] 27)) (fun h => h))); clear hown hgrow hat; have d6 : w3.cell? ⟨b6, 0, none⟩ = some (.slice ao L.length co) := R6.out.cell 0; have f6 := R6.out.frozen 0)))
      have FA := HG.out.alloc (Obj.cells #[.slice ax x.length cx] 27)
      have K3 := keep_grow HOA.out HGR.out
      refine ⟨rfl, _, results_none rfl _ _ _, ⟨_, rfl⟩, ?_, ?_⟩
      · rw [HP.out]
        exact St.set (fr_grow (HSW.out.fr.then FA) HGR.out (fun g hg => own_block_ge HOA.out g hg)) (row_grow HOA.out HGR.out (by decide) (HSW.out.bn.fr FA (fun h => h))) (row_grow HOA.out HGR.out (by decide) (HSW.out.bm.fr FA (fun h => h))) HSW.out.hb R6.out
          (out_grow HOA.out (fun i hi => by obtain ⟨u, k1, k2, k3⟩ := HO2.out i hi; exact ⟨u, k1, k2, k3.fr FA⟩) (HX1.out.fr FA) rfl HO3.out K3)
      · exact ((HK.out.trans (Keep.of_fr FA)).trans K3).trans (keep_set R6.out)
  · have q1 : ¬ (L.length : Int) < (m : Int) := by omega
    have HP := Lib.hid (show putL m L x = L by unfold putL; rw [if_neg (fun h => hlt h.1)])
    clear hlt hy
    go_wp2_with fail
    exact ⟨rfl, _, results_none rfl _ _ _, ⟨_, rfl⟩, by rw [HP.out]; exact HSW.out, HK.out⟩
end Go.Proofs.YtfdhdhmeahdpbaaGreatDoor
namespace Go.Proofs.YtfdhdhmeahdpbaaGreatDoor
open Go.RowKit
set_option linter.unusedVariables false

theorem mem_filt {p : Nat → Bool} {n k : Nat} : (k : Int) ∈ filt p n ↔ k < n ∧ p k = true := by
  unfold filt
  rw [List.mem_map]
  constructor
  · rintro ⟨j, hj, e⟩
    have : j = k := Int.ofNat.inj e
    subst this
    rw [List.mem_filter, List.mem_range] at hj
    exact hj
  · intro h
    exact ⟨k, by rw [List.mem_filter, List.mem_range]; exact h, rfl⟩
theorem filt_inj {p q : Nat → Bool} {n : Nat} (h : filt p n = filt q n) : ∀ k, k < n → p k = q k := fun k hk => by
  have h1 : (k : Int) ∈ filt p n ↔ (k : Int) ∈ filt q n := by rw [h]
  rw [mem_filt, mem_filt] at h1
  cases e : p k <;> cases e' : q k
  · rfl
  · have := h1.2 ⟨hk, e'⟩; rw [e] at this; cases this.2
  · have := h1.1 ⟨hk, e⟩; rw [e'] at this; cases this.2
  · rfl
/-- what Keeps returns -/
structure Good (n m : Nat) (L : List (List Int)) : Prop where
  diff : L.Pairwise (fun a b => a ≠ b)
  of : ∀ x ∈ L, ∃ p, x = filt p n
  most : L.length ≤ m
  some : 1 ≤ L.length
  more : m = 1 ∨ n = 0 ∨ 1 < L.length
  all : n ≤ 6 → 2 ^ n ≤ m → L.length = 2 ^ n
/-- the sets of the first numbers, by their bits -/
def bitsL (n k : Nat) : List (List Int) := (List.range k).map (fun i => filt (fun j => i.testBit j) n)
theorem bitsL_succ (n k : Nat) : bitsL n (k + 1) = bitsL n k ++ [filt (fun j => k.testBit j) n] := by unfold bitsL; rw [List.range_succ, List.map_append]; rfl
theorem bitsL_len (n k : Nat) : (bitsL n k).length = k := by simp [bitsL]
theorem out_nil (w : World) (base : Nat) : OutAt w base (.slice none 0 0) [] := ⟨[], World.ownsRow_nil _ _ _ _, fun i hi => by simp at hi⟩
theorem start_st (w : World) (n m : Nat) : St w (((w.alloc (Obj.cells #[Value.int .i64 n] 3)).alloc (Obj.cells #[Value.int .i64 m] 3)).alloc (Obj.cells #[Value.slice none 0 0] 23)) w.heap.size (w.heap.size + 1) (w.heap.size + 1 + 1) n m [] := by
  have r1 := RowB.new w 3 [.int .i64 n]
  have r2 := RowB.new (w.alloc (Obj.cells #[Value.int .i64 n] 3)) 3 [.int .i64 m]
  have r3 := RowB.new ((w.alloc (Obj.cells #[Value.int .i64 n] 3)).alloc (Obj.cells #[Value.int .i64 m] 3)) 23 [.slice none 0 0]
  rw [alloc_size] at r2
  rw [alloc_size, alloc_size] at r3
  exact ⟨(((Fr.refl _ w).alloc _).alloc _).alloc _, (r1.fr ((Fr.refl (fun _ => False) _).alloc _) (fun h => h)).fr ((Fr.refl (fun _ => False) _).alloc _) (fun h => h), r2.fr ((Fr.refl (fun _ => False) _).alloc _) (fun h => h), by omega, _, r3, out_nil _ _⟩
theorem good_bits {n m T : Nat} (h : T = 2 ^ n) (ht : T ≤ m) : Good n m (bitsL n T) := by
  have h1 : 1 ≤ T := by rw [h]; exact Nat.one_le_two_pow
  refine ⟨?_, fun x hx => ?_, by rw [bitsL_len]; exact ht, by rw [bitsL_len]; exact h1, ?_, fun _ _ => by rw [bitsL_len]; exact h⟩
  · unfold bitsL
    rw [List.pairwise_map]
    refine List.Pairwise.imp_of_mem (R := fun a b => a ≠ b) (fun {a b} ha hb hab e => hab ?_) List.nodup_range
    rw [List.mem_range] at ha hb
    refine Nat.eq_of_testBit_eq fun k => ?_
    by_cases hk : k < n
    · exact filt_inj e k hk
    · have hp : 2 ^ n ≤ 2 ^ k := Nat.pow_le_pow_right (by omega) (by omega)
      rw [Nat.testBit_lt_two_pow (by omega), Nat.testBit_lt_two_pow (by omega)]
  · unfold bitsL at hx
    rw [List.mem_map] at hx
    obtain ⟨i, _, rfl⟩ := hx
    exact ⟨_, rfl⟩
  · by_cases e : n = 0
    · exact .inr (.inl e)
    · refine .inr (.inr ?_)
      rw [bitsL_len, h]
      exact Nat.one_lt_two_pow e
/-- what stays true while sets are put -/
structure GoodP (n m : Nat) (L : List (List Int)) : Prop where
  diff : L.Pairwise (fun a b => a ≠ b)
  of : ∀ x ∈ L, ∃ p, x = filt p n
  most : L.length ≤ m
  some : 1 ≤ L.length
  more : m = 1 ∨ n = 0 ∨ 1 < L.length
theorem GoodP.short {n m : Nat} {L : List (List Int)} (h : GoodP n m L) : ∀ y ∈ L, y.length ≤ n := fun y hy => by
  obtain ⟨p, rfl⟩ := h.of y hy
  exact filt_len p n
theorem GoodP.put {n m : Nat} {L : List (List Int)} (h : GoodP n m L) (p : Nat → Bool) : GoodP n m (putL m L (filt p n)) := by
  unfold putL
  split
  · rename_i hc
    refine ⟨?_, fun x hx => ?_, by rw [List.length_append]; simp; omega, by rw [List.length_append]; simp, ?_⟩
    · rw [List.pairwise_append]
      refine ⟨h.diff, List.pairwise_singleton _ _, fun a ha b hb e => ?_⟩
      rw [List.mem_singleton] at hb
      subst hb; subst e
      exact hc.2 ha
    · rw [List.mem_append, List.mem_singleton] at hx
      rcases hx with hx | rfl
      · exact h.of x hx
      · exact ⟨p, rfl⟩
    · have := h.some
      exact .inr (.inr (by rw [List.length_append]; simp; omega))
  · exact h
theorem good_two {n m : Nat} (hm : 1 ≤ m) : GoodP n m (putL m (putL m [] (filt (fun _ => false) n)) (filt (fun _ => true) n)) := by
  have e1 : putL m [] (filt (fun _ => false) n) = [filt (fun _ => false) n] := by unfold putL; rw [if_pos ⟨by simp; omega, by simp⟩]; rfl
  rw [e1]
  unfold putL
  split
  · rename_i hc
    refine ⟨?_, fun x hx => ?_, by simp at hc ⊢; omega, by simp, .inr (.inr (by simp))⟩
    · rw [List.singleton_append, List.pairwise_cons]
      refine ⟨fun b hb e => hc.2 ?_, List.pairwise_singleton _ _⟩
      rw [List.mem_singleton] at hb
      subst hb; rw [e]; simp
    · rw [List.mem_append, List.mem_singleton, List.mem_singleton] at hx
      rcases hx with rfl | rfl <;> exact ⟨_, rfl⟩
  · rename_i hc
    refine ⟨List.pairwise_singleton _ _, fun x hx => ⟨_, List.mem_singleton.1 hx⟩, by simp; omega, by simp, ?_⟩
    by_cases h1 : m = 1
    · exact .inl h1
    · refine .inr (.inl ?_)
      by_cases hn : n = 0
      · exact hn
      · exfalso
        refine hc ⟨by simp; omega, fun hx => ?_⟩
        rw [List.mem_singleton] at hx
        have := filt_inj hx 0 (by omega)
        cases this
theorem GoodP.good {n m : Nat} {L : List (List Int)} (h : GoodP n m L) (hs : ¬ (n ≤ 6 ∧ 2 ^ n ≤ m)) : Good n m L := ⟨h.diff, h.of, h.most, h.some, h.more, fun h1 h2 => absurd ⟨h1, h2⟩ hs⟩
/-- the four kinds -/
def kindV : List Value := [.func (.func 20) #[] #[], .func (.func 21) #[] #[], .func (.func 22) #[] #[], .func (.func 23) #[] #[]]
theorem kind_at (j : Nat) (hj : j < 4) : ∃ (F : FuncId) (q : Nat → Nat → Bool), kindV[j]? = some (.func (.func F) #[] #[]) ∧ (∀ (xs : Array Value) (w' : World), Sem.run Tryz.prog (callFunc F xs) w' = .ok (.enter F xs) w') ∧
    ∀ (i k : Nat) (w' : World), Calls Tryz.prog F #[.int .i64 i, .int .i64 k] w' (Ret (.bool (q i k)) w') := by
  obtain rfl | rfl | rfl | rfl : j = 0 ∨ j = 1 ∨ j = 2 ∨ j = 3 := by omega
  · exact ⟨_, _, rfl, enter_20, fun i k w' => le_walk i k w'⟩
  · exact ⟨_, _, rfl, enter_21, fun i k w' => gt_walk i k w'⟩
  · exact ⟨_, _, rfl, enter_22, fun i k w' => eq_walk i k w'⟩
  · exact ⟨_, _, rfl, enter_23, fun i k w' => ne_walk i k w'⟩
/-- the int in a box -/
def boxInt (v : Value) (w : World) : Nat := match v with | .pointer (some a) => (match w.cell? a with | some (.int _ z) => z.toNat | _ => 0) | _ => 0
theorem box_of {w : World} {a : Addr} {k : IntKind} {z : Int} (h : w.cell? a = some (.int k z)) : boxInt (.pointer (some a)) w = z.toNat := by simp only [boxInt, h]
set_option maxRecDepth 100000 in
set_option maxHeartbeats 4000000 in
theorem keeps_walk (n m : Nat) (w : World) (hn : n ≤ 400) (hm : 1 ≤ m) (hm2 : m ≤ 64) :
    Calls Tryz.prog 5 #[.int .i64 n, .int .i64 m] w
      (fun e w' => ∃ v L, e = .returned (.tuple #[v, .int .i64 0]) ∧ OutAt w' w.heap.size v L ∧ Good n m L ∧ Fr (fun _ => False) w w') := by
  have q0 : ¬ (n : Int) < 0 := by omega
  have q1 : ¬ (400 : Int) < n := by omega
  have q2 : ¬ (m : Int) < 1 := by omega
  have q3 : ¬ (64 : Int) < m := by omega
  go_enter Tryz.func5, Tryz.ntmps5
  go_upto_region 4 with fail
  change Code.wp _ _ _ _ (((w.alloc (Obj.cells #[Value.int .i64 n] 3)).alloc (Obj.cells #[Value.int .i64 m] 3)).alloc (Obj.cells #[Value.slice none 0 0] 23))
  have HS := Lib.hid (start_st w n m)
  generalize (((w.alloc (Obj.cells #[Value.int .i64 n] 3)).alloc (Obj.cells #[Value.int .i64 m] 3)).alloc (Obj.cells #[Value.slice none 0 0] 23)) = W at *
  have c2 : W.cell? ⟨w.heap.size, 0, none⟩ = some (.int .i64 n) := HS.out.bn.cell 0
  have c3 : W.cell? ⟨w.heap.size + 1, 0, none⟩ = some (.int .i64 m) := HS.out.bm.cell 0
  by_cases h6 : n ≤ 6
  · have q4 : (n : Int) ≤ 6 := by omega
    obtain ⟨T, hT⟩ : ∃ T : Nat, T = 2 ^ n := ⟨_, rfl⟩
    have hw : wrap64 ((2 : Int) ^ n) = T := by
      rw [hT]
      have : ∀ k : Fin 7, wrap64 ((2 : Int) ^ k.1) = ((2 ^ k.1 : Nat) : Int) := by decide +kernel
      exact this ⟨n, by omega⟩
    have hT64 : T ≤ 64 := by
      rw [hT]
      exact Nat.pow_le_pow_right (show 0 < 2 by omega) h6
    by_cases ht : T ≤ m
    · have q5 : (T : Int) ≤ m := by omega
      have HT := Lib.hid hT
      clear hT
      go_quiet (fail)
      go_wp2_with fail
      have HS := Lib.hid (HS.out.drewN nq)
      generalize W.drewN nq = W1 at *
      go_loopw [7, 36] (fun _ i wr => ∃ k : Nat, k ≤ T ∧ i = .int .i64 k ∧ St w wr w.heap.size (w.heap.size + 1) (w.heap.size + 1 + 1) n m (bitsL n k)) (fun _ i _ => T - (intOf i).toNat)
      case atStart => exact ⟨0, by omega, rfl, HS.out⟩
      case round =>
        obtain ⟨k, hk, rfl, hst⟩ := hrel
        by_cases hlt : k < T
        · have g2 : (k : Int) < T := by omega
          have HR := Lib.hid hst
          have FA := (Fr.refl (fun _ => False) wr).alloc (Obj.cells #[Value.int .i64 k] 3)
          have HR1 := Lib.hid (hst.step FA)
          have HB := Lib.hid (RowB.new wr 3 [.int .i64 k])
          clear hst
          go_upto_region 8 with fail
          change Code.wp _ _ _ _ (wr.alloc (Obj.cells #[Value.int .i64 k] 3))
          have HSZ := Lib.hid (show w.heap.size ≤ (wr.alloc (Obj.cells #[Value.int .i64 k] 3)).heap.size from HR1.out.fr.size)
          generalize (wr.alloc (Obj.cells #[Value.int .i64 k] 3)) = W8 at *
          generalize wr.heap.size = b7 at *
          obtain ⟨vo, ho, vs, h1, h2⟩ := HR1.out.out
          obtain ⟨ao, co, rfl, _, _⟩ := own_slice h1
          have HHO := Lib.hid ho
          have HO1 := Lib.hid h1
          have HO2 := Lib.hid h2
          have HLn := Lib.hid (bitsL_len n k)
          have HLs := Lib.hid (bitsL_succ n k)
          have hkl : (bitsL n k).length ≤ 64 := by rw [bitsL_len]; omega
          have c6 : W8.cell? ⟨w.heap.size + 1 + 1, 0, none⟩ = some (.slice ao (bitsL n k).length co) := ho.cell 0
          have c2 : W8.cell? ⟨w.heap.size, 0, none⟩ = some (.int .i64 n) := HR1.out.bn.cell 0
          have HC := Lib.hid (fun (W' : World) (f : Fr (fun _ => False) W8 W') => some_walk n (by omega) 13 #[.pointer (some ⟨b7, 0, none⟩)] (fun j => k.testBit j) W' (fun xs w' => enter_13 xs w') (fun w' f' j hj => bit_walk b7 k j w' (by omega) (by omega) (HB.out.fr (f.then f') (fun h => h))))
          obtain ⟨i0, hinf, hz0, hz1, hz2⟩ := info_parts ints_info
          have HI := Lib.hid (And.intro hinf (And.intro hz0 (And.intro hz1 hz2)))
          clear ho h1 h2 hinf hz0 hz1 hz2 FA HR
          generalize bitsL n k = L at *
          generalize filt (fun j => k.testBit j) n = x at *
          refine wp_region_noPanic ?_
          refine wp_region_held_drew (S := fun w' => w'.cell? ⟨w.heap.size, 0, none⟩ = some (.int .i64 n)) (by kernel_rfl) c2 (fun hS => ?_)
          refine held_take (i := 1) (v := ?vk0) rfl (by kernel_rfl) (by kernel_rfl) (by kernel_rfl) (fun _ _ _ h => h) (by rfl) ?hk0 hS ?rk0
          case hk0 => intro w0 hS0; first | (go_simp; done) | (go_simp; with_reducible rfl)
          try simp only [Act.put, List.setIfInBounds_toArray, List.set_cons_zero, List.set_cons_succ]
          refine held_take (i := 2) (v := ?vk1) rfl (by kernel_rfl) (by kernel_rfl) (by kernel_rfl) (fun _ _ _ h => h) (by rfl) ?hk1 hS ?rk1
          case hk1 => intro w0 hS0; first | (go_simp; done) | (go_simp; with_reducible rfl)
          try simp only [Act.put, List.setIfInBounds_toArray, List.set_cons_zero, List.set_cons_succ]
          refine held_two (i := 0) (j := 3) rfl rfl (by kernel_rfl) (by rfl) (by rfl) (fun K hK => ?_) (fun K hK => ?_)
          · skip
            go_simp
            go_wp2_with fail
            refine hK.out _ _ hS ?_
            clear hK K
            try simp only [Act.put, List.setIfInBounds_toArray, List.set_cons_zero, List.set_cons_succ]
            refine held_step (i := 3) rfl (by kernel_rfl) (by rfl) (fun K hK => ?_)
            go_simp
            go_wp2_with (go_at_call 12; go_must (refine (HC.out _ (Fr.refl _ _).drew).mono ?_; rintro e w1 ⟨vx, rfl, hX, hG⟩; obtain ⟨ax, cx, rfl, _, _⟩ := own_slice hX; have HX := Lib.hid hX; have HG := Lib.hid (show Fr (fun _ => False) W8 w1 from (Fr.refl _ W8).drew.then hG); clear hX hG))
            have c6 : w1.cell? ⟨w.heap.size + 1 + 1, 0, none⟩ = some (.slice ao L.length co) := (HHO.out.fr HG.out (fun h => h)).cell 0
            have hS1 : w1.cell? ⟨w.heap.size, 0, none⟩ = some (.int .i64 n) := (HR1.out.bn.fr HG.out (fun h => h)).cell 0
            refine hK.out _ _ hS1 ?_
            clear hK K
            try simp only [Act.put, List.setIfInBounds_toArray, List.set_cons_zero, List.set_cons_succ]
            refine held_step (i := 4) rfl (by kernel_rfl) (by rfl) (fun K hK => ?_)
            go_simp
            go_wp2_with fail
            have FA := HG.out.alloc (Obj.cells #[.slice ax x.length cx] 27)
            have c6b : (w1.alloc (Obj.cells #[.slice ax x.length cx] 27)).cell? ⟨w.heap.size + 1 + 1, 0, none⟩ = some (.slice ao L.length co) := (HHO.out.fr FA (fun h => h)).cell 0
            have hS2 : (w1.alloc (Obj.cells #[.slice ax x.length cx] 27)).cell? ⟨w.heap.size, 0, none⟩ = some (.int .i64 n) := (HR1.out.bn.fr FA (fun h => h)).cell 0
            refine hK.out _ _ hS2 ?_
            clear hK K
            try simp only [Act.put, List.setIfInBounds_toArray, List.set_cons_zero, List.set_cons_succ]
            refine held_step (i := 5) rfl (by kernel_rfl) (by rfl) (fun K hK => ?_)
            refine wp_append_any _ _ 23 rfl w.heap.size 27 i0 _ 1 24 Tryz.underlying23 HI.out.1 HI.out.2.1 HI.out.2.2.1 HI.out.2.2.2 rfl (by decide) (.slice ao L.length co) L.length vs rfl (own_fr HO1.out FA (fun _ _ h => h)) (some ⟨w1.heap.size, 0, none⟩) 1 1 [.slice ax x.length cx] rfl rfl (fun _ => ⟨w1.heap.size, 0, rfl, fun j u hj => ((RowB.new w1 27 [.slice ax x.length cx]).cell (0 + j)).trans (by rw [Nat.zero_add]; exact hj)⟩) (fun u hu => by rw [List.mem_singleton.1 hu]; rfl) (by unfold maxLen; omega) (by omega) (by have h1 := HSZ.out; have h2 := HG.out.size; rw [alloc_size]; omega) ?_
            intro v' w3 hown hgrow hat
            obtain ⟨a', c', rfl, _, _⟩ := own_slice hown
            have HO3 := Lib.hid hown
            have HGR := Lib.hid hgrow
            have HOA := Lib.hid (own_fr HO1.out FA (fun _ _ h => h))
            have R6 := Lib.hid (row_grow HOA.out HGR.out (by decide) (HHO.out.fr FA (fun h => h)))
            have RN := Lib.hid (row_grow HOA.out HGR.out (by decide) (HR1.out.bn.fr FA (fun h => h)))
            have RM := Lib.hid (row_grow HOA.out HGR.out (by decide) (HR1.out.bm.fr FA (fun h => h)))
            clear hown hgrow hat c6 c6b
            have d6 : w3.cell? ⟨w.heap.size + 1 + 1, 0, none⟩ = some (.slice ao L.length co) := R6.out.cell 0
            have f6 := R6.out.frozen 0
            have hS3 : w3.cell? ⟨w.heap.size, 0, none⟩ = some (.int .i64 n) := RN.out.cell 0
            refine hK.out _ _ hS3 ?_
            clear hK K
            try simp only [Act.put, List.setIfInBounds_toArray, List.set_cons_zero, List.set_cons_succ]
            refine held_step (i := 6) rfl (by kernel_rfl) (by rfl) (fun K hK => ?_)
            go_simp
            go_wp2_with fail
            have HST := Lib.hid (St.set (fr_grow (HR1.out.fr.then FA) HGR.out (fun g hg => own_block_ge HOA.out g hg)) RN.out RM.out HR1.out.hb R6.out (out_grow HOA.out (fun i hi => by obtain ⟨u, k1, k2, k3⟩ := HO2.out i hi; exact ⟨u, k1, k2, k3.fr FA⟩) (IntsAt.fr (show IntsAt w1 _ x from own_mono HX.out (Nat.zero_le _)) ((Fr.refl _ w1).alloc (Obj.cells #[.slice ax x.length cx] 27))) rfl HO3.out (keep_grow HOA.out HGR.out)))
            refine hK.out _ _ (HST.out.bn.cell 0) ?_
            clear hK K
            try simp only [Act.put, List.setIfInBounds_toArray, List.set_cons_zero, List.set_cons_succ]
            refine held_done (by kernel_rfl) ?_
            refine NoPanic.normal ?_
            go_wp2_with fail
            go_roundw
            case rel => exact ⟨k + 1, by omega, by go_num, by rw [HLs.out]; exact HST.out⟩
            case measure => simp [intOf]; omega
          · skip
            go_simp
            go_wp2_with (go_at_call 12; go_must (refine (HC.out _ (Fr.refl _ _).drew).mono ?_; rintro e w1 ⟨vx, rfl, hX, hG⟩; obtain ⟨ax, cx, rfl, _, _⟩ := own_slice hX; have HX := Lib.hid hX; have HG := Lib.hid (show Fr (fun _ => False) W8 w1 from (Fr.refl _ W8).drew.then hG); clear hX hG))
            have c6 : w1.cell? ⟨w.heap.size + 1 + 1, 0, none⟩ = some (.slice ao L.length co) := (HHO.out.fr HG.out (fun h => h)).cell 0
            have hS1 : w1.cell? ⟨w.heap.size, 0, none⟩ = some (.int .i64 n) := (HR1.out.bn.fr HG.out (fun h => h)).cell 0
            refine hK.out _ _ hS1 ?_
            clear hK K
            try simp only [Act.put, List.setIfInBounds_toArray, List.set_cons_zero, List.set_cons_succ]
            refine held_two (i := 0) (j := 4) rfl rfl (by kernel_rfl) (by rfl) (by rfl) (fun K hK => ?_) (fun K hK => ?_)
            · skip
              go_simp
              go_wp2_with fail
              refine hK.out _ _ hS1 ?_
              clear hK K
              try simp only [Act.put, List.setIfInBounds_toArray, List.set_cons_zero, List.set_cons_succ]
              refine held_step (i := 4) rfl (by kernel_rfl) (by rfl) (fun K hK => ?_)
              go_simp
              go_wp2_with fail
              have FA := HG.out.alloc (Obj.cells #[.slice ax x.length cx] 27)
              have c6b : (w1.alloc (Obj.cells #[.slice ax x.length cx] 27)).cell? ⟨w.heap.size + 1 + 1, 0, none⟩ = some (.slice ao L.length co) := (HHO.out.fr FA (fun h => h)).cell 0
              have hS2 : (w1.alloc (Obj.cells #[.slice ax x.length cx] 27)).cell? ⟨w.heap.size, 0, none⟩ = some (.int .i64 n) := (HR1.out.bn.fr FA (fun h => h)).cell 0
              refine hK.out _ _ hS2 ?_
              clear hK K
              try simp only [Act.put, List.setIfInBounds_toArray, List.set_cons_zero, List.set_cons_succ]
              refine held_step (i := 5) rfl (by kernel_rfl) (by rfl) (fun K hK => ?_)
              refine wp_append_any _ _ 23 rfl w.heap.size 27 i0 _ 1 24 Tryz.underlying23 HI.out.1 HI.out.2.1 HI.out.2.2.1 HI.out.2.2.2 rfl (by decide) (.slice ao L.length co) L.length vs rfl (own_fr HO1.out FA (fun _ _ h => h)) (some ⟨w1.heap.size, 0, none⟩) 1 1 [.slice ax x.length cx] rfl rfl (fun _ => ⟨w1.heap.size, 0, rfl, fun j u hj => ((RowB.new w1 27 [.slice ax x.length cx]).cell (0 + j)).trans (by rw [Nat.zero_add]; exact hj)⟩) (fun u hu => by rw [List.mem_singleton.1 hu]; rfl) (by unfold maxLen; omega) (by omega) (by have h1 := HSZ.out; have h2 := HG.out.size; rw [alloc_size]; omega) ?_
              intro v' w3 hown hgrow hat
              obtain ⟨a', c', rfl, _, _⟩ := own_slice hown
              have HO3 := Lib.hid hown
              have HGR := Lib.hid hgrow
              have HOA := Lib.hid (own_fr HO1.out FA (fun _ _ h => h))
              have R6 := Lib.hid (row_grow HOA.out HGR.out (by decide) (HHO.out.fr FA (fun h => h)))
              have RN := Lib.hid (row_grow HOA.out HGR.out (by decide) (HR1.out.bn.fr FA (fun h => h)))
              have RM := Lib.hid (row_grow HOA.out HGR.out (by decide) (HR1.out.bm.fr FA (fun h => h)))
              clear hown hgrow hat c6 c6b
              have d6 : w3.cell? ⟨w.heap.size + 1 + 1, 0, none⟩ = some (.slice ao L.length co) := R6.out.cell 0
              have f6 := R6.out.frozen 0
              have hS3 : w3.cell? ⟨w.heap.size, 0, none⟩ = some (.int .i64 n) := RN.out.cell 0
              refine hK.out _ _ hS3 ?_
              clear hK K
              try simp only [Act.put, List.setIfInBounds_toArray, List.set_cons_zero, List.set_cons_succ]
              refine held_step (i := 6) rfl (by kernel_rfl) (by rfl) (fun K hK => ?_)
              go_simp
              go_wp2_with fail
              have HST := Lib.hid (St.set (fr_grow (HR1.out.fr.then FA) HGR.out (fun g hg => own_block_ge HOA.out g hg)) RN.out RM.out HR1.out.hb R6.out (out_grow HOA.out (fun i hi => by obtain ⟨u, k1, k2, k3⟩ := HO2.out i hi; exact ⟨u, k1, k2, k3.fr FA⟩) (IntsAt.fr (show IntsAt w1 _ x from own_mono HX.out (Nat.zero_le _)) ((Fr.refl _ w1).alloc (Obj.cells #[.slice ax x.length cx] 27))) rfl HO3.out (keep_grow HOA.out HGR.out)))
              refine hK.out _ _ (HST.out.bn.cell 0) ?_
              clear hK K
              try simp only [Act.put, List.setIfInBounds_toArray, List.set_cons_zero, List.set_cons_succ]
              refine held_done (by kernel_rfl) ?_
              refine NoPanic.normal ?_
              go_wp2_with fail
              go_roundw
              case rel => exact ⟨k + 1, by omega, by go_num, by rw [HLs.out]; exact HST.out⟩
              case measure => simp [intOf]; omega
            · skip
              go_simp
              go_wp2_with fail
              have FA := HG.out.alloc (Obj.cells #[.slice ax x.length cx] 27)
              have c6b : (w1.alloc (Obj.cells #[.slice ax x.length cx] 27)).cell? ⟨w.heap.size + 1 + 1, 0, none⟩ = some (.slice ao L.length co) := (HHO.out.fr FA (fun h => h)).cell 0
              have hS2 : (w1.alloc (Obj.cells #[.slice ax x.length cx] 27)).cell? ⟨w.heap.size, 0, none⟩ = some (.int .i64 n) := (HR1.out.bn.fr FA (fun h => h)).cell 0
              refine hK.out _ _ hS2 ?_
              clear hK K
              try simp only [Act.put, List.setIfInBounds_toArray, List.set_cons_zero, List.set_cons_succ]
              refine held_step (i := 0) rfl (by kernel_rfl) (by rfl) (fun K hK => ?_)
              go_simp
              go_wp2_with fail
              refine hK.out _ _ hS2 ?_
              clear hK K
              try simp only [Act.put, List.setIfInBounds_toArray, List.set_cons_zero, List.set_cons_succ]
              refine held_step (i := 5) rfl (by kernel_rfl) (by rfl) (fun K hK => ?_)
              refine wp_append_any _ _ 23 rfl w.heap.size 27 i0 _ 1 24 Tryz.underlying23 HI.out.1 HI.out.2.1 HI.out.2.2.1 HI.out.2.2.2 rfl (by decide) (.slice ao L.length co) L.length vs rfl (own_fr HO1.out FA (fun _ _ h => h)) (some ⟨w1.heap.size, 0, none⟩) 1 1 [.slice ax x.length cx] rfl rfl (fun _ => ⟨w1.heap.size, 0, rfl, fun j u hj => ((RowB.new w1 27 [.slice ax x.length cx]).cell (0 + j)).trans (by rw [Nat.zero_add]; exact hj)⟩) (fun u hu => by rw [List.mem_singleton.1 hu]; rfl) (by unfold maxLen; omega) (by omega) (by have h1 := HSZ.out; have h2 := HG.out.size; rw [alloc_size]; omega) ?_
              intro v' w3 hown hgrow hat
              obtain ⟨a', c', rfl, _, _⟩ := own_slice hown
              have HO3 := Lib.hid hown
              have HGR := Lib.hid hgrow
              have HOA := Lib.hid (own_fr HO1.out FA (fun _ _ h => h))
              have R6 := Lib.hid (row_grow HOA.out HGR.out (by decide) (HHO.out.fr FA (fun h => h)))
              have RN := Lib.hid (row_grow HOA.out HGR.out (by decide) (HR1.out.bn.fr FA (fun h => h)))
              have RM := Lib.hid (row_grow HOA.out HGR.out (by decide) (HR1.out.bm.fr FA (fun h => h)))
              clear hown hgrow hat c6 c6b
              have d6 : w3.cell? ⟨w.heap.size + 1 + 1, 0, none⟩ = some (.slice ao L.length co) := R6.out.cell 0
              have f6 := R6.out.frozen 0
              have hS3 : w3.cell? ⟨w.heap.size, 0, none⟩ = some (.int .i64 n) := RN.out.cell 0
              refine hK.out _ _ hS3 ?_
              clear hK K
              try simp only [Act.put, List.setIfInBounds_toArray, List.set_cons_zero, List.set_cons_succ]
              refine held_step (i := 6) rfl (by kernel_rfl) (by rfl) (fun K hK => ?_)
              go_simp
              go_wp2_with fail
              have HST := Lib.hid (St.set (fr_grow (HR1.out.fr.then FA) HGR.out (fun g hg => own_block_ge HOA.out g hg)) RN.out RM.out HR1.out.hb R6.out (out_grow HOA.out (fun i hi => by obtain ⟨u, k1, k2, k3⟩ := HO2.out i hi; exact ⟨u, k1, k2, k3.fr FA⟩) (IntsAt.fr (show IntsAt w1 _ x from own_mono HX.out (Nat.zero_le _)) ((Fr.refl _ w1).alloc (Obj.cells #[.slice ax x.length cx] 27))) rfl HO3.out (keep_grow HOA.out HGR.out)))
              refine hK.out _ _ (HST.out.bn.cell 0) ?_
              clear hK K
              try simp only [Act.put, List.setIfInBounds_toArray, List.set_cons_zero, List.set_cons_succ]
              refine held_done (by kernel_rfl) ?_
              refine NoPanic.normal ?_
              go_wp2_with fail
              go_roundw
              case rel => exact ⟨k + 1, by omega, by go_num, by rw [HLs.out]; exact HST.out⟩
              case measure => simp [intOf]; omega
        · obtain rfl : k = T := by omega
          obtain ⟨v, ho, hO⟩ := hst.out
          have HO := Lib.hid hO
          have HF := Lib.hid hst.fr
          have c6 : wr.cell? ⟨w.heap.size + 1 + 1, 0, none⟩ = some v := ho.cell 0
          have HG := Lib.hid (good_bits HT.out ht)
          clear ho hO hst
          go_wp2_with fail
          go_ret2
          exact ⟨v, _, rfl, HO.out, HG.out, HF.out⟩
    · have q5 : ¬ (T : Int) ≤ m := by omega
      have HN := Lib.hid (show ¬ (n ≤ 6 ∧ 2 ^ n ≤ m) from fun h => ht (by rw [hT]; exact h.2))
      clear hT ht
      go_quiet (fail)
      have HP0 := Lib.hid (fun (W' : World) (f : Fr (fun _ => False) W W') => put_walk w W' w.heap.size (w.heap.size + 1) (w.heap.size + 1 + 1) n m [] 18 #[] (fun _ => false) (HS.out.step f) (by omega) (by simp) (fun y hy => by cases hy) enter_18 (fun w' _ k _ => none_walk k w'))
      have HP1 := Lib.hid (fun (W' : World) (L : List (List Int)) (h : St w W' w.heap.size (w.heap.size + 1) (w.heap.size + 1 + 1) n m L) (hl : L.length ≤ 1000) (hy : ∀ y ∈ L, y.length ≤ 1000) => put_walk w W' w.heap.size (w.heap.size + 1) (w.heap.size + 1 + 1) n m L 19 #[] (fun _ => true) h (by omega) hl hy enter_19 (fun w' _ k _ => all_walk k w'))
      have Tk := Lib.hid trivial
      go_upto_region 14 with (first | (rw [enter_14]) | (go_at_call 14; have tok := Tk.out; go_must (refine (HP0.out _ (by first | exact Fr.refl _ _ | exact (Fr.refl _ _).drewN _ | fail)).mono ?_; rintro e w1 ⟨⟨x1, rfl⟩, hS1, hK1⟩; have HS1 := Lib.hid hS1; clear hS1 hK1; clear Tk)) | (go_at_call 14; go_must (refine (HP1.out _ _ HS1.out (by unfold putL; split <;> simp) (fun y hy => by unfold putL at hy; split at hy <;> simp at hy; subst hy; exact Nat.le_trans (filt_len _ _) (by omega))).mono ?_; rintro e w2 ⟨⟨x2, rfl⟩, hS2, hK2⟩; have HS2 := Lib.hid hS2; clear hS2 hK2)))
      have HS3 := Lib.hid (HS2.out.step ((Fr.refl (fun _ => False) w2).alloc (Obj.cells #[.func (.func 20) #[] #[], .func (.func 21) #[] #[], .func (.func 22) #[] #[], .func (.func 23) #[] #[]] 58)))
      have HK3 := Lib.hid (show RowB (w2.alloc (Obj.cells #[.func (.func 20) #[] #[], .func (.func 21) #[] #[], .func (.func 22) #[] #[], .func (.func 23) #[] #[]] 58)) w2.heap.size 58 kindV from RowB.new w2 58 kindV)
      have HG3 := Lib.hid (good_two (n := n) hm)
      clear HS2 HS1 HP0 HP1
      generalize putL m (putL m [] (filt (fun _ => false) n)) (filt (fun _ => true) n) = L0 at *
      go_wp2_with fail
      generalize w2.alloc (Obj.cells #[.func (.func 20) #[] #[], .func (.func 21) #[] #[], .func (.func 22) #[] #[], .func (.func 23) #[] #[]] 58) = W3 at *
      generalize w2.heap.size = b52 at *
      go_loopw [10, 11, 54] (fun _ _ z wr => ∃ j : Nat, j ≤ 4 ∧ z = .int .i64 j ∧ ∃ L, GoodP n m L ∧ St w wr w.heap.size (w.heap.size + 1) (w.heap.size + 1 + 1) n m L ∧ RowB wr b52 58 kindV) (fun _ _ z _ => 4 - (intOf z).toNat)
      case atStart => exact ⟨0, by omega, rfl, L0, HG3.out, HS3.out, HK3.out⟩
      case round =>
        obtain ⟨j, hj, rfl, L, hG, hst, hkv⟩ := hrel
        by_cases hlt : j < 4
        · obtain ⟨F, q, hv, hE, hq⟩ := kind_at j hlt
          have g1 : (0 : Int) ≤ (j : Int) := by omega
          have g2 : (j : Int) < 4 := by omega
          have c52 : wr.cell? ⟨b52, j, none⟩ = some (.func (.func F) #[] #[]) := (hkv.cell j).trans hv
          have HE := Lib.hid hE
          have HQ := Lib.hid hq
          have HST := Lib.hid hst
          have HKV := Lib.hid hkv
          have HGP := Lib.hid hG
          clear hv hE hq hst hkv hG HG3 HS3 HK3
          go_wp2_with fail
          have R10 := Lib.hid ((RowB.new wr 58 [Value.func (Fn.func F) #[] #[]]).fr ((Fr.refl (fun _ => False) _).alloc (Obj.cells #[Value.int .i64 0] 3)) (fun h => h))
          have R11 := Lib.hid (by have h := RowB.new (wr.alloc (Obj.cells #[Value.func (Fn.func F) #[] #[]] 58)) 3 [Value.int .i64 0]; rw [alloc_size] at h; exact h)
          have F4 := ((Fr.refl (fun _ => False) wr).alloc (Obj.cells #[Value.func (Fn.func F) #[] #[]] 58)).alloc (Obj.cells #[Value.int .i64 0] 3)
          have HST4 := Lib.hid (HST.out.step F4)
          have HKV4 := Lib.hid (HKV.out.fr F4 (fun h => h))
          clear F4 HST HKV c52
          change Code.wp _ _ _ _ ((wr.alloc (Obj.cells #[Value.func (Fn.func F) #[] #[]] 58)).alloc (Obj.cells #[Value.int .i64 0] 3))
          generalize (wr.alloc (Obj.cells #[Value.func (Fn.func F) #[] #[]] 58)).alloc (Obj.cells #[Value.int .i64 0] 3) = W4 at *
          generalize wr.heap.size = b10 at *
          go_loopw [11] (fun p w5 => ∃ (i b11 : Nat), p = .pointer (some ⟨b11, 0, none⟩) ∧ i ≤ n ∧ RowB w5 b11 3 [.int .i64 i] ∧ ∃ L, GoodP n m L ∧ St w w5 w.heap.size (w.heap.size + 1) (w.heap.size + 1 + 1) n m L ∧ RowB w5 b10 58 [Value.func (Fn.func F) #[] #[]] ∧ RowB w5 b52 58 kindV) (fun p w5 => n - boxInt p w5)
          case atStart => exact ⟨0, b10 + 1, rfl, by omega, R11.out, L, HGP.out, HST4.out, R10.out, HKV4.out⟩
          case round =>
            obtain ⟨i, b11, rfl, hi, h11, L, hG, hst, h10, hkv⟩ := hrel
            clear HGP HST4 R10 R11 HKV4
            obtain ⟨v6, ho, hO⟩ := hst.out
            obtain ⟨ao, co, rfl, _⟩ := hO.get
            have HST := Lib.hid hst
            have HKV := Lib.hid hkv
            have HGP := Lib.hid hG
            have H10 := Lib.hid h10
            have H11 := Lib.hid h11
            have c11 : wr.cell? ⟨b11, 0, none⟩ = some (.int .i64 i) := h11.cell 0
            have cn : wr.cell? ⟨w.heap.size, 0, none⟩ = some (.int .i64 n) := hst.bn.cell 0
            have cm : wr.cell? ⟨w.heap.size + 1, 0, none⟩ = some (.int .i64 m) := hst.bm.cell 0
            have c6 : wr.cell? ⟨w.heap.size + 1 + 1, 0, none⟩ = some (.slice ao L.length co) := ho.cell 0
            clear hst hkv hG h10 h11 ho hO
            have HPW := Lib.hid (fun (W' : World) (f : Fr (fun _ => False) wr W') => put_walk w W' w.heap.size (w.heap.size + 1) (w.heap.size + 1 + 1) n m L 24 #[.pointer (some ⟨b10, 0, none⟩), .pointer (some ⟨b11, 0, none⟩)] (q i) (HST.out.step f) (by omega) (by have := HGP.out.most; omega) (fun y hy => Nat.le_trans (HGP.out.short y hy) (by omega)) enter_24 (fun w' f' k _ => kind_walk F q i k b10 b11 w' HE.out (fun w'' => HQ.out i k w'') (H10.out.fr (f.then f') (fun h => h)) (H11.out.fr (f.then f') (fun h => h))))
            by_cases hin : i < n
            · have p1 : (i : Int) < n := by omega
              by_cases hlm : L.length < m
              · have p2 : (L.length : Int) < m := by omega
                have HPL := Lib.hid (HGP.out.put (q i))
                clear hlm
                generalize putL m L (filt (q i) n) = L2 at *
                go_wp2_with (first | (rw [enter_14]) | (go_at_call 14; go_must (refine (HPW.out _ (by first | exact Fr.refl _ _ | exact (Fr.refl _ _).drew | exact (Fr.refl _ _).drewN _ | fail)).mono ?_; rintro e w1 ⟨⟨x1, rfl⟩, hS1, hK1⟩; have HS1 := Lib.hid hS1; have HK1 := Lib.hid hK1; have d11 : w1.cell? ⟨b11, 0, none⟩ = some (.int .i64 i) := (hK1 b11 _ _ (by decide) (by decide) H11.out).cell 0; clear hS1 hK1)))
                have FA := (Fr.refl (fun _ => False) w1).alloc (Obj.cells #[Value.int .i64 ((i : Int) + 1)] 3)
                have RN := RowB.new w1 3 [Value.int .i64 ((i : Int) + 1)]
                refine ⟨⟨i + 1, w1.heap.size, rfl, by omega, by rw [show ((i + 1 : Nat) : Int) = (i : Int) + 1 by omega]; exact RN, L2, HPL.out, HS1.out.step FA, (HK1.out b10 _ _ (by decide) (by decide) H10.out).fr FA (fun h => h), (HK1.out b52 _ _ (by decide) (by decide) HKV.out).fr FA (fun h => h)⟩, ?_⟩
                rw [box_of (RN.cell 0), box_of c11]
                omega
              · have p2 : ¬ (L.length : Int) < m := by omega
                clear HPW hlm
                go_wp2_with fail
                exact ⟨⟨j + 1, by omega, by go_num, L, HGP.out, HST.out, HKV.out⟩, by simp [intOf]; omega⟩
            · have p1 : ¬ (i : Int) < n := by omega
              clear HPW
              go_wp2_with fail
              exact ⟨⟨j + 1, by omega, by go_num, L, HGP.out, HST.out, HKV.out⟩, by simp [intOf]; omega⟩
        · obtain rfl : j = 4 := by omega
          obtain ⟨v, ho, hO⟩ := hst.out
          have HO := Lib.hid hO
          have HF := Lib.hid hst.fr
          have c6 : wr.cell? ⟨w.heap.size + 1 + 1, 0, none⟩ = some v := ho.cell 0
          have HG := Lib.hid (hG.good HN.out)
          clear ho hO hst hG
          go_wp2_with fail
          go_ret2
          exact ⟨v, _, rfl, HO.out, HG.out, HF.out⟩
  · have q4 : ¬ (n : Int) ≤ 6 := by omega
    have HN := Lib.hid (show ¬ (n ≤ 6 ∧ 2 ^ n ≤ m) from fun h => h6 h.1)
    clear h6
    go_quiet (fail)
    have HP0 := Lib.hid (fun (W' : World) (f : Fr (fun _ => False) W W') => put_walk w W' w.heap.size (w.heap.size + 1) (w.heap.size + 1 + 1) n m [] 18 #[] (fun _ => false) (HS.out.step f) (by omega) (by simp) (fun y hy => by cases hy) enter_18 (fun w' _ k _ => none_walk k w'))
    have HP1 := Lib.hid (fun (W' : World) (L : List (List Int)) (h : St w W' w.heap.size (w.heap.size + 1) (w.heap.size + 1 + 1) n m L) (hl : L.length ≤ 1000) (hy : ∀ y ∈ L, y.length ≤ 1000) => put_walk w W' w.heap.size (w.heap.size + 1) (w.heap.size + 1 + 1) n m L 19 #[] (fun _ => true) h (by omega) hl hy enter_19 (fun w' _ k _ => all_walk k w'))
    have Tk := Lib.hid trivial
    go_upto_region 14 with (first | (rw [enter_14]) | (go_at_call 14; have tok := Tk.out; go_must (refine (HP0.out _ (by first | exact Fr.refl _ _ | exact (Fr.refl _ _).drewN _ | fail)).mono ?_; rintro e w1 ⟨⟨x1, rfl⟩, hS1, hK1⟩; have HS1 := Lib.hid hS1; clear hS1 hK1; clear Tk)) | (go_at_call 14; go_must (refine (HP1.out _ _ HS1.out (by unfold putL; split <;> simp) (fun y hy => by unfold putL at hy; split at hy <;> simp at hy; subst hy; exact Nat.le_trans (filt_len _ _) (by omega))).mono ?_; rintro e w2 ⟨⟨x2, rfl⟩, hS2, hK2⟩; have HS2 := Lib.hid hS2; clear hS2 hK2)))
    have HS3 := Lib.hid (HS2.out.step ((Fr.refl (fun _ => False) w2).alloc (Obj.cells #[.func (.func 20) #[] #[], .func (.func 21) #[] #[], .func (.func 22) #[] #[], .func (.func 23) #[] #[]] 58)))
    have HK3 := Lib.hid (show RowB (w2.alloc (Obj.cells #[.func (.func 20) #[] #[], .func (.func 21) #[] #[], .func (.func 22) #[] #[], .func (.func 23) #[] #[]] 58)) w2.heap.size 58 kindV from RowB.new w2 58 kindV)
    have HG3 := Lib.hid (good_two (n := n) hm)
    clear HS2 HS1 HP0 HP1
    generalize putL m (putL m [] (filt (fun _ => false) n)) (filt (fun _ => true) n) = L0 at *
    go_wp2_with fail
    generalize w2.alloc (Obj.cells #[.func (.func 20) #[] #[], .func (.func 21) #[] #[], .func (.func 22) #[] #[], .func (.func 23) #[] #[]] 58) = W3 at *
    generalize w2.heap.size = b52 at *
    go_loopw [10, 11, 54] (fun _ _ z wr => ∃ j : Nat, j ≤ 4 ∧ z = .int .i64 j ∧ ∃ L, GoodP n m L ∧ St w wr w.heap.size (w.heap.size + 1) (w.heap.size + 1 + 1) n m L ∧ RowB wr b52 58 kindV) (fun _ _ z _ => 4 - (intOf z).toNat)
    case atStart => exact ⟨0, by omega, rfl, L0, HG3.out, HS3.out, HK3.out⟩
    case round =>
      obtain ⟨j, hj, rfl, L, hG, hst, hkv⟩ := hrel
      by_cases hlt : j < 4
      · obtain ⟨F, q, hv, hE, hq⟩ := kind_at j hlt
        have g1 : (0 : Int) ≤ (j : Int) := by omega
        have g2 : (j : Int) < 4 := by omega
        have c52 : wr.cell? ⟨b52, j, none⟩ = some (.func (.func F) #[] #[]) := (hkv.cell j).trans hv
        have HE := Lib.hid hE
        have HQ := Lib.hid hq
        have HST := Lib.hid hst
        have HKV := Lib.hid hkv
        have HGP := Lib.hid hG
        clear hv hE hq hst hkv hG HG3 HS3 HK3
        go_wp2_with fail
        have R10 := Lib.hid ((RowB.new wr 58 [Value.func (Fn.func F) #[] #[]]).fr ((Fr.refl (fun _ => False) _).alloc (Obj.cells #[Value.int .i64 0] 3)) (fun h => h))
        have R11 := Lib.hid (by have h := RowB.new (wr.alloc (Obj.cells #[Value.func (Fn.func F) #[] #[]] 58)) 3 [Value.int .i64 0]; rw [alloc_size] at h; exact h)
        have F4 := ((Fr.refl (fun _ => False) wr).alloc (Obj.cells #[Value.func (Fn.func F) #[] #[]] 58)).alloc (Obj.cells #[Value.int .i64 0] 3)
        have HST4 := Lib.hid (HST.out.step F4)
        have HKV4 := Lib.hid (HKV.out.fr F4 (fun h => h))
        clear F4 HST HKV c52
        change Code.wp _ _ _ _ ((wr.alloc (Obj.cells #[Value.func (Fn.func F) #[] #[]] 58)).alloc (Obj.cells #[Value.int .i64 0] 3))
        generalize (wr.alloc (Obj.cells #[Value.func (Fn.func F) #[] #[]] 58)).alloc (Obj.cells #[Value.int .i64 0] 3) = W4 at *
        generalize wr.heap.size = b10 at *
        go_loopw [11] (fun p w5 => ∃ (i b11 : Nat), p = .pointer (some ⟨b11, 0, none⟩) ∧ i ≤ n ∧ RowB w5 b11 3 [.int .i64 i] ∧ ∃ L, GoodP n m L ∧ St w w5 w.heap.size (w.heap.size + 1) (w.heap.size + 1 + 1) n m L ∧ RowB w5 b10 58 [Value.func (Fn.func F) #[] #[]] ∧ RowB w5 b52 58 kindV) (fun p w5 => n - boxInt p w5)
        case atStart => exact ⟨0, b10 + 1, rfl, by omega, R11.out, L, HGP.out, HST4.out, R10.out, HKV4.out⟩
        case round =>
          obtain ⟨i, b11, rfl, hi, h11, L, hG, hst, h10, hkv⟩ := hrel
          clear HGP HST4 R10 R11 HKV4
          obtain ⟨v6, ho, hO⟩ := hst.out
          obtain ⟨ao, co, rfl, _⟩ := hO.get
          have HST := Lib.hid hst
          have HKV := Lib.hid hkv
          have HGP := Lib.hid hG
          have H10 := Lib.hid h10
          have H11 := Lib.hid h11
          have c11 : wr.cell? ⟨b11, 0, none⟩ = some (.int .i64 i) := h11.cell 0
          have cn : wr.cell? ⟨w.heap.size, 0, none⟩ = some (.int .i64 n) := hst.bn.cell 0
          have cm : wr.cell? ⟨w.heap.size + 1, 0, none⟩ = some (.int .i64 m) := hst.bm.cell 0
          have c6 : wr.cell? ⟨w.heap.size + 1 + 1, 0, none⟩ = some (.slice ao L.length co) := ho.cell 0
          clear hst hkv hG h10 h11 ho hO
          have HPW := Lib.hid (fun (W' : World) (f : Fr (fun _ => False) wr W') => put_walk w W' w.heap.size (w.heap.size + 1) (w.heap.size + 1 + 1) n m L 24 #[.pointer (some ⟨b10, 0, none⟩), .pointer (some ⟨b11, 0, none⟩)] (q i) (HST.out.step f) (by omega) (by have := HGP.out.most; omega) (fun y hy => Nat.le_trans (HGP.out.short y hy) (by omega)) enter_24 (fun w' f' k _ => kind_walk F q i k b10 b11 w' HE.out (fun w'' => HQ.out i k w'') (H10.out.fr (f.then f') (fun h => h)) (H11.out.fr (f.then f') (fun h => h))))
          by_cases hin : i < n
          · have p1 : (i : Int) < n := by omega
            by_cases hlm : L.length < m
            · have p2 : (L.length : Int) < m := by omega
              have HPL := Lib.hid (HGP.out.put (q i))
              clear hlm
              generalize putL m L (filt (q i) n) = L2 at *
              go_wp2_with (first | (rw [enter_14]) | (go_at_call 14; go_must (refine (HPW.out _ (by first | exact Fr.refl _ _ | exact (Fr.refl _ _).drew | exact (Fr.refl _ _).drewN _ | fail)).mono ?_; rintro e w1 ⟨⟨x1, rfl⟩, hS1, hK1⟩; have HS1 := Lib.hid hS1; have HK1 := Lib.hid hK1; have d11 : w1.cell? ⟨b11, 0, none⟩ = some (.int .i64 i) := (hK1 b11 _ _ (by decide) (by decide) H11.out).cell 0; clear hS1 hK1)))
              have FA := (Fr.refl (fun _ => False) w1).alloc (Obj.cells #[Value.int .i64 ((i : Int) + 1)] 3)
              have RN := RowB.new w1 3 [Value.int .i64 ((i : Int) + 1)]
              refine ⟨⟨i + 1, w1.heap.size, rfl, by omega, by rw [show ((i + 1 : Nat) : Int) = (i : Int) + 1 by omega]; exact RN, L2, HPL.out, HS1.out.step FA, (HK1.out b10 _ _ (by decide) (by decide) H10.out).fr FA (fun h => h), (HK1.out b52 _ _ (by decide) (by decide) HKV.out).fr FA (fun h => h)⟩, ?_⟩
              rw [box_of (RN.cell 0), box_of c11]
              omega
            · have p2 : ¬ (L.length : Int) < m := by omega
              clear HPW hlm
              go_wp2_with fail
              exact ⟨⟨j + 1, by omega, by go_num, L, HGP.out, HST.out, HKV.out⟩, by simp [intOf]; omega⟩
          · have p1 : ¬ (i : Int) < n := by omega
            clear HPW
            go_wp2_with fail
            exact ⟨⟨j + 1, by omega, by go_num, L, HGP.out, HST.out, HKV.out⟩, by simp [intOf]; omega⟩
      · obtain rfl : j = 4 := by omega
        obtain ⟨v, ho, hO⟩ := hst.out
        have HO := Lib.hid hO
        have HF := Lib.hid hst.fr
        have c6 : wr.cell? ⟨w.heap.size + 1 + 1, 0, none⟩ = some v := ho.cell 0
        have HG := Lib.hid (hG.good HN.out)
        clear ho hO hst hG
        go_wp2_with fail
        go_ret2
        exact ⟨v, _, rfl, HO.out, HG.out, HF.out⟩

end Go.Proofs.YtfdhdhmeahdpbaaGreatDoor
