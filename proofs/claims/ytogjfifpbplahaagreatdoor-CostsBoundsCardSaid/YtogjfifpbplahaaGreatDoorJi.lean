/- This text proves contracts of the reference's paths; no condition beyond those that each statement names. -/
import Derived.Test.YtogjfifpbplahaaGreatDoorJh
namespace Go.Proofs.YtogjfifpbplahaaGreatDoor
open Go.RowKit
open BR
set_option linter.unusedVariables false

set_option maxHeartbeats 2000000 in
theorem rsame_walk (r c r' c' : Nat) (a0 a0' : Option Addr) (R R' : Nat → ByteArray) (w : World) (hR : StrsAt w a0 r R) (hR' : StrsAt w a0' r' R') (hr : r ≤ 1000) (hr' : r' ≤ 1000) (q : Bool) (hq : q = true ↔ samePath r R r' R') :
    Calls Tryz.prog 63 #[.slice a0 r c, .slice a0' r' c'] w (Ret (.bool q) w) := by
  have HQ := Lib.hid hq
  have HA := Lib.hid hR
  have HA' := Lib.hid hR'
  clear hq hR hR'
  by_cases h0 : r = r'
  · subst h0
    go_enter Tryz.func63, Tryz.ntmps63
    go_wp2_with fail
    go_loopw [5] (fun i wr => ∃ k : Nat, k ≤ r ∧ i = .int .i64 k ∧ Fr (fun _ => False) w wr ∧ Hid (∀ j, j < k → (R j).toList = (R' j).toList)) (fun i _ => r - (intOf i).toNat)
    case atStart => exact ⟨0, by omega, rfl, Fr.refl _ _, Lib.hid (fun j hj => by omega)⟩
    case round =>
      obtain ⟨k, hk, rfl, hF, HJ⟩ := hrel
      by_cases hlt : k < r
      · obtain ⟨b, o, rfl, hb, hc⟩ := HA.out (by omega)
        obtain ⟨b', o', rfl, hb', hc'⟩ := HA'.out (by omega)
        have c0 : wr.cell? ⟨b, o + k, none⟩ = some (.string (R k)) := hF.cell (p := ⟨b, o + k, none⟩) hb (fun h => h) (hc k hlt)
        have c2 : wr.cell? ⟨b', o' + k, none⟩ = some (.string (R' k)) := hF.cell (p := ⟨b', o' + k, none⟩) hb' (fun h => h) (hc' k hlt)
        have g1 : (0 : Int) ≤ (k : Int) := by omega
        have g2 : (k : Int) < r := by omega
        have HF := Lib.hid hF
        clear hF hc hc'
        by_cases he : (R k).toList = (R' k).toList
        · have e1 := eq_beq he
          have HN := Lib.hid he
          clear he
          go_wp2_with fail
          go_quiet (fail)
          go_wp2_with fail
          go_roundw
          case rel => exact ⟨k + 1, by omega, by go_num, HF.out.drewN _, Lib.hid (fun j hj => by
            by_cases e : j = k
            · subst e; exact HN.out
            · exact HJ.out j (by omega))⟩
          case measure => simp [intOf]; omega
        · have HE := Lib.hid (show q = false by
            cases q with
            | false => rfl
            | true => exact absurd ((HQ.out.1 rfl).2 k hlt) he)
          have e1 := ne_beq he
          clear he
          go_wp2_with fail
          go_quiet (fail)
          go_wp2_with fail
          go_ret
          exact ⟨by rw [HE.out] <;> rfl, HF.out.drewN _⟩
      · obtain rfl : k = r := by omega
        have HE := Lib.hid (HQ.out.2 ⟨rfl, HJ.out⟩)
        have HF := Lib.hid hF
        clear hF
        go_wp2_with fail
        go_ret
        exact ⟨by rw [HE.out] <;> rfl, HF.out⟩
  · have HE := Lib.hid (show q = false by
      cases q with
      | false => rfl
      | true => exact absurd (HQ.out.1 rfl).1 h0)
    have e1 : ((r : Int) != (r' : Int)) = true := by simp; omega
    clear h0
    go_enter Tryz.func63, Tryz.ntmps63
    go_wp2_with fail
    go_ret
    exact ⟨by rw [HE.out] <;> rfl, Fr.refl _ _⟩

/-! the directory above a node of a tree that is right -/
/-- the depths are right -/
def Deep (N : Nat → BNode) (n : Nat) : Prop := ∀ j, j < n → shapeE N j = 0
theorem deep_zero {N : Nat → BNode} {n : Nat} (h : Deep N n) (hn : 0 < n) : (N 0).depth = 0 := by
  have h := h 0 hn
  unfold shapeE at h
  rw [if_pos rfl] at h
  by_cases e : (N 0).depth = 0
  · exact e
  · rw [if_pos (Or.inl e)] at h; omega
theorem deep_step {N : Nat → BNode} {n j : Nat} (h : Deep N n) (hj : j + 1 < n) : 1 ≤ (N (j + 1)).depth ∧ (N (j + 1)).depth ≤ (N j).depth + 1 ∧ ((N j).kind ≠ 1 → (N (j + 1)).depth ≤ (N j).depth) := by
  have h := h (j + 1) hj
  unfold shapeE at h
  rw [if_neg (by omega), show j + 1 - 1 = j by omega] at h
  by_cases e : (N (j + 1)).depth < 1 ∨ (N j).depth + (if (N j).kind = 1 then 1 else 0) < (N (j + 1)).depth
  · rw [if_pos e] at h; omega
  · refine ⟨by omega, ?_, fun hk => ?_⟩
    · split at e <;> omega
    · rw [if_neg hk] at e; omega
theorem deep_bd {N : Nat → BNode} {n j : Nat} (h : Deep N n) (hj : j < n) : 0 ≤ (N j).depth ∧ (N j).depth ≤ 8 := shape_bd (h j hj)
theorem deep_pos {N : Nat → BNode} {n j : Nat} (h : Deep N n) (hj : j < n) (h0 : j ≠ 0) : 1 ≤ (N j).depth := by
  obtain ⟨k, rfl⟩ : ∃ k, j = k + 1 := ⟨j - 1, by omega⟩
  exact (deep_step h hj).1
/-- the nearest node before i that stands higher -/
theorem above_is {N : Nat → BNode} {n i p : Nat} (h : Deep N n) (hi : i < n) (hp : p < i) (hd : (N p).depth < (N i).depth) (hq : ∀ q, p < q → q < i → (N i).depth ≤ (N q).depth) :
    (N p).depth = (N i).depth - 1 ∧ parF N i = p := by
  have h1 : (N p).depth = (N i).depth - 1 := by
    have hs := (deep_step h (j := p) (by omega)).2.1
    by_cases e : p + 1 = i
    · rw [e] at hs; omega
    · have := hq (p + 1) (by omega) (by omega); omega
  refine ⟨h1, ?_⟩
  have key : ∀ m, p < m → m ≤ i → lastAt N m ((N i).depth - 1) = p := by
    intro m
    induction m with
    | zero => intro h; omega
    | succ m ih =>
      intro hm hmi
      simp only [lastAt]
      by_cases e : m = p
      · subst e; rw [if_pos h1]
      · have := hq m (by omega) (by omega)
        rw [if_neg (by omega)]
        exact ih (by omega) (by omega)
  exact key i hp (Nat.le_refl _)
theorem par_zero (N : Nat → BNode) : parF N 0 = -1 := rfl
set_option maxHeartbeats 4000000 in
theorem rabove_walk (n c i : Nat) (a0 : Option Addr) (N : Nat → BNode) (H : Nat → Hd) (w : World) (hB : BranchAt w a0 n N H) (hn : n ≤ 1000) (hi : i < n) (hD : Deep N n) :
    Calls Tryz.prog 34 #[.slice a0 n c, .int .i64 i] w (Ret (.int .i64 (parF N i)) w) := by
  obtain ⟨b, o, rfl, hb, hc⟩ := hB.get (by omega)
  have HC := Lib.hid hc
  have HD := Lib.hid hD
  clear hB hc hD
  have g1 : (0 : Int) ≤ (i : Int) := by omega
  have g2 : (i : Int) < n := by omega
  go_enter Tryz.func34, Tryz.ntmps34
  go_wp2_with fail
  go_loopw [5] (fun z wr => ∃ (p : Nat) (zz : Int), p ≤ i ∧ zz = (p : Int) - 1 ∧ z = .int .i64 zz ∧ Fr (fun _ => False) w wr ∧ Hid (∀ q, p ≤ q → q < i → (N i).depth ≤ (N q).depth)) (fun z _ => (intOf z + 1).toNat)
  case atStart => exact ⟨i, _, Nat.le_refl _, rfl, rfl, Fr.refl _ _, Lib.hid (fun q h1 h2 => by omega)⟩
  case round =>
    obtain ⟨p, zz, hp, hz, rfl, hF, HJ⟩ := hrel
    rcases Nat.eq_zero_or_pos p with rfl | hp0
    · obtain rfl : zz = -1 := by omega
      clear hz
      have HE := Lib.hid (show parF N i = -1 by
        by_cases e : i = 0
        · subst e; rfl
        · have h1 := HJ.out 0 (by omega) (by omega)
          have h2 := deep_zero HD.out (by omega)
          have h3 := deep_pos HD.out hi e
          omega)
      have HF := Lib.hid hF
      clear hF
      go_wp2_with fail
      go_ret
      exact ⟨by rw [HE.out] <;> rfl, HF.out⟩
    · obtain ⟨q, rfl⟩ : ∃ q, p = q + 1 := ⟨p - 1, by omega⟩
      obtain rfl : zz = (q : Int) := by omega
      clear hz
      have c0 := (HC.out wr hF q (by omega)).c0
      have d0 := (HC.out wr hF i hi).c0
      have g3 : (0 : Int) ≤ (q : Int) := by omega
      have g4 : (q : Int) < n := by omega
      have HF := Lib.hid hF
      clear hF
      by_cases h1 : (N q).depth < (N i).depth
      · have HE := Lib.hid (above_is HD.out hi (by omega) h1 (fun q' a b => HJ.out q' (by omega) b)).2
        go_wp2_with fail
        go_quiet (fail)
        go_wp2_with fail
        go_ret
        exact ⟨by rw [HE.out] <;> rfl, HF.out.drewN _⟩
      · go_wp2_with fail
        go_quiet (fail)
        go_wp2_with fail
        go_roundw
        case rel => exact ⟨q, _, by omega, rfl, rfl, HF.out.drewN _, Lib.hid (fun q' a b => by
          by_cases e : q' = q
          · subst e; omega
          · exact HJ.out q' (by omega) b)⟩
        case measure => simp [intOf]; try omega
end Go.Proofs.YtogjfifpbplahaaGreatDoor

namespace Go.Proofs.YtogjfifpbplahaaGreatDoor
open Go.RowKit
open BR
set_option linter.unusedVariables false

theorem str_info : (Tryz.prog.info? 9).map (fun i => (i.zero, i.size, i.bytes)) = some (some (.string ⟨#[]⟩), 1, 16) := by kernel_rfl
def strsL (R : Nat → ByteArray) (d : Nat) : List Value := (List.range d).map (fun j => .string (R j))
theorem strsL_len (R : Nat → ByteArray) (d : Nat) : (strsL R d).length = d := by simp [strsL]
theorem strsL_snoc (R R' : Nat → ByteArray) (d : Nat) (s : ByteArray) (h : ∀ j, j < d → R' j = R j) (hs : R' d = s) : strsL R d ++ [.string s] = strsL R' (d + 1) := by
  unfold strsL
  rw [List.range_succ, List.map_append]
  congr 1
  · exact List.map_congr_left (fun j hj => by rw [h j (by simpa using hj)])
  · simp [hs]
theorem own_strs {w : World} {base : Nat} {e : TypeId} {v : Value} {d : Nat} {R : Nat → ByteArray} (h : w.ownsRow base e 1 v d (strsL R d)) : ∃ a0 c, v = .slice a0 d c ∧ d ≤ c ∧ StrsAt w a0 d R := by
  obtain ⟨a0, c, rfl, hc, hr⟩ := own_slice h
  refine ⟨a0, c, rfl, hc, fun hm => ?_⟩
  obtain ⟨g, rfl, hb, hlt, hj⟩ := hr hm
  exact ⟨g, 0, rfl, hlt, fun k hk => by rw [Nat.zero_add]; exact hj _ _ (by simp [strsL, hk])⟩
theorem own_mono {w : World} {base base' : Nat} {e : TypeId} {size : Nat} {v : Value} {n : Nat} {xs : List Value} (h : w.ownsRow base e size v n xs) (hb : base' ≤ base) : w.ownsRow base' e size v n xs := by
  rcases h.2 with h2 | ⟨g, cap, cur, h1, h3, h4⟩
  · exact ⟨h.1, .inl h2⟩
  · exact ⟨h.1, .inr ⟨g, cap, cur, h1, Nat.le_trans hb h3, h4⟩⟩
/-- a path comes back -/
def RetP (d : Nat) (R : Nat → ByteArray) (w : World) (e : Ending) (w' : World) : Prop := ∃ v, e = .returned v ∧ w'.ownsRow w.heap.size 9 1 v d (strsL R d) ∧ Fr (fun _ => False) w w'
theorem lastAt_skip {N : Nat → BNode} {d : Int} {m : Nat} : ∀ k, m ≤ k → (∀ q, m ≤ q → q < k → (N q).depth ≠ d) → lastAt N k d = lastAt N m d
  | 0, h, _ => by rw [show m = 0 by omega]
  | k + 1, h, hq => by
    by_cases e : m = k + 1
    · rw [e]
    · simp only [lastAt]
      rw [if_neg (hq k (by omega) (by omega))]
      exact lastAt_skip k (by omega) (fun q a b => hq q a (by omega))
theorem path_last {N : Nat → BNode} {n i : Nat} (h : Deep N n) (hi : i < n) (h0 : i ≠ 0) (d : Nat) (hd : (N i).depth = (d : Int) + 1) : pathF N i d = (N i).name := by
  unfold pathF nodeAt
  simp only [lastAt]
  rw [if_pos hd]
  rfl
theorem path_up {N : Nat → BNode} {n i p : Nat} (h : Deep N n) (hi : i < n) (hp : p < i) (hd : (N p).depth < (N i).depth) (hq : ∀ q, p < q → q < i → (N i).depth ≤ (N q).depth) (j : Nat) (hj : (j : Int) < (N p).depth) : pathF N i j = pathF N p j := by
  unfold pathF
  rw [lastAt_skip (m := p + 1) (i + 1) (by omega) (fun q a b => by
    by_cases e : q = i
    · subst e; omega
    · have := hq q (by omega) (by omega); omega)]
set_option maxRecDepth 100000 in
set_option maxHeartbeats 4000000 in
theorem rpathF_walk (n c : Nat) (a0 : Option Addr) (N : Nat → BNode) (H : Nat → Hd) (W : World) (hT : TreeAt W a0 n N H) (hn : n ≤ 1000) (hD : Deep N n) :
    ∀ (m i : Nat), i ≤ m → i < n → ∀ w, Fr (fun _ => False) W w → Calls Tryz.prog 64 #[.slice a0 n c, .int .i64 i] w (RetP (N i).depth.toNat (pathF N i) w) := by
  intro m
  induction m with
  | zero =>
    intro i hi hin w hW
    obtain rfl : i = 0 := by omega
    have HE := Lib.hid (deep_zero hD hin)
    go_enter Tryz.func64, Tryz.ntmps64
    go_wp2_with fail
    go_ret
    exact ⟨.slice none 0 0, rfl, by rw [HE.out]; exact World.ownsRow_nil _ _ _ _, Fr.refl _ _⟩
  | succ m ih =>
    intro i hi hin w hW
    by_cases him : i ≤ m
    · exact ih i him hin w hW
    have IH := Lib.hid ih
    clear ih him
    obtain ⟨i0, hinf, hz0, hz1, hz2⟩ := info_parts str_info
    have HI := Lib.hid (And.intro hinf (And.intro hz0 (And.intro hz1 hz2)))
    clear hinf hz0 hz1 hz2
    obtain ⟨b, o, rfl, hb, hc⟩ := hT.get (by omega)
    have HC := Lib.hid (fun w0 (hG : Fr (fun _ => False) w w0) => hc w0 (hW.then hG))
    have HD := Lib.hid hD
    have HW := Lib.hid hW
    clear hT hc hD hW
    by_cases h0 : i = 0
    · subst h0
      have HE := Lib.hid (deep_zero HD.out hin)
      go_enter Tryz.func64, Tryz.ntmps64
      go_wp2_with fail
      go_ret
      exact ⟨.slice none 0 0, rfl, by rw [HE.out]; exact World.ownsRow_nil _ _ _ _, Fr.refl _ _⟩
    have e0 : ((i : Int) == 0) = false := by simp; omega
    have g1 : (0 : Int) ≤ (i : Int) := by omega
    have g2 : (i : Int) < n := by omega
    have HZ := Lib.hid h0
    clear h0
    go_enter Tryz.func64, Tryz.ntmps64
    go_wp2_with fail
    clear e0
    go_loopw [5] (fun z wr => ∃ (p : Nat) (zz : Int), 1 ≤ p ∧ p ≤ i ∧ zz = (p : Int) - 1 ∧ z = .int .i64 zz ∧ Fr (fun _ => False) w wr ∧ Hid (∀ q, p ≤ q → q < i → (N i).depth ≤ (N q).depth)) (fun z _ => (intOf z + 1).toNat)
    case atStart => exact ⟨i, _, by have := HZ.out; omega, Nat.le_refl _, rfl, rfl, Fr.refl _ _, Lib.hid (fun q h1 h2 => by omega)⟩
    case round =>
      obtain ⟨p, zz, hp0, hp, hz, rfl, hF, HJ⟩ := hrel
      obtain ⟨q, rfl⟩ : ∃ q, p = q + 1 := ⟨p - 1, by omega⟩
      obtain rfl : zz = (q : Int) := by omega
      clear hz
      have c0 := (HC.out wr hF q (by omega)).c0
      have d0 := (HC.out wr hF i hin).c0
      have d1 := (HC.out wr hF i hin).c1
      have g3 : (0 : Int) ≤ (q : Int) := by omega
      have g4 : (q : Int) < n := by omega
      have HF := Lib.hid hF
      clear hF
      by_cases h1 : (N q).depth < (N i).depth
      · have HQ := Lib.hid (fun q' (a : q < q') b => HJ.out q' (by omega) b)
        obtain ⟨hdp, _⟩ := above_is HD.out hin (by omega) h1 HQ.out
        obtain ⟨d, hd⟩ : ∃ d : Nat, (N q).depth = d := ⟨(N q).depth.toNat, by have := (deep_bd HD.out (show q < n by omega)).1; omega⟩
        have HDI := Lib.hid (show (N i).depth = (d : Int) + 1 by omega)
        have HDQ := Lib.hid hd
        have HS := Lib.hid (strsL_snoc (pathF N q) (pathF N i) d (N i).name (fun j hj => path_up HD.out hin (by omega) h1 HQ.out j (by rw [HDQ.out]; omega)) (path_last HD.out hin HZ.out d HDI.out))
        have hd8 : d ≤ 8 := by have := (deep_bd HD.out (show q < n by omega)).2; omega
        have HR := Lib.hid (fun w0 (hG : Fr (fun _ => False) w w0) => IH.out q (by omega) (by omega) w0 (HW.out.then hG))
        rw [hd] at HR
        rw [Int.toNat_natCast] at HR
        clear hdp hd
        go_wp2_with fail
        go_quiet (fail)
        go_wp2_with fail
        have HF2 := Lib.hid (HF.out.drewN nq)
        generalize wr.drewN nq = wo at *
        have HCI := Lib.hid (fun w0 (hG : Fr (fun _ => False) wo w0) => (HC.out w0 (HF2.out.then hG) i hin).c1)
        have d1 := HCI.out wo (Fr.refl _ _)
        obtain ⟨s, hs⟩ : ∃ s, s = (N i).name := ⟨_, rfl⟩
        rw [← hs] at d1 HCI HS
        have HN := Lib.hid hs
        clear hs
        have hz1 : wo.drew.heap.size = wo.heap.size := rfl
        have HZ1 := Lib.hid hz1
        clear hz1
        go_region_held3 (fun w' => w'.cell? ⟨b, o + i * 8 + 1, none⟩ = some (.string s)) (first | go_keep | (exact HCI.out _ HK.out)) (first
          | (go_at_call 64; (with_reducible refine (HR.out wo.drew HF2.out.drew).mono ?_); rintro e w1 ⟨v, rfl, hown, hG⟩; have HA := Lib.hid hown; have HG := Lib.hid ((Fr.refl _ wo).drew.then hG); have HK := Lib.hid HG.out; have y1 := HCI.out w1 HG.out; clear hown hG)
          | (go_at_call 64; (with_reducible refine (HR.out (wo.alloc (.cells #[.string s] 9)).drew (HF2.out.alloc _).drew).mono ?_); rintro e w1 ⟨v, rfl, hown, hG⟩; have HA2 : Hid (w1.ownsRow (wo.heap.size + 1) 9 1 v d (strsL (pathF N q) d)) := Lib.hid (by have h : w1.ownsRow (wo.alloc (.cells #[.string s] 9)).heap.size 9 1 v d (strsL (pathF N q) d) := hown; rw [alloc_size] at h; exact h); have HG := Lib.hid (((Fr.refl _ wo).alloc _).drew.then hG); have HX := Lib.hid (RowB.fr (w := (wo.alloc (.cells #[.string s] 9)).drew) (vs := [.string s]) (RowB.new wo 9 [.string s]) hG (fun h => h)); have y1 := HCI.out w1 HG.out; clear hown hG)
          | (refine step_append_any (by rfl) _ _ 41 (by rfl) wo.drew.heap.size 9 i0 _ 1 16 Tryz.underlying41 HI.out.1 HI.out.2.1 HI.out.2.2.1 HI.out.2.2.2 rfl (by decide) v d (strsL (pathF N q) d) (by rfl) (own_fr HA.out ((Fr.refl (fun _ => False) _).alloc _) (fun _ _ h => h)) (some ⟨w1.heap.size, 0, none⟩) 1 1 [.string s] (by rfl) rfl (fun _ => ⟨w1.heap.size, 0, rfl, fun j u hj => ((RowB.new w1 9 [.string s]).cell (0 + j)).trans (by rw [Nat.zero_add]; exact hj)⟩) (fun u hu => by rw [List.mem_singleton.1 hu]; rfl) (by unfold maxLen; omega) (by omega) (by have := HG.out.size; have := HZ1.out; rw [alloc_size]; omega) ?_; intro v' w3 hown hgrow hat; have HO3 := Lib.hid hown; have HF3 := Lib.hid (fr_grow (HF2.out.then (HG.out.alloc _)) hgrow (fun g hg => Nat.le_trans HF2.out.size (own_block_ge HA.out g hg))); have HK := Lib.hid ((fr_grow ((Fr.refl (fun _ => False) wo).then (HG.out.alloc _)) hgrow (fun g hg => own_block_ge HA.out g hg))); clear hown hgrow hat)
          | (refine step_append_any (by rfl) _ _ 41 (by rfl) (wo.heap.size + 1) 9 i0 _ 1 16 Tryz.underlying41 HI.out.1 HI.out.2.1 HI.out.2.2.1 HI.out.2.2.2 rfl (by decide) v d (strsL (pathF N q) d) (by rfl) HA2.out (some ⟨wo.heap.size, 0, none⟩) 1 1 [.string s] (by rfl) rfl (fun _ => ⟨wo.heap.size, 0, rfl, fun j u hj => (HX.out.cell (0 + j)).trans (by rw [Nat.zero_add]; exact hj)⟩) (fun u hu => by rw [List.mem_singleton.1 hu]; rfl) (by unfold maxLen; omega) (by omega) (by have := HX.out.lt; have := HZ1.out; omega) ?_; intro v' w3 hown hgrow hat; have HO4 := Lib.hid hown; have HF4 := Lib.hid (fr_grow (HF2.out.then HG.out) hgrow (fun g hg => Nat.le_trans HF2.out.size (Nat.le_trans (Nat.le_succ _) (own_block_ge HA2.out g hg)))); have HK := Lib.hid (fr_grow HG.out hgrow (fun g hg => Nat.le_trans (Nat.le_succ _) (own_block_ge HA2.out g hg))); clear hown hgrow hat)
          | fail)
        all_goals go_wp2_with fail
        all_goals go_ret
        all_goals
          first
            | exact ⟨_, rfl, by rw [show (N i).depth.toNat = d + 1 by have := HDI.out; omega, ← HS.out]; exact own_mono HO3.out HF2.out.size, HF3.out⟩
            | exact ⟨_, rfl, by rw [show (N i).depth.toNat = d + 1 by have := HDI.out; omega, ← HS.out]; exact own_mono HO4.out (Nat.le_trans HF2.out.size (Nat.le_succ _)), HF4.out⟩
      · go_wp2_with fail
        go_quiet (fail)
        go_wp2_with fail
        go_roundw
        case rel => exact ⟨q, _, by
          by_cases e : q = 0
          · subst e
            have h2 := deep_zero HD.out (by omega)
            have h3 := deep_pos HD.out hin HZ.out
            omega
          · omega, by omega, rfl, rfl, HF.out.drewN _, Lib.hid (fun q' a b => by
          by_cases e : q' = q
          · subst e; omega
          · exact HJ.out q' (by omega) b)⟩
        case measure => simp [intOf]; try omega
end Go.Proofs.YtogjfifpbplahaaGreatDoor
