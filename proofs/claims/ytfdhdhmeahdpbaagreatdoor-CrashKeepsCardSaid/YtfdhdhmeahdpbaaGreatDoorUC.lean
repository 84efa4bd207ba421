/- The law of CrashKeeps, walked; awake, from the variables that are laid. -/
import Derived.Test.YtfdhdhmeahdpbaaGreatDoorUB
import Derived.Test.YtfdhdhmeahdpbaaGreatDoorC1
import Derived.Test.YtfdhdhmeahdpbaaGreatDoorK24
namespace Go.Proofs.YtfdhdhmeahdpbaaGreatDoor
open Go.RowKit
set_option linter.unusedVariables false

theorem OutAt.two {w : World} {base : Nat} {v : Value} {L : List (List Int)} (h : OutAt w base v L) : ∃ a0 c, v = .slice a0 L.length c ∧
    ∀ i, i < L.length → ∃ g, a0 = some ⟨g, 0, none⟩ ∧ ∃ a1 c1, (∀ w', Fr (fun _ => False) w w' → w'.cell? ⟨g, i, none⟩ = some (.slice a1 (L.getD i []).length c1) ∧ IntsAt w' (.slice a1 (L.getD i []).length c1) (L.getD i [])) ∧
      ∀ j, j < (L.getD i []).length → ∃ g1, a1 = some ⟨g1, 0, none⟩ ∧ ∀ w', Fr (fun _ => False) w w' → ∀ j, j < (L.getD i []).length → w'.cell? ⟨g1, j, none⟩ = some (.int .i64 ((L.getD i []).getD j 0)) := by
  obtain ⟨vs, h1, h2⟩ := h
  obtain ⟨a0, c, rfl, hc, hr⟩ := own_slice h1
  refine ⟨a0, c, rfl, fun i hi => ?_⟩
  obtain ⟨g, rfl, hb, hlt, hj⟩ := hr (by omega)
  obtain ⟨u, k1, _, k2⟩ := h2 i hi
  obtain ⟨a1, c1, rfl, hu⟩ := k2.get
  refine ⟨g, rfl, a1, c1, fun w' f => ⟨f.cell (p := ⟨g, i, none⟩) hlt (fun h => h) (hj i _ k1), k2.fr f⟩, fun j hj => ?_⟩
  obtain ⟨g1, rfl, hc1⟩ := hu (by omega)
  exact ⟨g1, rfl, hc1⟩
theorem filt_bounds {p : Nat → Bool} {n j : Nat} (hj : j < (filt p n).length) : 0 ≤ (filt p n).getD j 0 ∧ (filt p n).getD j 0 < n := by
  have hm : (filt p n).getD j 0 ∈ filt p n := by simp [List.getD, hj]
  unfold filt at hm ⊢
  rw [List.mem_map] at hm
  obtain ⟨k, hk, e⟩ := hm
  rw [List.mem_filter, List.mem_range] at hk
  rw [← e]
  exact ⟨Int.natCast_nonneg k, Int.ofNat_lt.2 hk.1⟩
theorem filt_up {p : Nat → Bool} {n j : Nat} (hj : j + 1 < (filt p n).length) : (filt p n).getD j 0 < (filt p n).getD (j + 1) 0 := by
  have h : (filt p n).Pairwise (fun a b => a < b) := by
    unfold filt
    rw [List.pairwise_map]
    exact (List.pairwise_lt_range.filter p).imp (fun h => Int.ofNat_lt.2 h)
  have := List.pairwise_iff_getElem.1 h j (j + 1) (by omega) hj (by omega)
  simpa [List.getD, hj, show j < (filt p n).length by omega] using this
theorem diff_at {L : List (List Int)} (h : L.Pairwise (fun a b => a ≠ b)) {i k : Nat} (hi : i < L.length) (hk : k < i) : decide (L.getD i [] = L.getD k []) = false := by
  have := List.pairwise_iff_getElem.1 h k i (by omega) hi hk
  refine decide_eq_false fun e => this ?_
  simpa [List.getD, hi, show k < L.length by omega] using e.symm
set_option maxRecDepth 100000 in
set_option maxHeartbeats 4000000 in
theorem law_walk (a b : Nat) (w : World) (ha : a < 65536) (hb : b < 256) (hA : ∀ W', Fr (fun _ => False) w W' → Calls Tryz.prog 7 #[] W' (Ret (.bool true) W')) :
    Calls Tryz.prog 3 #[.int .u16 a, .int .u8 b] w (Ret (.bool true) w) := by
  have HA := Lib.hid hA
  clear hA
  obtain ⟨n, hn⟩ : ∃ n : Nat, n = a % 401 := ⟨_, rfl⟩
  obtain ⟨m, hm⟩ : ∃ m : Nat, m = 1 + b % 64 := ⟨_, rfl⟩
  have e1 : (a : Int).tmod 401 = (n : Int) := by rw [hn, Int.tmod_eq_emod_of_nonneg (by omega)]; omega
  have e2 : 1 + (b : Int) % 64 = (m : Int) := by rw [hm]; omega
  have hn4 : n ≤ 400 := by omega
  have hm1 : 1 ≤ m := by omega
  have hm2 : m ≤ 64 := by omega
  have HK := Lib.hid (fun (W' : World) => keeps_walk n m W' hn4 hm1 hm2)
  clear hn hm
  go_enter Tryz.func3, Tryz.ntmps3
  go_upto_region 3 with (go_at_call 5; go_must (refine (HK.out _).mono ?_; rintro e w1 ⟨v, L, rfl, hO, hG, hF⟩; obtain ⟨a0, c0, rfl, h2⟩ := hO.two; have HO := Lib.hid h2; have HG := Lib.hid hG; have HF := Lib.hid hF; clear hO hG hF h2))
  have p1 : ¬ (L.length : Int) < 1 := by have := HG.out.some; omega
  have p2 : ¬ (m : Int) < L.length := by have := HG.out.most; omega
  have hlen : L.length ≤ 64 := by have := HG.out.most; omega
  clear HK e1 e2
  go_wp2_with fail
  go_loopw [9, 10, 11] (fun z _ _ wr => ∃ i : Nat, i ≤ L.length ∧ z = .int .i64 i ∧ Fr (fun _ => False) w1 wr) (fun z _ _ _ => L.length - (intOf z).toNat)
  case atStart => exact ⟨0, by omega, rfl, by first | exact Fr.refl _ _ | exact (Fr.refl _ _).drewN _⟩
  case round =>
    obtain ⟨i, hi, rfl, hF1⟩ := hrel
    by_cases hlt : i < L.length
    · obtain ⟨g, rfl, a1, c1, hrow, hint⟩ := HO.out i hlt
      obtain ⟨p, hp⟩ := HG.out.of (L.getD i []) (by simp [List.getD, hlt])
      have HB := Lib.hid (fun j (hj : j < (L.getD i []).length) => show 0 ≤ (L.getD i []).getD j 0 ∧ (L.getD i []).getD j 0 < n by rw [hp] at hj ⊢; exact filt_bounds hj)
      have HU := Lib.hid (fun j (hj : j + 1 < (L.getD i []).length) => show (L.getD i []).getD j 0 < (L.getD i []).getD (j + 1) 0 by rw [hp] at hj ⊢; exact filt_up hj)
      have hll : (L.getD i []).length ≤ 400 := by rw [hp]; exact Nat.le_trans (filt_len _ _) hn4
      have HR := Lib.hid hrow
      have HI := Lib.hid hint
      have HF1 := Lib.hid hF1
      have g1 : (0 : Int) ≤ (i : Int) := by omega
      have g2 : (i : Int) < L.length := by omega
      have HX : Hid (∀ k w' a2 c2, Fr (fun _ => False) w1 w' → k < i → IntsAt w' (.slice a2 (L.getD k []).length c2) (L.getD k []) → Calls Tryz.prog 6 #[.slice a1 (L.getD i []).length c1, .slice a2 (L.getD k []).length c2] w' (fun e w'' => e = .returned (.bool false) ∧ ∃ q, w'' = w'.drewN q)) := Lib.hid (fun k w' a2 c2 f hk k2 => by
        obtain ⟨p', hp'⟩ := HG.out.of (L.getD k []) (by simp [List.getD, show k < L.length by omega])
        have := sameInts_walk (L.getD i []) (L.getD k []) _ _ w' (HR.out w' f).2 k2 (by omega) (by rw [hp']; exact Nat.le_trans (filt_len _ _) (by omega))
        rw [diff_at HG.out.diff hlt hk] at this
        exact this)
      clear hp hrow hint hF1
      generalize L.getD i [] = l at *
      go_wp2_with fail
      go_loopw [10] (fun z wr => ∃ j : Nat, j ≤ l.length ∧ z = .int .i64 j ∧ Fr (fun _ => False) w1 wr) (fun z _ => l.length - (intOf z).toNat)
      case atStart => exact ⟨0, by omega, rfl, HF1.out⟩
      case round =>
        obtain ⟨j, hj, rfl, hF2⟩ := hrel
        have d0 : wr.cell? ⟨g, i, none⟩ = some (.slice a1 l.length c1) := (HR.out wr hF2).1
        by_cases hjl : j < l.length
        · obtain ⟨g3, rfl, hc⟩ := HI.out j hjl
          have d1 : wr.cell? ⟨g3, j, none⟩ = some (.int .i64 (l.getD j 0)) := hc wr hF2 j hjl
          obtain ⟨q1, q2⟩ := HB.out j hjl
          have HF2 := Lib.hid hF2
          have j1 : (0 : Int) ≤ (j : Int) := by omega
          have j2 : (j : Int) < l.length := by omega
          have r1 : ¬ l.getD j 0 < 0 := by omega
          have r2 : ¬ (n : Int) ≤ l.getD j 0 := by omega
          clear hF2 q1 q2
          by_cases hj0 : j = 0
          · have j3 : decide (0 < j) = false := decide_eq_false (by omega)
            have j3' : ¬ 0 < j := by omega
            generalize l.getD j 0 = x at *
            clear hj0
            go_upto_region 11 with fail
            go_quiet (fail)
            go_wp2_with fail
            go_roundw
            case rel => exact ⟨j + 1, by omega, by go_num, by first | exact HF2.out | exact HF2.out.drew | exact HF2.out.drewN _⟩
            case measure => simp [intOf]; omega
          · obtain ⟨j', rfl⟩ : ∃ j', j = j' + 1 := ⟨j - 1, by omega⟩
            have d2 : wr.cell? ⟨g3, j', none⟩ = some (.int .i64 (l.getD j' 0)) := hc wr HF2.out j' (by omega)
            have r3 : ¬ l.getD (j' + 1) 0 ≤ l.getD j' 0 := by have := HU.out j' hjl; omega
            have j3 : 0 < j' + 1 := by omega
            clear hj0
            have j4 : ((j' + 1 : Nat) : Int) - 1 = (j' : Int) := by omega
            have j5 : (j' : Int) < l.length := by omega
            have j6 : (0 : Int) ≤ (j' : Int) := by omega
            generalize l.getD (j' + 1) 0 = x at *
            generalize l.getD j' 0 = y at *
            generalize hq : j' + 1 = q at *
            go_upto_region 11 with fail
            go_quiet (fail)
            go_wp2_with fail
            go_roundw
            case rel => exact ⟨q + 1, by omega, by go_num, by first | exact HF2.out | exact HF2.out.drew | exact HF2.out.drewN _⟩
            case measure => simp [intOf]; omega
        · have j2 : ¬ (j : Int) < l.length := by omega
          have HF2 := Lib.hid hF2
          clear hF2
          go_wp2_with fail
          go_loopw [11] (fun z wr => ∃ k : Nat, k ≤ i ∧ z = .int .i64 k ∧ Fr (fun _ => False) w1 wr) (fun z _ => i - (intOf z).toNat)
          case atStart => exact ⟨0, by omega, rfl, HF2.out⟩
          case round =>
            obtain ⟨k, hk, rfl, hF3⟩ := hrel
            have HF3 := Lib.hid hF3
            by_cases hki : k < i
            · have k1 : (k : Int) < i := by omega
              have k2 : (k : Int) < L.length := by omega
              have k3 : (0 : Int) ≤ (k : Int) := by omega
              have d0 : wr.cell? ⟨g, i, none⟩ = some (.slice a1 l.length c1) := (HR.out wr hF3).1
              obtain ⟨g', e, a2, c2, hrow2, _⟩ := HO.out k (by omega)
              cases e
              have d1 : wr.cell? ⟨g, k, none⟩ = some (.slice a2 (L.getD k []).length c2) := (hrow2 wr hF3).1
              have HC := Lib.hid (fun w' f => HX.out k w' a2 c2 f hki (hrow2 w' f).2)
              generalize (L.getD k []).length = lk at *
              clear hF3 hrow2
              go_upto_region 16 with fail
              go_quiet (first | (go_at_call 6; go_must (refine Calls.quiet_of (HC.out _ (HF3.out.drewN _)))) | fail)
              go_wp2_with fail
              go_roundw
              case rel => exact ⟨k + 1, by omega, by go_num, by first | exact HF3.out | exact HF3.out.drew | exact HF3.out.drewN _⟩
              case measure => simp [intOf]; omega
            · have k1 : ¬ (k : Int) < i := by omega
              clear hF3
              go_wp2_with fail
              exact ⟨⟨i + 1, by omega, by go_num, HF3.out⟩, by simp [intOf]; omega⟩
    · obtain rfl : i = L.length := by omega
      have HF1 := Lib.hid hF1
      clear hF1
      have HM := Lib.hid HG.out.more
      have HAll := Lib.hid HG.out.all
      have r1 : ¬ (L.length : Int) < L.length := by omega
      have HQ := Lib.hid (show n ≤ 6 → wrap64 ((2 : Int) ^ n) ≤ m → (L.length : Int) = wrap64 ((2 : Int) ^ n) from fun h6 hle => by
        have hw : wrap64 ((2 : Int) ^ n) = ((2 ^ n : Nat) : Int) := by
          have : ∀ k : Fin 7, wrap64 ((2 : Int) ^ k.1) = ((2 ^ k.1 : Nat) : Int) := by decide +kernel
          exact this ⟨n, by omega⟩
        rw [hw] at hle ⊢
        rw [HG.out.all h6 (by omega)])
      have FF : Fr (fun _ => False) w wr := HF.out.then HF1.out
      have HFF := Lib.hid FF
      clear HO HF HF1 FF HAll hi hlt HG
      generalize L.length = c at *
      generalize hTT : wrap64 ((2 : Int) ^ n) = T at *
      by_cases h6 : n ≤ 6
      · have s1 : (n : Int) ≤ 6 := by omega
        by_cases hT : T ≤ m
        · have s3 : ((c : Int) != T) = false := by have := HQ.out h6 hT; rw [this]; simp
          clear HQ
          go_wp2_with (go_at_call 7; go_must (refine (HA.out _ HFF.out).mono ?_; rintro e w2 ⟨rfl, hG⟩; have HG2 := Lib.hid hG; clear hG))
          all_goals first
            | (exfalso; have := HM.out; omega)
            | (go_ret; exact ⟨rfl, HFF.out.then HG2.out⟩)
        · clear HQ
          go_wp2_with (go_at_call 7; go_must (refine (HA.out _ HFF.out).mono ?_; rintro e w2 ⟨rfl, hG⟩; have HG2 := Lib.hid hG; clear hG))
          all_goals first
            | (exfalso; have := HM.out; omega)
            | (go_ret; exact ⟨rfl, HFF.out.then HG2.out⟩)
      · have s1 : ¬ (n : Int) ≤ 6 := by omega
        clear HQ
        go_wp2_with (go_at_call 7; go_must (refine (HA.out _ HFF.out).mono ?_; rintro e w2 ⟨rfl, hG⟩; have HG2 := Lib.hid hG; clear hG))
        all_goals first
          | (exfalso; have := HM.out; omega)
          | (go_ret; exact ⟨rfl, HFF.out.then HG2.out⟩)
end Go.Proofs.YtfdhdhmeahdpbaaGreatDoor
namespace Go.Proofs.YtfdhdhmeahdpbaaGreatDoor
open Go Ev
set_option linter.unusedVariables false
set_option maxRecDepth 1000000
theorem phi0_some {w : World} {q : Pos} {l : Ev.Loc} (h : phi0 Tryz.prog w q = some l) : l.b = q.num ∧ q.num < Tryz.prog.globals.size := by
  unfold phi0 at h
  split at h
  · rename_i e; cases h; exact ⟨rfl, e.2⟩
  · cases h
theorem globs_small : Nat.ble Tryz.prog.globals.size 900 = true := by kernel_rfl
theorem num57190 : (A 57190).num = 57190 := bits_num 30 _ (by decide)
/-- the variables that the call reads lie as they did in a world -/
def Laid0 (W : World) : Prop := ∀ p b, (p, b) ∈ e57190_7.pre → b.isRo = true ∧ ∃ l o, phi0 Tryz.prog W p = some l ∧ W.heap[l.b]? = some o ∧ relBlk (Sl Tryz.prog) (Nt Tryz.prog) (phi0 Tryz.prog W) b o l
theorem awake_call {W w : World} (hL : Laid0 W) (hs : Tryz.prog.globals.size ≤ W.heap.size) (f : Fr (fun _ => False) W w) : Calls Tryz.prog 7 #[] w (Ret (.bool true) w) := by
  have hr : RelL (phi0 Tryz.prog W) e57190_7.next e57190_7.pre W := RelL.ro (fun p b h => (hL p b h).1) (fun p b h => (hL p b h).2) (fun p l h => by have := phi0_some h; omega) (fun p l h => by
    have := phi0_some h; have := Nat.le_of_ble_eq_true globs_small; rw [show e57190_7.next = A 57190 from rfl, num57190]; omega)
  refine (call_known k57190_7 (hr.fr f) (phi0_glob (Nat.le_trans (Nat.le_of_ble_eq_true globs_small) (by decide))) (vs := #[]) .nil).mono ?_
  rintro x w' ⟨v, ψ, st, rfl, o⟩
  have hv : v = .bool true := o.val
  exact ⟨by rw [hv], o.still (fun p b h => (hL p b h).1)⟩
end Go.Proofs.YtfdhdhmeahdpbaaGreatDoor
