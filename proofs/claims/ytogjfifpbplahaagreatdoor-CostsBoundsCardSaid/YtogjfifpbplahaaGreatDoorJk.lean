/- This text proves contracts of the program's names, attributes and paths, and its own maps; no condition beyond those that each statement names. -/
import Derived.Test.YtogjfifpbplahaaGreatDoorJe
import Derived.Test.YtogjfifpbplahaaGreatDoorJc
import Derived.Test.YtogjfifpbplahaaGreatDoorJf
import Derived.Test.YtogjfifpbplahaaGreatDoorJh
import Derived.Test.YtogjfifpbplahaaGreatDoorJR4
import Derived.Deep.AppendSrc
import Derived.Deep.CutRange
import Derived.Deep.Cut
import Derived.Maps.OwnOps
import Derived.Maps.Views
namespace Go.Proofs.YtogjfifpbplahaaGreatDoor
open Go.RowKit Go.Shelf
open BR
open Go.Op (bytesLess)
set_option linter.unusedVariables false

theorem containsK (s : ByteArray) (w : World) : Calls Tryz.prog 89 #[.string s, .func (.func 103) #[] #[]] w (Ret (.bool (s.toList.any badK)) w) :=
  (Tryz.strings_ContainsFunc 103 #[] (enters_of Tryz.func103 (by kernel_rfl) rfl) (fun r => decide (r < 33) || decide (126 < r)) s w (name1_at w)).mono fun e w' ⟨he, hb⟩ =>
    ⟨by rw [he, idx_any _ (fun r hr => by simp; omega)]; rfl, Fr.of_below hb⟩
theorem containsP (s : ByteArray) (w : World) : Calls Tryz.prog 89 #[.string s, .func (.func 90) #[] #[]] w (Ret (.bool (s.toList.any badP)) w) :=
  (Tryz.strings_ContainsFunc 90 #[] (enters_of Tryz.func90 (by kernel_rfl) rfl) (fun r => decide (r < 33) || decide (126 < r) || decide (r = 47)) s w (bad_at w)).mono fun e w' ⟨he, hb⟩ =>
    ⟨by rw [he, idx_any _ (fun r hr => by simp; omega)]; rfl, Fr.of_below hb⟩
set_option maxHeartbeats 1000000 in
theorem key_walk (s : ByteArray) (w : World) (hs : s.size ≤ 1000) : Calls Tryz.prog 97 #[.string s] w (Ret (.int .i64 (keyE s)) w) := by
  have HC := Lib.hid (containsK s w)
  cases h0 : s.toList.isEmpty
  · cases hb : s.toList.any badK
    · rw [hb] at HC
      by_cases hl : 40 < s.size
      · have HE := Lib.hid (keyE_long h0 hb hl)
        clear hb
        go_enter Tryz.func97, Tryz.ntmps97
        go_wp2_with (go_at_call 89; go_must (refine HC.out.mono ?_; rintro e w1 ⟨rfl, hF⟩; have HF := Lib.hid hF; clear hF))
        go_ret
        exact ⟨by rw [HE.out] <;> rfl, HF.out⟩
      · have HE := Lib.hid (keyE_ok h0 hb hl)
        clear hb
        go_enter Tryz.func97, Tryz.ntmps97
        go_wp2_with (go_at_call 89; go_must (refine HC.out.mono ?_; rintro e w1 ⟨rfl, hF⟩; have HF := Lib.hid hF; clear hF))
        go_ret
        exact ⟨by rw [HE.out] <;> rfl, HF.out⟩
    · rw [hb] at HC
      have HE := Lib.hid (keyE_bad hb)
      clear hb
      go_enter Tryz.func97, Tryz.ntmps97
      go_wp2_with (go_at_call 89; go_must (refine HC.out.mono ?_; rintro e w1 ⟨rfl, hF⟩; have HF := Lib.hid hF; clear hF))
      go_ret
      exact ⟨by rw [HE.out] <;> rfl, HF.out⟩
  · have HE := Lib.hid (keyE_nil h0)
    go_enter Tryz.func97, Tryz.ntmps97
    go_wp2_with fail
    go_ret
    exact ⟨by rw [HE.out] <;> rfl, Fr.refl _ _⟩
set_option maxHeartbeats 1000000 in
theorem name_walk (s : ByteArray) (w : World) (hs : s.size ≤ 1000) : Calls Tryz.prog 74 #[.string s] w (Ret (.int .i64 (nameE s)) w) := by
  have HC := Lib.hid (containsP s w)
  cases h0 : s.toList.isEmpty
  · by_cases h1 : s.toList = [46]
    · have HE := Lib.hid (nameE_dot h1)
      have q1 := eq_beq h1
      clear h1
      go_enter Tryz.func74, Tryz.ntmps74
      go_wp2_with fail
      go_ret
      exact ⟨by rw [HE.out] <;> rfl, Fr.refl _ _⟩
    · have q1 := ne_beq h1
      by_cases h2 : s.toList = [46, 46]
      · have HE := Lib.hid (nameE_dots h2)
        have q2 := eq_beq h2
        clear h1 h2
        go_enter Tryz.func74, Tryz.ntmps74
        go_wp2_with fail
        go_ret
        exact ⟨by rw [HE.out] <;> rfl, Fr.refl _ _⟩
      · have q2 := ne_beq h2
        cases hb : s.toList.any badP
        · rw [hb] at HC
          have HR := Lib.hid (nameE_rest h0 h1 h2 hb)
          clear h1 h2 hb
          by_cases hl : 24 < s.size
          · have HE := Lib.hid (HR.out.trans (if_pos hl))
            go_enter Tryz.func74, Tryz.ntmps74
            go_wp2_with (go_at_call 89; go_must (refine HC.out.mono ?_; rintro e w1 ⟨rfl, hF⟩; have HF := Lib.hid hF; clear hF))
            go_ret
            exact ⟨by rw [HE.out] <;> rfl, HF.out⟩
          · have HE := Lib.hid (HR.out.trans (if_neg hl))
            go_enter Tryz.func74, Tryz.ntmps74
            go_wp2_with (go_at_call 89; go_must (refine HC.out.mono ?_; rintro e w1 ⟨rfl, hF⟩; have HF := Lib.hid hF; clear hF))
            go_ret
            exact ⟨by rw [HE.out] <;> rfl, HF.out⟩
        · rw [hb] at HC
          have HE := Lib.hid (nameE_bad hb)
          clear h1 h2 hb
          go_enter Tryz.func74, Tryz.ntmps74
          go_wp2_with (go_at_call 89; go_must (refine HC.out.mono ?_; rintro e w1 ⟨rfl, hF⟩; have HF := Lib.hid hF; clear hF))
          go_ret
          exact ⟨by rw [HE.out] <;> rfl, HF.out⟩
  · have HE := Lib.hid (nameE_nil h0)
    go_enter Tryz.func74, Tryz.ntmps74
    go_wp2_with fail
    go_ret
    exact ⟨by rw [HE.out] <;> rfl, Fr.refl _ _⟩
set_option maxHeartbeats 1000000 in
theorem alone_walk (x : BAttr) (w : World) (h1 : x.name.size ≤ 1000) (h2 : x.value.size ≤ 1000) : Calls Tryz.prog 85 #[atV x] w (Ret (.int .i64 (aloneE x)) w) := by
  have HK := Lib.hid (fun w0 => key_walk x.name w0 h1)
  unfold atV
  by_cases hk : keyE x.name = 0
  · rw [hk] at HK
    by_cases hl : 200 < x.value.size
    · have HE := Lib.hid (show aloneE x = 3 by unfold aloneE; rw [if_neg (by simpa using hk), if_pos hl])
      clear hk
      go_enter Tryz.func85, Tryz.ntmps85
      go_wp2_with (go_at_call 97; go_must (refine (HK.out _).mono ?_; rintro e w1 ⟨rfl, hF⟩; have HF1 := Lib.hid (((Fr.refl (fun _ => False) w).alloc _).then hF); have c1 : w1.cell? ⟨w.heap.size, 1, none⟩ = some (.string x.value) := (RowB.fr (vs := [.string x.name, .string x.value]) (RowB.new w 58 [.string x.name, .string x.value]) hF (fun h => h)).cell 1; clear hF))
      go_ret
      exact ⟨by rw [HE.out] <;> rfl, HF1.out⟩
    · have HE := Lib.hid (show aloneE x = 0 by unfold aloneE; rw [if_neg (by simpa using hk), if_neg hl])
      clear hk
      go_enter Tryz.func85, Tryz.ntmps85
      go_wp2_with (go_at_call 97; go_must (refine (HK.out _).mono ?_; rintro e w1 ⟨rfl, hF⟩; have HF1 := Lib.hid (((Fr.refl (fun _ => False) w).alloc _).then hF); have c1 : w1.cell? ⟨w.heap.size, 1, none⟩ = some (.string x.value) := (RowB.fr (vs := [.string x.name, .string x.value]) (RowB.new w 58 [.string x.name, .string x.value]) hF (fun h => h)).cell 1; clear hF))
      go_ret
      exact ⟨by rw [HE.out] <;> rfl, HF1.out⟩
  · have HE := Lib.hid (show aloneE x = keyE x.name by unfold aloneE; rw [if_pos hk])
    have q0 : (keyE x.name != 0) = true := by simpa using hk
    generalize keyE x.name = E at *
    clear hk
    go_enter Tryz.func85, Tryz.ntmps85
    go_wp2_with (go_at_call 97; go_must (refine (HK.out _).mono ?_; rintro e w1 ⟨rfl, hF⟩; have HF1 := Lib.hid (((Fr.refl (fun _ => False) w).alloc _).then hF); clear hF))
    go_ret
    exact ⟨by rw [HE.out] <;> rfl, HF1.out⟩
/-- cmp.Compare at strings -/
def cmpS (x y : ByteArray) : Int := if bytesLess x.toList y.toList = true then -1 else if x.toList = y.toList then 0 else 1
set_option maxHeartbeats 1000000 in
theorem cmp_walk (x y : ByteArray) (w : World) : Calls Tryz.prog 86 #[.string x, .string y] w fun e w' => e = .returned (.int .i64 (cmpS x y)) ∧ w = w' := by
  have hnan : ∀ (s : ByteArray) (w : World), Calls Tryz.prog 98 #[.string s] w fun e w' => e = .returned (.bool false) ∧ w = w' := by
    intro s w
    have e0 : (s.toList == s.toList) = true := by simp
    go_enter Tryz.func98, Tryz.ntmps98
    go_wp2
    go_ret
    exact ⟨ret_bool (by simp), rfl⟩
  have HN := Lib.hid hnan
  clear hnan
  cases h1 : bytesLess x.toList y.toList
  · by_cases h2 : x.toList = y.toList
    · have HE := Lib.hid (show cmpS x y = 0 by unfold cmpS; rw [h1, if_neg (by simp), if_pos h2])
      have e1 := eq_beq h2
      have e2 : (bytesLess x.toList y.toList || x.toList == y.toList) = true := by rw [e1]; simp
      clear h2
      go_enter Tryz.func86, Tryz.ntmps86
      go_wp2_with (go_at_call 98; go_must (refine (HN.out _ _).mono ?_; rintro e w1 ⟨rfl, rfl⟩))
      go_ret
      exact ⟨by rw [HE.out] <;> rfl, rfl⟩
    · have HE := Lib.hid (show cmpS x y = 1 by unfold cmpS; rw [h1, if_neg (by simp), if_neg h2])
      have e1 := ne_beq h2
      clear h2
      go_enter Tryz.func86, Tryz.ntmps86
      go_wp2_with (go_at_call 98; go_must (refine (HN.out _ _).mono ?_; rintro e w1 ⟨rfl, rfl⟩))
      go_ret
      exact ⟨by rw [HE.out] <;> rfl, rfl⟩
  · have HE := Lib.hid (show cmpS x y = -1 by unfold cmpS; rw [h1, if_pos rfl])
    go_enter Tryz.func86, Tryz.ntmps86
    go_wp2_with (go_at_call 98; go_must (refine (HN.out _ _).mono ?_; rintro e w1 ⟨rfl, rfl⟩))
    go_ret
    exact ⟨by rw [HE.out] <;> rfl, rfl⟩
end Go.Proofs.YtogjfifpbplahaaGreatDoor

namespace Go.Proofs.YtogjfifpbplahaaGreatDoor
open Go.RowKit
open BR
open Go.Op (bytesLess)
set_option linter.unusedVariables false

set_option maxHeartbeats 2000000 in
theorem sameA_walk (m c m' c' : Nat) (a0 a0' : Option Addr) (A A' : Nat → BAttr) (w : World) (hA : AttrsAt w a0 m A) (hA' : AttrsAt w a0' m' A') (hm : m ≤ 100) (hm' : m' ≤ 100) (q : Bool) (hq : q = true ↔ sameA m A m' A') :
    Calls Tryz.prog 100 #[.slice a0 m c, .slice a0' m' c'] w (Ret (.bool q) w) := by
  have HQ := Lib.hid hq
  have HA := Lib.hid hA
  have HA' := Lib.hid hA'
  clear hq hA hA'
  by_cases h0 : m = m'
  · subst h0
    go_enter Tryz.func100, Tryz.ntmps100
    go_wp2_with fail
    go_loopw [5, 13] (fun _ i wr => ∃ k : Nat, k ≤ m ∧ i = .int .i64 k ∧ Fr (fun _ => False) w wr ∧ Hid (∀ j, j < k → (A j).name.toList = (A' j).name.toList ∧ (A j).value.toList = (A' j).value.toList)) (fun _ i _ => m - (intOf i).toNat)
    case atStart => exact ⟨0, by omega, rfl, Fr.refl _ _, Lib.hid (fun j hj => by omega)⟩
    case round =>
      obtain ⟨k, hk, rfl, hF, HJ⟩ := hrel
      by_cases hlt : k < m
      · obtain ⟨b, o, rfl, hb, hc⟩ := HA.out (by omega)
        obtain ⟨b', o', rfl, hb', hc'⟩ := HA'.out (by omega)
        have c0 : wr.cell? ⟨b, o + k * 2, none⟩ = some (.string (A k).name) := hF.cell (p := ⟨b, o + k * 2, none⟩) hb (fun h => h) (hc k hlt).1
        have c1 : wr.cell? ⟨b, o + k * 2 + 1, none⟩ = some (.string (A k).value) := hF.cell (p := ⟨b, o + k * 2 + 1, none⟩) hb (fun h => h) (hc k hlt).2
        have c2 : wr.cell? ⟨b', o' + k * 2, none⟩ = some (.string (A' k).name) := hF.cell (p := ⟨b', o' + k * 2, none⟩) hb' (fun h => h) (hc' k hlt).1
        have c3 : wr.cell? ⟨b', o' + k * 2 + 1, none⟩ = some (.string (A' k).value) := hF.cell (p := ⟨b', o' + k * 2 + 1, none⟩) hb' (fun h => h) (hc' k hlt).2
        have g1 : (0 : Int) ≤ (k : Int) := by omega
        have g2 : (k : Int) < m := by omega
        have HF := Lib.hid hF
        clear hF hc hc'
        by_cases he : (A k).name.toList = (A' k).name.toList
        · have e1 := eq_beq he
          by_cases he2 : (A k).value.toList = (A' k).value.toList
          · have HN := Lib.hid (And.intro he he2)
            have e2 := eq_beq he2
            clear he he2
            go_wp2_with fail
            go_quiet (fail)
            go_wp2_with fail
            go_roundw
            case rel => exact ⟨k + 1, by omega, by go_num, HF.out.drewN _, Lib.hid (fun j hj => by
              by_cases e : j = k
              · subst e; exact HN.out
              · exact HJ.out j (by omega))⟩
            case measure => simp [intOf]; omega
          · have HE := Lib.hid (show q = false by
              cases q with
              | false => rfl
              | true => exact absurd ((HQ.out.1 rfl).2 k hlt).2 he2)
            have e2 := ne_beq he2
            clear he he2
            go_wp2_with fail
            go_quiet (fail)
            go_wp2_with fail
            go_ret
            exact ⟨by rw [HE.out] <;> rfl, HF.out.drewN _⟩
        · have HE := Lib.hid (show q = false by
            cases q with
            | false => rfl
            | true => exact absurd ((HQ.out.1 rfl).2 k hlt).1 he)
          have e1 := ne_beq he
          clear he
          go_wp2_with fail
          go_quiet (fail)
          go_wp2_with fail
          go_ret
          exact ⟨by rw [HE.out] <;> rfl, HF.out.drewN _⟩
      · obtain rfl : k = m := by omega
        have HE := Lib.hid (HQ.out.2 ⟨rfl, HJ.out⟩)
        have HF := Lib.hid hF
        clear hF
        go_wp2_with fail
        go_ret
        exact ⟨by rw [HE.out] <;> rfl, HF.out⟩
  · have HE := Lib.hid (show q = false by
      cases q with
      | false => rfl
      | true => exact absurd (HQ.out.1 rfl).1 h0)
    have e1 : ((m : Int) != (m' : Int)) = true := by simp; omega
    clear h0
    go_enter Tryz.func100, Tryz.ntmps100
    go_wp2_with fail
    go_ret
    exact ⟨by rw [HE.out] <;> rfl, Fr.refl _ _⟩
set_option maxRecDepth 100000 in
set_option maxHeartbeats 4000000 in
theorem like_walk (x y : BNode) (h g : Hd) (w : World) (hx : NodeT w x h) (hy : NodeT w y g) (hm : x.m ≤ 100) (hm' : y.m ≤ 100) (q : Bool) (hq : q = true ↔ likeP x y) :
    Calls Tryz.prog 88 #[trA x h, trA y g] w (Ret (.bool q) w) := by
  have HQ := Lib.hid hq
  have HS := Lib.hid (fun (w0 : World) (hF : Fr (fun _ => False) w w0) => sameA_walk x.m h.cA y.m g.cA h.aA g.aA x.A y.A w0 (hx.1.fr hF (fun _ _ h => h)) (hy.1.fr hF (fun _ _ h => h)) hm hm')
  clear hq hx hy
  have HR1 := Lib.hid (RowB.new w 106 (trV x h))
  have HR2 := Lib.hid (RowB.new (w.alloc (.cells #[.int .i64 x.depth, .string x.name, .int .i64 x.kind, .slice h.aA x.m h.cA, .string x.data, .int .i64 x.major, .int .i64 x.minor, .int .i64 x.cls] 106)) 106 (trV y g))
  rw [alloc_size] at HR2
  unfold trA
  by_cases hK : x.kind = y.kind
  · have HK := Lib.hid hK
    have eK : (x.kind == y.kind) = true := by simpa using hK
    clear hK
    by_cases hD : x.data.toList = y.data.toList
    · have HD := Lib.hid hD
      have eD : (x.data.toList == y.data.toList) = true := by simpa using hD
      clear hD
      by_cases hM : x.major = y.major
      · have HM := Lib.hid hM
        have eM : (x.major == y.major) = true := by simpa using hM
        clear hM
        by_cases hN : x.minor = y.minor
        · have HN := Lib.hid hN
          have eN : (x.minor == y.minor) = true := by simpa using hN
          clear hN
          by_cases hA : sameA x.m x.A y.m y.A
          · have HA := Lib.hid hA
            have HC := Lib.hid (HS.out ((w.alloc (.cells #[.int .i64 x.depth, .string x.name, .int .i64 x.kind, .slice h.aA x.m h.cA, .string x.data, .int .i64 x.major, .int .i64 x.minor, .int .i64 x.cls] 106)).alloc (.cells #[.int .i64 y.depth, .string y.name, .int .i64 y.kind, .slice g.aA y.m g.cA, .string y.data, .int .i64 y.major, .int .i64 y.minor, .int .i64 y.cls] 106)) (((Fr.refl _ w).alloc _).alloc _) true ⟨fun _ => hA, fun _ => rfl⟩)
            clear hA
            have HE := Lib.hid (HQ.out.2 ⟨HK.out, HD.out, HM.out, HN.out, HA.out⟩)
            go_enter Tryz.func88, Tryz.ntmps88
            go_wp2_with (go_at_call 100; go_must (refine HC.out.mono ?_; rintro e w1 ⟨rfl, hF⟩; have HF1 := Lib.hid ((((Fr.refl (fun _ => False) w).alloc _).alloc _).then hF); have hR1 := (HR1.out.fr ((Fr.refl (fun _ => False) _).alloc _) (fun h => h)).fr hF (fun h => h); have hR2 := HR2.out.fr hF (fun h => h); have c4 := hR1.cell 4; have d4 := hR2.cell 4; have c5 := hR1.cell 5; have d5 := hR2.cell 5; have c6 := hR1.cell 6; have d6 := hR2.cell 6; simp only [trV] at c4 d4 c5 d5 c6 d6; clear hF hR1 hR2))
            go_ret
            exact ⟨by rw [HE.out] <;> rfl, HF1.out⟩
          · have HE := Lib.hid (show q = false by cases q with | false => rfl | true => exact absurd (by have h := HQ.out.1 rfl; exact h.2.2.2.2) hA)
            have HC := Lib.hid (HS.out ((w.alloc (.cells #[.int .i64 x.depth, .string x.name, .int .i64 x.kind, .slice h.aA x.m h.cA, .string x.data, .int .i64 x.major, .int .i64 x.minor, .int .i64 x.cls] 106)).alloc (.cells #[.int .i64 y.depth, .string y.name, .int .i64 y.kind, .slice g.aA y.m g.cA, .string y.data, .int .i64 y.major, .int .i64 y.minor, .int .i64 y.cls] 106)) (((Fr.refl _ w).alloc _).alloc _) false ⟨(fun h => by cases h), fun h => absurd h hA⟩)
            clear hA
            go_enter Tryz.func88, Tryz.ntmps88
            go_wp2_with (go_at_call 100; go_must (refine HC.out.mono ?_; rintro e w1 ⟨rfl, hF⟩; have HF1 := Lib.hid ((((Fr.refl (fun _ => False) w).alloc _).alloc _).then hF); have hR1 := (HR1.out.fr ((Fr.refl (fun _ => False) _).alloc _) (fun h => h)).fr hF (fun h => h); have hR2 := HR2.out.fr hF (fun h => h); have c4 := hR1.cell 4; have d4 := hR2.cell 4; have c5 := hR1.cell 5; have d5 := hR2.cell 5; have c6 := hR1.cell 6; have d6 := hR2.cell 6; simp only [trV] at c4 d4 c5 d5 c6 d6; clear hF hR1 hR2))
            go_ret
            exact ⟨by rw [HE.out] <;> rfl, HF1.out⟩
        · have HE := Lib.hid (show q = false by cases q with | false => rfl | true => exact absurd (by have h := HQ.out.1 rfl; exact h.2.2.2.1) hN)
          have eN : (x.minor == y.minor) = false := by simpa using hN
          clear hN
          go_enter Tryz.func88, Tryz.ntmps88
          go_wp2_with fail
          go_ret
          exact ⟨by rw [HE.out] <;> rfl, ((Fr.refl (fun _ => False) w).alloc _).alloc _⟩
      · have HE := Lib.hid (show q = false by cases q with | false => rfl | true => exact absurd (by have h := HQ.out.1 rfl; exact h.2.2.1) hM)
        have eM : (x.major == y.major) = false := by simpa using hM
        clear hM
        go_enter Tryz.func88, Tryz.ntmps88
        go_wp2_with fail
        go_ret
        exact ⟨by rw [HE.out] <;> rfl, ((Fr.refl (fun _ => False) w).alloc _).alloc _⟩
    · have HE := Lib.hid (show q = false by cases q with | false => rfl | true => exact absurd (by have h := HQ.out.1 rfl; exact h.2.1) hD)
      have eD : (x.data.toList == y.data.toList) = false := by simpa using hD
      clear hD
      go_enter Tryz.func88, Tryz.ntmps88
      go_wp2_with fail
      go_ret
      exact ⟨by rw [HE.out] <;> rfl, ((Fr.refl (fun _ => False) w).alloc _).alloc _⟩
  · have HE := Lib.hid (show q = false by cases q with | false => rfl | true => exact absurd (by have h := HQ.out.1 rfl; exact h.1) hK)
    have eK : (x.kind == y.kind) = false := by simpa using hK
    clear hK
    go_enter Tryz.func88, Tryz.ntmps88
    go_wp2_with fail
    go_ret
    exact ⟨by rw [HE.out] <;> rfl, ((Fr.refl (fun _ => False) w).alloc _).alloc _⟩

end Go.Proofs.YtogjfifpbplahaaGreatDoor

namespace Go.Proofs.YtogjfifpbplahaaGreatDoor
open Go.RowKit
set_option linter.unusedVariables false

section
variable {P : Program}
theorem run_append_src (w : World) (base : Nat) (t tx ty e : TypeId) (i : TypeInfo) (z : Value) (size bytes : Nat) (ht : P.underlying t = some (.slice e)) (hi : P.info? e = some i) (hz : i.zero = some z)
    (hsize : i.size = size) (hby : i.bytes = bytes) (hzs : z.cells.size = size) (hsz : 0 < size)
    (v : Value) (n : Nat) (xs : List Value) (hown : w.ownsRow base e size v n xs)
    (x : Value) (m : Nat) (news : List Value) (hs : Src P i.size tx x m news w)
    (h63 : n + m ≤ maxLen) (hbytes : (n + m) * bytes ≤ 140737488355328) (hbase : base ≤ w.heap.size) :
    ∃ v' w', (Builtin.append_ #[t, tx] ty #[v, x]).run P w = .ok v' w' ∧ w'.ownsRow base e size v' (n + m) (xs ++ news) ∧ w.grownBy w' v.ownBlock ∧ (v'.ownBlock = v.ownBlock ∨ v'.ownBlock = some w.heap.size) := by
  have hnl := hs.newsLen
  by_cases hm : m = 0
  · subst hm
    obtain rfl : news = [] := List.eq_nil_of_length_eq_zero (by simpa using hnl)
    have hrun : (Builtin.append_ #[t, tx] ty #[v, x]).run P w = .ok v w := by
      rcases hown.2 with ⟨hv, hn⟩ | ⟨g, cap, cur, hv, _, _, hnc, _⟩
      · rw [hv]; exact run_append_nothing (P := P) w t tx ty e i ht hi none 0 0 (Nat.le_refl _) x hs
      · rw [hv]; exact run_append_nothing (P := P) w t tx ty e i ht hi _ n cap hnc x hs
    exact ⟨v, w, hrun, by simpa using hown, ⟨rfl, rfl, rfl, Nat.le_refl _, fun _ _ _ => rfl⟩, Or.inl rfl⟩
  have hsmall : n + m ≤ 9223372036854775807 := by simp only [maxLen] at h63; omega
  have hlen : (xs ++ news).length = (n + m) * size := by rw [List.length_append, hown.1, hnl, hsize, Nat.add_mul]
  have hnew : ∀ (old : Nat) (row : Option Nat), old < n + m →
      (w.drew.alloc (.cells ((xs ++ news).toArray ++ Builtin.zeroCells z.cells (grownCap w (n + m) old e - (n + m))) e)).ownsRow base e size (.slice (some ⟨w.heap.size, 0, none⟩) (n + m) (grownCap w (n + m) old e)) (n + m) (xs ++ news) ∧
      w.grownBy (w.drew.alloc (.cells ((xs ++ news).toArray ++ Builtin.zeroCells z.cells (grownCap w (n + m) old e - (n + m))) e)) row := by
    intro old row ho
    have hge := grownCap_ge w (n + m) old e
    refine ⟨⟨hlen, .inr ⟨w.heap.size, _, _, rfl, hbase, heap_alloc_new w.drew _, hge, grownCap_le_maxLen w (n + m) old e h63, ?_, ?_⟩⟩, ⟨rfl, rfl, rfl, by simp, fun k hk _ => Below.heap_alloc w.drew _ _ hk⟩⟩
    · rw [Array.size_append, size_zeroCells, hzs, List.size_toArray, hlen, ← Nat.add_mul]
      congr 1
      omega
    · rw [Array.toList_append, ← hlen]
      exact List.take_left
  rcases hown.2 with ⟨rfl, rfl⟩ | ⟨g, cap, cur, rfl, hbg, hg, hnc, hcm, hcs, htake⟩
  · obtain rfl : xs = [] := List.eq_nil_of_length_eq_zero (by simpa using hown.1)
    have hr := run_append_grow_src (P := P) w t tx ty e i z ht hi hz none 0 0 [] (run_firstCells_none w.drew _ 0 0 0) x m news hs (by omega) (by omega) (growslice_fits (by omega) (by rw [hby]; simpa using hbytes))
    obtain ⟨h1, h2⟩ := hnew 0 (Value.ownBlock (.slice none 0 0)) (by omega)
    exact ⟨_, _, hr, h1, h2, Or.inr rfl⟩
  · by_cases hroom : n + m ≤ cap
    · have hfit : n * size + news.length ≤ cur.size := by rw [hnl, hsize, hcs, ← Nat.add_mul]; exact Nat.mul_le_mul_right _ hroom
      have hst := run_storeCells_at P g (n * i.size) e news 0 cur w hg (by rw [hsize]; simpa using hfit) hs.one
      simp only [Nat.add_zero] at hst
      have hr : (Builtin.append_ #[t, tx] ty #[.slice (some ⟨g, 0, none⟩) n cap, x]).run P w = .ok (.slice (some ⟨g, 0, none⟩) (n + m) cap) (w.setRow g (cur.toList.take (n * i.size) ++ news ++ cur.toList.drop (n * i.size + news.length)).toArray) := by
        rcases hs.kind with ⟨e', hk⟩ | hk <;> simp [Builtin.append_, run_underlying ht, run_underlying hk, sizeOf, typeInfo, hi, hs.len, hroom, hs.cells, Addr.add_lit, hst]
      rw [hsize] at hr
      refine ⟨_, _, hr, ⟨hlen, .inr ⟨g, cap, _, rfl, hbg, setRow_heap w g cur _ e _ hg, hroom, hcm, ?_, ?_⟩⟩, ⟨rfl, rfl, rfl, by simp, fun k _ hk => setRow_other w g k _ (fun e => hk (by simp [Value.ownBlock, e]))⟩, Or.inl rfl⟩
      · simp only [List.size_toArray, List.length_append, List.length_take, List.length_drop, Array.length_toList]
        omega
      · rw [htake, ← hlen]
        exact List.take_left
    · have holds : ∀ j u, xs[j]? = some u → w.cell? ((⟨g, 0, none⟩ : Addr).add j) = some u := hown.cells (g := g) rfl
      have hold : (Builtin.firstCells i.size n (.slice (some ⟨g, 0, none⟩) n cap)).run P w.drew = .ok xs.toArray w.drew := run_firstCells_some w.drew i.size n ⟨g, 0, none⟩ n cap xs (by rw [hsize]; exact hown.1) holds
      have hr := run_append_grow_src (P := P) w t tx ty e i z ht hi hz (some ⟨g, 0, none⟩) n cap xs hold x m news hs (by omega) (by omega) (growslice_fits (by omega) (by rw [hby]; exact hbytes))
      obtain ⟨h1, h2⟩ := hnew cap (Value.ownBlock (.slice (some ⟨g, 0, none⟩) n cap)) (by omega)
      exact ⟨_, _, hr, h1, h2, Or.inr rfl⟩
theorem wpList_append_src {w : World} {ops : Array Oper} {rest : List Oper} {o : Oper} {a : Act} {Q : Exit → Act → World → Prop} (hgd : o.guard = none) (s xo : Operand) (t tx : TypeId)
    (ho : o.op = .call { callee := .builtin .append, args := #[s, xo], argTypes := #[t, tx] })
    (base : Nat) (e : TypeId) (i : TypeInfo) (z : Value) (size bytes : Nat) (ht : P.underlying t = some (.slice e)) (hi : P.info? e = some i) (hz : i.zero = some z)
    (hsize : i.size = size) (hby : i.bytes = bytes) (hzs : z.cells.size = size) (hsz : 0 < size)
    (v : Value) (n : Nat) (xs : List Value) (hv : a.eval s = v) (hown : w.ownsRow base e size v n xs)
    (x : Value) (m : Nat) (news : List Value) (hx : a.eval xo = x) (hs : Src P i.size tx x m news w)
    (h63 : n + m ≤ maxLen) (hbytes : (n + m) * bytes ≤ 140737488355328) (hbase : base ≤ w.heap.size)
    (h : ∀ v' w', w'.ownsRow base e size v' (n + m) (xs ++ news) → w.grownBy w' v.ownBlock → (v'.ownBlock = v.ownBlock ∨ v'.ownBlock = some w.heap.size) → wpList P ops Q rest (a.put o.dst v') w') :
    wpList P ops Q (o :: rest) a w := by
  refine wpList_plain hgd fun K hK => ?_
  obtain ⟨v', w', hr, h2, h3, h4⟩ := run_append_src (P := P) w base t tx o.type e i z size bytes ht hi hz hsize hby hzs hsz v n xs hown x m news hs h63 hbytes hbase
  unfold Oper.wp execOp
  simp only [ho, resolve, invoke, builtin, Sem.run_bind, Sem.run_pure, Result.andThen_ok, List.map_toArray, List.map_cons, List.map_nil, hv, hx, hr]
  exact hK _ _ (h v' w' h2 h3 h4)
end
end Go.Proofs.YtogjfifpbplahaaGreatDoor

namespace Go.Proofs.YtogjfifpbplahaaGreatDoor
open Go.RowKit
open BR
open Go.Op (bytesLess)
set_option linter.unusedVariables false

theorem u8_info : (Tryz.prog.info? 5).map (fun i => (i.zero, i.size, i.bytes)) = some (some (.int .u8 0), 1, 1) := by kernel_rfl
/-- so many bytes come back -/
def RetB (m : Nat) (w : World) (e : Ending) (w' : World) : Prop := ∃ a0 c, e = .returned (.slice a0 m c) ∧ Fr (fun _ => False) w w'
/-- the bytes so far, and the copy of the attribute -/
def BySt (W : World) (v : Value) (n X : Nat) (s t : ByteArray) (w : World) : Prop := (∃ xs, w.ownsRow W.heap.size 5 1 v n xs) ∧ RowB w X 58 [.string s, .string t] ∧ v.ownBlock ≠ some X ∧ Fr (fun _ => False) W w
theorem BySt.alloc {W w : World} {v : Value} {n X : Nat} {s t : ByteArray} (h : BySt W v n X s t w) (o : Obj) : BySt W v n X s t (w.alloc o) := by
  obtain ⟨⟨xs, h1⟩, h2, h3, h4⟩ := h
  exact ⟨⟨xs, own_fr h1 ((Fr.refl (fun _ => False) _).alloc _) (fun _ _ h => h)⟩, h2.fr ((Fr.refl (fun _ => False) _).alloc _) (fun h => h), h3, h4.alloc _⟩
theorem BySt.step {W w w' : World} {v v' : Value} {n n' X : Nat} {s t : ByteArray} {xs : List Value} (h : BySt W v n X s t w) (hown : w'.ownsRow W.heap.size 5 1 v' n' xs) (hg : w.grownBy w' v.ownBlock) (hat : v'.ownBlock = v.ownBlock ∨ v'.ownBlock = some w.heap.size) : BySt W v' n' X s t w' := by
  obtain ⟨⟨ys, h1⟩, h2, h3, h4⟩ := h
  refine ⟨⟨xs, hown⟩, h2.of_block (hg.block X h2.lt (fun e => h3 e.symm)), fun e => ?_, fr_grow h4 hg (fun g hgg => own_block_ge h1 g hgg)⟩
  rcases hat with hat | hat
  · exact h3 (hat.symm.trans e)
  · rw [hat] at e
    have := Option.some.inj e
    have := h2.lt
    omega
theorem BySt.start {W w : World} {v : Value} {n : Nat} {s t : ByteArray} {xs : List Value} (h : w.ownsRow W.heap.size 5 1 v n xs) (f : Fr (fun _ => False) W w) : BySt W v n w.heap.size s t (w.alloc (.cells #[.string s, .string t] 58)) :=
  ⟨⟨xs, own_fr h ((Fr.refl (fun _ => False) _).alloc _) (fun _ _ h => h)⟩, RowB.new w 58 [.string s, .string t], fun e => by have := (h.lt _ e).2; omega, f.alloc _⟩
set_option maxRecDepth 100000 in
set_option maxHeartbeats 4000000 in
theorem bytes_walk (m c : Nat) (a0 : Option Addr) (A : Nat → BAttr) (w : World) (hA : AttrsAt w a0 m A) (hs : ∀ k, k < m → (A k).name.size ≤ 1000 ∧ (A k).value.size ≤ 1000) (hm : m ≤ 100) :
    Calls Tryz.prog 99 #[.slice a0 m c] w (RetB (sizeF A m) w) := by
  obtain ⟨i0, hinf, hz0, hz1, hz2⟩ := info_parts u8_info
  have HI := Lib.hid (And.intro hinf (And.intro hz0 (And.intro hz1 hz2)))
  have HS := Lib.hid hs
  have HA := Lib.hid hA
  clear hs hA hinf hz0 hz1 hz2
  go_enter Tryz.func99, Tryz.ntmps99
  go_wp2_with fail
  go_loopw [3, 8] (fun v z wr => ∃ (k : Nat) (vv : Value) (xs : List Value), vv = v ∧ k ≤ m ∧ z = .int .i64 k ∧ Fr (fun _ => False) w wr ∧ Hid (wr.ownsRow w.heap.size 5 1 vv (sizeF A k) xs)) (fun _ z _ => m - (intOf z).toNat)
  case atStart => exact ⟨0, _, [], rfl, by omega, rfl, Fr.refl _ _, Lib.hid (World.ownsRow_nil _ _ _ _)⟩
  case round =>
    obtain ⟨k, v, xs, rfl, hk, rfl, hF, HO⟩ := hrel
    by_cases hlt : k < m
    · obtain ⟨b, o, rfl, hb, hc⟩ := HA.out (by omega)
      have c0 : wr.cell? ⟨b, o + k * 2, none⟩ = some (.string (A k).name) := hF.cell (p := ⟨b, o + k * 2, none⟩) hb (fun h => h) (hc k hlt).1
      have c1 : wr.cell? ⟨b, o + k * 2 + 1, none⟩ = some (.string (A k).value) := hF.cell (p := ⟨b, o + k * 2 + 1, none⟩) hb (fun h => h) (hc k hlt).2
      have g1 : (0 : Int) ≤ (k : Int) := by omega
      have g2 : (k : Int) < m := by omega
      have h1 := sizeF_le HS.out k hk
      obtain ⟨h2, h3⟩ := HS.out k hlt
      have HF := Lib.hid hF
      clear hF hc
      have HT := Lib.hid (show sizeF A (k + 1) = sizeF A k + (2 + (A k).name.size + (A k).value.size) from rfl)
      generalize sizeF A k = T at *
      generalize (A k).name = s at *
      generalize (A k).value = t at *
      have hz : w.heap.size ≤ wr.heap.size := HF.out.size
      have HB0 := Lib.hid (BySt.start (s := s) (t := t) HO.out HF.out)
      go_upto_region 5 with fail
      clear c0 c1
      change Code.wp _ _ _ _ (wr.alloc (Obj.cells #[.string s, .string t] 58))
      generalize wr.alloc (Obj.cells #[.string s, .string t] 58) = w0 at *
      obtain ⟨X, hX⟩ : ∃ X, X = wr.heap.size := ⟨_, rfl⟩
      rw [← hX] at HB0 ⊢
      clear hX
      obtain ⟨⟨xs0, o0⟩, hR0, _, hF0⟩ := HB0.out
      have HO0 := Lib.hid o0
      have hz0 : w.heap.size ≤ w0.heap.size := hF0.size
      have e0 : w0.cell? ⟨X, 0, none⟩ = some (.string s) := hR0.cell 0
      have e1 : w0.cell? ⟨X, 1, none⟩ = some (.string t) := hR0.cell 1
      clear o0 hR0 hF0
      go_upto_region 6 with (at_builtin; go_must (refine wpList_append_any rfl _ _ 62 rfl w.heap.size 5 i0 _ 1 1 Tryz.underlying62 HI.out.1 HI.out.2.1 HI.out.2.2.1 HI.out.2.2.2 rfl (by decide) v (T) xs0 rfl (own_fr HO0.out ((Fr.refl (fun _ => False) _).alloc _) (fun _ _ h => h)) (some ⟨w0.heap.size, 0, none⟩) 1 1 [.int .u8 ((s.size : Int) % 256)] rfl rfl (fun _ => ⟨w0.heap.size, 0, rfl, fun j u hj => ((RowB.new w0 5 [.int .u8 ((s.size : Int) % 256)]).cell (0 + j)).trans (by rw [Nat.zero_add]; exact hj)⟩) (fun u hu => by rw [List.mem_singleton.1 hu]; rfl) (by unfold maxLen; omega) (by omega) (by rw [alloc_size]; omega) ?_; intro v1 w1 hown hgrow hat; have HB1 := Lib.hid (BySt.step (HB0.out.alloc _) hown hgrow hat); clear hown hgrow hat))
      clear e0 e1
      obtain ⟨⟨xs1, o1⟩, hR1, _, hF1⟩ := HB1.out
      have HO1 := Lib.hid o1
      have hz1 : w.heap.size ≤ w1.heap.size := hF1.size
      have e0 : w1.cell? ⟨X, 0, none⟩ = some (.string s) := hR1.cell 0
      have e1 : w1.cell? ⟨X, 1, none⟩ = some (.string t) := hR1.cell 1
      clear o1 hR1 hF1
      go_upto_region 7 with (at_builtin; go_must (refine wpList_append_src rfl _ _ 62 9 rfl w.heap.size 5 i0 _ 1 1 Tryz.underlying62 HI.out.1 HI.out.2.1 HI.out.2.2.1 HI.out.2.2.2 rfl (by decide) v1 (T + 1) xs1 rfl HO1.out (.string s) s.size (byteCells s) rfl (by rw [HI.out.2.2.1]; exact Src.ofString _ Tryz.underlying9 s) (by unfold maxLen; omega) (by omega) (by omega) ?_; intro v2 w2 hown hgrow hat; have HB2 := Lib.hid (BySt.step HB1.out hown hgrow hat); clear hown hgrow hat))
      clear e0 e1
      obtain ⟨⟨xs2, o2⟩, hR2, _, hF2⟩ := HB2.out
      have HO2 := Lib.hid o2
      have hz2 : w.heap.size ≤ w2.heap.size := hF2.size
      have e0 : w2.cell? ⟨X, 0, none⟩ = some (.string s) := hR2.cell 0
      have e1 : w2.cell? ⟨X, 1, none⟩ = some (.string t) := hR2.cell 1
      clear o2 hR2 hF2
      go_upto_region 8 with (at_builtin; go_must (refine wpList_append_any rfl _ _ 62 rfl w.heap.size 5 i0 _ 1 1 Tryz.underlying62 HI.out.1 HI.out.2.1 HI.out.2.2.1 HI.out.2.2.2 rfl (by decide) v2 (T + 1 + s.size) xs2 rfl (own_fr HO2.out ((Fr.refl (fun _ => False) _).alloc _) (fun _ _ h => h)) (some ⟨w2.heap.size, 0, none⟩) 1 1 [.int .u8 ((t.size : Int) % 256)] rfl rfl (fun _ => ⟨w2.heap.size, 0, rfl, fun j u hj => ((RowB.new w2 5 [.int .u8 ((t.size : Int) % 256)]).cell (0 + j)).trans (by rw [Nat.zero_add]; exact hj)⟩) (fun u hu => by rw [List.mem_singleton.1 hu]; rfl) (by unfold maxLen; omega) (by omega) (by rw [alloc_size]; omega) ?_; intro v3 w3 hown hgrow hat; have HB3 := Lib.hid (BySt.step (HB2.out.alloc _) hown hgrow hat); clear hown hgrow hat))
      clear e0 e1
      obtain ⟨⟨xs3, o3⟩, hR3, _, hF3⟩ := HB3.out
      have HO3 := Lib.hid o3
      have hz3 : w.heap.size ≤ w3.heap.size := hF3.size
      have e0 : w3.cell? ⟨X, 0, none⟩ = some (.string s) := hR3.cell 0
      have e1 : w3.cell? ⟨X, 1, none⟩ = some (.string t) := hR3.cell 1
      clear o3 hR3 hF3
      go_upto_region 9 with (at_builtin; go_must (refine wpList_append_src rfl _ _ 62 9 rfl w.heap.size 5 i0 _ 1 1 Tryz.underlying62 HI.out.1 HI.out.2.1 HI.out.2.2.1 HI.out.2.2.2 rfl (by decide) v3 (T + 1 + s.size + 1) xs3 rfl HO3.out (.string t) t.size (byteCells t) rfl (by rw [HI.out.2.2.1]; exact Src.ofString _ Tryz.underlying9 t) (by unfold maxLen; omega) (by omega) (by omega) ?_; intro v4 w4 hown hgrow hat; have HB4 := Lib.hid (BySt.step HB3.out hown hgrow hat); clear hown hgrow hat))
      clear e0 e1
      obtain ⟨⟨xs4, o4⟩, hR4, _, hF4⟩ := HB4.out
      have HO4 := Lib.hid o4
      have HF4 := Lib.hid hF4
      clear o4 hR4 hF4
      go_wp2_with fail
      go_roundw
      case rel => exact ⟨k + 1, _, xs4, rfl, by omega, by go_num, HF4.out, Lib.hid (by rw [HT.out, show T + (2 + s.size + t.size) = T + 1 + s.size + 1 + t.size by omega]; exact HO4.out)⟩
      case measure => simp [intOf]; omega
    · obtain rfl : k = m := by omega
      have HF := Lib.hid hF
      clear hF
      obtain ⟨a1, c1, rfl, _, _⟩ := own_slice HO.out
      go_wp2_with fail
      go_ret
      exact ⟨a1, c1, rfl, HF.out⟩
end Go.Proofs.YtogjfifpbplahaaGreatDoor

namespace Go.Proofs.YtogjfifpbplahaaGreatDoor
open Go.RowKit
open BR
open Go.Op (bytesLess)
set_option linter.unusedVariables false

set_option maxHeartbeats 1000000 in
theorem fit_walk (m c : Nat) (a0 : Option Addr) (A : Nat → BAttr) (w : World) (hA : AttrsAt w a0 m A) (hs : ∀ k, k < m → (A k).name.size ≤ 1000 ∧ (A k).value.size ≤ 1000) (hm : m ≤ 6) :
    Calls Tryz.prog 87 #[.slice a0 m c] w fun e w' => ∃ v, e = .returned (.tuple #[v, .int .i64 (if 288 < sizeF A m then 5 else 0)]) ∧ Fr (fun _ => False) w w' := by
  have HC := Lib.hid (bytes_walk m c a0 A w hA hs (by omega))
  have hz := sizeF_le hs m (Nat.le_refl _)
  clear hA hs
  generalize sizeF A m = T at *
  by_cases h : 288 < T
  · rw [if_pos h]
    go_enter Tryz.func87, Tryz.ntmps87
    go_wp2_with (go_at_call 99; go_must (refine HC.out.mono ?_; rintro e w1 ⟨a1, c1, rfl, hF⟩; have HF1 := Lib.hid hF; clear hF))
    go_ret2
    exact ⟨_, rfl, HF1.out⟩
  · rw [if_neg h]
    go_enter Tryz.func87, Tryz.ntmps87
    go_wp2_with (go_at_call 99; go_must (refine HC.out.mono ?_; rintro e w1 ⟨a1, c1, rfl, hF⟩; have HF1 := Lib.hid hF; clear hF))
    go_ret2
    exact ⟨_, rfl, HF1.out⟩
def seenP (p q i j : Nat) : Prop := (i < p ∧ j < i) ∨ (i = p ∧ j < q)
/-- what is known of the order when the pairs up to (p, q) have been looked at -/
def OrdI (A : Nat → BAttr) (p q : Nat) (od : Int) : Prop :=
  (∀ i j, seenP p q i j → (A j).name.toList ≠ (A i).name.toList) ∧
  ((od = 6 ∧ ∃ i j, seenP p q i j ∧ bytesLess (A i).name.toList (A j).name.toList = true) ∨ (od = 0 ∧ ∀ i j, seenP p q i j → bytesLess (A i).name.toList (A j).name.toList = false))
theorem ord_start (A : Nat → BAttr) : OrdI A 0 0 0 := ⟨fun i j h => by unfold seenP at h; omega, Or.inr ⟨rfl, fun i j h => by unfold seenP at h; omega⟩⟩
theorem ord_next {A : Nat → BAttr} {p : Nat} {od : Int} (h : OrdI A p p od) : OrdI A (p + 1) 0 od := by
  have key : ∀ i j, seenP (p + 1) 0 i j ↔ seenP p p i j := by
    intro i j; unfold seenP
    constructor
    · rintro (⟨a, b⟩ | ⟨a, b⟩)
      · by_cases e : i = p
        · exact Or.inr ⟨e, by omega⟩
        · exact Or.inl ⟨by omega, b⟩
      · omega
    · rintro (⟨a, b⟩ | ⟨a, b⟩)
      · exact Or.inl ⟨by omega, b⟩
      · exact Or.inl ⟨by omega, by omega⟩
  refine ⟨fun i j hs => h.1 i j ((key i j).1 hs), ?_⟩
  rcases h.2 with ⟨e, i, j, hs, hb⟩ | ⟨e, hb⟩
  · exact Or.inl ⟨e, i, j, (key i j).2 hs, hb⟩
  · exact Or.inr ⟨e, fun i j hs => hb i j ((key i j).1 hs)⟩
theorem seen_snoc {p q i j : Nat} (h : seenP p (q + 1) i j) : seenP p q i j ∨ (i = p ∧ j = q) := by
  unfold seenP at *; omega
theorem seen_old {p q i j : Nat} (h : seenP p q i j) : seenP p (q + 1) i j := by unfold seenP at *; omega
theorem seen_new (p q : Nat) : seenP p (q + 1) p q := by unfold seenP; omega
theorem ord_less {A : Nat → BAttr} {p q : Nat} {od : Int} (h : OrdI A p q od) (hb : bytesLess (A q).name.toList (A p).name.toList = true) : OrdI A p (q + 1) od := by
  have hne : (A q).name.toList ≠ (A p).name.toList := fun e => by rw [e, blt_irrefl] at hb; cases hb
  refine ⟨fun i j hs => by rcases seen_snoc hs with hs | ⟨rfl, rfl⟩; exact h.1 i j hs; exact hne, ?_⟩
  rcases h.2 with ⟨e, i, j, hs, hbb⟩ | ⟨e, hbb⟩
  · exact Or.inl ⟨e, i, j, seen_old hs, hbb⟩
  · exact Or.inr ⟨e, fun i j hs => by rcases seen_snoc hs with hs | ⟨rfl, rfl⟩; exact hbb i j hs; exact blt_asymm hb⟩
theorem ord_more {A : Nat → BAttr} {p q : Nat} {od : Int} (h : OrdI A p q od) (hb : bytesLess (A q).name.toList (A p).name.toList = false) (hne : (A q).name.toList ≠ (A p).name.toList) : OrdI A p (q + 1) 6 :=
  ⟨fun i j hs => by rcases seen_snoc hs with hs | ⟨rfl, rfl⟩; exact h.1 i j hs; exact hne, Or.inl ⟨rfl, p, q, seen_new p q, blt_total hb hne⟩⟩
theorem ord_eq {A : Nat → BAttr} {m : Nat} {od : Int} (h : OrdI A m 0 od) : ¬ hasEq A m := fun ⟨i, hi, j, hj, e⟩ => h.1 i j (Or.inl ⟨hi, hj⟩) e
theorem ord_gt {A : Nat → BAttr} {m : Nat} {od : Int} (h : OrdI A m 0 od) : (od = 6 ∧ hasGt A m) ∨ (od = 0 ∧ ¬ hasGt A m) := by
  rcases h.2 with ⟨e, i, j, hs, hb⟩ | ⟨e, hb⟩
  · unfold seenP at hs
    exact Or.inl ⟨e, i, by omega, j, by omega, hb⟩
  · exact Or.inr ⟨e, fun ⟨i, hi, j, hj, hbb⟩ => by rw [hb i j (Or.inl ⟨hi, hj⟩)] at hbb; cases hbb⟩
set_option maxRecDepth 100000 in
set_option maxHeartbeats 4000000 in
theorem attrs_walk (m c : Nat) (a0 : Option Addr) (A : Nat → BAttr) (w : World) (hA : AttrsAt w a0 m A) (hmc : m ≤ c) (hs : ∀ k, k < m → (A k).name.size ≤ 1000 ∧ (A k).value.size ≤ 1000) (hm : m ≤ 100) :
    Calls Tryz.prog 71 #[.slice a0 m c] w (Ret (.int .i64 (attrE m A)) w) := by
  by_cases h6 : 6 < m
  · have HE := Lib.hid (attrE_long (A := A) h6)
    go_enter Tryz.func71, Tryz.ntmps71
    go_wp2_with fail
    go_ret
    exact Ret.same _ (by rw [HE.out] <;> rfl)
  · have HS := Lib.hid hs
    have HA := Lib.hid hA
    clear hs hA
    go_enter Tryz.func71, Tryz.ntmps71
    go_wp2_with fail
    go_loopw [4, 5, 16] (fun _ _ i wr => ∃ k : Nat, k ≤ m ∧ i = .int .i64 k ∧ Fr (fun _ => False) w wr ∧ Hid (∀ j, j < k → aloneE (A j) = 0)) (fun _ _ i _ => m - (intOf i).toNat)
    case atStart => exact ⟨0, by omega, rfl, Fr.refl _ _, Lib.hid (fun j hj => by omega)⟩
    case round =>
      obtain ⟨k, hk, rfl, hF, HJ⟩ := hrel
      by_cases hlt : k < m
      · obtain ⟨b, o, rfl, hb, hc⟩ := HA.out (by omega)
        have c0 : wr.cell? ⟨b, o + k * 2, none⟩ = some (.string (A k).name) := hF.cell (p := ⟨b, o + k * 2, none⟩) hb (fun h => h) (hc k hlt).1
        have c1 : wr.cell? ⟨b, o + k * 2 + 1, none⟩ = some (.string (A k).value) := hF.cell (p := ⟨b, o + k * 2 + 1, none⟩) hb (fun h => h) (hc k hlt).2
        have g1 : (0 : Int) ≤ (k : Int) := by omega
        have HF := Lib.hid hF
        have HN := Lib.hid (fun w0 => alone_walk (A k) w0 (HS.out k hlt).1 (HS.out k hlt).2)
        unfold atV at HN
        clear hF hc
        by_cases he : aloneE (A k) = 0
        · rw [he] at HN
          have HZ := Lib.hid he
          clear he
          go_wp2_with (go_at_call 85; go_must (refine (HN.out _).mono ?_; rintro e w1 ⟨rfl, hF⟩; have HF1 := Lib.hid ((HF.out.alloc _).then hF); clear hF))
          go_roundw
          case rel => exact ⟨k + 1, by omega, by go_num, HF1.out, Lib.hid (fun j hj => by
            by_cases e : j = k
            · subst e; exact HZ.out
            · exact HJ.out j (by omega))⟩
          case measure => simp [intOf]; omega
        · have HE := Lib.hid (attrE_alone h6 HJ.out he hlt)
          have q0 : (aloneE (A k) != 0) = true := by simpa using he
          generalize aloneE (A k) = E at *
          clear he
          go_wp2_with (go_at_call 85; go_must (refine (HN.out _).mono ?_; rintro e w1 ⟨rfl, hF⟩; have HF1 := Lib.hid ((HF.out.alloc _).then hF); clear hF))
          go_ret
          exact ⟨by rw [HE.out] <;> rfl, HF1.out⟩
      · obtain rfl : k = m := by omega
        have HF := Lib.hid hF
        clear hF
        go_wp2_with fail
        go_loopw [6, 7, 8, 10, 28] (fun od _ _ _ i wr => ∃ (p : Nat) (zo : Int), p ≤ k ∧ i = .int .i64 p ∧ od = .int .i64 zo ∧ Fr (fun _ => False) w wr ∧ Hid (OrdI A p 0 zo)) (fun _ _ _ _ i _ => k - (intOf i).toNat)
        case atStart => exact ⟨0, 0, by omega, rfl, rfl, HF.out, Lib.hid (ord_start A)⟩
        case round =>
          obtain ⟨p, zo, hp, rfl, rfl, hF, HP⟩ := hrel
          by_cases hlt : p < k
          · have g1 : (0 : Int) ≤ (p : Int) := by omega
            have g2 : (p : Int) < k := by omega
            have g5 : (p : Int) ≤ c := by omega
            obtain ⟨b, o, rfl, hb, hc⟩ := HA.out (by omega)
            have c0 : wr.cell? ⟨b, o + p * 2, none⟩ = some (.string (A p).name) := hF.cell (p := ⟨b, o + p * 2, none⟩) hb (fun h => h) (hc p hlt).1
            have c1 : wr.cell? ⟨b, o + p * 2 + 1, none⟩ = some (.string (A p).value) := hF.cell (p := ⟨b, o + p * 2 + 1, none⟩) hb (fun h => h) (hc p hlt).2
            have HF2 := Lib.hid hF
            have HCC := Lib.hid hc
            clear hF hc
            go_wp2_with fail
            have hX : RowB (wr.alloc (Obj.cells #[.string (A p).name, .string (A p).value] 58)) wr.heap.size 58 [.string (A p).name, .string (A p).value] := RowB.new wr _ _
            have hFX : Fr (fun _ => False) w (wr.alloc (Obj.cells #[.string (A p).name, .string (A p).value] 58)) := HF2.out.alloc _
            generalize wr.alloc (Obj.cells #[.string (A p).name, .string (A p).value] 58) = W1 at *
            generalize wr.heap.size = X at *
            have HX := Lib.hid hX
            have HFX := Lib.hid hFX
            clear hX hFX c0 c1
            go_loopw [6, 10, 37] (fun od _ i wq => ∃ (q : Nat) (zq : Int), q ≤ p ∧ i = .int .i64 q ∧ od = .int .i64 zq ∧ Fr (fun _ => False) W1 wq ∧ Hid (OrdI A p q zq)) (fun _ _ i _ => p - (intOf i).toNat)
            case atStart => exact ⟨0, zo, by omega, rfl, rfl, Fr.refl _ _, HP⟩
            case round =>
              obtain ⟨q, zq, hq, rfl, rfl, hF, HQ⟩ := hrel
              by_cases hlt2 : q < p
              · have g3 : (0 : Int) ≤ (q : Int) := by omega
                have g4 : (q : Int) < p := by omega
                have c0 : _root_.Go.World.cell? _ ⟨b, o + q * 2, none⟩ = some (.string (A q).name) := (HFX.out.then hF).cell (p := ⟨b, o + q * 2, none⟩) hb (fun h => h) (HCC.out q (by omega)).1
                have c1 : _root_.Go.World.cell? _ ⟨b, o + q * 2 + 1, none⟩ = some (.string (A q).value) := (HFX.out.then hF).cell (p := ⟨b, o + q * 2 + 1, none⟩) hb (fun h => h) (HCC.out q (by omega)).2
                have x0 := (HX.out.fr hF (fun h => h)).cell 0
                have hXl := (HX.out.fr hF (fun h => h)).lt
                have HF3 := Lib.hid hF
                have HE8 := Lib.hid (fun he => attrE_twice (A := A) h6 HJ.out ⟨p, hlt, q, hlt2, he⟩)
                have HL := Lib.hid (fun hb => ord_less HQ.out hb)
                have HM := Lib.hid (fun hb hne => ord_more HQ.out hb hne)
                clear hF
                have HC := Lib.hid (fun w0 => cmp_walk (A q).name (A p).name w0)
                have hx0 : _root_.Go.World.cell? _ ⟨X, 0, none⟩ = some (.string (A p).name) := x0
                clear x0
                cases hbl : bytesLess (A q).name.toList (A p).name.toList
                · by_cases he : (A q).name.toList = (A p).name.toList
                  · have HE := Lib.hid (HE8.out he)
                    rw [show cmpS (A q).name (A p).name = 0 by unfold cmpS; rw [hbl, if_neg (by simp), if_pos he]] at HC
                    clear he hbl
                    go_wp2_with (go_at_call 86; go_must (refine (HC.out _).mono ?_; rintro e w1 ⟨rfl, rfl⟩))
                    go_ret
                    exact ⟨by rw [HE.out] <;> rfl, (HFX.out.then HF3.out).alloc _⟩
                  · have HN := Lib.hid (HM.out hbl he)
                    rw [show cmpS (A q).name (A p).name = 1 by unfold cmpS; rw [hbl, if_neg (by simp), if_neg he]] at HC
                    clear he hbl
                    go_wp2_with (go_at_call 86; go_must (refine (HC.out _).mono ?_; rintro e w1 ⟨rfl, rfl⟩))
                    go_roundw
                    case rel => exact ⟨q + 1, 6, by omega, by go_num, rfl, HF3.out.alloc _, HN⟩
                    case measure => simp [intOf]; omega
                · have HN := Lib.hid (HL.out hbl)
                  rw [show cmpS (A q).name (A p).name = -1 by unfold cmpS; rw [hbl, if_pos rfl]] at HC
                  clear hbl
                  go_wp2_with (go_at_call 86; go_must (refine (HC.out _).mono ?_; rintro e w1 ⟨rfl, rfl⟩))
                  go_roundw
                  case rel => exact ⟨q + 1, zq, by omega, by go_num, rfl, HF3.out.alloc _, HN⟩
                  case measure => simp [intOf]; omega
              · obtain rfl : q = p := by omega
                have HN := Lib.hid (ord_next HQ.out)
                have HF3 := Lib.hid (HFX.out.then hF)
                clear hF
                go_wp2_with fail
                go_roundw
                case rel => exact ⟨q + 1, zq, by omega, by go_num, rfl, HF3.out, HN⟩
                case measure => simp [intOf]; omega
          · obtain rfl : p = k := by omega
            have HNE := Lib.hid (ord_eq HP.out)
            have HGT := Lib.hid (ord_gt HP.out)
            have CF := Lib.hid (fit_walk p c a0 A wr (HA.out.fr hF (fun _ _ h => h)) HS.out (by omega))
            have HE6 := Lib.hid (fun hg => attrE_order (A := A) h6 HJ.out HNE.out hg)
            have HES := Lib.hid (fun hg => attrE_size (A := A) h6 HJ.out HNE.out hg)
            have HF2 := Lib.hid hF
            clear hF
            rcases HGT.out with ⟨rfl, hg⟩ | ⟨rfl, hg⟩
            · have HE := Lib.hid (HE6.out hg)
              clear hg
              go_wp2_with fail
              go_ret
              exact ⟨by rw [HE.out] <;> rfl, HF2.out⟩
            · have HE := Lib.hid (HES.out hg)
              clear hg
              have CF := CF.out
              by_cases hz : 288 < sizeF A p
              all_goals
                first | rw [if_pos hz] at CF | rw [if_neg hz] at CF
                have HE := Lib.hid (HE.out.trans (by first | exact if_pos hz | exact if_neg hz))
                have CF := Lib.hid CF
                clear hz
                go_wp2_with (go_at_call 87; go_must (refine CF.out.mono ?_; rintro e w1 ⟨v1, rfl, hF⟩; have HF3 := Lib.hid (HF2.out.then hF); clear hF))
                go_ret
                exact ⟨by rw [HE.out] <;> rfl, HF3.out⟩
end Go.Proofs.YtogjfifpbplahaaGreatDoor

namespace Go.Proofs.YtogjfifpbplahaaGreatDoor
open Go.RowKit Go.Shelf
open BR
set_option linter.unusedVariables false

set_option maxHeartbeats 1000000 in
theorem pcheck_walk (r c : Nat) (a0 : Option Addr) (R : Nat → ByteArray) (w : World) (hR : StrsAt w a0 r R) (hs : ∀ k, k < r → (R k).size ≤ 1000) (hr : r ≤ 1000) :
    Calls Tryz.prog 53 #[.slice a0 r c] w (Ret (.int .i64 (pathE r R)) w) := by
  by_cases h8 : 8 < r
  · have HE := Lib.hid (show pathE r R = 3 by unfold pathE; rw [if_pos h8])
    go_enter Tryz.func53, Tryz.ntmps53
    go_wp2_with fail
    go_ret
    exact Ret.same _ (by rw [HE.out] <;> rfl)
  · have HP := Lib.hid (show pathE r R = firstE (fun k => nameE (R k)) r by unfold pathE; rw [if_neg h8])
    have HS := Lib.hid hs
    have HR := Lib.hid hR
    clear hs hR
    go_enter Tryz.func53, Tryz.ntmps53
    go_wp2_with fail
    go_loopw [4, 5, 11] (fun _ _ i wr => ∃ k : Nat, k ≤ r ∧ i = .int .i64 k ∧ Fr (fun _ => False) w wr ∧ Hid (∀ j, j < k → nameE (R j) = 0)) (fun _ _ i _ => r - (intOf i).toNat)
    case atStart => exact ⟨0, by omega, rfl, Fr.refl _ _, Lib.hid (fun j hj => by omega)⟩
    case round =>
      obtain ⟨k, hk, rfl, hF, HJ⟩ := hrel
      by_cases hlt : k < r
      · obtain ⟨b, o, rfl, hb, hc⟩ := HR.out (by omega)
        have c0 : wr.cell? ⟨b, o + k, none⟩ = some (.string (R k)) := hF.cell (p := ⟨b, o + k, none⟩) hb (fun h => h) (hc k hlt)
        have g1 : (0 : Int) ≤ (k : Int) := by omega
        have g2 : (k : Int) < r := by omega
        have HF := Lib.hid hF
        have HN := Lib.hid (fun w0 => name_walk (R k) w0 (HS.out k hlt))
        clear hF hc
        by_cases he : nameE (R k) = 0
        · rw [he] at HN
          have HZ := Lib.hid he
          clear he
          go_wp2_with (go_at_call 74; go_must (refine (HN.out _).mono ?_; rintro e w1 ⟨rfl, hF⟩; have HF1 := Lib.hid (HF.out.then hF); clear hF))
          go_roundw
          case rel => exact ⟨k + 1, by omega, by go_num, HF1.out, Lib.hid (fun j hj => by
            by_cases e : j = k
            · subst e; exact HZ.out
            · exact HJ.out j (by omega))⟩
          case measure => simp [intOf]; omega
        · have HE := Lib.hid (show pathE r R = nameE (R k) from HP.out.trans (firstE_hit (f := fun k => nameE (R k)) HJ.out he hlt))
          have q0 : (nameE (R k) != 0) = true := by simpa using he
          generalize nameE (R k) = E at *
          clear he
          go_wp2_with (go_at_call 74; go_must (refine (HN.out _).mono ?_; rintro e w1 ⟨rfl, hF⟩; have HF1 := Lib.hid (HF.out.then hF); clear hF))
          go_ret
          exact ⟨by rw [HE.out] <;> rfl, HF1.out⟩
      · obtain rfl : k = r := by omega
        have HE := Lib.hid (show pathE k R = 0 from HP.out.trans (firstE_all HJ.out))
        have HF := Lib.hid hF
        clear hF
        go_wp2_with fail
        go_ret
        exact ⟨by rw [HE.out] <;> rfl, HF.out⟩

/-- the text of a path -/
def joinP (r : Nat) (R : Nat → ByteArray) : ByteArray := ⟨(Lib.join (((List.range r).map R).map (·.data.toList)) [47]).toArray⟩
theorem cut_at {c : UInt8} : ∀ {x y s t : List UInt8}, c ∉ x → c ∉ y → x ++ c :: s = y ++ c :: t → x = y ∧ s = t
  | [], [], _, _, _, _, h => ⟨rfl, by simpa using h⟩
  | [], b :: y, _, _, _, hy, h => by simp at h; exact absurd h.1 (fun e => hy (by simp [e]))
  | a :: x, [], _, _, hx, _, h => by simp at h; exact absurd h.1 (fun e => hx (by simp [e]))
  | a :: x, b :: y, s, t, hx, hy, h => by
    simp at h
    obtain ⟨h1, h2⟩ := cut_at (c := c) (fun e => hx (List.mem_cons_of_mem _ e)) (fun e => hy (List.mem_cons_of_mem _ e)) h.2
    exact ⟨by rw [h.1, h1], h2⟩
theorem join_inj : ∀ {xs ys : List (List UInt8)}, (∀ x, x ∈ xs → (47 : UInt8) ∉ x) → (∀ x, x ∈ ys → (47 : UInt8) ∉ x) → xs ≠ [] → ys ≠ [] → Lib.join xs [47] = Lib.join ys [47] → xs = ys
  | [], _, _, _, h, _, _ => absurd rfl h
  | _ :: _, [], _, _, _, h, _ => absurd rfl h
  | x :: xs, y :: ys, hx, hy, _, _, h => by
    rw [Lib.join_cons, Lib.join_cons] at h
    have hx0 := hx x (List.mem_cons_self ..)
    have hy0 := hy y (List.mem_cons_self ..)
    match xs, ys with
    | [], [] => simpa [Lib.joinTail] using h
    | [], z :: zs =>
      exfalso
      have : (47 : UInt8) ∈ x := by
        have h2 : x = y ++ (47 :: (z ++ Lib.joinTail [47] zs)) := by simpa [Lib.joinTail] using h
        rw [h2]; simp
      exact hx0 this
    | z :: zs, [] =>
      exfalso
      have : (47 : UInt8) ∈ y := by
        have h2 : x ++ (47 :: (z ++ Lib.joinTail [47] zs)) = y := by simpa [Lib.joinTail] using h
        rw [← h2]; simp
      exact hy0 this
    | z :: zs, u :: us =>
      have h2 : x ++ 47 :: Lib.join (z :: zs) [47] = y ++ 47 :: Lib.join (u :: us) [47] := by rw [Lib.join_cons, Lib.join_cons]; simpa [Lib.joinTail] using h
      obtain ⟨h3, h4⟩ := cut_at hx0 hy0 h2
      have h5 := join_inj (xs := z :: zs) (ys := u :: us) (fun x hh => hx x (List.mem_cons_of_mem _ hh)) (fun x hh => hy x (List.mem_cons_of_mem _ hh)) (by simp) (by simp) h4
      rw [h3, h5]
theorem nameE_noSlash {s : ByteArray} (h : nameE s = 0) : (47 : UInt8) ∉ s.data.toList := by
  unfold nameE at h
  by_cases hb : s.toList = [] ∨ s.toList = [46] ∨ s.toList = [46, 46] ∨ s.toList.any badP = true
  · rw [if_pos hb] at h; cases h
  · intro hm
    refine hb (Or.inr (Or.inr (Or.inr ?_)))
    rw [List.any_eq_true]
    exact ⟨47, by rw [toList_data]; exact hm, by decide⟩
theorem pathE_name {r : Nat} {R : Nat → ByteArray} (h : pathE r R = 0) : r ≤ 8 ∧ ∀ k, k < r → nameE (R k) = 0 := by
  unfold pathE at h
  by_cases h8 : 8 < r
  · rw [if_pos h8] at h; cases h
  · rw [if_neg h8] at h
    exact ⟨by omega, firstE_none h⟩
theorem joinP_inj {r r' : Nat} {R R' : Nat → ByteArray} (h : pathE r R = 0) (h' : pathE r' R' = 0) (hr : 0 < r) (hr' : 0 < r') : (joinP r R).data.toList = (joinP r' R').data.toList ↔ samePath r R r' R' := by
  obtain ⟨_, hn⟩ := pathE_name h
  obtain ⟨_, hn'⟩ := pathE_name h'
  unfold joinP
  dsimp only
  constructor
  · intro e
    have h3 := join_inj (xs := ((List.range r).map R).map (·.data.toList)) (ys := ((List.range r').map R').map (·.data.toList)) (fun x hx => by
      simp at hx; obtain ⟨k, hk, rfl⟩ := hx; exact nameE_noSlash (hn k hk)) (fun x hx => by
      simp at hx; obtain ⟨k, hk, rfl⟩ := hx; exact nameE_noSlash (hn' k hk)) (by simp; omega) (by simp; omega) e
    have hl : r = r' := by simpa using congrArg List.length h3
    subst hl
    refine ⟨rfl, fun k hk => ?_⟩
    have := congrArg (fun l => l[k]?) h3
    simp [hk] at this
    rw [toList_data, toList_data, this]
  · rintro ⟨rfl, hh⟩
    congr 1
    simp only [List.map_map]
    refine List.map_congr_left fun k hk => ?_
    have := hh k (List.mem_range.1 hk)
    rw [toList_data, toList_data] at this
    exact this
theorem lens_le {xs : List (List UInt8)} (h : ∀ x, x ∈ xs → x.length ≤ 24) : Lib.lens xs ≤ 24 * xs.length := by
  induction xs with
  | nil => simp [Lib.lens]
  | cons x xs ih =>
    have h1 := ih (fun y hy => h y (List.mem_cons_of_mem _ hy))
    have h2 := h x (List.mem_cons_self ..)
    simp only [Lib.lens, List.map_cons, List.sum_cons, List.length_cons] at h1 ⊢
    omega
theorem nameE_len {s : ByteArray} (h : nameE s = 0) : s.size ≤ 24 := by
  unfold nameE at h
  by_cases hb : s.toList = [] ∨ s.toList = [46] ∨ s.toList = [46, 46] ∨ s.toList.any badP = true
  · rw [if_pos hb] at h; cases h
  · rw [if_neg hb] at h
    by_cases hl : 24 < s.size
    · rw [if_pos hl] at h; cases h
    · omega
theorem join_small {r : Nat} {R : Nat → ByteArray} (h : pathE r R = 0) : (Lib.join (((List.range r).map R).map (·.data.toList)) [47]).length ≤ 1000 := by
  obtain ⟨h8, hn⟩ := pathE_name h
  cases r with
  | zero => simp [Lib.join_nil]
  | succ r =>
    rw [List.range_succ_eq_map, List.map_cons, List.map_cons, Lib.join_cons, List.length_append, Lib.joinTail_length]
    have h1 := nameE_len (hn 0 (by omega))
    have h2 := lens_le (xs := ((List.map Nat.succ (List.range r)).map R).map (·.data.toList)) (fun x hx => by
      simp at hx; obtain ⟨k, hk, rfl⟩ := hx
      have := nameE_len (hn (k + 1) (by omega))
      rw [Array.length_toList]; exact this)
    have h3 : (R 0).data.toList.length ≤ 24 := by rw [Array.length_toList]; exact h1
    simp only [List.length_map, List.length_range, List.length_cons, List.length_nil] at h2 ⊢
    omega
/-- a text and an error come back -/
def RetT2 (s : ByteArray) (z : Int) (w : World) (e : Ending) (w' : World) : Prop := e = .returned (.tuple #[.string s, .int .i64 z]) ∧ Fr (fun _ => False) w w'
set_option maxHeartbeats 1000000 in
theorem print_bad (r c : Nat) (a0 : Option Addr) (R : Nat → ByteArray) (w : World) (hR : StrsAt w a0 r R) (hs : ∀ k, k < r → (R k).size ≤ 1000) (hr : r ≤ 1000) (hE : pathE r R ≠ 0) :
    Calls Tryz.prog 40 #[.slice a0 r c] w (RetT2 ⟨#[]⟩ (pathE r R) w) := by
  have HC := Lib.hid (pcheck_walk r c a0 R w hR hs hr)
  have q0 : (pathE r R != 0) = true := by simpa using hE
  clear hE
  generalize pathE r R = E at *
  go_enter Tryz.func40, Tryz.ntmps40
  go_wp2_with (go_at_call 53; go_must (refine HC.out.mono ?_; rintro e w1 ⟨rfl, hF⟩; have HF1 := Lib.hid hF; clear hF))
  go_ret2
  exact ⟨rfl, HF1.out⟩
set_option maxHeartbeats 1000000 in
theorem print_walk (r c : Nat) (a0 : Option Addr) (R : Nat → ByteArray) (w : World) (hR : StrsAt w a0 r R) (hs : ∀ k, k < r → (R k).size ≤ 1000) (hr : r ≤ 1000) (hrc : r ≤ c) (hE : pathE r R = 0) (h0 : 0 < r) :
    Calls Tryz.prog 40 #[.slice a0 r c] w (RetT2 (⟨#[47]⟩ ++ joinP r R) 0 w) := by
  have HC := Lib.hid (pcheck_walk r c a0 R w hR hs hr)
  obtain ⟨b, o, rfl, hb, hc⟩ := hR h0
  have HJ := Lib.hid (fun (w1 : World) (f : Fr (fun _ => False) w w1) => Tryz.strings_Join b o c ((List.range r).map R) ⟨#[47]⟩ w1 (fun j x hj => by
      have hjr : j < r := by
        by_cases h : j < r
        · exact h
        · simp [show ¬ j < r from h] at hj
      have : R j = x := by simpa [hjr] using hj
      subst this
      exact f.cell (p := ⟨b, o + j, none⟩) hb (fun h => h) (hc j hjr)) (Nat.lt_of_lt_of_le hb f.size) (by simp; omega) (by simpa using hrc) (by have := join_small hE; exact Nat.le_trans this (by omega)))
  rw [hE] at HC
  have hl : ((List.range r).map R).length = r := by simp
  rw [hl] at HJ
  have hJs : (joinP r R).size ≤ 1000 := by unfold joinP; show (Lib.join _ _).toArray.size ≤ 1000; rw [List.size_toArray]; exact join_small hE
  have HJ : Hid (∀ w1, Fr (fun _ => False) w w1 → Calls Tryz.prog 54 #[.slice (some ⟨b, o, none⟩) r c, .string ⟨#[47]⟩] w1 (fun e w' => e = .returned (.string (joinP r R)) ∧ Below w1.heap.size w1 w')) := HJ
  generalize joinP r R = J at *
  have hJ2 : (J.size : Int) ≤ 1000 := by omega
  clear hE hc hl h0 hs
  go_enter Tryz.func40, Tryz.ntmps40
  go_wp2_with (first | (go_at_call 53; go_must (refine HC.out.mono ?_; rintro e w1 ⟨rfl, hF⟩; have HF1 := Lib.hid hF; clear hF)) | (go_at_call 54; go_must (refine (HJ.out _ HF1.out).mono ?_; rintro e w2 ⟨rfl, hF⟩; have HF2 := Lib.hid (HF1.out.then (Fr.of_below hF)); clear hF)))
  go_ret2
  exact ⟨rfl, HF2.out⟩
end Go.Proofs.YtogjfifpbplahaaGreatDoor

namespace Go.Proofs.YtogjfifpbplahaaGreatDoor
open Go.RowKit
set_option linter.unusedVariables false

/-- block b is a map of at most n entries that gives f at each key (z: the element's zero) -/
def MapAt (w : World) (P : Program) (k : TypeId) (b n : Nat) (z : Value) (f : Lit → Value) : Prop :=
  ∃ D : DataW Value, w.ownsMap P k (fun v => some (.held v, [])) b n D ∧ Maps.IsMap D ∧ ∀ kl, D.atKey kl (.held z) = .held (f kl)
open Classical in
/-- f, but v at the key -/
noncomputable def updF (f : Lit → Value) (kl : Lit) (v : Value) : Lit → Value := fun j => if j = kl then v else f j
theorem updF_same (f : Lit → Value) (kl : Lit) (v : Value) : updF f kl v kl = v := by unfold updF; rw [if_pos rfl]
theorem updF_other (f : Lit → Value) {kl j : Lit} (v : Value) (h : j ≠ kl) : updF f kl v j = f j := by unfold updF; rw [if_neg h]
section
variable {P : Program} {k : TypeId} {w : World} {b n : Nat} {z : Value} {f : Lit → Value}
theorem MapAt.new (w : World) (P : Program) (k : TypeId) (z : Value) : MapAt (w.alloc (.map #[] 0)) P k w.heap.size 0 z (fun _ => z) :=
  ⟨.map [], World.ownsMap_made w P k _, Maps.isMap_empty, fun kl => rfl⟩
theorem MapAt.lt (h : MapAt w P k b n z f) : b < w.heap.size := by
  obtain ⟨D, h1, _⟩ := h; exact h1.lt
theorem MapAt.of_block {w' : World} (h : MapAt w P k b n z f) (e : w'.heap[b]? = w.heap[b]?) : MapAt w' P k b n z f := by
  obtain ⟨D, ⟨es, clock, hb, h1⟩, h2⟩ := h
  exact ⟨D, ⟨es, clock, e.trans hb, h1⟩, h2⟩
theorem MapAt.fr {S : Nat → Prop} {w' : World} (h : MapAt w P k b n z f) (g : Fr S w w') (hb : ¬ S b) : MapAt w' P k b n z f := h.of_block (g.block b h.lt hb)
theorem MapAt.mono (h : MapAt w P k b n z f) {n' : Nat} (hn : n ≤ n') : MapAt w P k b n' z f := by
  obtain ⟨D, h1, h2⟩ := h; exact ⟨D, h1.mono hn, h2⟩
theorem MapAt.congr (h : MapAt w P k b n z f) {f' : Lit → Value} (e : ∀ kl, f kl = f' kl) : MapAt w P k b n z f' := by
  rw [show f' = f from (funext e).symm]; exact h
theorem MapAt.look (h : MapAt w P k b n z f) {t e : TypeId} (K : Maps.Keyed P k) (ht : P.underlying t = some (.map k e)) (hz : (zeroValue e).run P w = .ok z w) {key : Value} {kl : Lit} (hkey : keyOf P k key = some kl) :
    (Instr.lookup t (.map (some b)) key false).run P w = .ok (f kl) w := by
  obtain ⟨D, h1, h2, h3⟩ := h
  obtain ⟨v, ps, hr, hv⟩ := h1.lookup K ht hz (zd := .held z) (zp := []) rfl hkey
  rw [h3 kl] at hv
  have : v = f kl := by simp at hv; exact hv.1
  rw [hr, this]
theorem MapAt.put (h : MapAt w P k b n z f) {t e : TypeId} (K : Maps.Keyed P k) (ht : P.underlying t = some (.map k e)) (hn : n < maxLen) {key v : Value} {kl : Lit} (hkey : keyOf P k key = some kl) (hk : WideAt.IsKeyLit kl) :
    ∃ w', (Instr.mapUpdate t (.map (some b)) key v).run P w = .ok () w' ∧ MapAt w' P k b (n + 1) z (updF f kl v) ∧ w.grownBy w' (some b) := by
  obtain ⟨D, h1, h2, h3⟩ := h
  obtain ⟨w', hr, hown, hg⟩ := h1.update K ht hn hkey (val := v) (d := .held v) (ps := []) rfl
  refine ⟨w', hr, ⟨_, hown, h2.put _ _, fun j => ?_⟩, hg⟩
  by_cases e : j = kl
  · subst e; rw [Maps.atKey_put_same h2 hk, updF_same]
  · rw [Maps.atKey_put_other e, h3, updF_other _ _ e]
theorem wpList_look_at {ops : Array Oper} {rest : List Oper} {o : Oper} {a : Act} {Q : Exit → Act → World → Prop}
    (hg : o.guard = none) (m x : Operand) (t : TypeId) (hop : o.op = Op.lookup t m x false)
    (e : TypeId) (K : Maps.Keyed P k) (ht : P.underlying t = some (.map k e)) (hz : (zeroValue e).run P w = .ok z w) (hm : a.eval m = .map (some b)) (h : MapAt w P k b n z f)
    (key : Value) (kl : Lit) (hx : a.eval x = key) (hkey : keyOf P k key = some kl)
    (hK : wpList P ops Q rest (a.put o.dst (f kl)) w) : wpList P ops Q (o :: rest) a w := by
  refine wpList_plain hg fun K' hK' => ?_
  have hrun := h.look K ht hz hkey
  unfold Oper.wp
  simp [execOp, hop, hm, hx, hrun, Result.andThen]
  exact hK' _ _ hK
theorem wpList_put_at {ops : Array Oper} {rest : List Oper} {o : Oper} {a : Act} {Q : Exit → Act → World → Prop}
    (hg : o.guard = none) (m x v : Operand) (t : TypeId) (hop : o.op = Op.mapUpdate t m x v)
    (e : TypeId) (K : Maps.Keyed P k) (ht : P.underlying t = some (.map k e)) (hm : a.eval m = .map (some b)) (h : MapAt w P k b n z f) (hn : n < maxLen)
    (key val : Value) (kl : Lit) (hx : a.eval x = key) (hv : a.eval v = val) (hkey : keyOf P k key = some kl) (hk : WideAt.IsKeyLit kl)
    (hK : ∀ w', MapAt w' P k b (n + 1) z (updF f kl val) → w.grownBy w' (some b) → wpList P ops Q rest (a.put o.dst undef) w') : wpList P ops Q (o :: rest) a w := by
  refine wpList_plain hg fun K' hK' => ?_
  obtain ⟨w', hrun, r1, r2⟩ := h.put K ht hn (v := val) hkey hk
  unfold Oper.wp
  simp [execOp, hop, hm, hx, hv, hrun, Result.andThen]
  exact hK' _ _ (hK w' r1 r2)
end
/-- what else was grown stays -/
theorem Fr.of_grown {w w' : World} {row : Option Nat} (k : w.grownBy w' row) : Fr (fun b => row = some b) w w' :=
  ⟨k.os, k.tape, k.output, k.size, fun i hi hne => k.block i hi (fun e => hne e.symm)⟩
/-- a cell of the call's own row is written -/
theorem own_set {w : World} {base : Nat} {e : TypeId} {size : Nat} {g cap n : Nat} {xs : List Value} (h : w.ownsRow base e size (.slice (some ⟨g, 0, none⟩) n cap) n xs) {i : Nat} (hi : i < n * size) (v : Value) :
    (w.setCell ⟨g, i, none⟩ v).ownsRow base e size (.slice (some ⟨g, 0, none⟩) n cap) n (xs.set i v) := by
  rcases h.2 with ⟨hv, _⟩ | ⟨g', cap', cur, hv, hb, hg, hnc, hcm, hcs, ht⟩
  · cases hv
  · cases hv
    refine ⟨by rw [List.length_set]; exact h.1, .inr ⟨g, cap, cur.setIfInBounds i v, rfl, hb, ?_, hnc, hcm, by simpa using hcs, ?_⟩⟩
    · show (w.heap.modify g _)[g]? = _
      rw [Array.getElem?_modify, if_pos rfl, hg]
      simp
    · rw [Array.toList_setIfInBounds, List.take_set, ht]
/-- fewer of them -/
theorem own_cut {w : World} {base : Nat} {e : TypeId} {size : Nat} {g cap n : Nat} {xs : List Value} (h : w.ownsRow base e size (.slice (some ⟨g, 0, none⟩) n cap) n xs) {m : Nat} (hm : m ≤ n) :
    w.ownsRow base e size (.slice (some ⟨g, 0, none⟩) m cap) m (xs.take (m * size)) := by
  have hle : m * size ≤ n * size := Nat.mul_le_mul_right _ hm
  rcases h.2 with ⟨hv, _⟩ | ⟨g', cap', cur, hv, hb, hg, hnc, hcm, hcs, ht⟩
  · cases hv
  · cases hv
    refine ⟨by rw [List.length_take, h.1]; omega, .inr ⟨g, cap, cur, rfl, hb, hg, by omega, hcm, hcs, ?_⟩⟩
    rw [← ht, List.take_take, Nat.min_eq_left hle]
end Go.Proofs.YtogjfifpbplahaaGreatDoor
