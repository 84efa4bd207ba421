/- The law BitsLoads, walked. -/
import Derived.Test.YtbnjeglbbadcbaaDoorW34
namespace Go.Proofs.YtbnjeglbbadcbaaDoor
open Go.RowKit
open BM
set_option linter.unusedVariables false

def LawOk (w : World) (e : Ending) (w' : World) : Prop := e = .returned (.bool true) ∧ Fr (fun _ => False) w w'
theorem loads_many (n : Int) (a0 : Option Addr) (bl bc : Nat) (w : World) (hT : Tab w) (h : 600 < bl) :
    Calls Tryd.prog 4 #[.int .i64 n, .slice a0 bl bc] w (LawOk w) := by
  have h1 : (600 : Int) < (bl : Int) := by omega
  have HT := Lib.hid hT
  clear hT h
  go_enter Tryd.func4, Tryd.ntmps4
  go_wp2_with (first
    | (go_at_call 15; go_must (refine (awake_walk _ HT.out).mono ?_; rintro e w2 ⟨rfl, hF2⟩; have HF2 := Lib.hid hF2; clear hF2)))
  go_ret
  exact ⟨rfl, HF2.out⟩
set_option maxRecDepth 100000 in
set_option maxHeartbeats 2000000 in
theorem loads_out (n : Int) (a0 : Option Addr) (bl bc : Nat) (w : World) (hT : Tab w) (hl : bl ≤ 600) (h : n < 0 ∨ 4096 < n) :
    Calls Tryd.prog 4 #[.int .i64 n, .slice a0 bl bc] w (LawOk w) := by
  have h1 : (bl : Int) ≤ 600 := by omega
  have HT := Lib.hid hT
  have H := Lib.hid h
  clear hT h
  go_enter Tryd.func4, Tryd.ntmps4
  go_wp2_with (first
    | (go_at_call 16; go_must (refine (new_out n _ H.out).mono ?_; rintro e w' ⟨rfl, rfl⟩))
    | (go_at_call 17; go_must (refine (rnew_out n _ H.out).mono ?_; rintro e w' ⟨rfl, rfl⟩))
    | (go_at_call 19; go_must (refine (load_range n a0 bl bc _ H.out).mono ?_; rintro e w' ⟨rfl, rfl⟩))
    | (go_at_call 20; go_must (refine (rload_range n a0 bl bc _ H.out).mono ?_; rintro e w' ⟨rfl, rfl⟩))
    | (go_at_call 15; go_must (refine (awake_walk _ HT.out).mono ?_; rintro e w2 ⟨rfl, hF2⟩; have HF2 := Lib.hid hF2; clear hF2)))
  go_ret
  exact ⟨rfl, HF2.out⟩
theorem bytesm (a n : Nat) (l : List Bool) (w : World) (ha : IsMap w a l) (hn : l.length = n) :
    Calls Tryd.prog 21 #[.pointer (some ⟨a, 0, none⟩)] w fun e w' => ∃ r, e = .returned (.slice (some ⟨r, 0, none⟩) ((n + 7) / 8) ((n + 7) / 8)) ∧ RowB w' r 5 (bvs (bytesN l)) ∧ Fr (fun _ => False) w w' := by
  subst hn
  exact (bytes_walk a l w ha).mono fun _ _ h => ⟨_, h⟩
theorem loadm (n b : Nat) (l : List Bool) (w : World) (hn : l.length = n) (h : RowB w b 5 (bvs (bytesN l))) (hl : n ≤ 4096) :
    Calls Tryd.prog 19 #[.int .i64 n, .slice (some ⟨b, 0, none⟩) ((n + 7) / 8) ((n + 7) / 8)] w fun e w' => ∃ m, e = .returned (.tuple #[.pointer (some ⟨m, 0, none⟩), .int .i64 0]) ∧ IsMap w' m l ∧ Fr (fun _ => False) w w' :=
  (load_bytesN n b _ l w hn h hl).mono fun _ _ h => ⟨_, h⟩
set_option maxRecDepth 100000 in
set_option maxHeartbeats 2000000 in
theorem loads_bad (n : Nat) (a0 : Option Addr) (bs : List Nat) (bl bc : Nat) (w : World) (hT : Tab w) (hbl : bs.length = bl) (hl : bl ≤ 600) (hn : n ≤ 4096) (hA : ArgW w a0 bs) (hb : ∀ x ∈ bs, x < 256) (he : loadE n bs = 6) :
    Calls Tryd.prog 4 #[.int .i64 n, .slice a0 bl bc] w (LawOk w) := by
  have h1 : (bl : Int) ≤ 600 := by omega
  have HT := Lib.hid hT
  have HE := Lib.hid he
  have HL := Lib.hid (fun (w0 : World) (hF : Fr (fun _ => False) w w0) => loadW n a0 bs bc w0 (hA.fr hF (fun _ _ h => h)) hb)
  have HR := Lib.hid (fun (w0 : World) (hF : Fr (fun _ => False) w w0) => rloadW n a0 bs bc w0 (hA.fr hF (fun _ _ h => h)) hb)
  rw [he, hbl, Int.toNat_natCast] at HL HR
  clear hT hA he hb
  have T1 : Hid True := Lib.hid trivial
  have T2 : Hid True := Lib.hid trivial
  have T3 : Hid True := Lib.hid trivial
  have T4 : Hid True := Lib.hid trivial
  have T5 : Hid True := Lib.hid trivial
  have T6 : Hid True := Lib.hid trivial
  go_enter Tryd.func4, Tryd.ntmps4
  go_wp2_with (first
    | (go_at_call 16; have tok := T1.out; go_must (refine (newm n _ hn).mono ?_; rintro e w1 ⟨m1, rfl, hM, hF⟩; have HM1 := Lib.hid hM; have HF1 : Hid (Fr (fun _ => False) w w1) := Lib.hid ⟨hF.1, hF.2, hF.3, hF.4, hF.5⟩; clear hM hF); clear T1)
    | (go_at_call 17; have tok := T2.out; go_must (refine (rnewm n _ hn).mono ?_; rintro e w2 ⟨b1, rfl, hB, hF⟩; have HB1 := Lib.hid hB; have HF2 : Hid (Fr (fun _ => False) w1 w2) := Lib.hid ⟨hF.1, hF.2, hF.3, hF.4, hF.5⟩; clear hB hF); clear T2)
    | (go_at_call 18; have tok := T3.out; go_must (refine (lsamet _ _ n _ (mkL n (fun _ => false)) (mkL n (fun _ => false)) _ (by have h := (IsMap.fr HM1.out HF2.out (fun h => h)); exact h) (by have h := HB1.out; exact h) (mkL_length _ _) rfl).mono ?_; rintro e w3 ⟨rfl, hF⟩; have HF3 : Hid (Fr (fun _ => False) w2 w3) := Lib.hid ⟨hF.1, hF.2, hF.3, hF.4, hF.5⟩; clear hF); clear T3)
    | (go_at_call 19; have tok := T4.out; go_must (refine (HL.out _ (by have h := ((HF1.out.trans HF2.out (fun _ _ h => h)).trans HF3.out (fun _ _ h => h)); exact h)).mono ?_; rintro e w4 ⟨hF, h⟩; rw [if_neg (by decide)] at h; subst h; have HF4 : Hid (Fr (fun _ => False) w3 w4) := Lib.hid ⟨hF.1, hF.2, hF.3, hF.4, hF.5⟩; clear hF); clear T4)
    | (go_at_call 20; have tok := T5.out; go_must (refine (HR.out _ (by have h := (((HF1.out.trans HF2.out (fun _ _ h => h)).trans HF3.out (fun _ _ h => h)).trans HF4.out (fun _ _ h => h)); exact h)).mono ?_; rintro e w5 ⟨hF, h⟩; rw [if_neg (by decide)] at h; subst h; have HF5 : Hid (Fr (fun _ => False) w4 w5) := Lib.hid ⟨hF.1, hF.2, hF.3, hF.4, hF.5⟩; clear hF); clear T5)
    | (go_at_call 15; have tok := T6.out; go_must (refine (awake_walk _ (by have h := (Tab.fr (Tab.fr (Tab.fr (Tab.fr (Tab.fr HT.out HF1.out (fun h => h)) HF2.out (fun h => h)) HF3.out (fun h => h)) HF4.out (fun h => h)) HF5.out (fun h => h)); exact h)).mono ?_; rintro e w6 ⟨rfl, hF⟩; have HF6 : Hid (Fr (fun _ => False) w5 w6) := Lib.hid ⟨hF.1, hF.2, hF.3, hF.4, hF.5⟩; clear hF); clear T6))
  go_ret
  exact ⟨rfl, (((((HF1.out.trans HF2.out (fun _ _ h => h)).trans HF3.out (fun _ _ h => h)).trans HF4.out (fun _ _ h => h)).trans HF5.out (fun _ _ h => h)).trans HF6.out (fun _ _ h => h))⟩
set_option maxRecDepth 100000 in
set_option maxHeartbeats 2000000 in
theorem loads_good (n : Nat) (a0 : Option Addr) (bs : List Nat) (bl bc : Nat) (w : World) (hT : Tab w) (hbl : bs.length = bl) (hl : bl ≤ 600) (hn : n ≤ 4096) (hA : ArgW w a0 bs) (hb : ∀ x ∈ bs, x < 256) (he : loadE n bs = 0) :
    Calls Tryd.prog 4 #[.int .i64 n, .slice a0 bl bc] w (LawOk w) := by
  have h1 : (bl : Int) ≤ 600 := by omega
  have HT := Lib.hid hT
  have HE := Lib.hid he
  have HL := Lib.hid (fun (w0 : World) (hF : Fr (fun _ => False) w w0) => loadW n a0 bs bc w0 (hA.fr hF (fun _ _ h => h)) hb)
  have HR := Lib.hid (fun (w0 : World) (hF : Fr (fun _ => False) w w0) => rloadW n a0 bs bc w0 (hA.fr hF (fun _ _ h => h)) hb)
  rw [he, hbl, Int.toNat_natCast] at HL HR
  obtain ⟨X, hX⟩ : ∃ X, mkL n (bb bs) = X := ⟨_, rfl⟩
  rw [hX] at HL HR
  have hXl : X.length = n := by rw [← hX, mkL_length]
  have HLX := Lib.hid hXl
  have HBY := Lib.hid (fun (w0 : World) (a : Nat) (ha : IsMap w0 a X) => bytesm a n X w0 ha hXl)
  have HLB := Lib.hid (fun (w0 : World) (b : Nat) (h : RowB w0 b 5 (bvs (bytesN X))) => loadm n b X w0 hXl h hn)
  clear hX hXl
  clear hT hA he hb
  have T1 : Hid True := Lib.hid trivial
  have T2 : Hid True := Lib.hid trivial
  have T3 : Hid True := Lib.hid trivial
  have T4 : Hid True := Lib.hid trivial
  have T5 : Hid True := Lib.hid trivial
  have T6 : Hid True := Lib.hid trivial
  have T7 : Hid True := Lib.hid trivial
  have T8 : Hid True := Lib.hid trivial
  have T9 : Hid True := Lib.hid trivial
  have T10 : Hid True := Lib.hid trivial
  have T11 : Hid True := Lib.hid trivial
  have T12 : Hid True := Lib.hid trivial
  go_enter Tryd.func4, Tryd.ntmps4
  go_wp2_with (first
    | (go_at_call 16; have tok := T1.out; go_must (refine (newm n _ hn).mono ?_; rintro e w1 ⟨m1, rfl, hM, hF⟩; have HM1 := Lib.hid hM; have HF1 : Hid (Fr (fun _ => False) w w1) := Lib.hid ⟨hF.1, hF.2, hF.3, hF.4, hF.5⟩; clear hM hF); clear T1)
    | (go_at_call 17; have tok := T2.out; go_must (refine (rnewm n _ hn).mono ?_; rintro e w2 ⟨b1, rfl, hB, hF⟩; have HB1 := Lib.hid hB; have HF2 : Hid (Fr (fun _ => False) w1 w2) := Lib.hid ⟨hF.1, hF.2, hF.3, hF.4, hF.5⟩; clear hB hF); clear T2)
    | (go_at_call 18; have tok := T3.out; go_must (refine (lsamet _ _ n _ (mkL n (fun _ => false)) (mkL n (fun _ => false)) _ (by have h := (IsMap.fr HM1.out HF2.out (fun h => h)); exact h) (by have h := HB1.out; exact h) (mkL_length _ _) rfl).mono ?_; rintro e w3 ⟨rfl, hF⟩; have HF3 : Hid (Fr (fun _ => False) w2 w3) := Lib.hid ⟨hF.1, hF.2, hF.3, hF.4, hF.5⟩; clear hF); clear T3)
    | (go_at_call 19; have tok := T4.out; go_must (refine (HL.out _ (by have h := ((HF1.out.trans HF2.out (fun _ _ h => h)).trans HF3.out (fun _ _ h => h)); exact h)).mono ?_; rintro e w4 ⟨hF, h⟩; rw [if_pos rfl] at h; obtain ⟨rfl, hM⟩ := h; have HM2 := Lib.hid hM; have HF4 : Hid (Fr (fun _ => False) w3 w4) := Lib.hid ⟨hF.1, hF.2, hF.3, hF.4, hF.5⟩; clear hF hM); clear T4)
    | (go_at_call 20; have tok := T5.out; go_must (refine (HR.out _ (by have h := (((HF1.out.trans HF2.out (fun _ _ h => h)).trans HF3.out (fun _ _ h => h)).trans HF4.out (fun _ _ h => h)); exact h)).mono ?_; rintro e w5 ⟨hF, h⟩; rw [if_pos rfl] at h; obtain ⟨rfl, hB⟩ := h; have HB2 := Lib.hid hB; have HF5 : Hid (Fr (fun _ => False) w4 w5) := Lib.hid ⟨hF.1, hF.2, hF.3, hF.4, hF.5⟩; clear hF hB); clear T5)
    | (go_at_call 13; have tok := T6.out; go_must (refine (lenm _ n X _ (by have h := (IsMap.fr HM2.out HF5.out (fun h => h)); exact h) HLX.out).mono ?_; rintro e w' ⟨rfl, rfl⟩); clear T6)
    | (go_at_call 21; have tok := T7.out; go_must (refine (HBY.out _ _ (by have h := (IsMap.fr HM2.out HF5.out (fun h => h)); exact h)).mono ?_; rintro e w6 ⟨r, rfl, hR, hF⟩; have HR6 := Lib.hid hR; have HF6 : Hid (Fr (fun _ => False) w5 w6) := Lib.hid ⟨hF.1, hF.2, hF.3, hF.4, hF.5⟩; clear hF hR); clear T7)
    | (go_at_call 19; have tok := T8.out; go_must (refine (HLB.out _ _ (by have h := HR6.out; exact h)).mono ?_; rintro e w7 ⟨m3, rfl, hM, hF⟩; have HM3 := Lib.hid hM; have HF7 : Hid (Fr (fun _ => False) w6 w7) := Lib.hid ⟨hF.1, hF.2, hF.3, hF.4, hF.5⟩; clear hF hM); clear T8)
    | (go_at_call 18; have tok := T9.out; go_must (refine (lsamet _ _ n _ X X _ (by have h := (IsMap.fr (IsMap.fr (IsMap.fr HM2.out HF5.out (fun h => h)) HF6.out (fun h => h)) HF7.out (fun h => h)); exact h) (by have h := (BoolS.fr (BoolS.fr HB2.out HF6.out (fun h => h)) HF7.out (fun h => h)); exact h) HLX.out rfl).mono ?_; rintro e w8 ⟨rfl, hF⟩; have HF8 : Hid (Fr (fun _ => False) w7 w8) := Lib.hid ⟨hF.1, hF.2, hF.3, hF.4, hF.5⟩; clear hF); clear T9)
    | (go_at_call 22; have tok := T10.out; go_must (refine (samet _ _ X X _ (by have h := (IsMap.fr (IsMap.fr (IsMap.fr (IsMap.fr HM2.out HF5.out (fun h => h)) HF6.out (fun h => h)) HF7.out (fun h => h)) HF8.out (fun h => h)); exact h) (by have h := (IsMap.fr HM3.out HF8.out (fun h => h)); exact h) rfl).mono ?_; rintro e w' ⟨rfl, q, rfl⟩); clear T10)
    | (go_at_call 22; have tok := T11.out; go_must (refine (samet _ _ X X _ (by have h := (IsMap.fr HM3.out HF8.out (fun h => h)); exact h) (by have h := (IsMap.fr (IsMap.fr (IsMap.fr (IsMap.fr HM2.out HF5.out (fun h => h)) HF6.out (fun h => h)) HF7.out (fun h => h)) HF8.out (fun h => h)); exact h) rfl).mono ?_; rintro e w' ⟨rfl, q2, rfl⟩); clear T11)
    | (go_at_call 15; have tok := T12.out; go_must (refine (awake_walk _ (by have h := (Tab.fr (Tab.fr (Tab.fr (Tab.fr (Tab.fr (Tab.fr (Tab.fr (Tab.fr HT.out HF1.out (fun h => h)) HF2.out (fun h => h)) HF3.out (fun h => h)) HF4.out (fun h => h)) HF5.out (fun h => h)) HF6.out (fun h => h)) HF7.out (fun h => h)) HF8.out (fun h => h)); exact h)).mono ?_; rintro e w9 ⟨rfl, hF⟩; have HF9 : Hid (Fr (fun _ => False) w8 w9) := Lib.hid ⟨hF.1, hF.2, hF.3, hF.4, hF.5⟩; clear hF); clear T12))
  go_ret
  exact ⟨rfl, ((((((((HF1.out.trans HF2.out (fun _ _ h => h)).trans HF3.out (fun _ _ h => h)).trans HF4.out (fun _ _ h => h)).trans HF5.out (fun _ _ h => h)).trans HF6.out (fun _ _ h => h)).trans HF7.out (fun _ _ h => h)).trans HF8.out (fun _ _ h => h)).trans HF9.out (fun _ _ h => h))⟩
/-- **BitsLoads** -/
theorem loads_walk (n : Int) (a0 : Option Addr) (bs : List Nat) (bc : Nat) (w : World) (hT : Tab w) (hA : ArgW w a0 bs) (hb : ∀ x ∈ bs, x < 256) :
    Calls Tryd.prog 4 #[.int .i64 n, .slice a0 bs.length bc] w (LawOk w) := by
  by_cases hm : 600 < bs.length
  · exact loads_many n a0 bs.length bc w hT hm
  · by_cases hn : 0 ≤ n ∧ n ≤ 4096
    · obtain ⟨N, rfl⟩ := Int.eq_ofNat_of_zero_le hn.1
      by_cases hx : bytesN (mkL N (bb bs)) = bs
      · exact loads_good N a0 bs bs.length bc w hT rfl (by omega) (by omega) hA hb (by unfold loadE; rw [if_pos hn, Int.toNat_natCast, if_pos hx])
      · exact loads_bad N a0 bs bs.length bc w hT rfl (by omega) (by omega) hA hb (by unfold loadE; rw [if_pos hn, Int.toNat_natCast, if_neg hx])
    · exact loads_out n a0 bs.length bc w hT (by omega) (by omega)
end Go.Proofs.YtbnjeglbbadcbaaDoor
