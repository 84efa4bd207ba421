/- The laws BitsLogic and BitsPlays, for every input. -/
import Derived.Test.YtbnjeglbbadcbaaDoorW30
import Derived.Test.YtbnjeglbbadcbaaDoorW31
import Derived.Test.YtbnjeglbbadcbaaDoorW32
namespace Go.Proofs.YtbnjeglbbadcbaaDoor
open Go.RowKit
open BM
set_option linter.unusedVariables false

/-- **BitsLogic** -/
theorem logic_walk (n0 n1 : Nat) (a0 b0 : Option Addr) (bs cs : List Nat) (bc cc : Nat) (w : World) (hT : Tab w) (h0 : n0 < 65536) (h1 : n1 < 65536) (hA : ArgW w a0 bs) (hB : ArgW w b0 cs) (hl : bs.length ≤ 9223372036854775807) (hk : cs.length ≤ 9223372036854775807) :
    Calls Tryd.prog 5 #[.agg #[.int .u16 n0, .int .u16 n1], .slice a0 bs.length bc, .slice b0 cs.length cc] w fun e w' => e = .returned (.bool true) ∧ Fr (fun _ => False) w w' := by
  have m1 := Lib.hid (fun (w0 : World) (hF : Fr (fun _ => False) w w0) => madeW n0 bc a0 bs w0 h0 (hA.fr hF (fun _ _ h => h)) hl)
  have m2 := Lib.hid (fun (w0 : World) (hF : Fr (fun _ => False) w w0) => madeW n1 cc b0 cs w0 h1 (hB.fr hF (fun _ _ h => h)) hk)
  by_cases h : n0 % 601 = n1 % 601
  · exact logic_eq n0 n1 a0 b0 bs.length cs.length bc cc (n0 % 601) (madeL n0 bs) (madeL n1 cs) w (Lib.hid hT) (madeL_length _ _) (by rw [h]; exact madeL_length _ _) (by omega) m1 m2
  · exact logic_ne n0 n1 a0 b0 bs.length cs.length bc cc (n0 % 601) (n1 % 601) (madeL n0 bs) (madeL n1 cs) w (Lib.hid hT) (madeL_length _ _) (madeL_length _ _) (by omega) (by omega) h m1 m2

set_option maxRecDepth 100000 in
set_option maxHeartbeats 2000000 in
theorem plays_zero (n : Nat) (a0 s0 : Option Addr) (bl bc sc : Nat) (X0 : List Bool) (w : World) (HT : Hid (Tab w)) 
    (HMX : Hid (Calls Tryd.prog 11 #[.int .u16 n, .slice a0 bl bc] w (Got w X0))) :
    Calls Tryd.prog 9 #[.int .u16 n, .slice a0 bl bc, .slice s0 0 sc] w fun e w' => e = .returned (.bool true) ∧ Fr (fun _ => False) w w' := by
  go_enter Tryd.func9, Tryd.ntmps9
  go_wp2_with (first
    | (go_at_call 11; go_must (refine (HMX.out).mono ?_; rintro e w1 ⟨m1, a1, c1, rfl, hM, hB, hm, -, hF⟩; have HF1 := Lib.hid hF; have HT1 := Lib.hid (HT.out.fr hF (fun h => h)); clear hM hB hF hm)))
  clear HMX
  go_loop [9] (fun i => i = .int .i64 0) (fun i => (0 : Nat))
  case atStart => rfl
  case round =>
    obtain rfl := hrel
    go_wp2_with (first
      | (go_at_call 15; go_must (refine (awake_walk _ (by exact HT1.out)).mono ?_; rintro e w2 ⟨rfl, hF2⟩; have HF2 : Hid (Fr (fun _ => False) w1 w2) := Lib.hid ⟨hF2.1, hF2.2, hF2.3, hF2.4, hF2.5⟩; clear hF2)))
    go_ret
    exact ⟨rfl, HF1.out.trans HF2.out (fun _ _ h => h)⟩
/-- **BitsPlays** -/
theorem plays_walk (n : Nat) (a0 s0 : Option Addr) (bs : List Nat) (bc sl sc : Nat) (fq : Nat → Nat) (fI fJ : Nat → Int) (fV : Nat → Bool) (w : World) (hT : Tab w) (hn : n < 65536) (hA : ArgW w a0 bs) (h1 : bs.length ≤ 9223372036854775807) (hC : CallsAt w s0 sl fq fI fJ fV) :
    Calls Tryd.prog 9 #[.int .u16 n, .slice a0 bs.length bc, .slice s0 sl sc] w fun e w' => e = .returned (.bool true) ∧ Fr (fun _ => False) w w' := by
  by_cases hb : 100 < sl
  · exact plays_many n a0 s0 bs.length bc sl sc w hT hb
  · have m1 := Lib.hid (madeW n bc a0 bs w hn hA h1)
    by_cases h0 : sl = 0
    · subst h0
      exact plays_zero n a0 s0 bs.length bc sc (madeL n bs) w (Lib.hid hT) m1
    · obtain ⟨b, o, rfl, hlt, hc⟩ := hC (by omega)
      exact plays_core n a0 bs.length bc sl sc b o (n % 601) fq fI fJ fV (madeL n bs) w (Lib.hid hT) (madeL_length _ _) (by omega) (by omega) hlt (Lib.hid hc) m1
end Go.Proofs.YtbnjeglbbadcbaaDoor
