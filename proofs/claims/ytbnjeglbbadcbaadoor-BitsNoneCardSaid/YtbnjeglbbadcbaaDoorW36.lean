/- Maps that are none: what each function returns. -/
import Derived.Test.YtbnjeglbbadcbaaDoorW22
import Derived.Test.YtbnjeglbbadcbaaDoorW21
import Derived.Deep.RegionWith
namespace Go.Proofs.YtbnjeglbbadcbaaDoor
open Go.RowKit
open BM
set_option linter.unusedVariables false

/-- p is no map: nil, or a map that was not made -/
def NoMap (w : World) (p : Option Addr) : Prop := p = none ∨ ∃ b, p = some ⟨b, 0, none⟩ ∧ w.cell? ⟨b, 65, none⟩ = some (.bool false) ∧ b < w.heap.size
theorem NoMap.fr {w w' : World} {p : Option Addr} (h : NoMap w p) (f : Fr (fun _ => False) w w') : NoMap w' p := by
  rcases h with h | ⟨b, h1, h2, h3⟩
  · exact Or.inl h
  · exact Or.inr ⟨b, h1, (World.cell?_of_block (f.block b h3 (fun h => h))).trans h2, Nat.lt_of_lt_of_le h3 f.size⟩
theorem ok_no (p : Option Addr) (w : World) (h : NoMap w p) : Calls Tryd.prog 42 #[.pointer p] w fun e w' => e = .returned (.bool false) ∧ w = w' := by
  rcases h with rfl | ⟨b, rfl, h2, _⟩
  · exact (ok_nil w).mono fun _ _ h => ⟨h.1, h.2.symm⟩
  · exact ok_walk b false w h2
theorem ok_no' (p : Option Addr) (w : World) (h : NoMap w p) : Calls Tryd.prog 42 #[.pointer p] w fun e w' => e = .returned (.bool false) ∧ w' = w :=
  (ok_no p w h).mono fun _ _ h => ⟨h.1, h.2.symm⟩
set_option maxRecDepth 100000 in
theorem bit_no (p : Option Addr) (i : Int) (w : World) (h : NoMap w p) : Calls Tryd.prog 48 #[.pointer p, .int .i64 i] w fun e w' => e = .returned (.int .i64 1) ∧ w = w' := by
  have H := Lib.hid h
  clear h
  go_enter Tryd.func48, Tryd.ntmps48
  go_wp2_with (first | (go_at_call 42; refine (ok_no p _ H.out).mono ?_; rintro e w' ⟨rfl, rfl⟩))
  go_ret
  exact ⟨rfl, rfl⟩
set_option maxRecDepth 100000 in
theorem in_no (p : Option Addr) (i n : Int) (w : World) (h : NoMap w p) : Calls Tryd.prog 39 #[.pointer p, .int .i64 i, .int .i64 n] w fun e w' => e = .returned (.int .i64 1) ∧ w = w' := by
  have H := Lib.hid h
  clear h
  go_enter Tryd.func39, Tryd.ntmps39
  go_wp2_with (first | (go_at_call 42; refine (ok_no p _ H.out).mono ?_; rintro e w' ⟨rfl, rfl⟩))
  go_ret
  exact ⟨rfl, rfl⟩
set_option maxRecDepth 100000 in
theorem len_no (p : Option Addr) (w : World) (h : NoMap w p) : Calls Tryd.prog 13 #[.pointer p] w fun e w' => e = .returned (.int .i64 0) ∧ w = w' := by
  have H := Lib.hid h
  clear h
  go_enter Tryd.func13, Tryd.ntmps13
  go_wp2_with (first | (go_at_call 42; refine (ok_no p _ H.out).mono ?_; rintro e w' ⟨rfl, rfl⟩))
  go_ret
  exact ⟨rfl, rfl⟩
set_option maxRecDepth 100000 in
theorem bytes_no (p : Option Addr) (w : World) (h : NoMap w p) : Calls Tryd.prog 21 #[.pointer p] w fun e w' => e = .returned (.slice none 0 0) ∧ w = w' := by
  have H := Lib.hid h
  clear h
  go_enter Tryd.func21, Tryd.ntmps21
  go_wp2_with (first | (go_at_call 42; refine (ok_no p _ H.out).mono ?_; rintro e w' ⟨rfl, rfl⟩))
  go_ret
  exact ⟨rfl, rfl⟩
set_option maxRecDepth 100000 in
theorem not_no (p : Option Addr) (w : World) (h : NoMap w p) : Calls Tryd.prog 33 #[.pointer p] w fun e w' => e = .returned (.tuple #[.pointer none, .int .i64 1]) ∧ w = w' := by
  have H := Lib.hid h
  clear h
  go_enter Tryd.func33, Tryd.ntmps33
  go_wp2_with (first | (go_at_call 42; refine (ok_no p _ H.out).mono ?_; rintro e w' ⟨rfl, rfl⟩))
  go_ret2
  exact ⟨rfl, rfl⟩
set_option maxRecDepth 100000 in
theorem get_no (p : Option Addr) (i : Int) (w : World) (h : NoMap w p) : Calls Tryd.prog 31 #[.pointer p, .int .i64 i] w fun e w' => e = .returned (.tuple #[.bool false, .int .i64 1]) ∧ w = w' := by
  have H := Lib.hid h
  clear h
  go_enter Tryd.func31, Tryd.ntmps31
  go_wp2_with (first | (go_at_call 48; refine (bit_no p i _ H.out).mono ?_; rintro e w' ⟨rfl, rfl⟩))
  go_ret2
  exact ⟨rfl, rfl⟩
set_option maxRecDepth 100000 in
theorem set_no (p : Option Addr) (i : Int) (v : Bool) (w : World) (h : NoMap w p) : Calls Tryd.prog 38 #[.pointer p, .int .i64 i, .bool v] w fun e w' => e = .returned (.int .i64 1) ∧ w = w' := by
  have H := Lib.hid h
  clear h
  go_enter Tryd.func38, Tryd.ntmps38
  go_wp2_with (first | (go_at_call 48; refine (bit_no p i _ H.out).mono ?_; rintro e w' ⟨rfl, rfl⟩))
  go_ret
  exact ⟨rfl, rfl⟩
set_option maxRecDepth 100000 in
theorem turn_no (p : Option Addr) (i : Int) (w : World) (h : NoMap w p) : Calls Tryd.prog 35 #[.pointer p, .int .i64 i] w fun e w' => e = .returned (.int .i64 1) ∧ w = w' := by
  have H := Lib.hid h
  clear h
  go_enter Tryd.func35, Tryd.ntmps35
  go_wp2_with (first | (go_at_call 48; refine (bit_no p i _ H.out).mono ?_; rintro e w' ⟨rfl, rfl⟩))
  go_ret
  exact ⟨rfl, rfl⟩
set_option maxRecDepth 100000 in
theorem fill_no (p : Option Addr) (i n : Int) (v : Bool) (w : World) (h : NoMap w p) : Calls Tryd.prog 36 #[.pointer p, .int .i64 i, .int .i64 n, .bool v] w fun e w' => e = .returned (.int .i64 1) ∧ w = w' := by
  have H := Lib.hid h
  clear h
  go_enter Tryd.func36, Tryd.ntmps36
  go_wp2_with (first | (go_at_call 39; refine (in_no p i n _ H.out).mono ?_; rintro e w' ⟨rfl, rfl⟩))
  go_ret
  exact ⟨rfl, rfl⟩
set_option maxRecDepth 100000 in
theorem count_no (p : Option Addr) (i n : Int) (w : World) (h : NoMap w p) : Calls Tryd.prog 14 #[.pointer p, .int .i64 i, .int .i64 n] w fun e w' => e = .returned (.tuple #[.int .i64 0, .int .i64 1]) ∧ w = w' := by
  have H := Lib.hid h
  clear h
  go_enter Tryd.func14, Tryd.ntmps14
  go_wp2_with (first | (go_at_call 39; refine (in_no p i n _ H.out).mono ?_; rintro e w' ⟨rfl, rfl⟩))
  go_ret2
  exact ⟨rfl, rfl⟩
set_option maxRecDepth 100000 in
theorem next_no (p : Option Addr) (i : Int) (v : Bool) (w : World) (h : NoMap w p) : Calls Tryd.prog 30 #[.pointer p, .int .i64 i, .bool v] w fun e w' => e = .returned (.tuple #[.int .i64 0, .int .i64 1]) ∧ w = w' := by
  have H := Lib.hid h
  clear h
  go_enter Tryd.func30, Tryd.ntmps30
  go_wp2_with (first | (go_at_call 39; refine (in_no p i 0 _ H.out).mono ?_; rintro e w' ⟨rfl, rfl⟩))
  go_ret2
  exact ⟨rfl, rfl⟩
set_option maxRecDepth 100000 in
theorem last_no (p : Option Addr) (i : Int) (v : Bool) (w : World) (h : NoMap w p) : Calls Tryd.prog 32 #[.pointer p, .int .i64 i, .bool v] w fun e w' => e = .returned (.tuple #[.int .i64 0, .int .i64 1]) ∧ w = w' := by
  have H := Lib.hid h
  clear h
  go_enter Tryd.func32, Tryd.ntmps32
  go_wp2_with (first | (go_at_call 39; refine (in_no p i 0 _ H.out).mono ?_; rintro e w' ⟨rfl, rfl⟩))
  go_ret2
  exact ⟨rfl, rfl⟩
set_option maxRecDepth 100000 in
theorem run_no (p : Option Addr) (i n : Int) (v : Bool) (w : World) (h : NoMap w p) : Calls Tryd.prog 12 #[.pointer p, .int .i64 i, .int .i64 n, .bool v] w fun e w' => e = .returned (.tuple #[.int .i64 0, .int .i64 1]) ∧ w = w' := by
  have H := Lib.hid h
  clear h
  go_enter Tryd.func12, Tryd.ntmps12
  go_wp2_with fail
  go_step3
  go_wp2_with (first | (go_at_call 39; refine (in_no p i 0 _ H.out).mono ?_; rintro e w' ⟨rfl, rfl⟩))
  rw [Exit.noGoto_ret]
  go_ret2
  exact ⟨rfl, rfl⟩
set_option maxRecDepth 100000 in
theorem pair_noL (p q : Option Addr) (w : World) (h : NoMap w p) : Calls Tryd.prog 46 #[.pointer p, .pointer q] w fun e w' => e = .returned (.int .i64 1) ∧ w = w' := by
  have H := Lib.hid h
  clear h
  go_enter Tryd.func46, Tryd.ntmps46
  go_wp2_with (first | (go_at_call 42; refine (ok_no p _ H.out).mono ?_; rintro e w' ⟨rfl, rfl⟩))
  go_ret
  exact ⟨rfl, rfl⟩
set_option maxRecDepth 100000 in
theorem pair_noR (a : Nat) (q : Option Addr) (w : World) (ha : w.cell? ⟨a, 65, none⟩ = some (.bool true)) (h : NoMap w q) : Calls Tryd.prog 46 #[.pointer (some ⟨a, 0, none⟩), .pointer q] w fun e w' => e = .returned (.int .i64 1) ∧ w = w' := by
  have H := Lib.hid h
  have HA := Lib.hid ha
  have T1 := Lib.hid trivial
  clear h ha
  go_enter Tryd.func46, Tryd.ntmps46
  go_wp2_with (first | (go_at_call 42; have tok := T1.out; go_must (refine (ok_walk a true _ HA.out).mono ?_; rintro e w' ⟨rfl, rfl⟩); clear T1) | (go_at_call 42; refine (ok_no q _ H.out).mono ?_; rintro e w' ⟨rfl, rfl⟩))
  go_ret
  exact ⟨rfl, rfl⟩
set_option maxRecDepth 100000 in
theorem same_noL (p q : Option Addr) (w : World) (h : NoMap w p) : Calls Tryd.prog 22 #[.pointer p, .pointer q] w fun e w' => e = .returned (.bool false) ∧ ∃ q, w' = w.drewN q := by
  have H := Lib.hid h
  clear h
  go_enter Tryd.func22, Tryd.ntmps22
  go_wp2_with fail
  go_quiet ((go_at_call 42; exact Calls.quiet_of_same (ok_no' p _ H.out)))
  go_wp2
  go_ret
  exact ⟨rfl, _, rfl⟩
set_option maxRecDepth 100000 in
theorem same_noR (a : Nat) (q : Option Addr) (w : World) (ha : w.cell? ⟨a, 65, none⟩ = some (.bool true)) (h : NoMap w q) : Calls Tryd.prog 22 #[.pointer (some ⟨a, 0, none⟩), .pointer q] w fun e w' => e = .returned (.bool false) ∧ ∃ q, w' = w.drewN q := by
  have H := Lib.hid h
  have HA := Lib.hid ha
  have T1 := Lib.hid trivial
  clear h ha
  go_enter Tryd.func22, Tryd.ntmps22
  go_wp2_with fail
  go_quiet (first | (go_at_call_of 42 (Value.pointer q); exact Calls.quiet_of_same (ok_no' q _ H.out)) | (go_at_call 42; exact Calls.quiet_of_same (ok_any a true _ HA.out)))
  go_wp2
  go_ret
  exact ⟨rfl, _, rfl⟩
set_option maxRecDepth 100000 in
theorem and_noL (p q : Option Addr) (w : World) (h : NoMap w p) : Calls Tryd.prog 23 #[.pointer p, .pointer q] w fun e w' => e = .returned (.tuple #[.pointer none, .int .i64 1]) ∧ w = w' := by
  have H := Lib.hid h
  clear h
  go_enter Tryd.func23, Tryd.ntmps23
  go_wp2_with (first | (go_at_call 46; refine (pair_noL p q _ H.out).mono ?_; rintro e w' ⟨rfl, rfl⟩))
  go_ret2
  exact ⟨rfl, rfl⟩
set_option maxRecDepth 100000 in
theorem and_noR (a : Nat) (q : Option Addr) (w : World) (ha : w.cell? ⟨a, 65, none⟩ = some (.bool true)) (h : NoMap w q) : Calls Tryd.prog 23 #[.pointer (some ⟨a, 0, none⟩), .pointer q] w fun e w' => e = .returned (.tuple #[.pointer none, .int .i64 1]) ∧ w = w' := by
  have H := Lib.hid h
  have HA := Lib.hid ha
  clear h ha
  go_enter Tryd.func23, Tryd.ntmps23
  go_wp2_with (first | (go_at_call 46; refine (pair_noR a q _ HA.out H.out).mono ?_; rintro e w' ⟨rfl, rfl⟩))
  go_ret2
  exact ⟨rfl, rfl⟩
set_option maxRecDepth 100000 in
theorem or_noL (p q : Option Addr) (w : World) (h : NoMap w p) : Calls Tryd.prog 24 #[.pointer p, .pointer q] w fun e w' => e = .returned (.tuple #[.pointer none, .int .i64 1]) ∧ w = w' := by
  have H := Lib.hid h
  clear h
  go_enter Tryd.func24, Tryd.ntmps24
  go_wp2_with (first | (go_at_call 46; refine (pair_noL p q _ H.out).mono ?_; rintro e w' ⟨rfl, rfl⟩))
  go_ret2
  exact ⟨rfl, rfl⟩
set_option maxRecDepth 100000 in
theorem or_noR (a : Nat) (q : Option Addr) (w : World) (ha : w.cell? ⟨a, 65, none⟩ = some (.bool true)) (h : NoMap w q) : Calls Tryd.prog 24 #[.pointer (some ⟨a, 0, none⟩), .pointer q] w fun e w' => e = .returned (.tuple #[.pointer none, .int .i64 1]) ∧ w = w' := by
  have H := Lib.hid h
  have HA := Lib.hid ha
  clear h ha
  go_enter Tryd.func24, Tryd.ntmps24
  go_wp2_with (first | (go_at_call 46; refine (pair_noR a q _ HA.out H.out).mono ?_; rintro e w' ⟨rfl, rfl⟩))
  go_ret2
  exact ⟨rfl, rfl⟩
set_option maxRecDepth 100000 in
theorem xor_noL (p q : Option Addr) (w : World) (h : NoMap w p) : Calls Tryd.prog 25 #[.pointer p, .pointer q] w fun e w' => e = .returned (.tuple #[.pointer none, .int .i64 1]) ∧ w = w' := by
  have H := Lib.hid h
  clear h
  go_enter Tryd.func25, Tryd.ntmps25
  go_wp2_with (first | (go_at_call 46; refine (pair_noL p q _ H.out).mono ?_; rintro e w' ⟨rfl, rfl⟩))
  go_ret2
  exact ⟨rfl, rfl⟩
set_option maxRecDepth 100000 in
theorem xor_noR (a : Nat) (q : Option Addr) (w : World) (ha : w.cell? ⟨a, 65, none⟩ = some (.bool true)) (h : NoMap w q) : Calls Tryd.prog 25 #[.pointer (some ⟨a, 0, none⟩), .pointer q] w fun e w' => e = .returned (.tuple #[.pointer none, .int .i64 1]) ∧ w = w' := by
  have H := Lib.hid h
  have HA := Lib.hid ha
  clear h ha
  go_enter Tryd.func25, Tryd.ntmps25
  go_wp2_with (first | (go_at_call 46; refine (pair_noR a q _ HA.out H.out).mono ?_; rintro e w' ⟨rfl, rfl⟩))
  go_ret2
  exact ⟨rfl, rfl⟩
end Go.Proofs.YtbnjeglbbadcbaaDoor
