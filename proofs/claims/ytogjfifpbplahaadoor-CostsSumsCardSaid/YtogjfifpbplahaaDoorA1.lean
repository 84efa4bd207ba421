/- (*atomic.Int64).Add and Load, walked: one goroutine. -/
import Derived.Test.YtogjfifpbplahaaDoorU1
import Derived.Laws.LoneSync
namespace Go.Proofs.YtogjfifpbplahaaDoor
open Go.RowKit
set_option linter.unusedVariables false

theorem cAt : Tryd.prog.cellsOf 50 = 1 := by kernel_rfl
theorem cAts : Tryd.prog.cellsOf 51 = 8 := by kernel_rfl
theorem add_wrap (x y s : Int) (w : World) (h1 : -9223372036854775808 ≤ x + y) (h2 : x + y ≤ 9223372036854775807) (hs : s = x + y) : (Op.intArith .add .i64 x y).run Tryd.prog w = .ok (.int .i64 s) w := by
  subst hs
  simp [go_sem, Op.intArith, IntKind.wrap_i64]
  omega
theorem add_ext (b i : Nat) (x y s : Int) (w : World) (hc : w.cell? ⟨b, i, none⟩ = some (.int .i64 x)) (hf : w.frozen? ⟨b, i, none⟩ = false) (h1 : -9223372036854775808 ≤ x + y) (h2 : x + y ≤ 9223372036854775807) (hs : s = x + y) :
    (callFunc 33 #[.pointer (some ⟨b, i, none⟩), .int .i64 y]).run Tryd.prog w = .ok (.value (.int .i64 s)) (w.setCell ⟨b, i, none⟩ (.int .i64 s)) :=
  run_call_add Tryd.func33 (by kernel_rfl) (by kernel_rfl) (by kernel_rfl) .i64 rfl hc hf (add_wrap x y s w h1 h2 hs)
theorem load_ext (b i : Nat) (x : Int) (w : World) (hc : w.cell? ⟨b, i, none⟩ = some (.int .i64 x)) :
    (callFunc 34 #[.pointer (some ⟨b, i, none⟩)]).run Tryd.prog w = .ok (.value (.int .i64 x)) w :=
  run_call_load Tryd.func34 (by kernel_rfl) (by kernel_rfl) (by kernel_rfl) .i64 rfl hc
theorem add_walk (b i : Nat) (x y s : Int) (w : World) (hc : w.cell? ⟨b, i, none⟩ = some (.int .i64 x)) (hf : w.frozen? ⟨b, i, none⟩ = false) (h1 : -9223372036854775808 ≤ x + y) (h2 : x + y ≤ 9223372036854775807) (hs : s = x + y) :
    Calls Tryd.prog 22 #[.pointer (some ⟨b, i, none⟩), .int .i64 y] w fun e w' => e = .returned (.int .i64 s) ∧ w' = w.setCell ⟨b, i, none⟩ (.int .i64 s) := by
  have hd := add_ext b i x y s w hc hf h1 h2 hs
  clear h1 h2 hs
  go_enter Tryd.func22, Tryd.ntmps22
  go_wp2
  go_ret
  exact ⟨rfl, rfl⟩
theorem load_walk (b i : Nat) (x : Int) (w : World) (hc : w.cell? ⟨b, i, none⟩ = some (.int .i64 x)) :
    Calls Tryd.prog 23 #[.pointer (some ⟨b, i, none⟩)] w fun e w' => e = .returned (.int .i64 x) ∧ w = w' := by
  have hd := load_ext b i x w hc
  go_enter Tryd.func23, Tryd.ntmps23
  go_wp2
  go_ret
  exact ⟨rfl, rfl⟩
end Go.Proofs.YtogjfifpbplahaaDoor
