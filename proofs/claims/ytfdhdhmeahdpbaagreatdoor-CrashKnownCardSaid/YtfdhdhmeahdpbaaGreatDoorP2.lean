/- What the functions that the law leads to name. -/
import Derived.Test.YtfdhdhmeahdpbaaGreatDoorP0
namespace Go.Proofs.YtfdhdhmeahdpbaaGreatDoor
open Go
set_option maxRecDepth 1000000
theorem ip4_0 : cl4_0.filterMap (fun g => (Tryz.prog.funcs[g]?).bind fun fn => if fn.ours || fn.body.isNone || fn.name == "runtime.NumGoroutine" then some fn.name else none) = ["internal/bytealg.CountString", "internal/bytealg.IndexByteString", "internal/bytealg.IndexString"] := by kernel_rfl
theorem gv4_0 : cl4_0.flatMap (fun g => ((Tryz.prog.funcs[g]?).bind (·.body)).elim [] Code.globalsNamed) = [5, 5, 9, 9, 9, 9, 11, 14, 15, 8, 8, 8] := by kernel_rfl
theorem er4_0 : cl4_0.filterMap (fun g => (Tryz.prog.funcs[g]?).bind fun fn => if fn.body.isNone then entryReads.lookup fn.name else none) = ["internal/bytealg.MaxLen"] := by kernel_rfl
theorem ip4_1 : cl4_1.filterMap (fun g => (Tryz.prog.funcs[g]?).bind fun fn => if fn.ours || fn.body.isNone || fn.name == "runtime.NumGoroutine" then some fn.name else none) = ["internal/abi.NoEscape", "internal/bytealg.MakeNoZero", "slices.overlaps[limewash/api.TrAttr]", "internal/reflectlite.ValueOf", "(internal/reflectlite.Value).Type", "(internal/reflectlite.Value).IsNil", "internal/reflectlite.TypeOf", "(internal/reflectlite.Value).Elem", "(internal/reflectlite.Value).Set"] := by kernel_rfl
theorem gv4_1 : cl4_1.flatMap (fun g => ((Tryz.prog.funcs[g]?).bind (·.body)).elim [] Code.globalsNamed) = [10, 12, 13, 5, 5, 6, 0, 0, 0, 0, 3, 2, 0, 0, 3, 2, 0, 0, 0, 0, 0, 0, 0] := by kernel_rfl
theorem er4_1 : cl4_1.filterMap (fun g => (Tryz.prog.funcs[g]?).bind fun fn => if fn.body.isNone then entryReads.lookup fn.name else none) = [] := by kernel_rfl
theorem ip4_2 : cl4_2.filterMap (fun g => (Tryz.prog.funcs[g]?).bind fun fn => if fn.ours || fn.body.isNone || fn.name == "runtime.NumGoroutine" then some fn.name else none) = ["slices.overlaps[limewash/api.TrNode]"] := by kernel_rfl
theorem gv4_2 : cl4_2.flatMap (fun g => ((Tryz.prog.funcs[g]?).bind (·.body)).elim [] Code.globalsNamed) = [] := by kernel_rfl
theorem er4_2 : cl4_2.filterMap (fun g => (Tryz.prog.funcs[g]?).bind fun fn => if fn.body.isNone then entryReads.lookup fn.name else none) = [] := by kernel_rfl
theorem ip4_3 : cl4_3.filterMap (fun g => (Tryz.prog.funcs[g]?).bind fun fn => if fn.ours || fn.body.isNone || fn.name == "runtime.NumGoroutine" then some fn.name else none) = [] := by kernel_rfl
theorem gv4_3 : cl4_3.flatMap (fun g => ((Tryz.prog.funcs[g]?).bind (·.body)).elim [] Code.globalsNamed) = [7, 7] := by kernel_rfl
theorem er4_3 : cl4_3.filterMap (fun g => (Tryz.prog.funcs[g]?).bind fun fn => if fn.body.isNone then entryReads.lookup fn.name else none) = [] := by kernel_rfl
theorem ip4_4 : cl4_4.filterMap (fun g => (Tryz.prog.funcs[g]?).bind fun fn => if fn.ours || fn.body.isNone || fn.name == "runtime.NumGoroutine" then some fn.name else none) = ["slices.overlaps[limewash/api.DrEntry]"] := by kernel_rfl
theorem gv4_4 : cl4_4.flatMap (fun g => ((Tryz.prog.funcs[g]?).bind (·.body)).elim [] Code.globalsNamed) = [] := by kernel_rfl
theorem er4_4 : cl4_4.filterMap (fun g => (Tryz.prog.funcs[g]?).bind fun fn => if fn.body.isNone then entryReads.lookup fn.name else none) = [] := by kernel_rfl
theorem ip4_5 : cl4_5.filterMap (fun g => (Tryz.prog.funcs[g]?).bind fun fn => if fn.ours || fn.body.isNone || fn.name == "runtime.NumGoroutine" then some fn.name else none) = [] := by kernel_rfl
theorem gv4_5 : cl4_5.flatMap (fun g => ((Tryz.prog.funcs[g]?).bind (·.body)).elim [] Code.globalsNamed) = [] := by kernel_rfl
theorem er4_5 : cl4_5.filterMap (fun g => (Tryz.prog.funcs[g]?).bind fun fn => if fn.body.isNone then entryReads.lookup fn.name else none) = [] := by kernel_rfl
theorem ip4_6 : cl4_6.filterMap (fun g => (Tryz.prog.funcs[g]?).bind fun fn => if fn.ours || fn.body.isNone || fn.name == "runtime.NumGoroutine" then some fn.name else none) = [] := by kernel_rfl
theorem gv4_6 : cl4_6.flatMap (fun g => ((Tryz.prog.funcs[g]?).bind (·.body)).elim [] Code.globalsNamed) = [1, 4] := by kernel_rfl
theorem er4_6 : cl4_6.filterMap (fun g => (Tryz.prog.funcs[g]?).bind fun fn => if fn.body.isNone then entryReads.lookup fn.name else none) = [] := by kernel_rfl
theorem ip4_7 : cl4_7.filterMap (fun g => (Tryz.prog.funcs[g]?).bind fun fn => if fn.ours || fn.body.isNone || fn.name == "runtime.NumGoroutine" then some fn.name else none) = [] := by kernel_rfl
theorem gv4_7 : cl4_7.flatMap (fun g => ((Tryz.prog.funcs[g]?).bind (·.body)).elim [] Code.globalsNamed) = [] := by kernel_rfl
theorem er4_7 : cl4_7.filterMap (fun g => (Tryz.prog.funcs[g]?).bind fun fn => if fn.body.isNone then entryReads.lookup fn.name else none) = [] := by kernel_rfl
theorem inPlace4 : Tryz.prog.inPlace 4 = ["internal/bytealg.CountString", "internal/bytealg.IndexByteString", "internal/bytealg.IndexString"] ++ (["internal/abi.NoEscape", "internal/bytealg.MakeNoZero", "slices.overlaps[limewash/api.TrAttr]", "internal/reflectlite.ValueOf", "(internal/reflectlite.Value).Type", "(internal/reflectlite.Value).IsNil", "internal/reflectlite.TypeOf", "(internal/reflectlite.Value).Elem", "(internal/reflectlite.Value).Set"] ++ (["slices.overlaps[limewash/api.TrNode]"] ++ ([] ++ (["slices.overlaps[limewash/api.DrEntry]"] ++ ([] ++ ([] ++ ([]))))))) := by
  unfold Program.inPlace
  rw [closure4]
  exact (filterMap_cat ip4_0 (filterMap_cat ip4_1 (filterMap_cat ip4_2 (filterMap_cat ip4_3 (filterMap_cat ip4_4 (filterMap_cat ip4_5 (filterMap_cat ip4_6 ip4_7)))))))
theorem vars4_1 : cl4.flatMap (fun g => ((Tryz.prog.funcs[g]?).bind (·.body)).elim [] Code.globalsNamed) = [5, 5, 9, 9, 9, 9, 11, 14, 15, 8, 8, 8] ++ ([10, 12, 13, 5, 5, 6, 0, 0, 0, 0, 3, 2, 0, 0, 3, 2, 0, 0, 0, 0, 0, 0, 0] ++ ([] ++ ([7, 7] ++ ([] ++ ([] ++ ([1, 4] ++ ([]))))))) := (flatMap_cat gv4_0 (flatMap_cat gv4_1 (flatMap_cat gv4_2 (flatMap_cat gv4_3 (flatMap_cat gv4_4 (flatMap_cat gv4_5 (flatMap_cat gv4_6 gv4_7)))))))
theorem vars4_2 : cl4.filterMap (fun g => (Tryz.prog.funcs[g]?).bind fun fn => if fn.body.isNone then entryReads.lookup fn.name else none) = ["internal/bytealg.MaxLen"] ++ ([] ++ ([] ++ ([] ++ ([] ++ ([] ++ ([] ++ ([]))))))) := (filterMap_cat er4_0 (filterMap_cat er4_1 (filterMap_cat er4_2 (filterMap_cat er4_3 (filterMap_cat er4_4 (filterMap_cat er4_5 (filterMap_cat er4_6 er4_7)))))))
theorem varsNamed4 : Tryz.prog.varsNamed 4 = ((([5, 5, 9, 9, 9, 9, 11, 14, 15, 8, 8, 8] ++ ([10, 12, 13, 5, 5, 6, 0, 0, 0, 0, 3, 2, 0, 0, 3, 2, 0, 0, 0, 0, 0, 0, 0] ++ ([] ++ ([7, 7] ++ ([] ++ ([] ++ ([1, 4] ++ ([])))))))).eraseDups).filterMap (fun (g : Nat) => (Tryz.prog.globals[g]?).map fun (x : Global) => x.name) ++ (["internal/bytealg.MaxLen"] ++ ([] ++ ([] ++ ([] ++ ([] ++ ([] ++ ([] ++ ([]))))))))).eraseDups := by
  unfold Program.varsNamed
  rw [closure4, vars4_1, vars4_2]
theorem unfollowed4 : Tryz.prog.unfollowed 4 = true := by
  unfold Program.unfollowed
  rw [closure4]
  kernel_rfl
theorem recurses4 : Tryz.prog.recurses 4 = true := by
  unfold Program.recurses
  rw [unfollowed4, Bool.true_or]
end Go.Proofs.YtfdhdhmeahdpbaaGreatDoor
