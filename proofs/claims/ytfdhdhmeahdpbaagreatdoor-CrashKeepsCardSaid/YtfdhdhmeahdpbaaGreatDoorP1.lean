/- What the functions that the law leads to name. -/
import Derived.Test.YtfdhdhmeahdpbaaGreatDoorP0
namespace Go.Proofs.YtfdhdhmeahdpbaaGreatDoor
open Go
set_option maxRecDepth 1000000
theorem ip3_0 : cl3_0.filterMap (fun g => (Tryz.prog.funcs[g]?).bind fun fn => if fn.ours || fn.body.isNone || fn.name == "runtime.NumGoroutine" then some fn.name else none) = [] := by kernel_rfl
theorem gv3_0 : cl3_0.flatMap (fun g => ((Tryz.prog.funcs[g]?).bind (·.body)).elim [] Code.globalsNamed) = [5, 5, 9, 9, 9, 9, 11, 14, 15] := by kernel_rfl
theorem er3_0 : cl3_0.filterMap (fun g => (Tryz.prog.funcs[g]?).bind fun fn => if fn.body.isNone then entryReads.lookup fn.name else none) = [] := by kernel_rfl
theorem ip3_1 : cl3_1.filterMap (fun g => (Tryz.prog.funcs[g]?).bind fun fn => if fn.ours || fn.body.isNone || fn.name == "runtime.NumGoroutine" then some fn.name else none) = ["internal/bytealg.CountString", "internal/bytealg.IndexByteString", "internal/bytealg.IndexString", "internal/abi.NoEscape", "internal/bytealg.MakeNoZero", "slices.overlaps[limewash/api.TrAttr]", "internal/reflectlite.ValueOf", "(internal/reflectlite.Value).Type", "(internal/reflectlite.Value).IsNil", "internal/reflectlite.TypeOf", "(internal/reflectlite.Value).Elem", "(internal/reflectlite.Value).Set"] := by kernel_rfl
theorem gv3_1 : cl3_1.flatMap (fun g => ((Tryz.prog.funcs[g]?).bind (·.body)).elim [] Code.globalsNamed) = [8, 8, 8, 10, 12, 13, 5, 5, 6, 0, 0, 0, 0, 3, 2, 0, 0, 3] := by kernel_rfl
theorem er3_1 : cl3_1.filterMap (fun g => (Tryz.prog.funcs[g]?).bind fun fn => if fn.body.isNone then entryReads.lookup fn.name else none) = ["internal/bytealg.MaxLen"] := by kernel_rfl
theorem ip3_2 : cl3_2.filterMap (fun g => (Tryz.prog.funcs[g]?).bind fun fn => if fn.ours || fn.body.isNone || fn.name == "runtime.NumGoroutine" then some fn.name else none) = ["slices.overlaps[limewash/api.TrNode]"] := by kernel_rfl
theorem gv3_2 : cl3_2.flatMap (fun g => ((Tryz.prog.funcs[g]?).bind (·.body)).elim [] Code.globalsNamed) = [2, 0, 0, 0, 0, 0, 0, 0] := by kernel_rfl
theorem er3_2 : cl3_2.filterMap (fun g => (Tryz.prog.funcs[g]?).bind fun fn => if fn.body.isNone then entryReads.lookup fn.name else none) = [] := by kernel_rfl
theorem ip3_3 : cl3_3.filterMap (fun g => (Tryz.prog.funcs[g]?).bind fun fn => if fn.ours || fn.body.isNone || fn.name == "runtime.NumGoroutine" then some fn.name else none) = [] := by kernel_rfl
theorem gv3_3 : cl3_3.flatMap (fun g => ((Tryz.prog.funcs[g]?).bind (·.body)).elim [] Code.globalsNamed) = [7, 7] := by kernel_rfl
theorem er3_3 : cl3_3.filterMap (fun g => (Tryz.prog.funcs[g]?).bind fun fn => if fn.body.isNone then entryReads.lookup fn.name else none) = [] := by kernel_rfl
theorem ip3_4 : cl3_4.filterMap (fun g => (Tryz.prog.funcs[g]?).bind fun fn => if fn.ours || fn.body.isNone || fn.name == "runtime.NumGoroutine" then some fn.name else none) = [] := by kernel_rfl
theorem gv3_4 : cl3_4.flatMap (fun g => ((Tryz.prog.funcs[g]?).bind (·.body)).elim [] Code.globalsNamed) = [] := by kernel_rfl
theorem er3_4 : cl3_4.filterMap (fun g => (Tryz.prog.funcs[g]?).bind fun fn => if fn.body.isNone then entryReads.lookup fn.name else none) = [] := by kernel_rfl
theorem ip3_5 : cl3_5.filterMap (fun g => (Tryz.prog.funcs[g]?).bind fun fn => if fn.ours || fn.body.isNone || fn.name == "runtime.NumGoroutine" then some fn.name else none) = ["slices.overlaps[limewash/api.DrEntry]"] := by kernel_rfl
theorem gv3_5 : cl3_5.flatMap (fun g => ((Tryz.prog.funcs[g]?).bind (·.body)).elim [] Code.globalsNamed) = [] := by kernel_rfl
theorem er3_5 : cl3_5.filterMap (fun g => (Tryz.prog.funcs[g]?).bind fun fn => if fn.body.isNone then entryReads.lookup fn.name else none) = [] := by kernel_rfl
theorem ip3_6 : cl3_6.filterMap (fun g => (Tryz.prog.funcs[g]?).bind fun fn => if fn.ours || fn.body.isNone || fn.name == "runtime.NumGoroutine" then some fn.name else none) = [] := by kernel_rfl
theorem gv3_6 : cl3_6.flatMap (fun g => ((Tryz.prog.funcs[g]?).bind (·.body)).elim [] Code.globalsNamed) = [] := by kernel_rfl
theorem er3_6 : cl3_6.filterMap (fun g => (Tryz.prog.funcs[g]?).bind fun fn => if fn.body.isNone then entryReads.lookup fn.name else none) = [] := by kernel_rfl
theorem ip3_7 : cl3_7.filterMap (fun g => (Tryz.prog.funcs[g]?).bind fun fn => if fn.ours || fn.body.isNone || fn.name == "runtime.NumGoroutine" then some fn.name else none) = [] := by kernel_rfl
theorem gv3_7 : cl3_7.flatMap (fun g => ((Tryz.prog.funcs[g]?).bind (·.body)).elim [] Code.globalsNamed) = [1, 4] := by kernel_rfl
theorem er3_7 : cl3_7.filterMap (fun g => (Tryz.prog.funcs[g]?).bind fun fn => if fn.body.isNone then entryReads.lookup fn.name else none) = [] := by kernel_rfl
theorem inPlace3 : Tryz.prog.inPlace 3 = [] ++ (["internal/bytealg.CountString", "internal/bytealg.IndexByteString", "internal/bytealg.IndexString", "internal/abi.NoEscape", "internal/bytealg.MakeNoZero", "slices.overlaps[limewash/api.TrAttr]", "internal/reflectlite.ValueOf", "(internal/reflectlite.Value).Type", "(internal/reflectlite.Value).IsNil", "internal/reflectlite.TypeOf", "(internal/reflectlite.Value).Elem", "(internal/reflectlite.Value).Set"] ++ (["slices.overlaps[limewash/api.TrNode]"] ++ ([] ++ ([] ++ (["slices.overlaps[limewash/api.DrEntry]"] ++ ([] ++ ([]))))))) := by
  unfold Program.inPlace
  rw [closure3]
  exact (filterMap_cat ip3_0 (filterMap_cat ip3_1 (filterMap_cat ip3_2 (filterMap_cat ip3_3 (filterMap_cat ip3_4 (filterMap_cat ip3_5 (filterMap_cat ip3_6 ip3_7)))))))
theorem vars3_1 : cl3.flatMap (fun g => ((Tryz.prog.funcs[g]?).bind (·.body)).elim [] Code.globalsNamed) = [5, 5, 9, 9, 9, 9, 11, 14, 15] ++ ([8, 8, 8, 10, 12, 13, 5, 5, 6, 0, 0, 0, 0, 3, 2, 0, 0, 3] ++ ([2, 0, 0, 0, 0, 0, 0, 0] ++ ([7, 7] ++ ([] ++ ([] ++ ([] ++ ([1, 4]))))))) := (flatMap_cat gv3_0 (flatMap_cat gv3_1 (flatMap_cat gv3_2 (flatMap_cat gv3_3 (flatMap_cat gv3_4 (flatMap_cat gv3_5 (flatMap_cat gv3_6 gv3_7)))))))
theorem vars3_2 : cl3.filterMap (fun g => (Tryz.prog.funcs[g]?).bind fun fn => if fn.body.isNone then entryReads.lookup fn.name else none) = [] ++ (["internal/bytealg.MaxLen"] ++ ([] ++ ([] ++ ([] ++ ([] ++ ([] ++ ([]))))))) := (filterMap_cat er3_0 (filterMap_cat er3_1 (filterMap_cat er3_2 (filterMap_cat er3_3 (filterMap_cat er3_4 (filterMap_cat er3_5 (filterMap_cat er3_6 er3_7)))))))
theorem varsNamed3 : Tryz.prog.varsNamed 3 = ((([5, 5, 9, 9, 9, 9, 11, 14, 15] ++ ([8, 8, 8, 10, 12, 13, 5, 5, 6, 0, 0, 0, 0, 3, 2, 0, 0, 3] ++ ([2, 0, 0, 0, 0, 0, 0, 0] ++ ([7, 7] ++ ([] ++ ([] ++ ([] ++ ([1, 4])))))))).eraseDups).filterMap (fun (g : Nat) => (Tryz.prog.globals[g]?).map fun (x : Global) => x.name) ++ ([] ++ (["internal/bytealg.MaxLen"] ++ ([] ++ ([] ++ ([] ++ ([] ++ ([] ++ ([]))))))))).eraseDups := by
  unfold Program.varsNamed
  rw [closure3, vars3_1, vars3_2]
theorem unfollowed3 : Tryz.prog.unfollowed 3 = true := by
  unfold Program.unfollowed
  rw [closure3]
  kernel_rfl
theorem recurses3 : Tryz.prog.recurses 3 = true := by
  unfold Program.recurses
  rw [unfollowed3, Bool.true_or]
end Go.Proofs.YtfdhdhmeahdpbaaGreatDoor
