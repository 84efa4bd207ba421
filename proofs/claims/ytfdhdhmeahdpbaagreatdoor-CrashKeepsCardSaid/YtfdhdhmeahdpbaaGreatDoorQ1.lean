/- The closed facts of the row crashKeeps. -/
import Derived.Test.YtfdhdhmeahdpbaaGreatDoorQ0
import Derived.Test.YtfdhdhmeahdpbaaGreatDoorP1
namespace Go.Proofs.YtfdhdhmeahdpbaaGreatDoor
open Go
set_option maxRecDepth 1000000
theorem crashKeeps_f1 : (Rows.crashKeepsRow.wf (OpenSpec.ofChange Rows.crashKeepsSpec)) = true := by kernel_rfl
theorem crashKeeps_f2 : (laidOutB Tryz.prog) = true := types_laid.1
theorem crashKeeps_f3 : (mapsRowed Tryz.prog) = true := types_laid.2.1
theorem crashKeeps_f4 : (Tryz.f3.params.all (Tryz.prog.readableRec ·)) = true := by kernel_rfl
theorem crashKeeps_f5 : (namedTie Tryz.prog Rows.crashKeepsRow.named Rows.crashKeepsSpec.vars) = true := by kernel_rfl
theorem crashKeeps_f6 : ((Rows.crashKeepsRow.stops == [])) = true := by kernel_rfl
theorem crashKeeps_f7 : ((Tryz.prog.stops == [])) = true := by kernel_rfl
theorem crashKeeps_f8 : ((Rows.crashKeepsRow.knobs == [])) = true := by kernel_rfl
theorem crashKeeps_f9 : ((Tryz.prog.stopKnobs == [])) = true := by kernel_rfl
theorem crashKeeps_f10 : ((Rows.crashKeepsRow.inPlace == Tryz.prog.inPlace 3)) = true := by rw [inPlace3]; kernel_rfl
theorem crashKeeps_f11 : ((Rows.crashKeepsRow.unfollowed == Tryz.prog.unfollowed 3)) = true := by rw [unfollowed3]; kernel_rfl
theorem crashKeeps_f12 : ((Rows.crashKeepsRow.recurses == Tryz.prog.recurses 3)) = true := by rw [recurses3]; kernel_rfl
theorem crashKeeps_f13 : ((Rows.crashKeepsRow.named == Tryz.prog.varsNamed 3)) = true := by rw [varsNamed3]; kernel_rfl
theorem crashKeeps_f14 : ((Rows.crashKeepsRow.maps == (Tryz.f3.params.toList ++ Rows.crashKeepsSpec.plain.varTypes Tryz.prog).any (Tryz.prog.mapsRec ·))) = true := by kernel_rfl
theorem crashKeeps_f15 : ((Rows.crashKeepsRow.ifaces == (Tryz.f3.params.toList ++ Rows.crashKeepsSpec.plain.varTypes Tryz.prog).any (Tryz.prog.ifacesRec ·))) = true := by kernel_rfl
theorem crashKeeps_f16 : ((Rows.crashKeepsRow.mapsOut == Tryz.prog.mapsAmong Tryz.f3.resultTypes.toList)) = true := by kernel_rfl
theorem crashKeeps_f17 : ((Rows.crashKeepsRow.loops == (Tryz.f3.params.toList ++ Rows.crashKeepsSpec.plain.varTypes Tryz.prog).any (Tryz.prog.loopsFrom ·))) = true := by kernel_rfl
theorem crashKeeps_f18 : ((Rows.crashKeepsRow.wideKeys == (Tryz.f3.params.toList ++ Rows.crashKeepsSpec.plain.varTypes Tryz.prog ++ Tryz.f3.resultTypes.toList).any (Tryz.prog.wideKeysFrom ·))) = true := by kernel_rfl
theorem crashKeeps_f19 : (Rows.crashKeepsSpec.vars.all (Tryz.prog.varReadable ·)) = true := by kernel_rfl
theorem crashKeeps_f20 : (Tryz.f3.resultTypes.all (fun t => Tryz.prog.readableRec t && decide (t < Tryz.prog.types.size))) = true := by kernel_rfl
theorem crashKeeps_f21 : ((Rows.crashKeepsRow.ifacesOut == Tryz.f3.resultTypes.toList.any (Tryz.prog.ifacesRec ·))) = true := by kernel_rfl
theorem crashKeeps_f22 : ((Rows.crashKeepsRow.loopsOut == Tryz.f3.resultTypes.toList.any (Tryz.prog.loopsFrom ·))) = true := by kernel_rfl
theorem crashKeeps_f23 : ((Rows.crashKeepsRow.plainKeys == Tryz.prog.plainKeys)) = true := by rw [types_laid.2.2]; kernel_rfl
theorem crashKeeps_f24 : (Rows.crashKeepsRow.shortTexts.isNone) = true := by kernel_rfl
theorem crashKeeps_f25 : (Tryz.prog.stopsHeard) = true := stops_heard
theorem crashKeeps_f26 : (Tryz.prog.mayEnter) = true := may_enter
theorem crashKeeps_f27 : ((Rows.crashKeepsRow.lifted == Tryz.prog.liftsFinal)) = true := by kernel_rfl
theorem crashKeeps_f28 : ((Tryz.prog.make == some Rows.crashKeepsRow.make)) = true := by kernel_rfl
theorem crashKeeps_f29 : ((Rows.crashKeepsRow.kinds == (if Rows.crashKeepsRow.domain.isEmpty then [] else Tryz.f3.params.toList.map fun t => match Tryz.prog.underlying t with | some (.int k) => some k | _ => none))) = true := by kernel_rfl
theorem crashKeeps_f30 : ((Rows.crashKeepsRow.pinned == Rows.crashKeepsRow.pinnedBy)) = true := by kernel_rfl
theorem crashKeeps_f31 : ((Rows.crashKeepsRow.veiled == (Tryz.f3.params.toList ++ Rows.crashKeepsSpec.plain.varTypes Tryz.prog ++ Tryz.f3.resultTypes.toList).any (Tryz.prog.veiledRec ·))) = true := by kernel_rfl
theorem crashKeeps_f32 : (Rows.crashKeepsRow.veiledFits Tryz.prog Tryz.f3.params.toList (Tryz.f3.params.toList ++ Rows.crashKeepsSpec.plain.varTypes Tryz.prog ++ Tryz.f3.resultTypes.toList)) = true := by kernel_rfl
theorem crashKeeps_closed : joinedFacts Tryz.prog 3 Tryz.f3 Rows.crashKeepsSpec Rows.crashKeepsRow = true := by
  unfold joinedFacts
  exact and2 (and2 (and2 (and2 (and2 (and2 (and2 (and2 (and2 (and2 (and2 (and2 (and2 (and2 (and2 (and2 (and2 (and2 (and2 (and2 (and2 (and2 (and2 (and2 (and2 (and2 (and2 (and2 (and2 (and2 (and2 crashKeeps_f1 crashKeeps_f2) crashKeeps_f3) crashKeeps_f4) crashKeeps_f5) crashKeeps_f6) crashKeeps_f7) crashKeeps_f8) crashKeeps_f9) crashKeeps_f10) crashKeeps_f11) crashKeeps_f12) crashKeeps_f13) crashKeeps_f14) crashKeeps_f15) crashKeeps_f16) crashKeeps_f17) crashKeeps_f18) crashKeeps_f19) crashKeeps_f20) crashKeeps_f21) crashKeeps_f22) crashKeeps_f23) crashKeeps_f24) crashKeeps_f25) crashKeeps_f26) crashKeeps_f27) crashKeeps_f28) crashKeeps_f29) crashKeeps_f30) crashKeeps_f31) crashKeeps_f32
end Go.Proofs.YtfdhdhmeahdpbaaGreatDoor
