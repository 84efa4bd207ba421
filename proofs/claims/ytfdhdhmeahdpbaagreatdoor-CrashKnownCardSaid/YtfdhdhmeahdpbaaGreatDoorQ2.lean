/- The closed facts of the row crashKnown. -/
import Derived.Test.YtfdhdhmeahdpbaaGreatDoorQ0
import Derived.Test.YtfdhdhmeahdpbaaGreatDoorP2
namespace Go.Proofs.YtfdhdhmeahdpbaaGreatDoor
open Go
set_option maxRecDepth 1000000
theorem crashKnown_f1 : (Rows.crashKnownRow.wf (OpenSpec.ofChange Rows.crashKnownSpec)) = true := by kernel_rfl
theorem crashKnown_f2 : (laidOutB Tryz.prog) = true := types_laid.1
theorem crashKnown_f3 : (mapsRowed Tryz.prog) = true := types_laid.2.1
theorem crashKnown_f4 : (Tryz.f4.params.all (Tryz.prog.readableRec ·)) = true := by kernel_rfl
theorem crashKnown_f5 : (namedTie Tryz.prog Rows.crashKnownRow.named Rows.crashKnownSpec.vars) = true := by kernel_rfl
theorem crashKnown_f6 : ((Rows.crashKnownRow.stops == [])) = true := by kernel_rfl
theorem crashKnown_f7 : ((Tryz.prog.stops == [])) = true := by kernel_rfl
theorem crashKnown_f8 : ((Rows.crashKnownRow.knobs == [])) = true := by kernel_rfl
theorem crashKnown_f9 : ((Tryz.prog.stopKnobs == [])) = true := by kernel_rfl
theorem crashKnown_f10 : ((Rows.crashKnownRow.inPlace == Tryz.prog.inPlace 4)) = true := by rw [inPlace4]; kernel_rfl
theorem crashKnown_f11 : ((Rows.crashKnownRow.unfollowed == Tryz.prog.unfollowed 4)) = true := by rw [unfollowed4]; kernel_rfl
theorem crashKnown_f12 : ((Rows.crashKnownRow.recurses == Tryz.prog.recurses 4)) = true := by rw [recurses4]; kernel_rfl
theorem crashKnown_f13 : ((Rows.crashKnownRow.named == Tryz.prog.varsNamed 4)) = true := by rw [varsNamed4]; kernel_rfl
theorem crashKnown_f14 : ((Rows.crashKnownRow.maps == (Tryz.f4.params.toList ++ Rows.crashKnownSpec.plain.varTypes Tryz.prog).any (Tryz.prog.mapsRec ·))) = true := by kernel_rfl
theorem crashKnown_f15 : ((Rows.crashKnownRow.ifaces == (Tryz.f4.params.toList ++ Rows.crashKnownSpec.plain.varTypes Tryz.prog).any (Tryz.prog.ifacesRec ·))) = true := by kernel_rfl
theorem crashKnown_f16 : ((Rows.crashKnownRow.mapsOut == Tryz.prog.mapsAmong Tryz.f4.resultTypes.toList)) = true := by kernel_rfl
theorem crashKnown_f17 : ((Rows.crashKnownRow.loops == (Tryz.f4.params.toList ++ Rows.crashKnownSpec.plain.varTypes Tryz.prog).any (Tryz.prog.loopsFrom ·))) = true := by kernel_rfl
theorem crashKnown_f18 : ((Rows.crashKnownRow.wideKeys == (Tryz.f4.params.toList ++ Rows.crashKnownSpec.plain.varTypes Tryz.prog ++ Tryz.f4.resultTypes.toList).any (Tryz.prog.wideKeysFrom ·))) = true := by kernel_rfl
theorem crashKnown_f19 : (Rows.crashKnownSpec.vars.all (Tryz.prog.varReadable ·)) = true := by kernel_rfl
theorem crashKnown_f20 : (Tryz.f4.resultTypes.all (fun t => Tryz.prog.readableRec t && decide (t < Tryz.prog.types.size))) = true := by kernel_rfl
theorem crashKnown_f21 : ((Rows.crashKnownRow.ifacesOut == Tryz.f4.resultTypes.toList.any (Tryz.prog.ifacesRec ·))) = true := by kernel_rfl
theorem crashKnown_f22 : ((Rows.crashKnownRow.loopsOut == Tryz.f4.resultTypes.toList.any (Tryz.prog.loopsFrom ·))) = true := by kernel_rfl
theorem crashKnown_f23 : ((Rows.crashKnownRow.plainKeys == Tryz.prog.plainKeys)) = true := by rw [types_laid.2.2]; kernel_rfl
theorem crashKnown_f24 : (Rows.crashKnownRow.shortTexts.isNone) = true := by kernel_rfl
theorem crashKnown_f25 : (Tryz.prog.stopsHeard) = true := stops_heard
theorem crashKnown_f26 : (Tryz.prog.mayEnter) = true := may_enter
theorem crashKnown_f27 : ((Rows.crashKnownRow.lifted == Tryz.prog.liftsFinal)) = true := by kernel_rfl
theorem crashKnown_f28 : ((Tryz.prog.make == some Rows.crashKnownRow.make)) = true := by kernel_rfl
theorem crashKnown_f29 : ((Rows.crashKnownRow.kinds == (if Rows.crashKnownRow.domain.isEmpty then [] else Tryz.f4.params.toList.map fun t => match Tryz.prog.underlying t with | some (.int k) => some k | _ => none))) = true := by kernel_rfl
theorem crashKnown_f30 : ((Rows.crashKnownRow.pinned == Rows.crashKnownRow.pinnedBy)) = true := by kernel_rfl
theorem crashKnown_f31 : ((Rows.crashKnownRow.veiled == (Tryz.f4.params.toList ++ Rows.crashKnownSpec.plain.varTypes Tryz.prog ++ Tryz.f4.resultTypes.toList).any (Tryz.prog.veiledRec ·))) = true := by kernel_rfl
theorem crashKnown_f32 : (Rows.crashKnownRow.veiledFits Tryz.prog Tryz.f4.params.toList (Tryz.f4.params.toList ++ Rows.crashKnownSpec.plain.varTypes Tryz.prog ++ Tryz.f4.resultTypes.toList)) = true := by kernel_rfl
theorem crashKnown_closed : joinedFacts Tryz.prog 4 Tryz.f4 Rows.crashKnownSpec Rows.crashKnownRow = true := by
  unfold joinedFacts
  exact and2 (and2 (and2 (and2 (and2 (and2 (and2 (and2 (and2 (and2 (and2 (and2 (and2 (and2 (and2 (and2 (and2 (and2 (and2 (and2 (and2 (and2 (and2 (and2 (and2 (and2 (and2 (and2 (and2 (and2 (and2 crashKnown_f1 crashKnown_f2) crashKnown_f3) crashKnown_f4) crashKnown_f5) crashKnown_f6) crashKnown_f7) crashKnown_f8) crashKnown_f9) crashKnown_f10) crashKnown_f11) crashKnown_f12) crashKnown_f13) crashKnown_f14) crashKnown_f15) crashKnown_f16) crashKnown_f17) crashKnown_f18) crashKnown_f19) crashKnown_f20) crashKnown_f21) crashKnown_f22) crashKnown_f23) crashKnown_f24) crashKnown_f25) crashKnown_f26) crashKnown_f27) crashKnown_f28) crashKnown_f29) crashKnown_f30) crashKnown_f31) crashKnown_f32
end Go.Proofs.YtfdhdhmeahdpbaaGreatDoor
