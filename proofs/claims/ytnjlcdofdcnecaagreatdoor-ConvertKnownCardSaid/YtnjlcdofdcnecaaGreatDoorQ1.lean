/- The closed facts of the row convertKnown. -/
import Derived.Test.YtnjlcdofdcnecaaGreatDoorQ0
import Derived.Test.YtnjlcdofdcnecaaGreatDoorP1
namespace Go.Proofs.YtnjlcdofdcnecaaGreatDoor
open Go
set_option maxRecDepth 1000000
theorem convertKnown_f1 : (Rows.convertKnownRow.wf (OpenSpec.ofChange Rows.convertKnownSpec)) = true := by kernel_rfl
theorem convertKnown_f2 : (laidOutB Tryz.prog) = true := types_laid.1
theorem convertKnown_f3 : (mapsRowed Tryz.prog) = true := types_laid.2.1
theorem convertKnown_f4 : (Tryz.f3.params.all (Tryz.prog.readableRec ·)) = true := by kernel_rfl
theorem convertKnown_f5 : (namedTie Tryz.prog Rows.convertKnownRow.named Rows.convertKnownSpec.vars) = true := by kernel_rfl
theorem convertKnown_f6 : ((Rows.convertKnownRow.stops == [])) = true := by kernel_rfl
theorem convertKnown_f7 : ((Tryz.prog.stops == [])) = true := by kernel_rfl
theorem convertKnown_f8 : ((Rows.convertKnownRow.knobs == [])) = true := by kernel_rfl
theorem convertKnown_f9 : ((Tryz.prog.stopKnobs == [])) = true := by kernel_rfl
theorem convertKnown_f10 : ((Rows.convertKnownRow.inPlace == Tryz.prog.inPlace 3)) = true := by rw [inPlace3]; kernel_rfl
theorem convertKnown_f11 : ((Rows.convertKnownRow.unfollowed == Tryz.prog.unfollowed 3)) = true := by rw [unfollowed3]; kernel_rfl
theorem convertKnown_f12 : ((Rows.convertKnownRow.recurses == Tryz.prog.recurses 3)) = true := by rw [recurses3]; kernel_rfl
theorem convertKnown_f13 : ((Rows.convertKnownRow.named == Tryz.prog.varsNamed 3)) = true := by rw [varsNamed3]; kernel_rfl
theorem convertKnown_f14 : ((Rows.convertKnownRow.maps == (Tryz.f3.params.toList ++ Rows.convertKnownSpec.plain.varTypes Tryz.prog).any (Tryz.prog.mapsRec ·))) = true := by kernel_rfl
theorem convertKnown_f15 : ((Rows.convertKnownRow.ifaces == (Tryz.f3.params.toList ++ Rows.convertKnownSpec.plain.varTypes Tryz.prog).any (Tryz.prog.ifacesRec ·))) = true := by kernel_rfl
theorem convertKnown_f16 : ((Rows.convertKnownRow.mapsOut == Tryz.prog.mapsAmong Tryz.f3.resultTypes.toList)) = true := by kernel_rfl
theorem convertKnown_f17 : ((Rows.convertKnownRow.loops == (Tryz.f3.params.toList ++ Rows.convertKnownSpec.plain.varTypes Tryz.prog).any (Tryz.prog.loopsFrom ·))) = true := by kernel_rfl
theorem convertKnown_f18 : ((Rows.convertKnownRow.wideKeys == (Tryz.f3.params.toList ++ Rows.convertKnownSpec.plain.varTypes Tryz.prog ++ Tryz.f3.resultTypes.toList).any (Tryz.prog.wideKeysFrom ·))) = true := by kernel_rfl
theorem convertKnown_f19 : (Rows.convertKnownSpec.vars.all (Tryz.prog.varReadable ·)) = true := by kernel_rfl
theorem convertKnown_f20 : (Tryz.f3.resultTypes.all (fun t => Tryz.prog.readableRec t && decide (t < Tryz.prog.types.size))) = true := by kernel_rfl
theorem convertKnown_f21 : ((Rows.convertKnownRow.ifacesOut == Tryz.f3.resultTypes.toList.any (Tryz.prog.ifacesRec ·))) = true := by kernel_rfl
theorem convertKnown_f22 : ((Rows.convertKnownRow.loopsOut == Tryz.f3.resultTypes.toList.any (Tryz.prog.loopsFrom ·))) = true := by kernel_rfl
theorem convertKnown_f23 : ((Rows.convertKnownRow.plainKeys == Tryz.prog.plainKeys)) = true := by rw [types_laid.2.2]; kernel_rfl
theorem convertKnown_f24 : (Rows.convertKnownRow.shortTexts.isNone) = true := by kernel_rfl
theorem convertKnown_f25 : (Tryz.prog.stopsHeard) = true := stops_heard
theorem convertKnown_f26 : (Tryz.prog.mayEnter) = true := may_enter
theorem convertKnown_f27 : ((Rows.convertKnownRow.lifted == Tryz.prog.liftsFinal)) = true := by kernel_rfl
theorem convertKnown_f28 : ((Tryz.prog.make == some Rows.convertKnownRow.make)) = true := by kernel_rfl
theorem convertKnown_f29 : ((Rows.convertKnownRow.kinds == (if Rows.convertKnownRow.domain.isEmpty then [] else Tryz.f3.params.toList.map fun t => match Tryz.prog.underlying t with | some (.int k) => some k | _ => none))) = true := by kernel_rfl
theorem convertKnown_f30 : ((Rows.convertKnownRow.pinned == Rows.convertKnownRow.pinnedBy)) = true := by kernel_rfl
theorem convertKnown_f31 : ((Rows.convertKnownRow.veiled == (Tryz.f3.params.toList ++ Rows.convertKnownSpec.plain.varTypes Tryz.prog ++ Tryz.f3.resultTypes.toList).any (Tryz.prog.veiledRec ·))) = true := by kernel_rfl
theorem convertKnown_f32 : (Rows.convertKnownRow.veiledFits Tryz.prog Tryz.f3.params.toList (Tryz.f3.params.toList ++ Rows.convertKnownSpec.plain.varTypes Tryz.prog ++ Tryz.f3.resultTypes.toList)) = true := by kernel_rfl
theorem convertKnown_closed : joinedFacts Tryz.prog 3 Tryz.f3 Rows.convertKnownSpec Rows.convertKnownRow = true := by
  unfold joinedFacts
  exact and2 (and2 (and2 (and2 (and2 (and2 (and2 (and2 (and2 (and2 (and2 (and2 (and2 (and2 (and2 (and2 (and2 (and2 (and2 (and2 (and2 (and2 (and2 (and2 (and2 (and2 (and2 (and2 (and2 (and2 (and2 convertKnown_f1 convertKnown_f2) convertKnown_f3) convertKnown_f4) convertKnown_f5) convertKnown_f6) convertKnown_f7) convertKnown_f8) convertKnown_f9) convertKnown_f10) convertKnown_f11) convertKnown_f12) convertKnown_f13) convertKnown_f14) convertKnown_f15) convertKnown_f16) convertKnown_f17) convertKnown_f18) convertKnown_f19) convertKnown_f20) convertKnown_f21) convertKnown_f22) convertKnown_f23) convertKnown_f24) convertKnown_f25) convertKnown_f26) convertKnown_f27) convertKnown_f28) convertKnown_f29) convertKnown_f30) convertKnown_f31) convertKnown_f32
end Go.Proofs.YtnjlcdofdcnecaaGreatDoor
