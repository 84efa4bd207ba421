/- The closed facts of the row convertNone. -/
import Derived.Test.YtnjlcdofdcnecaaGreatDoorQ0
import Derived.Test.YtnjlcdofdcnecaaGreatDoorP2
namespace Go.Proofs.YtnjlcdofdcnecaaGreatDoor
open Go
set_option maxRecDepth 1000000
theorem convertNone_f1 : (Rows.convertNoneRow.wf (OpenSpec.ofChange Rows.convertNoneSpec)) = true := by kernel_rfl
theorem convertNone_f2 : (laidOutB Tryz.prog) = true := types_laid.1
theorem convertNone_f3 : (mapsRowed Tryz.prog) = true := types_laid.2.1
theorem convertNone_f4 : (Tryz.f4.params.all (Tryz.prog.readableRec ·)) = true := by kernel_rfl
theorem convertNone_f5 : (namedTie Tryz.prog Rows.convertNoneRow.named Rows.convertNoneSpec.vars) = true := by kernel_rfl
theorem convertNone_f6 : ((Rows.convertNoneRow.stops == [])) = true := by kernel_rfl
theorem convertNone_f7 : ((Tryz.prog.stops == [])) = true := by kernel_rfl
theorem convertNone_f8 : ((Rows.convertNoneRow.knobs == [])) = true := by kernel_rfl
theorem convertNone_f9 : ((Tryz.prog.stopKnobs == [])) = true := by kernel_rfl
theorem convertNone_f10 : ((Rows.convertNoneRow.inPlace == Tryz.prog.inPlace 4)) = true := by rw [inPlace4]; kernel_rfl
theorem convertNone_f11 : ((Rows.convertNoneRow.unfollowed == Tryz.prog.unfollowed 4)) = true := by rw [unfollowed4]; kernel_rfl
theorem convertNone_f12 : ((Rows.convertNoneRow.recurses == Tryz.prog.recurses 4)) = true := by rw [recurses4]; kernel_rfl
theorem convertNone_f13 : ((Rows.convertNoneRow.named == Tryz.prog.varsNamed 4)) = true := by rw [varsNamed4]; kernel_rfl
theorem convertNone_f14 : ((Rows.convertNoneRow.maps == (Tryz.f4.params.toList ++ Rows.convertNoneSpec.plain.varTypes Tryz.prog).any (Tryz.prog.mapsRec ·))) = true := by kernel_rfl
theorem convertNone_f15 : ((Rows.convertNoneRow.ifaces == (Tryz.f4.params.toList ++ Rows.convertNoneSpec.plain.varTypes Tryz.prog).any (Tryz.prog.ifacesRec ·))) = true := by kernel_rfl
theorem convertNone_f16 : ((Rows.convertNoneRow.mapsOut == Tryz.prog.mapsAmong Tryz.f4.resultTypes.toList)) = true := by kernel_rfl
theorem convertNone_f17 : ((Rows.convertNoneRow.loops == (Tryz.f4.params.toList ++ Rows.convertNoneSpec.plain.varTypes Tryz.prog).any (Tryz.prog.loopsFrom ·))) = true := by kernel_rfl
theorem convertNone_f18 : ((Rows.convertNoneRow.wideKeys == (Tryz.f4.params.toList ++ Rows.convertNoneSpec.plain.varTypes Tryz.prog ++ Tryz.f4.resultTypes.toList).any (Tryz.prog.wideKeysFrom ·))) = true := by kernel_rfl
theorem convertNone_f19 : (Rows.convertNoneSpec.vars.all (Tryz.prog.varReadable ·)) = true := by kernel_rfl
theorem convertNone_f20 : (Tryz.f4.resultTypes.all (fun t => Tryz.prog.readableRec t && decide (t < Tryz.prog.types.size))) = true := by kernel_rfl
theorem convertNone_f21 : ((Rows.convertNoneRow.ifacesOut == Tryz.f4.resultTypes.toList.any (Tryz.prog.ifacesRec ·))) = true := by kernel_rfl
theorem convertNone_f22 : ((Rows.convertNoneRow.loopsOut == Tryz.f4.resultTypes.toList.any (Tryz.prog.loopsFrom ·))) = true := by kernel_rfl
theorem convertNone_f23 : ((Rows.convertNoneRow.plainKeys == Tryz.prog.plainKeys)) = true := by rw [types_laid.2.2]; kernel_rfl
theorem convertNone_f24 : (Rows.convertNoneRow.shortTexts.isNone) = true := by kernel_rfl
theorem convertNone_f25 : (Tryz.prog.stopsHeard) = true := stops_heard
theorem convertNone_f26 : (Tryz.prog.mayEnter) = true := may_enter
theorem convertNone_f27 : ((Rows.convertNoneRow.lifted == Tryz.prog.liftsFinal)) = true := by kernel_rfl
theorem convertNone_f28 : ((Tryz.prog.make == some Rows.convertNoneRow.make)) = true := by kernel_rfl
theorem convertNone_f29 : ((Rows.convertNoneRow.kinds == (if Rows.convertNoneRow.domain.isEmpty then [] else Tryz.f4.params.toList.map fun t => match Tryz.prog.underlying t with | some (.int k) => some k | _ => none))) = true := by kernel_rfl
theorem convertNone_f30 : ((Rows.convertNoneRow.pinned == Rows.convertNoneRow.pinnedBy)) = true := by kernel_rfl
theorem convertNone_f31 : ((Rows.convertNoneRow.veiled == (Tryz.f4.params.toList ++ Rows.convertNoneSpec.plain.varTypes Tryz.prog ++ Tryz.f4.resultTypes.toList).any (Tryz.prog.veiledRec ·))) = true := by kernel_rfl
theorem convertNone_f32 : (Rows.convertNoneRow.veiledFits Tryz.prog Tryz.f4.params.toList (Tryz.f4.params.toList ++ Rows.convertNoneSpec.plain.varTypes Tryz.prog ++ Tryz.f4.resultTypes.toList)) = true := by kernel_rfl
theorem convertNone_closed : joinedFacts Tryz.prog 4 Tryz.f4 Rows.convertNoneSpec Rows.convertNoneRow = true := by
  unfold joinedFacts
  exact and2 (and2 (and2 (and2 (and2 (and2 (and2 (and2 (and2 (and2 (and2 (and2 (and2 (and2 (and2 (and2 (and2 (and2 (and2 (and2 (and2 (and2 (and2 (and2 (and2 (and2 (and2 (and2 (and2 (and2 (and2 convertNone_f1 convertNone_f2) convertNone_f3) convertNone_f4) convertNone_f5) convertNone_f6) convertNone_f7) convertNone_f8) convertNone_f9) convertNone_f10) convertNone_f11) convertNone_f12) convertNone_f13) convertNone_f14) convertNone_f15) convertNone_f16) convertNone_f17) convertNone_f18) convertNone_f19) convertNone_f20) convertNone_f21) convertNone_f22) convertNone_f23) convertNone_f24) convertNone_f25) convertNone_f26) convertNone_f27) convertNone_f28) convertNone_f29) convertNone_f30) convertNone_f31) convertNone_f32
end Go.Proofs.YtnjlcdofdcnecaaGreatDoor
