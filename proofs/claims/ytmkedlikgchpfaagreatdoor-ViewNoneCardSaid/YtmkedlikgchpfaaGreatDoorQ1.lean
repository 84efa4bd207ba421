/- The closed facts of the row viewNone. -/
import Derived.Test.YtmkedlikgchpfaaGreatDoorQ0
import Derived.Test.YtmkedlikgchpfaaGreatDoorP1
namespace Go.Proofs.YtmkedlikgchpfaaGreatDoor
open Go
set_option maxRecDepth 1000000
theorem viewNone_f1 : (Rows.viewNoneRow.wf (OpenSpec.ofChange Rows.viewNoneSpec)) = true := by kernel_rfl
theorem viewNone_f2 : (laidOutB Tryz.prog) = true := types_laid.1
theorem viewNone_f3 : (mapsRowed Tryz.prog) = true := types_laid.2.1
theorem viewNone_f4 : (Tryz.f3.params.all (Tryz.prog.readableRec ·)) = true := by kernel_rfl
theorem viewNone_f5 : (namedTie Tryz.prog Rows.viewNoneRow.named Rows.viewNoneSpec.vars) = true := by kernel_rfl
theorem viewNone_f6 : ((Rows.viewNoneRow.stops == [])) = true := by kernel_rfl
theorem viewNone_f7 : ((Tryz.prog.stops == [])) = true := by kernel_rfl
theorem viewNone_f8 : ((Rows.viewNoneRow.knobs == [])) = true := by kernel_rfl
theorem viewNone_f9 : ((Tryz.prog.stopKnobs == [])) = true := by kernel_rfl
theorem viewNone_f10 : ((Rows.viewNoneRow.inPlace == Tryz.prog.inPlace 3)) = true := by rw [inPlace3]; kernel_rfl
theorem viewNone_f11 : ((Rows.viewNoneRow.unfollowed == Tryz.prog.unfollowed 3)) = true := by rw [unfollowed3]; kernel_rfl
theorem viewNone_f12 : ((Rows.viewNoneRow.recurses == Tryz.prog.recurses 3)) = true := by rw [recurses3]; kernel_rfl
theorem viewNone_f13 : ((Rows.viewNoneRow.named == Tryz.prog.varsNamed 3)) = true := by rw [varsNamed3]; kernel_rfl
theorem viewNone_f14 : ((Rows.viewNoneRow.maps == (Tryz.f3.params.toList ++ Rows.viewNoneSpec.plain.varTypes Tryz.prog).any (Tryz.prog.mapsRec ·))) = true := by kernel_rfl
theorem viewNone_f15 : ((Rows.viewNoneRow.ifaces == (Tryz.f3.params.toList ++ Rows.viewNoneSpec.plain.varTypes Tryz.prog).any (Tryz.prog.ifacesRec ·))) = true := by kernel_rfl
theorem viewNone_f16 : ((Rows.viewNoneRow.mapsOut == Tryz.prog.mapsAmong Tryz.f3.resultTypes.toList)) = true := by kernel_rfl
theorem viewNone_f17 : ((Rows.viewNoneRow.loops == (Tryz.f3.params.toList ++ Rows.viewNoneSpec.plain.varTypes Tryz.prog).any (Tryz.prog.loopsFrom ·))) = true := by kernel_rfl
theorem viewNone_f18 : ((Rows.viewNoneRow.wideKeys == (Tryz.f3.params.toList ++ Rows.viewNoneSpec.plain.varTypes Tryz.prog ++ Tryz.f3.resultTypes.toList).any (Tryz.prog.wideKeysFrom ·))) = true := by kernel_rfl
theorem viewNone_f19 : (Rows.viewNoneSpec.vars.all (Tryz.prog.varReadable ·)) = true := by kernel_rfl
theorem viewNone_f20 : (Tryz.f3.resultTypes.all (fun t => Tryz.prog.readableRec t && decide (t < Tryz.prog.types.size))) = true := by kernel_rfl
theorem viewNone_f21 : ((Rows.viewNoneRow.ifacesOut == Tryz.f3.resultTypes.toList.any (Tryz.prog.ifacesRec ·))) = true := by kernel_rfl
theorem viewNone_f22 : ((Rows.viewNoneRow.loopsOut == Tryz.f3.resultTypes.toList.any (Tryz.prog.loopsFrom ·))) = true := by kernel_rfl
theorem viewNone_f23 : ((Rows.viewNoneRow.plainKeys == Tryz.prog.plainKeys)) = true := by rw [types_laid.2.2]; kernel_rfl
theorem viewNone_f24 : (Rows.viewNoneRow.shortTexts.isNone) = true := by kernel_rfl
theorem viewNone_f25 : (Tryz.prog.stopsHeard) = true := stops_heard
theorem viewNone_f26 : (Tryz.prog.mayEnter) = true := may_enter
theorem viewNone_f27 : ((Rows.viewNoneRow.lifted == Tryz.prog.liftsFinal)) = true := by kernel_rfl
theorem viewNone_f28 : ((Tryz.prog.make == some Rows.viewNoneRow.make)) = true := by kernel_rfl
theorem viewNone_f29 : ((Rows.viewNoneRow.kinds == (if Rows.viewNoneRow.domain.isEmpty then [] else Tryz.f3.params.toList.map fun t => match Tryz.prog.underlying t with | some (.int k) => some k | _ => none))) = true := by kernel_rfl
theorem viewNone_f30 : ((Rows.viewNoneRow.pinned == Rows.viewNoneRow.pinnedBy)) = true := by kernel_rfl
theorem viewNone_f31 : ((Rows.viewNoneRow.veiled == (Tryz.f3.params.toList ++ Rows.viewNoneSpec.plain.varTypes Tryz.prog ++ Tryz.f3.resultTypes.toList).any (Tryz.prog.veiledRec ·))) = true := by kernel_rfl
theorem viewNone_f32 : (Rows.viewNoneRow.veiledFits Tryz.prog Tryz.f3.params.toList (Tryz.f3.params.toList ++ Rows.viewNoneSpec.plain.varTypes Tryz.prog ++ Tryz.f3.resultTypes.toList)) = true := by kernel_rfl
theorem viewNone_closed : joinedFacts Tryz.prog 3 Tryz.f3 Rows.viewNoneSpec Rows.viewNoneRow = true := by
  unfold joinedFacts
  exact and2 (and2 (and2 (and2 (and2 (and2 (and2 (and2 (and2 (and2 (and2 (and2 (and2 (and2 (and2 (and2 (and2 (and2 (and2 (and2 (and2 (and2 (and2 (and2 (and2 (and2 (and2 (and2 (and2 (and2 (and2 viewNone_f1 viewNone_f2) viewNone_f3) viewNone_f4) viewNone_f5) viewNone_f6) viewNone_f7) viewNone_f8) viewNone_f9) viewNone_f10) viewNone_f11) viewNone_f12) viewNone_f13) viewNone_f14) viewNone_f15) viewNone_f16) viewNone_f17) viewNone_f18) viewNone_f19) viewNone_f20) viewNone_f21) viewNone_f22) viewNone_f23) viewNone_f24) viewNone_f25) viewNone_f26) viewNone_f27) viewNone_f28) viewNone_f29) viewNone_f30) viewNone_f31) viewNone_f32
end Go.Proofs.YtmkedlikgchpfaaGreatDoor
