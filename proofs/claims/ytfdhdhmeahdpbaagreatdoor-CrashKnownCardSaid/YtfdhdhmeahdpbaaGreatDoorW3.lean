/- CrashKnown: the row and its tied card, proved: the call is run by the evaluator, in parts, the kernel looking on. -/
import Derived.Test.YtfdhdhmeahdpbaaGreatDoorCards
import Derived.Test.YtfdhdhmeahdpbaaGreatDoorM9
import Derived.Test.YtfdhdhmeahdpbaaGreatDoorQ2
import Derived.Test.YtfdhdhmeahdpbaaGreatDoorW1
import Derived.Test.YtfdhdhmeahdpbaaGreatDoorG1
import Derived.Test.YtfdhdhmeahdpbaaGreatDoorK25
import Derived.RowKit
import Derived.ChangeSame
import Derived.ChangeVars
namespace Go.Proofs.YtfdhdhmeahdpbaaGreatDoor
open Go Ev Go.ChangeShapes Go.WideShapes Go.ChangeAt Go.RowKit
set_option maxRecDepth 1000000
set_option linter.unusedVariables false
theorem crashKnown_noInit : Tryz.checked.prog.inits.idxOf? 4 = none := by kernel_rfl
theorem crashKnown_v1 (os : Os) : ((laidWorld os).forCall (fun _ _ => 0) ⟨#[], #[], []⟩).variablesRefB Tryz.checked.prog = true := by kernel_rfl
theorem crashKnown_v2 (os : Os) : (((laidWorld os).forCall (fun _ _ => 0) ⟨#[], #[], []⟩).heap.toList.drop Tryz.checked.prog.globals.size).take ((begin Tryz.checked.prog (fun _ _ => 0) default).world.heap.size - Tryz.checked.prog.globals.size) =
      (begin Tryz.checked.prog (fun _ _ => 0) default).world.heap.toList.drop Tryz.checked.prog.globals.size := by kernel_rfl
theorem crashKnown_v3 (os : Os) : Input.okWideB Tryz.checked.prog ((laidWorld os).forCall (fun _ _ => 0) ⟨#[], #[], []⟩) 4 ⟨#[], #[], []⟩ = true := by kernel_rfl
theorem crashKnown_v4 (os : Os) (H : Type) (enc : TypeId × Value → H) : Rows.crashKnownSpec.preB enc Tryz.checked.prog Tryz.f4 Rows.crashKnownRow.domain false (laidMem os #[]) #[] 8 = true := by kernel_rfl
theorem crashKnown_v5 (os : Os) (H : Type) (enc : TypeId × Value → H) : Rows.crashKnownSpec.sizedB enc Tryz.checked.prog Tryz.f4 false (laidMem os #[]) #[] 8 = true := by kernel_rfl
theorem crashKnown_ini : iniOk Tryz.prog (Rows.crashKnownRow.laid.filter fun x => x.2.handleName?.isNone) [12,13,0,11,1] e1000_4.pre = true := by kernel_rfl
theorem crashKnown_next : (Nat.ble Tryz.prog.globals.size e1000_4.next.num && Nat.ble Tryz.prog.globals.size 100000) = true := by kernel_rfl
theorem crashKnown_lifted (os : Os) (started : os.Started) (H : Type) (enc : TypeId × Value → H) :
    ReturnsInHanded {} Tryz.checked os 4 .any (fun w args => (Rows.crashKnownSpec.pre enc Tryz.prog Tryz.f4 Rows.crashKnownRow.domain false w args ∧ laidMetH Tryz.prog Rows.crashKnownRow.laid w) ∧ sizedMet enc Tryz.prog Tryz.f4 (OpenSpec.ofChange Rows.crashKnownSpec) false w args)
      (Rows.crashKnownSpec.post enc Tryz.prog Tryz.f4 false true false false) := by
  refine returns_laid (C := Tryz.checked) own started crashKnown_noInit Tryz.func4
    (witness_ref (enc := enc) (C := Tryz.checked) (os := os) (X := fun w _ => laidMetH Tryz.prog Rows.crashKnownRow.laid w) (laidWorld os) #[] 8 rfl (crashKnown_v1 os) (crashKnown_v2 os) (crashKnown_v3 os) (crashKnown_v4 os H enc) (crashKnown_v5 os H enc) (wit_met os _)) ?_
  intro W base args ds gs before hval0 hW hL hsh
  have hW' := hW
  obtain ⟨p, q, hA0, hV, rfl, _, _⟩ := hW
  have hA : DataW.TrodAll enc Tryz.prog W 0 (fun _ => true) true Tryz.f4.params.toList args.toList ds p := hA0
  rw [Tryz.params4] at hA
  obtain ⟨rfl, rfl, rfl⟩ := trodAll_none hA
  obtain ⟨rfl, rfl⟩ := trodVars_none hV
  simp only [List.append_nil] at hW'
  refine (known_row hL hsh (e := e1000_4) crashKnown_ini crashKnown_next rfl k1000_4 (fun _ => .nil)).mono fun e W' ⟨he, bel⟩ => ?_
  subst he
  refine ⟨_, rfl, _, _, _, [], [], [], hW', ?_, ?_, rfl, bel.frame _, fun h => by cases h⟩
  · exact trodAll_mk1 (shut_bool Tryz.underlying4 true)
  · exact trodAll_mk0
theorem crashKnown_named : Tryz.checked.prog.funcNamed Rows.crashKnownRow.func = some 4 := by kernel_rfl
theorem crashKnown_inst : Tryz.f4.isInstance Tryz.checked.prog Rows.crashKnownRow.origin Rows.crashKnownRow.targs := of_decide_eq_true (by kernel_rfl)
theorem crashKnown_wrap : Tryz.f4.isWrapper Tryz.checked.prog Rows.crashKnownRow.wrapper Rows.crashKnownRow.mainSum := by unfold Func.isWrapper; rw [if_neg (of_decide_eq_false (by kernel_rfl))]; exact ⟨rfl, rfl⟩
theorem crashKnown_holds : Rows.CrashKnownSaid :=
  OpenClaim.holds_of_wide 4 Tryz.f4 rfl rfl rfl rfl rfl rfl rfl ⟨rfl, rfl, rfl, rfl, rfl⟩ rfl rfl rfl rfl rfl crashKnown_named Tryz.func4 crashKnown_closed
    crashKnown_inst crashKnown_wrap (fun os started H enc _ => crashKnown_lifted os started H enc)
theorem crashKnown_wf : Rows.crashKnownRow.wfByText (OpenSpec.ofChange Rows.crashKnownSpec) = true := by kernel_rfl
theorem crashKnown_main : Tryz.pinned.checked.prog.mainIs = some (true, ("e34440cf611511505c60126a153435759ac5fd426ae54ea67cabedc4e51c5d87" : String).toList) := by kernel_rfl
theorem crashKnown_goes : false = Rows.crashKnownRow.goesBy Tryz.pinned.checked.prog := by
  unfold OpenClaim.goesBy Program.goesAt Program.goesFrom
  rw [show Tryz.pinned.checked.prog.funcNamed Rows.crashKnownRow.func = some 4 from crashKnown_named, Option.any_some, show Tryz.pinned.checked.prog.goes 4 = false from goes_none funcs_size goes_all 4]
  rfl
/-- **CrashKnown: the card.** -/
theorem crashKnown_card : Rows.CrashKnownCardSaid :=
  Claim7.holds_tied_plain_at .later [] [.data, .data, .listed, .pinned, .data, .data, .data, .data, .handle, .sentinel, .sentinel, .sentinel, .data, .data, .data] true (true, "e34440cf611511505c60126a153435759ac5fd426ae54ea67cabedc4e51c5d87") true
    crashKnown_holds (fun _ h => by cases h) crashKnown_wf (fun _ h => by cases h) crashKnown_row_tie rfl ⟨rfl, rfl⟩ crashKnown_main rfl
    (fun f fn hf hfn => by
      obtain rfl : f = 4 := Option.some.inj (crashKnown_named.symm.trans hf) |>.symm
      obtain rfl : fn = Tryz.f4 := (Option.some.inj (Tryz.func4.symm.trans hfn)).symm
      exact ⟨looks_all.symm, fun j t ht => by
        rw [Tryz.params4] at ht
        simp at ht⟩)
    crashKnown_goes
#print axioms crashKnown_card
end Go.Proofs.YtfdhdhmeahdpbaaGreatDoor
