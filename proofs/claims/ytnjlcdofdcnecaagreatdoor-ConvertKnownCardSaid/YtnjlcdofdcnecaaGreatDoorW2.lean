/- ConvertKnown: the row and its tied card, proved: the call is run by the evaluator, in parts, the kernel looking on. -/
import Derived.Test.YtnjlcdofdcnecaaGreatDoorCards
import Derived.Test.YtnjlcdofdcnecaaGreatDoorM9
import Derived.Test.YtnjlcdofdcnecaaGreatDoorQ1
import Derived.Test.YtnjlcdofdcnecaaGreatDoorW1
import Derived.Test.YtnjlcdofdcnecaaGreatDoorG1
import Derived.Test.YtnjlcdofdcnecaaGreatDoorK14
import Derived.RowKit
import Derived.ChangeSame
import Derived.ChangeVars
namespace Go.Proofs.YtnjlcdofdcnecaaGreatDoor
open Go Ev Go.ChangeShapes Go.WideShapes Go.ChangeAt Go.RowKit
set_option maxRecDepth 1000000
set_option linter.unusedVariables false
theorem convertKnown_noInit : Tryz.checked.prog.inits.idxOf? 3 = none := by kernel_rfl
theorem convertKnown_v1 (os : Os) : ((laidWorld os).forCall (fun _ _ => 0) ⟨#[], #[], []⟩).variablesRefB Tryz.checked.prog = true := by kernel_rfl
theorem convertKnown_v2 (os : Os) : (((laidWorld os).forCall (fun _ _ => 0) ⟨#[], #[], []⟩).heap.toList.drop Tryz.checked.prog.globals.size).take ((begin Tryz.checked.prog (fun _ _ => 0) default).world.heap.size - Tryz.checked.prog.globals.size) =
      (begin Tryz.checked.prog (fun _ _ => 0) default).world.heap.toList.drop Tryz.checked.prog.globals.size := by kernel_rfl
theorem convertKnown_v3 (os : Os) : Input.okWideB Tryz.checked.prog ((laidWorld os).forCall (fun _ _ => 0) ⟨#[], #[], []⟩) 3 ⟨#[], #[], []⟩ = true := by kernel_rfl
theorem convertKnown_v4 (os : Os) (H : Type) (enc : TypeId × Value → H) : Rows.convertKnownSpec.preB enc Tryz.checked.prog Tryz.f3 Rows.convertKnownRow.domain false (laidMem os #[]) #[] 8 = true := by kernel_rfl
theorem convertKnown_v5 (os : Os) (H : Type) (enc : TypeId × Value → H) : Rows.convertKnownSpec.sizedB enc Tryz.checked.prog Tryz.f3 false (laidMem os #[]) #[] 8 = true := by kernel_rfl
theorem convertKnown_ini : iniOk Tryz.prog (Rows.convertKnownRow.laid.filter fun x => x.2.handleName?.isNone) [0,11,1] e1000_3.pre = true := by kernel_rfl
theorem convertKnown_next : (Nat.ble Tryz.prog.globals.size e1000_3.next.num && Nat.ble Tryz.prog.globals.size 100000) = true := by kernel_rfl
theorem convertKnown_lifted (os : Os) (started : os.Started) (H : Type) (enc : TypeId × Value → H) :
    ReturnsInHanded {} Tryz.checked os 3 .any (fun w args => (Rows.convertKnownSpec.pre enc Tryz.prog Tryz.f3 Rows.convertKnownRow.domain false w args ∧ laidMetH Tryz.prog Rows.convertKnownRow.laid w) ∧ sizedMet enc Tryz.prog Tryz.f3 (OpenSpec.ofChange Rows.convertKnownSpec) false w args)
      (Rows.convertKnownSpec.post enc Tryz.prog Tryz.f3 false true false false) := by
  refine returns_laid (C := Tryz.checked) own started convertKnown_noInit Tryz.func3
    (witness_ref (enc := enc) (C := Tryz.checked) (os := os) (X := fun w _ => laidMetH Tryz.prog Rows.convertKnownRow.laid w) (laidWorld os) #[] 8 rfl (convertKnown_v1 os) (convertKnown_v2 os) (convertKnown_v3 os) (convertKnown_v4 os H enc) (convertKnown_v5 os H enc) (wit_met os _)) ?_
  intro W base args ds gs before hval0 hW hL hsh
  have hW' := hW
  obtain ⟨p, q, hA0, hV, rfl, _, _⟩ := hW
  have hA : DataW.TrodAll enc Tryz.prog W 0 (fun _ => true) true Tryz.f3.params.toList args.toList ds p := hA0
  rw [Tryz.params3] at hA
  obtain ⟨rfl, rfl, rfl⟩ := trodAll_none hA
  obtain ⟨rfl, rfl⟩ := trodVars_none hV
  simp only [List.append_nil] at hW'
  refine (known_row hL hsh (e := e1000_3) convertKnown_ini convertKnown_next rfl k1000_3 (fun _ => .nil)).mono fun e W' ⟨he, bel⟩ => ?_
  subst he
  refine ⟨_, rfl, _, _, _, [], [], [], hW', ?_, ?_, rfl, bel.frame _, fun h => by cases h⟩
  · exact trodAll_mk1 (shut_bool Tryz.underlying4 true)
  · exact trodAll_mk0
theorem convertKnown_named : Tryz.checked.prog.funcNamed Rows.convertKnownRow.func = some 3 := by kernel_rfl
theorem convertKnown_inst : Tryz.f3.isInstance Tryz.checked.prog Rows.convertKnownRow.origin Rows.convertKnownRow.targs := of_decide_eq_true (by kernel_rfl)
theorem convertKnown_wrap : Tryz.f3.isWrapper Tryz.checked.prog Rows.convertKnownRow.wrapper Rows.convertKnownRow.mainSum := by unfold Func.isWrapper; rw [if_neg (of_decide_eq_false (by kernel_rfl))]; exact ⟨rfl, rfl⟩
theorem convertKnown_holds : Rows.ConvertKnownSaid :=
  OpenClaim.holds_of_wide 3 Tryz.f3 rfl rfl rfl rfl rfl rfl rfl ⟨rfl, rfl, rfl, rfl, rfl⟩ rfl rfl rfl rfl rfl convertKnown_named Tryz.func3 convertKnown_closed
    convertKnown_inst convertKnown_wrap (fun os started H enc _ => convertKnown_lifted os started H enc)
theorem convertKnown_wf : Rows.convertKnownRow.wfByText (OpenSpec.ofChange Rows.convertKnownSpec) = true := by kernel_rfl
theorem convertKnown_main : Tryz.pinned.checked.prog.mainIs = some (true, ("fe345e8238179deb7ffca92c84ac73f5b4cb0fbb58c6ddddb949858ed3713a39" : String).toList) := by kernel_rfl
theorem convertKnown_goes : false = Rows.convertKnownRow.goesBy Tryz.pinned.checked.prog := by
  unfold OpenClaim.goesBy Program.goesAt Program.goesFrom
  rw [show Tryz.pinned.checked.prog.funcNamed Rows.convertKnownRow.func = some 3 from convertKnown_named, Option.any_some, show Tryz.pinned.checked.prog.goes 3 = false from goes_none funcs_size goes_all 3]
  rfl
/-- **ConvertKnown: the card.** -/
theorem convertKnown_card : Rows.ConvertKnownCardSaid :=
  Claim7.holds_tied_plain_at .later [] [.data, .data, .listed, .pinned, .data, .data, .data, .data, .handle, .sentinel, .sentinel, .sentinel, .data] true (true, "fe345e8238179deb7ffca92c84ac73f5b4cb0fbb58c6ddddb949858ed3713a39") true
    convertKnown_holds (fun _ h => by cases h) convertKnown_wf (fun _ h => by cases h) convertKnown_row_tie rfl ⟨rfl, rfl⟩ convertKnown_main rfl
    (fun f fn hf hfn => by
      obtain rfl : f = 3 := Option.some.inj (convertKnown_named.symm.trans hf) |>.symm
      obtain rfl : fn = Tryz.f3 := (Option.some.inj (Tryz.func3.symm.trans hfn)).symm
      exact ⟨looks_all.symm, fun j t ht => by
        rw [Tryz.params3] at ht
        simp at ht⟩)
    convertKnown_goes
#print axioms convertKnown_card
end Go.Proofs.YtnjlcdofdcnecaaGreatDoor
