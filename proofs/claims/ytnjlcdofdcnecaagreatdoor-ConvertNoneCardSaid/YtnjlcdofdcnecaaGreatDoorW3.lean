/- ConvertNone: the row and its tied card, proved: the call is run by the evaluator, in parts, the kernel looking on. -/
import Derived.Test.YtnjlcdofdcnecaaGreatDoorCards
import Derived.Test.YtnjlcdofdcnecaaGreatDoorM9
import Derived.Test.YtnjlcdofdcnecaaGreatDoorQ2
import Derived.Test.YtnjlcdofdcnecaaGreatDoorW1
import Derived.Test.YtnjlcdofdcnecaaGreatDoorG1
import Derived.Test.YtnjlcdofdcnecaaGreatDoorKN
import Derived.RowKit
import Derived.ChangeSame
import Derived.ChangeVars
namespace Go.Proofs.YtnjlcdofdcnecaaGreatDoor
open Go Ev Go.ChangeShapes Go.WideShapes Go.ChangeAt Go.RowKit
set_option maxRecDepth 1000000
set_option linter.unusedVariables false
theorem convertNone_noInit : Tryz.checked.prog.inits.idxOf? 4 = none := by kernel_rfl
theorem convertNone_v1 (os : Os) : ((laidWorld os).forCall (fun _ _ => 0) ⟨#[], #[.int .i64 0], []⟩).variablesRefB Tryz.checked.prog = true := by kernel_rfl
theorem convertNone_v2 (os : Os) : (((laidWorld os).forCall (fun _ _ => 0) ⟨#[], #[.int .i64 0], []⟩).heap.toList.drop Tryz.checked.prog.globals.size).take ((begin Tryz.checked.prog (fun _ _ => 0) default).world.heap.size - Tryz.checked.prog.globals.size) =
      (begin Tryz.checked.prog (fun _ _ => 0) default).world.heap.toList.drop Tryz.checked.prog.globals.size := by kernel_rfl
theorem convertNone_v3 (os : Os) : Input.okWideB Tryz.checked.prog ((laidWorld os).forCall (fun _ _ => 0) ⟨#[], #[.int .i64 0], []⟩) 4 ⟨#[], #[.int .i64 0], []⟩ = true := by kernel_rfl
theorem convertNone_v4 (os : Os) (H : Type) (enc : TypeId × Value → H) : Rows.convertNoneSpec.preB enc Tryz.checked.prog Tryz.f4 Rows.convertNoneRow.domain false (laidMem os #[.int .i64 0]) #[.int .i64 0] 8 = true := by kernel_rfl
theorem convertNone_v5 (os : Os) (H : Type) (enc : TypeId × Value → H) : Rows.convertNoneSpec.sizedB enc Tryz.checked.prog Tryz.f4 false (laidMem os #[.int .i64 0]) #[.int .i64 0] 8 = true := by kernel_rfl
theorem convertNone_ini (c : Cell) : iniOk Tryz.prog (Rows.convertNoneRow.laid.filter fun x => x.2.handleName?.isNone) [0,11,1] (eN c).pre = true := by kernel_rfl
theorem convertNone_next (c : Cell) : (Nat.ble Tryz.prog.globals.size (eN c).next.num && Nat.ble Tryz.prog.globals.size 100000) = true := by kernel_rfl
theorem convertNone_lifted (os : Os) (started : os.Started) (H : Type) (enc : TypeId × Value → H) :
    ReturnsInHanded {} Tryz.checked os 4 .any (fun w args => (Rows.convertNoneSpec.pre enc Tryz.prog Tryz.f4 Rows.convertNoneRow.domain false w args ∧ laidMetH Tryz.prog Rows.convertNoneRow.laid w) ∧ sizedMet enc Tryz.prog Tryz.f4 (OpenSpec.ofChange Rows.convertNoneSpec) false w args)
      (Rows.convertNoneSpec.post enc Tryz.prog Tryz.f4 false true false false) := by
  refine returns_laid (C := Tryz.checked) own started convertNone_noInit Tryz.func4
    (witness_ref (enc := enc) (C := Tryz.checked) (os := os) (X := fun w _ => laidMetH Tryz.prog Rows.convertNoneRow.laid w) (laidWorld os) #[.int .i64 0] 8 rfl (convertNone_v1 os) (convertNone_v2 os) (convertNone_v3 os) (convertNone_v4 os H enc) (convertNone_v5 os H enc) (wit_met os _)) ?_
  intro W base args ds gs before hval0 hW hL hsh
  have hW' := hW
  obtain ⟨p, q, hA0, hV, rfl, _, _⟩ := hW
  have hA : DataW.TrodAll enc Tryz.prog W 0 (fun _ => true) true Tryz.f4.params.toList args.toList ds p := hA0
  have hval : ∀ (j : Nat) t v, Tryz.f4.params[j]? = some t → args[j]? = some v → Value.okWide Tryz.prog W .any base t v := hval0
  rw [Tryz.params4] at hA hval
  obtain ⟨v0, d0, rfl, rfl, h0⟩ := trodAll_one hA
  obtain ⟨rfl, rfl⟩ := trodVars_none hV
  obtain ⟨a0, rfl, rfl, rfl, wa0⟩ := open_int Tryz.underlying3 (hval 0 3 v0 rfl rfl) h0
  simp only [List.append_nil] at hW'
  have fin : Calls Tryz.prog 4 #[.int .i64 a0] W fun x W' => x = .returned (.bool true) ∧ Below W.heap.size W W' := by
    cases a0 with
    | ofNat n => exact known_row hL hsh (e := eN (.i n)) (convertNone_ini _) (convertNone_next _) rfl (kNp n) (fun _ => .cons rfl .nil)
    | negSucc n => exact known_row hL hsh (e := eN (.neg .i64 n)) (convertNone_ini _) (convertNone_next _) rfl (kNm n) (fun _ => .cons rfl .nil)
  refine fin.mono fun e W' ⟨he, bel⟩ => ?_
  subst he
  refine ⟨_, rfl, _, _, _, [], [], [], hW', ?_, ?_, rfl, bel.frame _, fun h => by cases h⟩
  · exact trodAll_mk1 (shut_bool Tryz.underlying4 true)
  · exact trodAll_mk1 (shut_int Tryz.underlying3 wa0)
theorem convertNone_named : Tryz.checked.prog.funcNamed Rows.convertNoneRow.func = some 4 := by kernel_rfl
theorem convertNone_inst : Tryz.f4.isInstance Tryz.checked.prog Rows.convertNoneRow.origin Rows.convertNoneRow.targs := of_decide_eq_true (by kernel_rfl)
theorem convertNone_wrap : Tryz.f4.isWrapper Tryz.checked.prog Rows.convertNoneRow.wrapper Rows.convertNoneRow.mainSum := by unfold Func.isWrapper; rw [if_neg (of_decide_eq_false (by kernel_rfl))]; exact ⟨rfl, rfl⟩
theorem convertNone_holds : Rows.ConvertNoneSaid :=
  OpenClaim.holds_of_wide 4 Tryz.f4 rfl rfl rfl rfl rfl rfl rfl ⟨rfl, rfl, rfl, rfl, rfl⟩ rfl rfl rfl rfl rfl convertNone_named Tryz.func4 convertNone_closed
    convertNone_inst convertNone_wrap (fun os started H enc _ => convertNone_lifted os started H enc)
theorem convertNone_wf : Rows.convertNoneRow.wfByText (OpenSpec.ofChange Rows.convertNoneSpec) = true := by kernel_rfl
theorem convertNone_main : Tryz.pinned.checked.prog.mainIs = some (true, ("fe345e8238179deb7ffca92c84ac73f5b4cb0fbb58c6ddddb949858ed3713a39" : String).toList) := by kernel_rfl
theorem convertNone_goes : false = Rows.convertNoneRow.goesBy Tryz.pinned.checked.prog := by
  unfold OpenClaim.goesBy Program.goesAt Program.goesFrom
  rw [show Tryz.pinned.checked.prog.funcNamed Rows.convertNoneRow.func = some 4 from convertNone_named, Option.any_some, show Tryz.pinned.checked.prog.goes 4 = false from goes_none funcs_size goes_all 4]
  rfl
/-- **ConvertNone: the card.** -/
theorem convertNone_card : Rows.ConvertNoneCardSaid :=
  Claim7.holds_tied_plain_at .later [] [.data, .data, .listed, .pinned, .data, .data, .data, .data, .handle, .sentinel, .sentinel, .sentinel, .data] true (true, "fe345e8238179deb7ffca92c84ac73f5b4cb0fbb58c6ddddb949858ed3713a39") true
    convertNone_holds (fun _ h => by cases h) convertNone_wf (fun _ h => by cases h) convertNone_row_tie rfl ⟨rfl, rfl⟩ convertNone_main rfl
    (fun f fn hf hfn => by
      obtain rfl : f = 4 := Option.some.inj (convertNone_named.symm.trans hf) |>.symm
      obtain rfl : fn = Tryz.f4 := (Option.some.inj (Tryz.func4.symm.trans hfn)).symm
      exact ⟨looks_all.symm, fun j t ht => by
        rw [Tryz.params4] at ht
        have h3 : t = 3 := by
          rcases j with _ | j
          · simpa using ht.symm
          · simp at ht
        subst h3
        exact (show Tryz.prog.wantsStandIn 3 = false by kernel_rfl)⟩)
    convertNone_goes
#print axioms convertNone_card
end Go.Proofs.YtnjlcdofdcnecaaGreatDoor
