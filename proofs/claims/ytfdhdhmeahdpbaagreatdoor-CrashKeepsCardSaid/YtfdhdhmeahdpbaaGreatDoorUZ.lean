/- CrashKeeps: the row and its tied card, proved: whatever the numbers, Keeps returns different sets of numbers below n, ascending, no more than are wanted, and all of them if these are not above that. -/
import Derived.Test.YtfdhdhmeahdpbaaGreatDoorCards
import Derived.Test.YtfdhdhmeahdpbaaGreatDoorM9
import Derived.Test.YtfdhdhmeahdpbaaGreatDoorQ1
import Derived.Test.YtfdhdhmeahdpbaaGreatDoorW1
import Derived.Test.YtfdhdhmeahdpbaaGreatDoorG1
import Derived.Test.YtfdhdhmeahdpbaaGreatDoorUC
import Derived.RowKit
import Derived.ChangeSame
import Derived.ChangeVars
namespace Go.Proofs.YtfdhdhmeahdpbaaGreatDoor
open Go Ev Go.ChangeShapes Go.WideShapes Go.ChangeAt Go.RowKit
set_option maxRecDepth 1000000
set_option linter.unusedVariables false
theorem crashKeeps_noInit : Tryz.checked.prog.inits.idxOf? 3 = none := by kernel_rfl
theorem crashKeeps_v1 (os : Os) : ((laidWorld os).forCall (fun _ _ => 0) ⟨#[], #[.int .u16 0, .int .u8 0], []⟩).variablesRefB Tryz.checked.prog = true := by kernel_rfl
theorem crashKeeps_v2 (os : Os) : (((laidWorld os).forCall (fun _ _ => 0) ⟨#[], #[.int .u16 0, .int .u8 0], []⟩).heap.toList.drop Tryz.checked.prog.globals.size).take ((begin Tryz.checked.prog (fun _ _ => 0) default).world.heap.size - Tryz.checked.prog.globals.size) =
      (begin Tryz.checked.prog (fun _ _ => 0) default).world.heap.toList.drop Tryz.checked.prog.globals.size := by kernel_rfl
theorem crashKeeps_v3 (os : Os) : Input.okWideB Tryz.checked.prog ((laidWorld os).forCall (fun _ _ => 0) ⟨#[], #[.int .u16 0, .int .u8 0], []⟩) 3 ⟨#[], #[.int .u16 0, .int .u8 0], []⟩ = true := by kernel_rfl
theorem crashKeeps_v4 (os : Os) (H : Type) (enc : TypeId × Value → H) : Rows.crashKeepsSpec.preB enc Tryz.checked.prog Tryz.f3 Rows.crashKeepsRow.domain false (laidMem os #[.int .u16 0, .int .u8 0]) #[.int .u16 0, .int .u8 0] 8 = true := by kernel_rfl
theorem crashKeeps_v5 (os : Os) (H : Type) (enc : TypeId × Value → H) : Rows.crashKeepsSpec.sizedB enc Tryz.checked.prog Tryz.f3 false (laidMem os #[.int .u16 0, .int .u8 0]) #[.int .u16 0, .int .u8 0] 8 = true := by kernel_rfl
theorem crashKeeps_ini : iniOk Tryz.prog (Rows.crashKeepsRow.laid.filter fun x => x.2.handleName?.isNone) [12,13,0,11,1] e57190_7.pre = true := by kernel_rfl
theorem crashKeeps_laid {W : World} (hL : laidMetH Tryz.prog Rows.crashKeepsRow.laid W) : Laid0 W := ini_blk (laidMetH_iff.1 hL).1 (Nat.le_trans (Nat.le_of_ble_eq_true globs_small) (by decide)) crashKeeps_ini
theorem crashKeeps_lifted (os : Os) (started : os.Started) (H : Type) (enc : TypeId × Value → H) :
    ReturnsInHanded {} Tryz.checked os 3 .any (fun w args => (Rows.crashKeepsSpec.pre enc Tryz.prog Tryz.f3 Rows.crashKeepsRow.domain false w args ∧ laidMetH Tryz.prog Rows.crashKeepsRow.laid w) ∧ sizedMet enc Tryz.prog Tryz.f3 (OpenSpec.ofChange Rows.crashKeepsSpec) false w args)
      (Rows.crashKeepsSpec.post enc Tryz.prog Tryz.f3 false true false false) := by
  refine returns_laid (C := Tryz.checked) own started crashKeeps_noInit Tryz.func3
    (witness_ref (enc := enc) (C := Tryz.checked) (os := os) (X := fun w _ => laidMetH Tryz.prog Rows.crashKeepsRow.laid w) (laidWorld os) #[.int .u16 0, .int .u8 0] 8 rfl (crashKeeps_v1 os) (crashKeeps_v2 os) (crashKeeps_v3 os) (crashKeeps_v4 os H enc) (crashKeeps_v5 os H enc) (wit_met os _)) ?_
  intro W base args ds gs before hval0 hW hL hsh
  have hval : ∀ (j : Nat) t v, Tryz.f3.params[j]? = some t → args[j]? = some v → Value.okWide Tryz.prog W .any base t v := hval0
  have hW' := hW
  obtain ⟨p, q, hA0, hV, rfl, _, _⟩ := hW
  have hA : DataW.TrodAll enc Tryz.prog W 0 (fun _ => true) true Tryz.f3.params.toList args.toList ds p := hA0
  rw [Tryz.params3] at hA hval
  obtain ⟨v0, v1, d0, d1, p0, p1, rfl, rfl, rfl, h0, h1⟩ := trodAll_two hA
  obtain ⟨rfl, rfl⟩ := trodVars_none hV
  obtain ⟨a0, rfl, rfl, rfl, wa0⟩ := open_int Tryz.underlying22 (hval 0 22 v0 rfl rfl) h0
  obtain ⟨a1, rfl, rfl, rfl, wa1⟩ := open_int Tryz.underlying5 (hval 1 5 v1 rfl rfl) h1
  clear hA0 hval0
  simp only [List.append_nil] at hW'
  obtain ⟨n0, rfl, hn0⟩ : ∃ n : Nat, a0 = n ∧ n < 65536 := by
    have e1 : IntKind.u16.min = 0 := rfl
    have e2 : IntKind.u16.max = 65535 := rfl
    have h := wa0
    simp only [Lit.wf, Bool.and_eq_true, decide_eq_true_eq] at h
    exact ⟨a0.toNat, by omega, by omega⟩
  obtain ⟨n1, rfl, hn1⟩ : ∃ n : Nat, a1 = n ∧ n < 256 := by
    have e1 : IntKind.u8.min = 0 := rfl
    have e2 : IntKind.u8.max = 255 := rfl
    have h := wa1
    simp only [Lit.wf, Bool.and_eq_true, decide_eq_true_eq] at h
    exact ⟨a1.toNat, by omega, by omega⟩
  refine (law_walk n0 n1 W hn0 hn1 (fun W' f => awake_call (crashKeeps_laid hL) (heap_size hsh) f)).mono fun e W' ⟨he, hF⟩ => ?_
  subst he
  have bel := hF.bel
  refine ⟨_, rfl, _, _, _, [], [], [], hW', ?_, ?_, rfl, bel.frame _, fun h => by cases h⟩
  · exact trodAll_mk1 (shut_bool Tryz.underlying4 true)
  · exact trodAll_mk2 (shut_int Tryz.underlying22 wa0) (shut_int Tryz.underlying5 wa1)
theorem crashKeeps_named : Tryz.checked.prog.funcNamed Rows.crashKeepsRow.func = some 3 := by kernel_rfl
theorem crashKeeps_inst : Tryz.f3.isInstance Tryz.checked.prog Rows.crashKeepsRow.origin Rows.crashKeepsRow.targs := of_decide_eq_true (by kernel_rfl)
theorem crashKeeps_wrap : Tryz.f3.isWrapper Tryz.checked.prog Rows.crashKeepsRow.wrapper Rows.crashKeepsRow.mainSum := by unfold Func.isWrapper; rw [if_neg (of_decide_eq_false (by kernel_rfl))]; exact ⟨rfl, rfl⟩
theorem crashKeeps_holds : Rows.CrashKeepsSaid :=
  OpenClaim.holds_of_wide 3 Tryz.f3 rfl rfl rfl rfl rfl rfl rfl ⟨rfl, rfl, rfl, rfl, rfl⟩ rfl rfl rfl rfl rfl crashKeeps_named Tryz.func3 crashKeeps_closed
    crashKeeps_inst crashKeeps_wrap (fun os started H enc _ => crashKeeps_lifted os started H enc)
theorem crashKeeps_wf : Rows.crashKeepsRow.wfByText (OpenSpec.ofChange Rows.crashKeepsSpec) = true := by kernel_rfl
theorem crashKeeps_main : Tryz.pinned.checked.prog.mainIs = some (true, ("e34440cf611511505c60126a153435759ac5fd426ae54ea67cabedc4e51c5d87" : String).toList) := by kernel_rfl
theorem crashKeeps_goes : false = Rows.crashKeepsRow.goesBy Tryz.pinned.checked.prog := by
  unfold OpenClaim.goesBy Program.goesAt Program.goesFrom
  rw [show Tryz.pinned.checked.prog.funcNamed Rows.crashKeepsRow.func = some 3 from crashKeeps_named, Option.any_some, show Tryz.pinned.checked.prog.goes 3 = false from goes_none funcs_size goes_all 3]
  rfl
/-- **CrashKeeps: the card.** -/
theorem crashKeeps_card : Rows.CrashKeepsCardSaid :=
  Claim7.holds_tied_plain_at .later [] [.data, .data, .listed, .pinned, .data, .data, .data, .data, .handle, .sentinel, .sentinel, .sentinel, .data, .data, .data] true (true, "e34440cf611511505c60126a153435759ac5fd426ae54ea67cabedc4e51c5d87") true
    crashKeeps_holds (fun _ h => by cases h) crashKeeps_wf (fun _ h => by cases h) crashKeeps_row_tie rfl ⟨rfl, rfl⟩ crashKeeps_main rfl
    (fun f fn hf hfn => by
      obtain rfl : f = 3 := Option.some.inj (crashKeeps_named.symm.trans hf) |>.symm
      obtain rfl : fn = Tryz.f3 := (Option.some.inj (Tryz.func3.symm.trans hfn)).symm
      exact ⟨looks_all.symm, fun j t ht => by
        rw [Tryz.params3] at ht
        have h3 : t = 22 ∨ t = 5 := by
          rcases j with _ | _ | j
          · exact Or.inl (by simpa using ht.symm)
          · exact Or.inr (by simpa using ht.symm)
          · simp at ht
        rcases h3 with rfl | rfl
        · exact (show Tryz.prog.wantsStandIn 22 = false by kernel_rfl)
        · exact (show Tryz.prog.wantsStandIn 5 = false by kernel_rfl)⟩)
    crashKeeps_goes
#print axioms crashKeeps_card
end Go.Proofs.YtfdhdhmeahdpbaaGreatDoor
