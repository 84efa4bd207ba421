/- ViewNone: the row and its tied card, proved: with no transaction, one that is none or has ended, a dialect that is none, every call answers as the document says; whatever the dialect, the lowers and the question. -/
import Derived.Test.YtmkedlikgchpfaaGreatDoorCards
import Derived.Test.YtmkedlikgchpfaaGreatDoorM9
import Derived.Test.YtmkedlikgchpfaaGreatDoorQ1
import Derived.Test.YtmkedlikgchpfaaGreatDoorW1
import Derived.Test.YtmkedlikgchpfaaGreatDoorG1
import Derived.Test.YtmkedlikgchpfaaGreatDoorC6
import Derived.RowKit
import Derived.ChangeSame
import Derived.ChangeVars
namespace Go.Proofs.YtmkedlikgchpfaaGreatDoor
open Go Ev Go.ChangeShapes Go.WideShapes Go.ChangeAt Go.RowKit Go.Deep Go.Joins
set_option maxRecDepth 1000000
set_option linter.unusedVariables false
theorem viewNone_noInit : Tryz.checked.prog.inits.idxOf? 3 = none := by kernel_rfl
theorem viewNone_v1 (os : Os) : ((laidWorld os).forCall (fun _ _ => 0) ⟨#[], #[.int .i64 0, .slice none 0 0, .agg #[.slice none 0 0, .int .i64 0, .int .i64 0]], []⟩).variablesRefB Tryz.checked.prog = true := by kernel_rfl
theorem viewNone_v2 (os : Os) : (((laidWorld os).forCall (fun _ _ => 0) ⟨#[], #[.int .i64 0, .slice none 0 0, .agg #[.slice none 0 0, .int .i64 0, .int .i64 0]], []⟩).heap.toList.drop Tryz.checked.prog.globals.size).take ((begin Tryz.checked.prog (fun _ _ => 0) default).world.heap.size - Tryz.checked.prog.globals.size) =
      (begin Tryz.checked.prog (fun _ _ => 0) default).world.heap.toList.drop Tryz.checked.prog.globals.size := by kernel_rfl
theorem viewNone_v3 (os : Os) : Input.okWideB Tryz.checked.prog ((laidWorld os).forCall (fun _ _ => 0) ⟨#[], #[.int .i64 0, .slice none 0 0, .agg #[.slice none 0 0, .int .i64 0, .int .i64 0]], []⟩) 3 ⟨#[], #[.int .i64 0, .slice none 0 0, .agg #[.slice none 0 0, .int .i64 0, .int .i64 0]], []⟩ = true := by kernel_rfl
theorem viewNone_v4 (os : Os) (H : Type) (enc : TypeId × Value → H) : Rows.viewNoneSpec.preB enc Tryz.checked.prog Tryz.f3 Rows.viewNoneRow.domain false (laidMem os #[.int .i64 0, .slice none 0 0, .agg #[.slice none 0 0, .int .i64 0, .int .i64 0]]) #[.int .i64 0, .slice none 0 0, .agg #[.slice none 0 0, .int .i64 0, .int .i64 0]] 8 = true := by kernel_rfl
theorem viewNone_v5 (os : Os) (H : Type) (enc : TypeId × Value → H) : Rows.viewNoneSpec.sizedB enc Tryz.checked.prog Tryz.f3 false (laidMem os #[.int .i64 0, .slice none 0 0, .agg #[.slice none 0 0, .int .i64 0, .int .i64 0]]) #[.int .i64 0, .slice none 0 0, .agg #[.slice none 0 0, .int .i64 0, .int .i64 0]] 8 = true := by kernel_rfl
theorem globs_pos : 0 < Tryz.prog.globals.size := Nat.lt_of_succ_le (Nat.le_of_ble_eq_true (show Nat.ble 1 Tryz.prog.globals.size = true by kernel_rfl))
theorem viewNone_ini : iniOk Tryz.prog (Rows.viewNoneRow.laid.filter fun x => x.2.handleName?.isNone) [0,11,1] e1000_5.pre = true := by kernel_rfl
theorem viewNone_laid {W : World} (hL : laidMetH Tryz.prog Rows.viewNoneRow.laid W) : Laid0 W := ini_blk (laidMetH_iff.1 hL).1 (Nat.le_trans (Nat.le_of_ble_eq_true globs_small) (by decide)) viewNone_ini
theorem viewNone_lifted (os : Os) (started : os.Started) (H : Type) (enc : TypeId × Value → H) :
    ReturnsInHanded {} Tryz.checked os 3 .any (fun w args => (Rows.viewNoneSpec.pre enc Tryz.prog Tryz.f3 Rows.viewNoneRow.domain false w args ∧ laidMetH Tryz.prog Rows.viewNoneRow.laid w) ∧ sizedMet enc Tryz.prog Tryz.f3 (OpenSpec.ofChange Rows.viewNoneSpec) false w args)
      (Rows.viewNoneSpec.post enc Tryz.prog Tryz.f3 false true false false) := by
  refine returns_laid (C := Tryz.checked) own started viewNone_noInit Tryz.func3
    (witness_ref (enc := enc) (C := Tryz.checked) (os := os) (X := fun w _ => laidMetH Tryz.prog Rows.viewNoneRow.laid w) (laidWorld os) #[.int .i64 0, .slice none 0 0, .agg #[.slice none 0 0, .int .i64 0, .int .i64 0]] 8 rfl (viewNone_v1 os) (viewNone_v2 os) (viewNone_v3 os) (viewNone_v4 os H enc) (viewNone_v5 os H enc) (wit_met os _)) ?_
  intro W base args ds gs before hval0 hW hL hsh
  have hval : ∀ (j : Nat) t v, Tryz.f3.params[j]? = some t → args[j]? = some v → Value.okWide Tryz.prog W .any base t v := hval0
  have hW' := hW
  obtain ⟨p, q, hA0, hV, rfl, _, _⟩ := hW
  have hA : DataW.TrodAll enc Tryz.prog W 0 (fun _ => true) true Tryz.f3.params.toList args.toList ds p := hA0
  rw [Tryz.params3] at hA hval
  obtain ⟨v0, v1, v2, d0, d1, d2, p0, p1, p2, rfl, rfl, rfl, h0, h1, h2⟩ := trodAll_three hA
  obtain ⟨rfl, rfl⟩ := trodVars_none hV
  have k0 := hval 0 3 v0 rfl rfl
  have k1 := hval 1 22 v1 rfl rfl
  have k2 := hval 2 25 v2 rfl rfl
  obtain ⟨z, rfl⟩ := okWide_int Tryz.underlying3 k0
  obtain ⟨x1, l1, c1, rfl⟩ := okWide_slice Tryz.underlying22 k1
  obtain ⟨a1, r, d, o, m, rfl, hS, s1⟩ := open_ask k2 h2
  clear hA0 hval0
  simp only [List.append_nil, List.append_assoc] at hW'
  refine (viewNone_walk z l1 c1 r d x1 a1 o m W ⟨viewNone_laid hL, heap_size hsh, Nat.lt_of_lt_of_le globs_pos (heap_size hsh), slOk_arg k1, s1, open_lowers h1, hS⟩).mono fun e W' ⟨he, hF⟩ => ?_
  subst he
  have bel := hF.bel
  have hlt : ∀ x ∈ p0 ++ (p1 ++ p2), x.block < W.heap.size := fun x hx => by simpa using hW'.lt x (by simpa using hx)
  have t0 := Below.trod Tryz.laidOut (by kernel_rfl) (of_decide_eq_true (by kernel_rfl)) h0 bel (fun x hx => hlt x (List.mem_append_left _ hx))
  have t1 := Below.trod Tryz.laidOut (by kernel_rfl) (of_decide_eq_true (by kernel_rfl)) h1 bel (fun x hx => hlt x (List.mem_append_right _ (List.mem_append_left _ hx)))
  have t2 := Below.trod Tryz.laidOut (by kernel_rfl) (of_decide_eq_true (by kernel_rfl)) h2 bel (fun x hx => hlt x (List.mem_append_right _ (List.mem_append_right _ hx)))
  refine ⟨_, rfl, _, _, _, [], p0 ++ (p1 ++ p2), [], hW', ?_, ?_, rfl, bel.frame _, fun h => by cases h⟩
  · exact trodAll_mk1 (shut_bool Tryz.underlying4 true)
  · exact trodAll_mk3 t0 t1 t2
theorem viewNone_named : Tryz.checked.prog.funcNamed Rows.viewNoneRow.func = some 3 := by kernel_rfl
theorem viewNone_inst : Tryz.f3.isInstance Tryz.checked.prog Rows.viewNoneRow.origin Rows.viewNoneRow.targs := of_decide_eq_true (by kernel_rfl)
theorem viewNone_wrap : Tryz.f3.isWrapper Tryz.checked.prog Rows.viewNoneRow.wrapper Rows.viewNoneRow.mainSum := by unfold Func.isWrapper; rw [if_neg (of_decide_eq_false (by kernel_rfl))]; exact ⟨rfl, rfl⟩
theorem viewNone_holds : Rows.ViewNoneSaid :=
  OpenClaim.holds_of_wide 3 Tryz.f3 rfl rfl rfl rfl rfl rfl rfl ⟨rfl, rfl, rfl, rfl, rfl⟩ rfl rfl rfl rfl rfl viewNone_named Tryz.func3 viewNone_closed
    viewNone_inst viewNone_wrap (fun os started H enc _ => viewNone_lifted os started H enc)
theorem viewNone_wf : Rows.viewNoneRow.wfByText (OpenSpec.ofChange Rows.viewNoneSpec) = true := by kernel_rfl
theorem viewNone_main : Tryz.pinned.checked.prog.mainIs = some (true, ("5c563fed76d8e647f58b0beca0ead4dc2960a5b6a27f81a2b9e84bb944243efd" : String).toList) := by kernel_rfl
theorem viewNone_goes : false = Rows.viewNoneRow.goesBy Tryz.pinned.checked.prog := by
  unfold OpenClaim.goesBy Program.goesAt Program.goesFrom
  rw [show Tryz.pinned.checked.prog.funcNamed Rows.viewNoneRow.func = some 3 from viewNone_named, Option.any_some, show Tryz.pinned.checked.prog.goes 3 = false from goes_none funcs_size goes_all 3]
  rfl
/-- **ViewNone: the card.** -/
theorem viewNone_card : Rows.ViewNoneCardSaid :=
  Claim7.holds_tied_plain_at .later [] [.data, .data, .listed, .pinned, .data, .data, .data, .data, .handle, .sentinel, .sentinel, .sentinel, .data] true (true, "5c563fed76d8e647f58b0beca0ead4dc2960a5b6a27f81a2b9e84bb944243efd") true
    viewNone_holds (fun _ h => by cases h) viewNone_wf (fun _ h => by cases h) viewNone_row_tie rfl ⟨rfl, rfl⟩ viewNone_main rfl
    (fun f fn hf hfn => by
      obtain rfl : f = 3 := Option.some.inj (viewNone_named.symm.trans hf) |>.symm
      obtain rfl : fn = Tryz.f3 := (Option.some.inj (Tryz.func3.symm.trans hfn)).symm
      exact ⟨looks_all.symm, fun j t ht => by
        rw [Tryz.params3] at ht
        have h3 : t = 3 ∨ t = 22 ∨ t = 25 := by
          rcases j with _ | _ | _ | j
          · exact Or.inl (by simpa using ht.symm)
          · exact Or.inr (Or.inl (by simpa using ht.symm))
          · exact Or.inr (Or.inr (by simpa using ht.symm))
          · simp at ht
        rcases h3 with rfl | rfl | rfl
        · exact (show Tryz.prog.wantsStandIn 3 = false by kernel_rfl)
        · exact (show Tryz.prog.wantsStandIn 22 = false by kernel_rfl)
        · exact (show Tryz.prog.wantsStandIn 25 = false by kernel_rfl)⟩)
    viewNone_goes
#print axioms viewNone_card
end Go.Proofs.YtmkedlikgchpfaaGreatDoor
