/-
  NARROWER THAN 'FOR EVERY INPUT', by the rows' own cells (each row's printed sentence says how): BitsFirst: laid · BitsLoads: laid · BitsLogic: laid · BitsSearch: laid · BitsMorgan: laid · BitsKnown: laid · BitsPlays: laid · BitsNone: laid.
  DERIVED. THE GIVEN ROWS OF THIS SEAT. 8 by the template 'for every input the law returns true; each argument reads behind the call as it read before'; 0 by the template 'total and deterministic' (their statements: YtbnjeglbbadcbaaDoorTotals.lean).
  GIVEN WITH THE SEED: the statements are not yours to turn. If you find one false, say at which input.
  Laid BY PROGRAM, IN A SANDBOX (cutbox-rows.mjs): the forced cells as the released guide's own fill.sh prints them over the translation 73fedde2c5e97c48… (all of the seat's roots in one cut). By AI agents, Wed Nov 11 2026. No macro, syntax, notation, axiom, sorry.
-/
import Derived.Test.YtbnjeglbbadcbaaDoorChecked
import GoSem.Claim
import GoSem.ClaimJoined
import GoSem.ClaimMapViews
import Derived.JoinedTies
import Derived.KernelRfl
namespace Go.Proofs.YtbnjeglbbadcbaaDoor
/- THE CELL 'sum', in the pinned program and in every row, IS THE sha256 OF THE DUMP (.gsa) THAT YtbnjeglbbadcbaaDoorProg.lean LOADS. Nothing in Lean hashes anything: it is a label: what it is worth is what the hold of that sum in a sandbox is worth. -/
noncomputable def Tryd.pinned : Pinned := { name := "ytbnjeglbbadcbaadoor", sum := "73fedde2c5e97c488d7e8254ce82b7ed8e8584ef2ec5ccd1aacffd9224073faf", checked := Tryd.checked }
namespace Rows
def none {H : Type} : Left H := { results := [], args := [] }

/- WHAT THE LISTED PACKAGE-LEVEL VARIABLES READ AS WHEN THE CALL BEGINS. Each datum BY PROGRAM (the guide's laid-datum.mjs) off the statement by which the dump's own 'gosem.cut.vars' lays the variable. In a bare row this is a premise. The card (YtbnjeglbbadcbaaDoorCards.lean) ties it to the program's text. -/
def laid_math_bits_deBruijn64tab {H : Type} : DataW H := .agg [.lit (.int .u8 0), .lit (.int .u8 1), .lit (.int .u8 56), .lit (.int .u8 2), .lit (.int .u8 57), .lit (.int .u8 49), .lit (.int .u8 28), .lit (.int .u8 3), .lit (.int .u8 61), .lit (.int .u8 58), .lit (.int .u8 42), .lit (.int .u8 50), .lit (.int .u8 38), .lit (.int .u8 29), .lit (.int .u8 17), .lit (.int .u8 4), .lit (.int .u8 62), .lit (.int .u8 47), .lit (.int .u8 59), .lit (.int .u8 36), .lit (.int .u8 45), .lit (.int .u8 43), .lit (.int .u8 51), .lit (.int .u8 22), .lit (.int .u8 53), .lit (.int .u8 39), .lit (.int .u8 33), .lit (.int .u8 30), .lit (.int .u8 24), .lit (.int .u8 18), .lit (.int .u8 12), .lit (.int .u8 5), .lit (.int .u8 63), .lit (.int .u8 55), .lit (.int .u8 48), .lit (.int .u8 27), .lit (.int .u8 60), .lit (.int .u8 41), .lit (.int .u8 37), .lit (.int .u8 16), .lit (.int .u8 46), .lit (.int .u8 35), .lit (.int .u8 44), .lit (.int .u8 21), .lit (.int .u8 52), .lit (.int .u8 32), .lit (.int .u8 23), .lit (.int .u8 11), .lit (.int .u8 54), .lit (.int .u8 26), .lit (.int .u8 40), .lit (.int .u8 15), .lit (.int .u8 34), .lit (.int .u8 20), .lit (.int .u8 31), .lit (.int .u8 10), .lit (.int .u8 25), .lit (.int .u8 14), .lit (.int .u8 19), .lit (.int .u8 9), .lit (.int .u8 13), .lit (.int .u8 8), .lit (.int .u8 7), .lit (.int .u8 6)]

/-- 'limewashlaw02.BitsFirst': WHATEVER THE INPUT: true; the input reads as it did. -/
def bitsFirstSpec : ChangeSpec := { name := "bitsFirst", fn := fun _ => fun
  | [d1, d2, d3] => { results := [.lit (.bool true)], args := [d1, d2, d3] }
  | _ => none }
def bitsFirstRow : OpenClaim := { program := "ytbnjeglbbadcbaadoor", sum := "73fedde2c5e97c488d7e8254ce82b7ed8e8584ef2ec5ccd1aacffd9224073faf", func := "limewash/limewashlaw02.BitsFirst", spec := "bitsFirst", named := ["math/bits.deBruijn64tab"], apart := false, laid := [("math/bits.deBruijn64tab", laid_math_bits_deBruijn64tab)] }
def BitsFirstSaid : Prop := bitsFirstRow.holds Tryd.pinned (OpenSpec.ofChange bitsFirstSpec)

/-- ITS FALSE NEIGHBOUR: 'it returns false'. Refute it at one input. -/
def bitsFirstWrong : ChangeSpec := { name := "bitsFirst", fn := fun _ => fun
  | [d1, d2, d3] => { results := [.lit (.bool false)], args := [d1, d2, d3] }
  | _ => none }
def BitsFirstWrongFalsely : Prop := bitsFirstRow.holds Tryd.pinned (OpenSpec.ofChange bitsFirstWrong)

/-- 'limewashlaw02.BitsLoads': WHATEVER THE INPUT: true; the input reads as it did. -/
def bitsLoadsSpec : ChangeSpec := { name := "bitsLoads", fn := fun _ => fun
  | [d1, d2] => { results := [.lit (.bool true)], args := [d1, d2] }
  | _ => none }
def bitsLoadsRow : OpenClaim := { program := "ytbnjeglbbadcbaadoor", sum := "73fedde2c5e97c488d7e8254ce82b7ed8e8584ef2ec5ccd1aacffd9224073faf", func := "limewash/limewashlaw02.BitsLoads", spec := "bitsLoads", named := ["math/bits.deBruijn64tab"], apart := false, laid := [("math/bits.deBruijn64tab", laid_math_bits_deBruijn64tab)] }
def BitsLoadsSaid : Prop := bitsLoadsRow.holds Tryd.pinned (OpenSpec.ofChange bitsLoadsSpec)

/-- ITS FALSE NEIGHBOUR: 'it returns false'. Refute it at one input. -/
def bitsLoadsWrong : ChangeSpec := { name := "bitsLoads", fn := fun _ => fun
  | [d1, d2] => { results := [.lit (.bool false)], args := [d1, d2] }
  | _ => none }
def BitsLoadsWrongFalsely : Prop := bitsLoadsRow.holds Tryd.pinned (OpenSpec.ofChange bitsLoadsWrong)

/-- 'limewashlaw02.BitsLogic': WHATEVER THE INPUT: true; the input reads as it did. -/
def bitsLogicSpec : ChangeSpec := { name := "bitsLogic", fn := fun _ => fun
  | [d1, d2, d3] => { results := [.lit (.bool true)], args := [d1, d2, d3] }
  | _ => none }
def bitsLogicRow : OpenClaim := { program := "ytbnjeglbbadcbaadoor", sum := "73fedde2c5e97c488d7e8254ce82b7ed8e8584ef2ec5ccd1aacffd9224073faf", func := "limewash/limewashlaw02.BitsLogic", spec := "bitsLogic", named := ["math/bits.deBruijn64tab"], apart := false, laid := [("math/bits.deBruijn64tab", laid_math_bits_deBruijn64tab)] }
def BitsLogicSaid : Prop := bitsLogicRow.holds Tryd.pinned (OpenSpec.ofChange bitsLogicSpec)

/-- ITS FALSE NEIGHBOUR: 'it returns false'. Refute it at one input. -/
def bitsLogicWrong : ChangeSpec := { name := "bitsLogic", fn := fun _ => fun
  | [d1, d2, d3] => { results := [.lit (.bool false)], args := [d1, d2, d3] }
  | _ => none }
def BitsLogicWrongFalsely : Prop := bitsLogicRow.holds Tryd.pinned (OpenSpec.ofChange bitsLogicWrong)

/-- 'limewashlaw02.BitsSearch': WHATEVER THE INPUT: true; the input reads as it did. -/
def bitsSearchSpec : ChangeSpec := { name := "bitsSearch", fn := fun _ => fun
  | [d1, d2, d3] => { results := [.lit (.bool true)], args := [d1, d2, d3] }
  | _ => none }
def bitsSearchRow : OpenClaim := { program := "ytbnjeglbbadcbaadoor", sum := "73fedde2c5e97c488d7e8254ce82b7ed8e8584ef2ec5ccd1aacffd9224073faf", func := "limewash/limewashlaw02.BitsSearch", spec := "bitsSearch", named := ["math/bits.deBruijn64tab"], apart := false, laid := [("math/bits.deBruijn64tab", laid_math_bits_deBruijn64tab)] }
def BitsSearchSaid : Prop := bitsSearchRow.holds Tryd.pinned (OpenSpec.ofChange bitsSearchSpec)

/-- ITS FALSE NEIGHBOUR: 'it returns false'. Refute it at one input. -/
def bitsSearchWrong : ChangeSpec := { name := "bitsSearch", fn := fun _ => fun
  | [d1, d2, d3] => { results := [.lit (.bool false)], args := [d1, d2, d3] }
  | _ => none }
def BitsSearchWrongFalsely : Prop := bitsSearchRow.holds Tryd.pinned (OpenSpec.ofChange bitsSearchWrong)

/-- 'limewashlaw02.BitsMorgan': WHATEVER THE INPUT: true; the input reads as it did. -/
def bitsMorganSpec : ChangeSpec := { name := "bitsMorgan", fn := fun _ => fun
  | [d1, d2, d3] => { results := [.lit (.bool true)], args := [d1, d2, d3] }
  | _ => none }
def bitsMorganRow : OpenClaim := { program := "ytbnjeglbbadcbaadoor", sum := "73fedde2c5e97c488d7e8254ce82b7ed8e8584ef2ec5ccd1aacffd9224073faf", func := "limewash/limewashlaw02.BitsMorgan", spec := "bitsMorgan", named := ["math/bits.deBruijn64tab"], apart := false, laid := [("math/bits.deBruijn64tab", laid_math_bits_deBruijn64tab)] }
def BitsMorganSaid : Prop := bitsMorganRow.holds Tryd.pinned (OpenSpec.ofChange bitsMorganSpec)

/-- ITS FALSE NEIGHBOUR: 'it returns false'. Refute it at one input. -/
def bitsMorganWrong : ChangeSpec := { name := "bitsMorgan", fn := fun _ => fun
  | [d1, d2, d3] => { results := [.lit (.bool false)], args := [d1, d2, d3] }
  | _ => none }
def BitsMorganWrongFalsely : Prop := bitsMorganRow.holds Tryd.pinned (OpenSpec.ofChange bitsMorganWrong)

/-- 'limewashlaw02.BitsKnown': WHATEVER THE INPUT: true; the input reads as it did. -/
def bitsKnownSpec : ChangeSpec := { name := "bitsKnown", fn := fun _ => fun
  | [] => { results := [.lit (.bool true)], args := [] }
  | _ => none }
def bitsKnownRow : OpenClaim := { program := "ytbnjeglbbadcbaadoor", sum := "73fedde2c5e97c488d7e8254ce82b7ed8e8584ef2ec5ccd1aacffd9224073faf", func := "limewash/limewashlaw02.BitsKnown", spec := "bitsKnown", named := ["math/bits.deBruijn64tab"], apart := false, laid := [("math/bits.deBruijn64tab", laid_math_bits_deBruijn64tab)] }
def BitsKnownSaid : Prop := bitsKnownRow.holds Tryd.pinned (OpenSpec.ofChange bitsKnownSpec)

/-- ITS FALSE NEIGHBOUR: 'it returns false'. Refute it at one input. -/
def bitsKnownWrong : ChangeSpec := { name := "bitsKnown", fn := fun _ => fun
  | [] => { results := [.lit (.bool false)], args := [] }
  | _ => none }
def BitsKnownWrongFalsely : Prop := bitsKnownRow.holds Tryd.pinned (OpenSpec.ofChange bitsKnownWrong)

/-- 'limewashlaw02.BitsPlays': WHATEVER THE INPUT: true; the input reads as it did. -/
def bitsPlaysSpec : ChangeSpec := { name := "bitsPlays", fn := fun _ => fun
  | [d1, d2, d3] => { results := [.lit (.bool true)], args := [d1, d2, d3] }
  | _ => none }
def bitsPlaysRow : OpenClaim := { program := "ytbnjeglbbadcbaadoor", sum := "73fedde2c5e97c488d7e8254ce82b7ed8e8584ef2ec5ccd1aacffd9224073faf", func := "limewash/limewashlaw02.BitsPlays", spec := "bitsPlays", named := ["math/bits.deBruijn64tab"], apart := false, laid := [("math/bits.deBruijn64tab", laid_math_bits_deBruijn64tab)] }
def BitsPlaysSaid : Prop := bitsPlaysRow.holds Tryd.pinned (OpenSpec.ofChange bitsPlaysSpec)

/-- ITS FALSE NEIGHBOUR: 'it returns false'. Refute it at one input. -/
def bitsPlaysWrong : ChangeSpec := { name := "bitsPlays", fn := fun _ => fun
  | [d1, d2, d3] => { results := [.lit (.bool false)], args := [d1, d2, d3] }
  | _ => none }
def BitsPlaysWrongFalsely : Prop := bitsPlaysRow.holds Tryd.pinned (OpenSpec.ofChange bitsPlaysWrong)

/-- 'limewashlaw02.BitsNone': WHATEVER THE INPUT: true; the input reads as it did. -/
def bitsNoneSpec : ChangeSpec := { name := "bitsNone", fn := fun _ => fun
  | [d1, d2, d3] => { results := [.lit (.bool true)], args := [d1, d2, d3] }
  | _ => none }
def bitsNoneRow : OpenClaim := { program := "ytbnjeglbbadcbaadoor", sum := "73fedde2c5e97c488d7e8254ce82b7ed8e8584ef2ec5ccd1aacffd9224073faf", func := "limewash/limewashlaw02.BitsNone", spec := "bitsNone", named := ["math/bits.deBruijn64tab"], apart := false, laid := [("math/bits.deBruijn64tab", laid_math_bits_deBruijn64tab)] }
def BitsNoneSaid : Prop := bitsNoneRow.holds Tryd.pinned (OpenSpec.ofChange bitsNoneSpec)

/-- ITS FALSE NEIGHBOUR: 'it returns false'. Refute it at one input. -/
def bitsNoneWrong : ChangeSpec := { name := "bitsNone", fn := fun _ => fun
  | [d1, d2, d3] => { results := [.lit (.bool false)], args := [d1, d2, d3] }
  | _ => none }
def BitsNoneWrongFalsely : Prop := bitsNoneRow.holds Tryd.pinned (OpenSpec.ofChange bitsNoneWrong)

/- THE SECOND FORM. 'bulk': how many values and letters a reading holds, each counted each time it is reached (what is shared counts as often as it is met; a slice's spare places count too). A statement '..UptoSaid' is the law's where the arguments, and the package variables that the reading takes, are together of bulk at most 1048576: NARROWER than '..Said'. Prove '..Said' where nothing that the law and all that it calls make is longer than what came in: it says more and counts as full. Else prove '..UptoSaid'. A law counts once. -/
mutual
def uptoBulk {H : Type} : DataW H → Nat
  | .lit (.string bytes) => bytes.length + 1
  | .lit _ => 1
  | .nil => 1
  | .ptr d => uptoBulk d + 1
  | .slice elems spare => uptoBulkAll elems + uptoBulkAll spare + 1
  | .agg parts => uptoBulkAll parts + 1
  | .iface _ d => uptoBulk d + 1
  | .map entries => uptoBulkEntries entries + 1
  | .held _ => 1
def uptoBulkAll {H : Type} : List (DataW H) → Nat
  | [] => 0
  | d :: r => uptoBulk d + uptoBulkAll r
def uptoBulkEntries {H : Type} : List (Lit × DataW H) → Nat
  | [] => 0
  | x :: r => uptoBulkEntry x + uptoBulkEntries r
def uptoBulkEntry {H : Type} : Lit × DataW H → Nat
  | (.string bytes, d) => bytes.length + uptoBulk d + 1
  | (_, d) => uptoBulk d + 1
 end
def uptoSmall : (H : Type) → List (DataW H) → Bool := fun _ ds => decide (uptoBulkAll ds ≤ 1048576)
def OpenSpec.upto (s : _root_.Go.ChangeSpec) : _root_.Go.OpenSpec := { _root_.Go.OpenSpec.ofChange s with cond := some uptoSmall }

/-- 'limewashlaw02.BitsFirst', WHERE WHAT IT READS IS OF BULK AT MOST 1048576: true; the input reads as it did. -/
def bitsFirstUptoRow : OpenClaim := { program := "ytbnjeglbbadcbaadoor", sum := "73fedde2c5e97c488d7e8254ce82b7ed8e8584ef2ec5ccd1aacffd9224073faf", func := "limewash/limewashlaw02.BitsFirst", spec := "bitsFirst", named := ["math/bits.deBruijn64tab"], apart := false, laid := [("math/bits.deBruijn64tab", laid_math_bits_deBruijn64tab)], narrowed := true }
def BitsFirstUptoSaid : Prop := bitsFirstUptoRow.holds Tryd.pinned (OpenSpec.upto bitsFirstSpec)

/-- 'limewashlaw02.BitsLoads', WHERE WHAT IT READS IS OF BULK AT MOST 1048576: true; the input reads as it did. -/
def bitsLoadsUptoRow : OpenClaim := { program := "ytbnjeglbbadcbaadoor", sum := "73fedde2c5e97c488d7e8254ce82b7ed8e8584ef2ec5ccd1aacffd9224073faf", func := "limewash/limewashlaw02.BitsLoads", spec := "bitsLoads", named := ["math/bits.deBruijn64tab"], apart := false, laid := [("math/bits.deBruijn64tab", laid_math_bits_deBruijn64tab)], narrowed := true }
def BitsLoadsUptoSaid : Prop := bitsLoadsUptoRow.holds Tryd.pinned (OpenSpec.upto bitsLoadsSpec)

/-- 'limewashlaw02.BitsLogic', WHERE WHAT IT READS IS OF BULK AT MOST 1048576: true; the input reads as it did. -/
def bitsLogicUptoRow : OpenClaim := { program := "ytbnjeglbbadcbaadoor", sum := "73fedde2c5e97c488d7e8254ce82b7ed8e8584ef2ec5ccd1aacffd9224073faf", func := "limewash/limewashlaw02.BitsLogic", spec := "bitsLogic", named := ["math/bits.deBruijn64tab"], apart := false, laid := [("math/bits.deBruijn64tab", laid_math_bits_deBruijn64tab)], narrowed := true }
def BitsLogicUptoSaid : Prop := bitsLogicUptoRow.holds Tryd.pinned (OpenSpec.upto bitsLogicSpec)

/-- 'limewashlaw02.BitsSearch', WHERE WHAT IT READS IS OF BULK AT MOST 1048576: true; the input reads as it did. -/
def bitsSearchUptoRow : OpenClaim := { program := "ytbnjeglbbadcbaadoor", sum := "73fedde2c5e97c488d7e8254ce82b7ed8e8584ef2ec5ccd1aacffd9224073faf", func := "limewash/limewashlaw02.BitsSearch", spec := "bitsSearch", named := ["math/bits.deBruijn64tab"], apart := false, laid := [("math/bits.deBruijn64tab", laid_math_bits_deBruijn64tab)], narrowed := true }
def BitsSearchUptoSaid : Prop := bitsSearchUptoRow.holds Tryd.pinned (OpenSpec.upto bitsSearchSpec)

/-- 'limewashlaw02.BitsMorgan', WHERE WHAT IT READS IS OF BULK AT MOST 1048576: true; the input reads as it did. -/
def bitsMorganUptoRow : OpenClaim := { program := "ytbnjeglbbadcbaadoor", sum := "73fedde2c5e97c488d7e8254ce82b7ed8e8584ef2ec5ccd1aacffd9224073faf", func := "limewash/limewashlaw02.BitsMorgan", spec := "bitsMorgan", named := ["math/bits.deBruijn64tab"], apart := false, laid := [("math/bits.deBruijn64tab", laid_math_bits_deBruijn64tab)], narrowed := true }
def BitsMorganUptoSaid : Prop := bitsMorganUptoRow.holds Tryd.pinned (OpenSpec.upto bitsMorganSpec)

/-- 'limewashlaw02.BitsKnown', WHERE WHAT IT READS IS OF BULK AT MOST 1048576: true; the input reads as it did. -/
def bitsKnownUptoRow : OpenClaim := { program := "ytbnjeglbbadcbaadoor", sum := "73fedde2c5e97c488d7e8254ce82b7ed8e8584ef2ec5ccd1aacffd9224073faf", func := "limewash/limewashlaw02.BitsKnown", spec := "bitsKnown", named := ["math/bits.deBruijn64tab"], apart := false, laid := [("math/bits.deBruijn64tab", laid_math_bits_deBruijn64tab)], narrowed := true }
def BitsKnownUptoSaid : Prop := bitsKnownUptoRow.holds Tryd.pinned (OpenSpec.upto bitsKnownSpec)

/-- 'limewashlaw02.BitsPlays', WHERE WHAT IT READS IS OF BULK AT MOST 1048576: true; the input reads as it did. -/
def bitsPlaysUptoRow : OpenClaim := { program := "ytbnjeglbbadcbaadoor", sum := "73fedde2c5e97c488d7e8254ce82b7ed8e8584ef2ec5ccd1aacffd9224073faf", func := "limewash/limewashlaw02.BitsPlays", spec := "bitsPlays", named := ["math/bits.deBruijn64tab"], apart := false, laid := [("math/bits.deBruijn64tab", laid_math_bits_deBruijn64tab)], narrowed := true }
def BitsPlaysUptoSaid : Prop := bitsPlaysUptoRow.holds Tryd.pinned (OpenSpec.upto bitsPlaysSpec)

/-- 'limewashlaw02.BitsNone', WHERE WHAT IT READS IS OF BULK AT MOST 1048576: true; the input reads as it did. -/
def bitsNoneUptoRow : OpenClaim := { program := "ytbnjeglbbadcbaadoor", sum := "73fedde2c5e97c488d7e8254ce82b7ed8e8584ef2ec5ccd1aacffd9224073faf", func := "limewash/limewashlaw02.BitsNone", spec := "bitsNone", named := ["math/bits.deBruijn64tab"], apart := false, laid := [("math/bits.deBruijn64tab", laid_math_bits_deBruijn64tab)], narrowed := true }
def BitsNoneUptoSaid : Prop := bitsNoneUptoRow.holds Tryd.pinned (OpenSpec.upto bitsNoneSpec)

end Rows
end Go.Proofs.YtbnjeglbbadcbaaDoor
