/- What the program's own initialisers lay is what the rows list. -/
import Derived.Test.YtfdhdhmeahdpbaaGreatDoorRows
import Derived.Test.YtfdhdhmeahdpbaaGreatDoorM1
import Derived.Test.YtfdhdhmeahdpbaaGreatDoorM2
import Derived.Test.YtfdhdhmeahdpbaaGreatDoorM3
import Derived.Test.YtfdhdhmeahdpbaaGreatDoorL0
import Derived.Great.ByCallsLater
import Derived.SevenTiedAt
namespace Go.Proofs.YtfdhdhmeahdpbaaGreatDoor
open Go
set_option maxRecDepth 1000000
noncomputable def laidL : List (String × DataW Unit) := [("limewash/escape.dialects", Rows.laid_limewash_escape_dialects), ("strings.asciiSpace", Rows.laid_strings_asciiSpace), ("unicode.White_Space", Rows.laid_unicode_White_Space), ("unicode/utf8.acceptRanges", Rows.laid_unicode_utf8_acceptRanges), ("internal/strconv.uint64pow10", Rows.laid_internal_strconv_uint64pow10), ("math/bits.deBruijn32tab", Rows.laid_math_bits_deBruijn32tab), ("math/bits.deBruijn64tab", Rows.laid_math_bits_deBruijn64tab), ("errors.errorType", Rows.laid_errors_errorType), ("limewash/fuse.errForm", Rows.laid_limewash_fuse_errForm), ("limewash/fuse.errBook", Rows.laid_limewash_fuse_errBook), ("limewash/fuse.errEscape", Rows.laid_limewash_fuse_errEscape), ("limewash/sums.half", Rows.laid_limewash_sums_half), ("limewash/tree.names", Rows.laid_limewash_tree_names), ("limewash/words.escapes", Rows.laid_limewash_words_escapes)]
noncomputable def endW (os : Os) (tape : Tape) : World := ⟨heapE os, tape, 0, os, #[]⟩
theorem run_whole (os : Os) (tape : Tape) : runN Tryz.prog 144 (start os tape) = .ended (.done (.tuple #[])) (endW os tape) := by
  rw [show 144 = 37 + (49 + (58)) from rfl, runN_add, seg6]
  show runN Tryz.prog (49 + (58)) (mid6 os tape) = _
  rw [runN_add, seg12]
  exact segE os tape
theorem tie_w1 : Tryz.prog.worded (varsWordLater true) = true := by kernel_rfl
theorem tie_w2 : Tryz.prog.worded (varsWordLater !true) = false := by kernel_rfl
theorem tie_w3 : Tryz.prog.worded rootWordLater = true := by kernel_rfl
theorem tie_g : (Tryz.prog.funcNamed "gosem.cut.vars").isSome = true := by kernel_rfl
theorem vars_id : varsId Tryz.prog = 780 := by kernel_rfl
theorem tie_h1 (os : Os) (tape : Tape) : (DataW.laidRun Tryz.prog (endW os tape).memory 8 ((laidL.filter fun x => x.2.handleName?.isNone).map (·.1))).map (·.1) = some (laidL.filter fun x => x.2.handleName?.isNone) := by kernel_rfl
theorem tie_h2 (os : Os) (tape : Tape) : (DataW.laidRun Tryz.prog (endW os tape).memory 8 ((laidL.filter fun x => x.2.handleName?.isNone).map (·.1))).map (fun x => Ev.ndB x.2 0 && laidRowsB Tryz.prog (endW os tape).memory x.2) = some true := by kernel_rfl
theorem tie_h3 (os : Os) (tape : Tape) : (laidL.filter fun x => x.2.handleName?.isSome).all (handleAtB Tryz.prog (endW os tape).memory) = true := by kernel_rfl
theorem tie_met (os : Os) (tape : Tape) : laidMetH Tryz.prog laidL (endW os tape).memory := laidMetH_of_parts (Ev.laidMet_by 8 (tie_h1 os tape) (tie_h2 os tape)) (tie_h3 os tape)
end Go.Proofs.YtfdhdhmeahdpbaaGreatDoor
