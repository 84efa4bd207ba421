/- The laid variables are laid by the statements that bear their names. -/
import Derived.Test.YtfdhdhmeahdpbaaGreatDoorRows
import Derived.Test.YtfdhdhmeahdpbaaGreatDoorM0
import Derived.Great.ByCallsLater
import Derived.SevenTiedAt
namespace Go.Proofs.YtfdhdhmeahdpbaaGreatDoor
open Go
set_option maxRecDepth 1000000
def named1 (P : Program) (code : Code) (stored : List Nat) (x : String × DataW Unit) : Bool :=
  (P.globalNamed x.1).any fun v => (stored.contains v == (P.kindBase x.1 != some .zero)) && callsFit code v (P.kindBase x.1) &&
          ((code.storedByHandle P).contains v == (P.kindBase x.1 == some .handle)) && (x.2.handleName?.isSome == (P.kindBase x.1 == some .handle || P.kindBase x.1 == some .funcs)) &&
          (P.kindBase x.1 != some .handle || handlePair x) && (x.2.funcsIn?.isSome == (P.kindBase x.1 == some .funcs)) && mapsFit code v x.2 (P.kindBase x.1)
theorem varsNamed_of {P : Program} {g : FuncId} {code : Code} {stored : List Nat} {laid : List (String × DataW Unit)} (hb : (P.funcs[g]?).bind (·.body) = some code) (hs : code.laysInOrder [] = some stored)
    (h1 : (stored.eraseDups.length == stored.length && P.callsLaidAlone g code) = true) (h2 : laid.all (named1 P code stored) = true) : varsNamedLaterB P g laid = true := by
  unfold varsNamedLaterB
  rw [hb]
  simp only [hs]
  rw [h1, Bool.true_and]
  exact h2
noncomputable def storedL : List Nat := (body.laysInOrder []).getD []
theorem body_at : (Tryz.prog.funcs[780]?).bind (·.body) = some body := by kernel_rfl
theorem stored_at : body.laysInOrder [] = some storedL := by kernel_rfl
theorem stored_1 : (storedL.eraseDups.length == storedL.length) = true := by kernel_rfl
theorem stored_2 : body.unfollowedBeside Tryz.prog = false := by kernel_rfl
theorem stored_3 : (body.tempsApart 0).isSome = true := by kernel_rfl
theorem stored_4 : body.regionsFit Tryz.prog [] = true := by kernel_rfl
theorem stored_5 : ((body.storedByHandle Tryz.prog).isEmpty || ((Tryz.prog.funcNamed "(internal/reflectlite.rtype).Elem").any fun h => (Tryz.prog.funcs[h]?).any fun fn => fn.body.isNone && !entryCalls fn)) = true := by kernel_rfl
theorem stored_6 : ((body.storedByHandle Tryz.prog).all fun v => Tryz.prog.globalNamed "errors.errorType" == some v) = true := by kernel_rfl
theorem stored_ok : (storedL.eraseDups.length == storedL.length && Tryz.prog.callsLaidAlone 780 body) = true := by
  unfold Program.callsLaidAlone
  rw [stored_1, stored_2, stored_3, stored_4, stored_5, stored_6]
  rfl
theorem named_0 : named1 Tryz.prog body storedL ("limewash/escape.dialects", Rows.laid_limewash_escape_dialects) = true := by kernel_rfl
theorem kind_0 : Tryz.prog.kindOfLater "limewash/escape.dialects" = some .data := by kernel_rfl
theorem named_1 : named1 Tryz.prog body storedL ("strings.asciiSpace", Rows.laid_strings_asciiSpace) = true := by kernel_rfl
theorem kind_1 : Tryz.prog.kindOfLater "strings.asciiSpace" = some .data := by kernel_rfl
theorem named_2 : named1 Tryz.prog body storedL ("unicode.White_Space", Rows.laid_unicode_White_Space) = true := by kernel_rfl
theorem kind_2 : Tryz.prog.kindOfLater "unicode.White_Space" = some .listed := by kernel_rfl
theorem named_3 : named1 Tryz.prog body storedL ("unicode/utf8.acceptRanges", Rows.laid_unicode_utf8_acceptRanges) = true := by kernel_rfl
theorem kind_3 : Tryz.prog.kindOfLater "unicode/utf8.acceptRanges" = some .data := by kernel_rfl
theorem named_4 : named1 Tryz.prog body storedL ("internal/strconv.uint64pow10", Rows.laid_internal_strconv_uint64pow10) = true := by kernel_rfl
theorem kind_4 : Tryz.prog.kindOfLater "internal/strconv.uint64pow10" = some .data := by kernel_rfl
theorem named_5 : named1 Tryz.prog body storedL ("math/bits.deBruijn32tab", Rows.laid_math_bits_deBruijn32tab) = true := by kernel_rfl
theorem kind_5 : Tryz.prog.kindOfLater "math/bits.deBruijn32tab" = some .data := by kernel_rfl
theorem named_6 : named1 Tryz.prog body storedL ("math/bits.deBruijn64tab", Rows.laid_math_bits_deBruijn64tab) = true := by kernel_rfl
theorem kind_6 : Tryz.prog.kindOfLater "math/bits.deBruijn64tab" = some .data := by kernel_rfl
theorem named_7 : named1 Tryz.prog body storedL ("errors.errorType", Rows.laid_errors_errorType) = true := by kernel_rfl
theorem kind_7 : Tryz.prog.kindOfLater "errors.errorType" = some .handle := by kernel_rfl
theorem named_8 : named1 Tryz.prog body storedL ("limewash/fuse.errForm", Rows.laid_limewash_fuse_errForm) = true := by kernel_rfl
theorem kind_8 : Tryz.prog.kindOfLater "limewash/fuse.errForm" = some .sentinel := by kernel_rfl
theorem named_9 : named1 Tryz.prog body storedL ("limewash/fuse.errBook", Rows.laid_limewash_fuse_errBook) = true := by kernel_rfl
theorem kind_9 : Tryz.prog.kindOfLater "limewash/fuse.errBook" = some .sentinel := by kernel_rfl
theorem named_10 : named1 Tryz.prog body storedL ("limewash/fuse.errEscape", Rows.laid_limewash_fuse_errEscape) = true := by kernel_rfl
theorem kind_10 : Tryz.prog.kindOfLater "limewash/fuse.errEscape" = some .sentinel := by kernel_rfl
theorem named_11 : named1 Tryz.prog body storedL ("limewash/sums.half", Rows.laid_limewash_sums_half) = true := by kernel_rfl
theorem kind_11 : Tryz.prog.kindOfLater "limewash/sums.half" = some .data := by kernel_rfl
theorem named_12 : named1 Tryz.prog body storedL ("limewash/tree.names", Rows.laid_limewash_tree_names) = true := by kernel_rfl
theorem kind_12 : Tryz.prog.kindOfLater "limewash/tree.names" = some .data := by kernel_rfl
theorem named_13 : named1 Tryz.prog body storedL ("limewash/words.escapes", Rows.laid_limewash_words_escapes) = true := by kernel_rfl
theorem kind_13 : Tryz.prog.kindOfLater "limewash/words.escapes" = some .data := by kernel_rfl
end Go.Proofs.YtfdhdhmeahdpbaaGreatDoor
