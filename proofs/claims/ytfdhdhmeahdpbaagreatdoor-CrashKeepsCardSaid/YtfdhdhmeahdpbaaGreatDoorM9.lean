/- The program's tie, and the rows' ties. -/
import Derived.Test.YtfdhdhmeahdpbaaGreatDoorM4
import Derived.Test.YtfdhdhmeahdpbaaGreatDoorM5
namespace Go.Proofs.YtfdhdhmeahdpbaaGreatDoor
open Go
set_option maxRecDepth 1000000
theorem tie_n : varsNamedLaterB Tryz.prog (varsId Tryz.prog) laidL = true := by
  rw [vars_id]
  refine varsNamed_of body_at stored_at stored_ok ?_
  unfold laidL
  rw [List.all_cons, named_0, Bool.true_and, List.all_cons, named_1, Bool.true_and, List.all_cons, named_2, Bool.true_and, List.all_cons, named_3, Bool.true_and, List.all_cons, named_4, Bool.true_and, List.all_cons, named_5, Bool.true_and, List.all_cons, named_6, Bool.true_and, List.all_cons, named_7, Bool.true_and, List.all_cons, named_8, Bool.true_and, List.all_cons, named_9, Bool.true_and, List.all_cons, named_10, Bool.true_and, List.all_cons, named_11, Bool.true_and, List.all_cons, named_12, Bool.true_and, List.all_cons, named_13, Bool.true_and]
  rfl
theorem tie_k : laidL.map (fun x => Tryz.prog.kindOfLater x.1) = ([.data, .data, .listed, .data, .data, .data, .data, .handle, .sentinel, .sentinel, .sentinel, .data, .data, .data] : List LaidKind).map some := by
  unfold laidL
  simp only [List.map_cons, List.map_nil, kind_0, kind_1, kind_2, kind_3, kind_4, kind_5, kind_6, kind_7, kind_8, kind_9, kind_10, kind_11, kind_12, kind_13]
theorem tie : Tryz.prog.laidByTextLater [("limewash/escape.dialects", Rows.laid_limewash_escape_dialects), ("strings.asciiSpace", Rows.laid_strings_asciiSpace), ("unicode.White_Space", Rows.laid_unicode_White_Space), ("unicode/utf8.acceptRanges", Rows.laid_unicode_utf8_acceptRanges), ("internal/strconv.uint64pow10", Rows.laid_internal_strconv_uint64pow10), ("math/bits.deBruijn32tab", Rows.laid_math_bits_deBruijn32tab), ("math/bits.deBruijn64tab", Rows.laid_math_bits_deBruijn64tab), ("errors.errorType", Rows.laid_errors_errorType), ("limewash/fuse.errForm", Rows.laid_limewash_fuse_errForm), ("limewash/fuse.errBook", Rows.laid_limewash_fuse_errBook), ("limewash/fuse.errEscape", Rows.laid_limewash_fuse_errEscape), ("limewash/sums.half", Rows.laid_limewash_sums_half), ("limewash/tree.names", Rows.laid_limewash_tree_names), ("limewash/words.escapes", Rows.laid_limewash_words_escapes)] [.data, .data, .listed, .data, .data, .data, .data, .handle, .sentinel, .sentinel, .sentinel, .data, .data, .data] true :=
  Program.laidByTextLater_of_R tie_w1 tie_w2 tie_w3 tie_k tie_g tie_n fun os tape _ => ⟨144, _, endW os tape, by rw [vars_id]; exact run_whole os tape, tie_met os tape⟩
theorem pin_laid_unicode_utf8_first : Tryz.pinned.checked.prog.pinnedFits "unicode/utf8.first" = true := by kernel_rfl
theorem noOwnUnsafe : Tryz.pinned.checked.prog.headLifts.contains "ownunsafe" = false := by kernel_rfl
theorem fits1 : Tryz.pinned.checked.prog.listedFits [("limewash/escape.dialects", Rows.laid_limewash_escape_dialects), ("strings.asciiSpace", Rows.laid_strings_asciiSpace), ("unicode.White_Space", Rows.laid_unicode_White_Space), ("unicode/utf8.first", Rows.laid_unicode_utf8_first), ("unicode/utf8.acceptRanges", Rows.laid_unicode_utf8_acceptRanges), ("internal/strconv.uint64pow10", Rows.laid_internal_strconv_uint64pow10), ("math/bits.deBruijn32tab", Rows.laid_math_bits_deBruijn32tab), ("math/bits.deBruijn64tab", Rows.laid_math_bits_deBruijn64tab), ("errors.errorType", Rows.laid_errors_errorType), ("limewash/fuse.errForm", Rows.laid_limewash_fuse_errForm), ("limewash/fuse.errBook", Rows.laid_limewash_fuse_errBook), ("limewash/fuse.errEscape", Rows.laid_limewash_fuse_errEscape), ("limewash/sums.half", Rows.laid_limewash_sums_half), ("limewash/tree.names", Rows.laid_limewash_tree_names), ("limewash/words.escapes", Rows.laid_limewash_words_escapes)] = true := by
  unfold Program.listedFits
  rw [noOwnUnsafe]
  kernel_rfl

theorem crashKeeps_row_tie : Rows.crashKeepsRow.laidByTextAt .later Tryz.pinned [.data, .data, .listed, .pinned, .data, .data, .data, .data, .handle, .sentinel, .sentinel, .sentinel, .data, .data, .data] true :=
  OpenClaim.laidByTextAt_pinned rfl rfl tie rfl rfl rfl rfl (fun y hy _e => by
    simp only [Rows.crashKeepsRow, List.zip_cons_cons, List.zip_nil_right, List.mem_cons, List.mem_nil_iff, or_false] at hy
    rcases hy with rfl | rfl | rfl | rfl | rfl | rfl | rfl | rfl | rfl | rfl | rfl | rfl | rfl | rfl | rfl
    · cases _e
    · cases _e
    · cases _e
    · exact ⟨pin_laid_unicode_utf8_first, by kernel_rfl⟩
    · cases _e
    · cases _e
    · cases _e
    · cases _e
    · cases _e
    · cases _e
    · cases _e
    · cases _e
    · cases _e
    · cases _e
    · cases _e) fits1
theorem crashKnown_row_tie : Rows.crashKnownRow.laidByTextAt .later Tryz.pinned [.data, .data, .listed, .pinned, .data, .data, .data, .data, .handle, .sentinel, .sentinel, .sentinel, .data, .data, .data] true :=
  OpenClaim.laidByTextAt_pinned rfl rfl tie rfl rfl rfl rfl (fun y hy _e => by
    simp only [Rows.crashKnownRow, List.zip_cons_cons, List.zip_nil_right, List.mem_cons, List.mem_nil_iff, or_false] at hy
    rcases hy with rfl | rfl | rfl | rfl | rfl | rfl | rfl | rfl | rfl | rfl | rfl | rfl | rfl | rfl | rfl
    · cases _e
    · cases _e
    · cases _e
    · exact ⟨pin_laid_unicode_utf8_first, by kernel_rfl⟩
    · cases _e
    · cases _e
    · cases _e
    · cases _e
    · cases _e
    · cases _e
    · cases _e
    · cases _e
    · cases _e
    · cases _e
    · cases _e) fits1
end Go.Proofs.YtfdhdhmeahdpbaaGreatDoor
