/-
  DERIVED. GIVEN WITH THE SEED: THE PROGRAM's TIES (one call each: nine closed facts by the kernel) AND EACH ROW's TIE, after the 31st guide's Derived/Test/Toyas{Tie, Card}.lean. No idea stands in it: it is a product of the set-up. Laid BY PROGRAM, IN A SANDBOX (cutbox-door.mjs). By AI agents, Wed Nov 11 2026. No macro, syntax, notation, axiom, sorry.
-/
import Derived.Test.YtappphffbnkloaaGreatDoorRows
import Derived.LaidByTextLater
import Derived.SevenTiedAt
import Derived.LaidSub
import Derived.LaidOnce
namespace Go.Proofs.YtappphffbnkloaaGreatDoor
open Go
set_option maxRecDepth 100000
theorem seatTie1 : Tryz.prog.laidByTextLater [("math/bits.deBruijn32tab", Rows.laid_math_bits_deBruijn32tab), ("math/bits.deBruijn64tab", Rows.laid_math_bits_deBruijn64tab), ("internal/strconv.uint64pow10", Rows.laid_internal_strconv_uint64pow10), ("unicode/utf8.acceptRanges", Rows.laid_unicode_utf8_acceptRanges), ("errors.errorType", Rows.laid_errors_errorType), ("larder/sheet.ErrOpen", Rows.laid_larder_sheet_ErrOpen), ("larder/sheet.ErrQuote", Rows.laid_larder_sheet_ErrQuote), ("larder/sheet.ErrLine", Rows.laid_larder_sheet_ErrLine), ("larder/sheet.ErrByte", Rows.laid_larder_sheet_ErrByte), ("larder/sheet.ErrCell", Rows.laid_larder_sheet_ErrCell), ("larder/sheet.ErrCells", Rows.laid_larder_sheet_ErrCells), ("larder/sheet.ErrRows", Rows.laid_larder_sheet_ErrRows), ("larder/sheet.ErrRagged", Rows.laid_larder_sheet_ErrRagged), ("larder/sheet.ErrDone", Rows.laid_larder_sheet_ErrDone), ("larder/sheet.ErrLong", Rows.laid_larder_sheet_ErrLong), ("larder/sheet.ErrColumns", Rows.laid_larder_sheet_ErrColumns), ("larder/sheet.ErrMissing", Rows.laid_larder_sheet_ErrMissing), ("larder/sheet.ErrTwice", Rows.laid_larder_sheet_ErrTwice), ("larder/sheet.ErrEmpty", Rows.laid_larder_sheet_ErrEmpty), ("larder/sheet.ErrNumber", Rows.laid_larder_sheet_ErrNumber), ("larder/sheet.ErrCents", Rows.laid_larder_sheet_ErrCents), ("larder/sheet.ErrDate", Rows.laid_larder_sheet_ErrDate), ("larder/sheet.ErrCode", Rows.laid_larder_sheet_ErrCode), ("larder/sheet.ErrYes", Rows.laid_larder_sheet_ErrYes), ("larder/sheet.ErrValue", Rows.laid_larder_sheet_ErrValue)] [.data, .data, .data, .data, .handle, .sentinel, .sentinel, .sentinel, .sentinel, .sentinel, .sentinel, .sentinel, .sentinel, .sentinel, .sentinel, .sentinel, .sentinel, .sentinel, .sentinel, .sentinel, .sentinel, .sentinel, .sentinel, .sentinel, .sentinel] true :=
  Program.laidByTextLater_by_one 421 8 65 (by kernel_rfl) (by kernel_rfl) (by kernel_rfl) (by kernel_rfl) (by kernel_rfl) (by kernel_rfl) (fun _ _ => by kernel_rfl)
theorem pin_laid_unicode_utf8_first : Tryz.pinned.checked.prog.pinnedFits "unicode/utf8.first" = true := by kernel_rfl
theorem noOwnUnsafe : Tryz.pinned.checked.prog.headLifts.contains "ownunsafe" = false := by kernel_rfl
theorem tie : Tryz.prog.laidByTextLater [("math/bits.deBruijn32tab", Rows.laid_math_bits_deBruijn32tab), ("math/bits.deBruijn64tab", Rows.laid_math_bits_deBruijn64tab), ("internal/strconv.uint64pow10", Rows.laid_internal_strconv_uint64pow10), ("errors.errorType", Rows.laid_errors_errorType), ("larder/sheet.ErrOpen", Rows.laid_larder_sheet_ErrOpen), ("larder/sheet.ErrQuote", Rows.laid_larder_sheet_ErrQuote), ("larder/sheet.ErrLine", Rows.laid_larder_sheet_ErrLine), ("larder/sheet.ErrByte", Rows.laid_larder_sheet_ErrByte), ("larder/sheet.ErrCell", Rows.laid_larder_sheet_ErrCell), ("larder/sheet.ErrCells", Rows.laid_larder_sheet_ErrCells), ("larder/sheet.ErrRows", Rows.laid_larder_sheet_ErrRows), ("larder/sheet.ErrRagged", Rows.laid_larder_sheet_ErrRagged), ("larder/sheet.ErrDone", Rows.laid_larder_sheet_ErrDone), ("larder/sheet.ErrLong", Rows.laid_larder_sheet_ErrLong), ("larder/sheet.ErrColumns", Rows.laid_larder_sheet_ErrColumns), ("larder/sheet.ErrMissing", Rows.laid_larder_sheet_ErrMissing), ("larder/sheet.ErrTwice", Rows.laid_larder_sheet_ErrTwice), ("larder/sheet.ErrEmpty", Rows.laid_larder_sheet_ErrEmpty), ("larder/sheet.ErrNumber", Rows.laid_larder_sheet_ErrNumber), ("larder/sheet.ErrCents", Rows.laid_larder_sheet_ErrCents), ("larder/sheet.ErrDate", Rows.laid_larder_sheet_ErrDate), ("larder/sheet.ErrCode", Rows.laid_larder_sheet_ErrCode), ("larder/sheet.ErrYes", Rows.laid_larder_sheet_ErrYes), ("larder/sheet.ErrValue", Rows.laid_larder_sheet_ErrValue)] [.data, .data, .data, .handle, .sentinel, .sentinel, .sentinel, .sentinel, .sentinel, .sentinel, .sentinel, .sentinel, .sentinel, .sentinel, .sentinel, .sentinel, .sentinel, .sentinel, .sentinel, .sentinel, .sentinel, .sentinel, .sentinel, .sentinel] true :=
  Program.laidByTextLater.sub seatTie1 ["math/bits.deBruijn32tab", "math/bits.deBruijn64tab", "internal/strconv.uint64pow10", "errors.errorType", "larder/sheet.ErrOpen", "larder/sheet.ErrQuote", "larder/sheet.ErrLine", "larder/sheet.ErrByte", "larder/sheet.ErrCell", "larder/sheet.ErrCells", "larder/sheet.ErrRows", "larder/sheet.ErrRagged", "larder/sheet.ErrDone", "larder/sheet.ErrLong", "larder/sheet.ErrColumns", "larder/sheet.ErrMissing", "larder/sheet.ErrTwice", "larder/sheet.ErrEmpty", "larder/sheet.ErrNumber", "larder/sheet.ErrCents", "larder/sheet.ErrDate", "larder/sheet.ErrCode", "larder/sheet.ErrYes", "larder/sheet.ErrValue"] (by kernel_rfl) (by kernel_rfl)
theorem sheetReads_row_tie : Rows.sheetReadsRow.laidByTextAt .later Tryz.pinned [.data, .data, .data, .handle, .sentinel, .sentinel, .sentinel, .sentinel, .sentinel, .sentinel, .sentinel, .sentinel, .sentinel, .sentinel, .sentinel, .sentinel, .sentinel, .sentinel, .sentinel, .sentinel, .sentinel, .sentinel, .sentinel, .sentinel] true :=
  OpenClaim.laidByTextAt_later rfl rfl tie noOwnUnsafe
theorem fits2 : Tryz.pinned.checked.prog.listedFits [("math/bits.deBruijn32tab", Rows.laid_math_bits_deBruijn32tab), ("math/bits.deBruijn64tab", Rows.laid_math_bits_deBruijn64tab), ("internal/strconv.uint64pow10", Rows.laid_internal_strconv_uint64pow10), ("unicode/utf8.acceptRanges", Rows.laid_unicode_utf8_acceptRanges), ("errors.errorType", Rows.laid_errors_errorType), ("larder/sheet.ErrOpen", Rows.laid_larder_sheet_ErrOpen), ("larder/sheet.ErrQuote", Rows.laid_larder_sheet_ErrQuote), ("larder/sheet.ErrLine", Rows.laid_larder_sheet_ErrLine), ("larder/sheet.ErrByte", Rows.laid_larder_sheet_ErrByte), ("larder/sheet.ErrCell", Rows.laid_larder_sheet_ErrCell), ("larder/sheet.ErrCells", Rows.laid_larder_sheet_ErrCells), ("larder/sheet.ErrRows", Rows.laid_larder_sheet_ErrRows), ("larder/sheet.ErrRagged", Rows.laid_larder_sheet_ErrRagged), ("larder/sheet.ErrDone", Rows.laid_larder_sheet_ErrDone), ("larder/sheet.ErrLong", Rows.laid_larder_sheet_ErrLong), ("larder/sheet.ErrColumns", Rows.laid_larder_sheet_ErrColumns), ("larder/sheet.ErrMissing", Rows.laid_larder_sheet_ErrMissing), ("larder/sheet.ErrTwice", Rows.laid_larder_sheet_ErrTwice), ("larder/sheet.ErrEmpty", Rows.laid_larder_sheet_ErrEmpty), ("larder/sheet.ErrNumber", Rows.laid_larder_sheet_ErrNumber), ("larder/sheet.ErrCents", Rows.laid_larder_sheet_ErrCents), ("larder/sheet.ErrDate", Rows.laid_larder_sheet_ErrDate), ("larder/sheet.ErrCode", Rows.laid_larder_sheet_ErrCode), ("larder/sheet.ErrYes", Rows.laid_larder_sheet_ErrYes), ("larder/sheet.ErrValue", Rows.laid_larder_sheet_ErrValue), ("unicode/utf8.first", Rows.laid_unicode_utf8_first)] = true := by
  unfold Program.listedFits
  rw [noOwnUnsafe]
  kernel_rfl
theorem tie2 : Tryz.prog.laidByTextLater [("math/bits.deBruijn32tab", Rows.laid_math_bits_deBruijn32tab), ("math/bits.deBruijn64tab", Rows.laid_math_bits_deBruijn64tab), ("internal/strconv.uint64pow10", Rows.laid_internal_strconv_uint64pow10), ("unicode/utf8.acceptRanges", Rows.laid_unicode_utf8_acceptRanges), ("errors.errorType", Rows.laid_errors_errorType), ("larder/sheet.ErrOpen", Rows.laid_larder_sheet_ErrOpen), ("larder/sheet.ErrQuote", Rows.laid_larder_sheet_ErrQuote), ("larder/sheet.ErrLine", Rows.laid_larder_sheet_ErrLine), ("larder/sheet.ErrByte", Rows.laid_larder_sheet_ErrByte), ("larder/sheet.ErrCell", Rows.laid_larder_sheet_ErrCell), ("larder/sheet.ErrCells", Rows.laid_larder_sheet_ErrCells), ("larder/sheet.ErrRows", Rows.laid_larder_sheet_ErrRows), ("larder/sheet.ErrRagged", Rows.laid_larder_sheet_ErrRagged), ("larder/sheet.ErrDone", Rows.laid_larder_sheet_ErrDone), ("larder/sheet.ErrLong", Rows.laid_larder_sheet_ErrLong), ("larder/sheet.ErrColumns", Rows.laid_larder_sheet_ErrColumns), ("larder/sheet.ErrMissing", Rows.laid_larder_sheet_ErrMissing), ("larder/sheet.ErrTwice", Rows.laid_larder_sheet_ErrTwice), ("larder/sheet.ErrEmpty", Rows.laid_larder_sheet_ErrEmpty), ("larder/sheet.ErrNumber", Rows.laid_larder_sheet_ErrNumber), ("larder/sheet.ErrCents", Rows.laid_larder_sheet_ErrCents), ("larder/sheet.ErrDate", Rows.laid_larder_sheet_ErrDate), ("larder/sheet.ErrCode", Rows.laid_larder_sheet_ErrCode), ("larder/sheet.ErrYes", Rows.laid_larder_sheet_ErrYes), ("larder/sheet.ErrValue", Rows.laid_larder_sheet_ErrValue)] [.data, .data, .data, .data, .handle, .sentinel, .sentinel, .sentinel, .sentinel, .sentinel, .sentinel, .sentinel, .sentinel, .sentinel, .sentinel, .sentinel, .sentinel, .sentinel, .sentinel, .sentinel, .sentinel, .sentinel, .sentinel, .sentinel, .sentinel] true :=
  Program.laidByTextLater.sub seatTie1 ["math/bits.deBruijn32tab", "math/bits.deBruijn64tab", "internal/strconv.uint64pow10", "unicode/utf8.acceptRanges", "errors.errorType", "larder/sheet.ErrOpen", "larder/sheet.ErrQuote", "larder/sheet.ErrLine", "larder/sheet.ErrByte", "larder/sheet.ErrCell", "larder/sheet.ErrCells", "larder/sheet.ErrRows", "larder/sheet.ErrRagged", "larder/sheet.ErrDone", "larder/sheet.ErrLong", "larder/sheet.ErrColumns", "larder/sheet.ErrMissing", "larder/sheet.ErrTwice", "larder/sheet.ErrEmpty", "larder/sheet.ErrNumber", "larder/sheet.ErrCents", "larder/sheet.ErrDate", "larder/sheet.ErrCode", "larder/sheet.ErrYes", "larder/sheet.ErrValue"] (by kernel_rfl) (by kernel_rfl)
theorem sheetPrints_row_tie : Rows.sheetPrintsRow.laidByTextAt .later Tryz.pinned [.data, .data, .data, .data, .handle, .sentinel, .sentinel, .sentinel, .sentinel, .sentinel, .sentinel, .sentinel, .sentinel, .sentinel, .sentinel, .sentinel, .sentinel, .sentinel, .sentinel, .sentinel, .sentinel, .sentinel, .sentinel, .sentinel, .sentinel, .pinned] true :=
  OpenClaim.laidByTextAt_pinned rfl rfl tie2 rfl rfl rfl rfl (fun y hy _e => by
    simp only [Rows.sheetPrintsRow, List.zip_cons_cons, List.zip_nil_right, List.mem_cons, List.mem_nil_iff, or_false] at hy
    rcases hy with rfl | rfl | rfl | rfl | rfl | rfl | rfl | rfl | rfl | rfl | rfl | rfl | rfl | rfl | rfl | rfl | rfl | rfl | rfl | rfl | rfl | rfl | rfl | rfl | rfl | rfl
    · cases _e
    · cases _e
    · cases _e
    · cases _e
    · cases _e
    · cases _e
    · cases _e
    · cases _e
    · cases _e
    · cases _e
    · cases _e
    · cases _e
    · cases _e
    · cases _e
    · cases _e
    · cases _e
    · cases _e
    · cases _e
    · cases _e
    · cases _e
    · cases _e
    · cases _e
    · cases _e
    · cases _e
    · cases _e
    · exact ⟨pin_laid_unicode_utf8_first, by kernel_rfl⟩) fits2
theorem sheetNil_row_tie : Rows.sheetNilRow.laidByTextAt .later Tryz.pinned [.data, .data, .data, .data, .handle, .sentinel, .sentinel, .sentinel, .sentinel, .sentinel, .sentinel, .sentinel, .sentinel, .sentinel, .sentinel, .sentinel, .sentinel, .sentinel, .sentinel, .sentinel, .sentinel, .sentinel, .sentinel, .sentinel, .sentinel, .pinned] true :=
  OpenClaim.laidByTextAt_pinned rfl rfl tie2 rfl rfl rfl rfl (fun y hy _e => by
    simp only [Rows.sheetNilRow, List.zip_cons_cons, List.zip_nil_right, List.mem_cons, List.mem_nil_iff, or_false] at hy
    rcases hy with rfl | rfl | rfl | rfl | rfl | rfl | rfl | rfl | rfl | rfl | rfl | rfl | rfl | rfl | rfl | rfl | rfl | rfl | rfl | rfl | rfl | rfl | rfl | rfl | rfl | rfl
    · cases _e
    · cases _e
    · cases _e
    · cases _e
    · cases _e
    · cases _e
    · cases _e
    · cases _e
    · cases _e
    · cases _e
    · cases _e
    · cases _e
    · cases _e
    · cases _e
    · cases _e
    · cases _e
    · cases _e
    · cases _e
    · cases _e
    · cases _e
    · cases _e
    · cases _e
    · cases _e
    · cases _e
    · cases _e
    · exact ⟨pin_laid_unicode_utf8_first, by kernel_rfl⟩) fits2
theorem fits3 : Tryz.pinned.checked.prog.listedFits [("unicode/utf8.acceptRanges", Rows.laid_unicode_utf8_acceptRanges), ("errors.errorType", Rows.laid_errors_errorType), ("larder/sheet.ErrOpen", Rows.laid_larder_sheet_ErrOpen), ("larder/sheet.ErrQuote", Rows.laid_larder_sheet_ErrQuote), ("larder/sheet.ErrLine", Rows.laid_larder_sheet_ErrLine), ("larder/sheet.ErrByte", Rows.laid_larder_sheet_ErrByte), ("larder/sheet.ErrCell", Rows.laid_larder_sheet_ErrCell), ("larder/sheet.ErrCells", Rows.laid_larder_sheet_ErrCells), ("larder/sheet.ErrRows", Rows.laid_larder_sheet_ErrRows), ("larder/sheet.ErrRagged", Rows.laid_larder_sheet_ErrRagged), ("larder/sheet.ErrDone", Rows.laid_larder_sheet_ErrDone), ("larder/sheet.ErrLong", Rows.laid_larder_sheet_ErrLong), ("unicode/utf8.first", Rows.laid_unicode_utf8_first)] = true := by
  unfold Program.listedFits
  rw [noOwnUnsafe]
  kernel_rfl
theorem tie3 : Tryz.prog.laidByTextLater [("unicode/utf8.acceptRanges", Rows.laid_unicode_utf8_acceptRanges), ("errors.errorType", Rows.laid_errors_errorType), ("larder/sheet.ErrOpen", Rows.laid_larder_sheet_ErrOpen), ("larder/sheet.ErrQuote", Rows.laid_larder_sheet_ErrQuote), ("larder/sheet.ErrLine", Rows.laid_larder_sheet_ErrLine), ("larder/sheet.ErrByte", Rows.laid_larder_sheet_ErrByte), ("larder/sheet.ErrCell", Rows.laid_larder_sheet_ErrCell), ("larder/sheet.ErrCells", Rows.laid_larder_sheet_ErrCells), ("larder/sheet.ErrRows", Rows.laid_larder_sheet_ErrRows), ("larder/sheet.ErrRagged", Rows.laid_larder_sheet_ErrRagged), ("larder/sheet.ErrDone", Rows.laid_larder_sheet_ErrDone), ("larder/sheet.ErrLong", Rows.laid_larder_sheet_ErrLong)] [.data, .handle, .sentinel, .sentinel, .sentinel, .sentinel, .sentinel, .sentinel, .sentinel, .sentinel, .sentinel, .sentinel] true :=
  Program.laidByTextLater.sub seatTie1 ["unicode/utf8.acceptRanges", "errors.errorType", "larder/sheet.ErrOpen", "larder/sheet.ErrQuote", "larder/sheet.ErrLine", "larder/sheet.ErrByte", "larder/sheet.ErrCell", "larder/sheet.ErrCells", "larder/sheet.ErrRows", "larder/sheet.ErrRagged", "larder/sheet.ErrDone", "larder/sheet.ErrLong"] (by kernel_rfl) (by kernel_rfl)
theorem sheetFirst_row_tie : Rows.sheetFirstRow.laidByTextAt .later Tryz.pinned [.data, .handle, .sentinel, .sentinel, .sentinel, .sentinel, .sentinel, .sentinel, .sentinel, .sentinel, .sentinel, .sentinel, .pinned] true :=
  OpenClaim.laidByTextAt_pinned rfl rfl tie3 rfl rfl rfl rfl (fun y hy _e => by
    simp only [Rows.sheetFirstRow, List.zip_cons_cons, List.zip_nil_right, List.mem_cons, List.mem_nil_iff, or_false] at hy
    rcases hy with rfl | rfl | rfl | rfl | rfl | rfl | rfl | rfl | rfl | rfl | rfl | rfl | rfl
    · cases _e
    · cases _e
    · cases _e
    · cases _e
    · cases _e
    · cases _e
    · cases _e
    · cases _e
    · cases _e
    · cases _e
    · cases _e
    · cases _e
    · exact ⟨pin_laid_unicode_utf8_first, by kernel_rfl⟩) fits3
theorem sheetReadsUpto_row_tie : Rows.sheetReadsUptoRow.laidByTextAt .later Tryz.pinned [.data, .data, .data, .handle, .sentinel, .sentinel, .sentinel, .sentinel, .sentinel, .sentinel, .sentinel, .sentinel, .sentinel, .sentinel, .sentinel, .sentinel, .sentinel, .sentinel, .sentinel, .sentinel, .sentinel, .sentinel, .sentinel, .sentinel] true :=
  OpenClaim.laidByTextAt_later rfl rfl tie noOwnUnsafe
theorem sheetPrintsUpto_row_tie : Rows.sheetPrintsUptoRow.laidByTextAt .later Tryz.pinned [.data, .data, .data, .data, .handle, .sentinel, .sentinel, .sentinel, .sentinel, .sentinel, .sentinel, .sentinel, .sentinel, .sentinel, .sentinel, .sentinel, .sentinel, .sentinel, .sentinel, .sentinel, .sentinel, .sentinel, .sentinel, .sentinel, .sentinel, .pinned] true :=
  OpenClaim.laidByTextAt_pinned rfl rfl tie2 rfl rfl rfl rfl (fun y hy _e => by
    simp only [Rows.sheetPrintsUptoRow, List.zip_cons_cons, List.zip_nil_right, List.mem_cons, List.mem_nil_iff, or_false] at hy
    rcases hy with rfl | rfl | rfl | rfl | rfl | rfl | rfl | rfl | rfl | rfl | rfl | rfl | rfl | rfl | rfl | rfl | rfl | rfl | rfl | rfl | rfl | rfl | rfl | rfl | rfl | rfl
    · cases _e
    · cases _e
    · cases _e
    · cases _e
    · cases _e
    · cases _e
    · cases _e
    · cases _e
    · cases _e
    · cases _e
    · cases _e
    · cases _e
    · cases _e
    · cases _e
    · cases _e
    · cases _e
    · cases _e
    · cases _e
    · cases _e
    · cases _e
    · cases _e
    · cases _e
    · cases _e
    · cases _e
    · cases _e
    · exact ⟨pin_laid_unicode_utf8_first, by kernel_rfl⟩) fits2
theorem sheetFirstUpto_row_tie : Rows.sheetFirstUptoRow.laidByTextAt .later Tryz.pinned [.data, .handle, .sentinel, .sentinel, .sentinel, .sentinel, .sentinel, .sentinel, .sentinel, .sentinel, .sentinel, .sentinel, .pinned] true :=
  OpenClaim.laidByTextAt_pinned rfl rfl tie3 rfl rfl rfl rfl (fun y hy _e => by
    simp only [Rows.sheetFirstUptoRow, List.zip_cons_cons, List.zip_nil_right, List.mem_cons, List.mem_nil_iff, or_false] at hy
    rcases hy with rfl | rfl | rfl | rfl | rfl | rfl | rfl | rfl | rfl | rfl | rfl | rfl | rfl
    · cases _e
    · cases _e
    · cases _e
    · cases _e
    · cases _e
    · cases _e
    · cases _e
    · cases _e
    · cases _e
    · cases _e
    · cases _e
    · cases _e
    · exact ⟨pin_laid_unicode_utf8_first, by kernel_rfl⟩) fits3
theorem sheetNilUpto_row_tie : Rows.sheetNilUptoRow.laidByTextAt .later Tryz.pinned [.data, .data, .data, .data, .handle, .sentinel, .sentinel, .sentinel, .sentinel, .sentinel, .sentinel, .sentinel, .sentinel, .sentinel, .sentinel, .sentinel, .sentinel, .sentinel, .sentinel, .sentinel, .sentinel, .sentinel, .sentinel, .sentinel, .sentinel, .pinned] true :=
  OpenClaim.laidByTextAt_pinned rfl rfl tie2 rfl rfl rfl rfl (fun y hy _e => by
    simp only [Rows.sheetNilUptoRow, List.zip_cons_cons, List.zip_nil_right, List.mem_cons, List.mem_nil_iff, or_false] at hy
    rcases hy with rfl | rfl | rfl | rfl | rfl | rfl | rfl | rfl | rfl | rfl | rfl | rfl | rfl | rfl | rfl | rfl | rfl | rfl | rfl | rfl | rfl | rfl | rfl | rfl | rfl | rfl
    · cases _e
    · cases _e
    · cases _e
    · cases _e
    · cases _e
    · cases _e
    · cases _e
    · cases _e
    · cases _e
    · cases _e
    · cases _e
    · cases _e
    · cases _e
    · cases _e
    · cases _e
    · cases _e
    · cases _e
    · cases _e
    · cases _e
    · cases _e
    · cases _e
    · cases _e
    · cases _e
    · cases _e
    · cases _e
    · exact ⟨pin_laid_unicode_utf8_first, by kernel_rfl⟩) fits2
end Go.Proofs.YtappphffbnkloaaGreatDoor
