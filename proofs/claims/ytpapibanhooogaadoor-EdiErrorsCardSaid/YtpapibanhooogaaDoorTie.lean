/-
  DERIVED. GIVEN WITH THE SEED: THE PROGRAM's TIES (one call each: nine closed facts by the kernel) AND EACH ROW's TIE, after the 31st guide's Derived/Test/Toyas{Tie, Card}.lean. No idea stands in it: it is a product of the set-up. Laid BY PROGRAM, IN A SANDBOX (cutbox-door.mjs). By AI agents, Wed Nov 11 2026. No macro, syntax, notation, axiom, sorry.
-/
import Derived.Test.YtpapibanhooogaaDoorRows
import Derived.LaidByTextLater
import Derived.SevenTiedAt
import Derived.LaidSub
import Derived.LaidOnce
namespace Go.Proofs.YtpapibanhooogaaDoor
open Go
set_option maxRecDepth 100000
theorem seatTie1 : Tryd.prog.laidByTextLater [("math/bits.deBruijn32tab", Rows.laid_math_bits_deBruijn32tab), ("math/bits.deBruijn64tab", Rows.laid_math_bits_deBruijn64tab), ("internal/strconv.uint64pow10", Rows.laid_internal_strconv_uint64pow10), ("larder/edi.ErrLong", Rows.laid_larder_edi_ErrLong), ("larder/edi.ErrShort", Rows.laid_larder_edi_ErrShort), ("larder/edi.ErrTail", Rows.laid_larder_edi_ErrTail), ("larder/edi.ErrHead", Rows.laid_larder_edi_ErrHead), ("larder/edi.ErrSeparator", Rows.laid_larder_edi_ErrSeparator), ("larder/edi.ErrTag", Rows.laid_larder_edi_ErrTag), ("larder/edi.ErrElement", Rows.laid_larder_edi_ErrElement), ("larder/edi.ErrCount", Rows.laid_larder_edi_ErrCount), ("larder/edi.ErrControl", Rows.laid_larder_edi_ErrControl), ("larder/edi.ErrSet", Rows.laid_larder_edi_ErrSet), ("larder/edi.ErrDocument", Rows.laid_larder_edi_ErrDocument)] [.data, .data, .data, .sentinel, .sentinel, .sentinel, .sentinel, .sentinel, .sentinel, .sentinel, .sentinel, .sentinel, .sentinel, .sentinel] true :=
  Program.laidByTextLater_by_one 233 8 65 (by kernel_rfl) (by kernel_rfl) (by kernel_rfl) (by kernel_rfl) (by kernel_rfl) (by kernel_rfl) (fun _ _ => by kernel_rfl)
theorem noOwnUnsafe : Tryd.pinned.checked.prog.headLifts.contains "ownunsafe" = false := by kernel_rfl
theorem tie : Tryd.prog.laidByTextLater [("math/bits.deBruijn32tab", Rows.laid_math_bits_deBruijn32tab), ("math/bits.deBruijn64tab", Rows.laid_math_bits_deBruijn64tab), ("internal/strconv.uint64pow10", Rows.laid_internal_strconv_uint64pow10), ("larder/edi.ErrLong", Rows.laid_larder_edi_ErrLong), ("larder/edi.ErrShort", Rows.laid_larder_edi_ErrShort), ("larder/edi.ErrTail", Rows.laid_larder_edi_ErrTail), ("larder/edi.ErrHead", Rows.laid_larder_edi_ErrHead), ("larder/edi.ErrSeparator", Rows.laid_larder_edi_ErrSeparator), ("larder/edi.ErrTag", Rows.laid_larder_edi_ErrTag), ("larder/edi.ErrElement", Rows.laid_larder_edi_ErrElement), ("larder/edi.ErrCount", Rows.laid_larder_edi_ErrCount), ("larder/edi.ErrControl", Rows.laid_larder_edi_ErrControl), ("larder/edi.ErrSet", Rows.laid_larder_edi_ErrSet), ("larder/edi.ErrDocument", Rows.laid_larder_edi_ErrDocument)] [.data, .data, .data, .sentinel, .sentinel, .sentinel, .sentinel, .sentinel, .sentinel, .sentinel, .sentinel, .sentinel, .sentinel, .sentinel] true :=
  Program.laidByTextLater.sub seatTie1 ["math/bits.deBruijn32tab", "math/bits.deBruijn64tab", "internal/strconv.uint64pow10", "larder/edi.ErrLong", "larder/edi.ErrShort", "larder/edi.ErrTail", "larder/edi.ErrHead", "larder/edi.ErrSeparator", "larder/edi.ErrTag", "larder/edi.ErrElement", "larder/edi.ErrCount", "larder/edi.ErrControl", "larder/edi.ErrSet", "larder/edi.ErrDocument"] (by kernel_rfl) (by kernel_rfl)
theorem ediErrors_row_tie : Rows.ediErrorsRow.laidByTextAt .later Tryd.pinned [.data, .data, .data, .sentinel, .sentinel, .sentinel, .sentinel, .sentinel, .sentinel, .sentinel, .sentinel, .sentinel, .sentinel, .sentinel] true :=
  OpenClaim.laidByTextAt_later rfl rfl tie noOwnUnsafe
theorem ediErrorsUpto_row_tie : Rows.ediErrorsUptoRow.laidByTextAt .later Tryd.pinned [.data, .data, .data, .sentinel, .sentinel, .sentinel, .sentinel, .sentinel, .sentinel, .sentinel, .sentinel, .sentinel, .sentinel, .sentinel] true :=
  OpenClaim.laidByTextAt_later rfl rfl tie noOwnUnsafe
end Go.Proofs.YtpapibanhooogaaDoor
