/-
  DERIVED. GIVEN WITH THE SEED: THE PROGRAM's TIES (one call each: nine closed facts by the kernel) AND EACH ROW's TIE, after the 31st guide's Derived/Test/Toyas{Tie, Card}.lean. No idea stands in it: it is a product of the set-up. Laid BY PROGRAM, IN A SANDBOX (cutbox-door.mjs). By AI agents, Wed Nov 11 2026. No macro, syntax, notation, axiom, sorry.
-/
import Derived.Test.YtjifinacnofmiaaDoorRows
import Derived.LaidByTextLater
import Derived.SevenTiedAt
import Derived.LaidSub
import Derived.LaidOnce
namespace Go.Proofs.YtjifinacnofmiaaDoor
open Go
set_option maxRecDepth 100000
theorem seatTie1 : Tryd.prog.laidByTextLater [("larder/cal.ahead", Rows.laid_larder_cal_ahead), ("larder/larderlaw03.mark", Rows.laid_larder_larderlaw03_mark)] [.data, .data] true :=
  Program.laidByTextLater_by_one 19 8 15 (by kernel_rfl) (by kernel_rfl) (by kernel_rfl) (by kernel_rfl) (by kernel_rfl) (by kernel_rfl) (fun _ _ => by kernel_rfl)
theorem noOwnUnsafe : Tryd.pinned.checked.prog.headLifts.contains "ownunsafe" = false := by kernel_rfl
theorem tie : Tryd.prog.laidByTextLater [("larder/cal.ahead", Rows.laid_larder_cal_ahead), ("larder/larderlaw03.mark", Rows.laid_larder_larderlaw03_mark)] [.data, .data] true :=
  Program.laidByTextLater.sub seatTie1 ["larder/cal.ahead", "larder/larderlaw03.mark"] (by kernel_rfl) (by kernel_rfl)
theorem calOpens_row_tie : Rows.calOpensRow.laidByTextAt .later Tryd.pinned [.data, .data] true :=
  OpenClaim.laidByTextAt_later rfl rfl tie noOwnUnsafe
theorem tie2 : Tryd.prog.laidByTextLater [("larder/cal.ahead", Rows.laid_larder_cal_ahead)] [.data] true :=
  Program.laidByTextLater.sub seatTie1 ["larder/cal.ahead"] (by kernel_rfl) (by kernel_rfl)
theorem calShop_row_tie : Rows.calShopRow.laidByTextAt .later Tryd.pinned [.data] true :=
  OpenClaim.laidByTextAt_later rfl rfl tie2 noOwnUnsafe
theorem calOpensUpto_row_tie : Rows.calOpensUptoRow.laidByTextAt .later Tryd.pinned [.data, .data] true :=
  OpenClaim.laidByTextAt_later rfl rfl tie noOwnUnsafe
theorem calShopUpto_row_tie : Rows.calShopUptoRow.laidByTextAt .later Tryd.pinned [.data] true :=
  OpenClaim.laidByTextAt_later rfl rfl tie2 noOwnUnsafe
end Go.Proofs.YtjifinacnofmiaaDoor
