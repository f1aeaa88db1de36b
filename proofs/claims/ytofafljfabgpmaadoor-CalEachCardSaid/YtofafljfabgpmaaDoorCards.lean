/-
  DERIVED. GIVEN WITH THE SEED: THE CARDS: each row of YtofafljfabgpmaaDoorRows.lean that lists a variable, with what it lists TIED to the program's text (the seventh form; the later family's looks); each row that meets fmt, with fmt's text TOLD by the authors' own Lean function (tested against real Go, not proved from fmt's source: count such statements apart). THE CARD IS WHAT COUNTS. Prove the row's statement (the work); the ties are given (YtofafljfabgpmaaDoorTie.lean); close each card by the builder's one call (the guide's Derived/Test/ToyasCard.lean, 'card_holds'). Laid BY PROGRAM, IN A SANDBOX (cutbox-door.mjs). By AI agents, Wed Nov 11 2026. No macro, syntax, notation, axiom, sorry.
-/
import Derived.Test.YtofafljfabgpmaaDoorRows
import GoSem.ClaimSeven
namespace Go.Proofs.YtofafljfabgpmaaDoor
namespace Rows

/-- THE TIED CARD OF 'larderlaw03.CalDays'. -/
def calDaysCard : Claim7 := { stood := { row := calDaysRow, standIns := [], harness := (true, "51eb129f101609c5296c83c0ccfa231c13b00733c9850b470e292981db5bc02b"), looks := false }, kinds := [], alts := [], laidByText := true, laidKinds := [.data], laidTests := true, laidLooks := .later }
def CalDaysCardSaid : Prop := Claim7.holds Tryd.pinned (.plain (OpenSpec.ofChange calDaysSpec)) calDaysCard

/-- THE TIED CARD OF 'larderlaw03.CalBack'. -/
def calBackCard : Claim7 := { stood := { row := calBackRow, standIns := [], harness := (true, "51eb129f101609c5296c83c0ccfa231c13b00733c9850b470e292981db5bc02b"), looks := false }, kinds := [], alts := [], laidByText := true, laidKinds := [.data], laidTests := true, laidLooks := .later }
def CalBackCardSaid : Prop := Claim7.holds Tryd.pinned (.plain (OpenSpec.ofChange calBackSpec)) calBackCard

/-- THE TIED CARD OF 'larderlaw03.CalEach'. -/
def calEachCard : Claim7 := { stood := { row := calEachRow, standIns := [], harness := (true, "51eb129f101609c5296c83c0ccfa231c13b00733c9850b470e292981db5bc02b"), looks := false }, kinds := [], alts := [], laidByText := true, laidKinds := [.data], laidTests := true, laidLooks := .later }
def CalEachCardSaid : Prop := Claim7.holds Tryd.pinned (.plain (OpenSpec.ofChange calEachSpec)) calEachCard

/-- THE TIED CARD OF 'larderlaw03.CalWalk'. -/
def calWalkCard : Claim7 := { stood := { row := calWalkRow, standIns := [], harness := (true, "51eb129f101609c5296c83c0ccfa231c13b00733c9850b470e292981db5bc02b"), looks := false }, kinds := [], alts := [], laidByText := true, laidKinds := [.data], laidTests := true, laidLooks := .later }
def CalWalkCardSaid : Prop := Claim7.holds Tryd.pinned (.plain (OpenSpec.ofChange calWalkSpec)) calWalkCard

/-- THE TIED CARD OF 'larderlaw03.CalCycle'. -/
def calCycleCard : Claim7 := { stood := { row := calCycleRow, standIns := [], harness := (true, "51eb129f101609c5296c83c0ccfa231c13b00733c9850b470e292981db5bc02b"), looks := false }, kinds := [], alts := [], laidByText := true, laidKinds := [.data], laidTests := true, laidLooks := .later }
def CalCycleCardSaid : Prop := Claim7.holds Tryd.pinned (.plain (OpenSpec.ofChange calCycleSpec)) calCycleCard

/-- THE TIED CARD OF 'larderlaw03.CalWeeks'. -/
def calWeeksCard : Claim7 := { stood := { row := calWeeksRow, standIns := [], harness := (true, "51eb129f101609c5296c83c0ccfa231c13b00733c9850b470e292981db5bc02b"), looks := false }, kinds := [], alts := [], laidByText := true, laidKinds := [.data], laidTests := true, laidLooks := .later }
def CalWeeksCardSaid : Prop := Claim7.holds Tryd.pinned (.plain (OpenSpec.ofChange calWeeksSpec)) calWeeksCard

/-- THE TIED CARD OF 'larderlaw03.CalWeekly'. -/
def calWeeklyCard : Claim7 := { stood := { row := calWeeklyRow, standIns := [], harness := (true, "51eb129f101609c5296c83c0ccfa231c13b00733c9850b470e292981db5bc02b"), looks := false }, kinds := [], alts := [], laidByText := true, laidKinds := [.data], laidTests := true, laidLooks := .later }
def CalWeeklyCardSaid : Prop := Claim7.holds Tryd.pinned (.plain (OpenSpec.ofChange calWeeklySpec)) calWeeklyCard

/-- THE TIED CARD OF 'larderlaw03.CalPrints'. -/
def calPrintsCard : Claim7 := { stood := { row := calPrintsRow, standIns := [], harness := (true, "51eb129f101609c5296c83c0ccfa231c13b00733c9850b470e292981db5bc02b"), looks := false }, kinds := [], alts := [], laidByText := true, laidKinds := [.data], laidTests := true, laidLooks := .later }
def CalPrintsCardSaid : Prop := Claim7.holds Tryd.pinned (.plain (OpenSpec.ofChange calPrintsSpec)) calPrintsCard

/-- THE TIED CARD OF 'larderlaw03.CalAdds'. -/
def calAddsCard : Claim7 := { stood := { row := calAddsRow, standIns := [], harness := (true, "51eb129f101609c5296c83c0ccfa231c13b00733c9850b470e292981db5bc02b"), looks := false }, kinds := [], alts := [], laidByText := true, laidKinds := [.data], laidTests := true, laidLooks := .later }
def CalAddsCardSaid : Prop := Claim7.holds Tryd.pinned (.plain (OpenSpec.ofChange calAddsSpec)) calAddsCard

/-- THE TIED CARD OF 'larderlaw03.CalForth'. -/
def calForthCard : Claim7 := { stood := { row := calForthRow, standIns := [], harness := (true, "51eb129f101609c5296c83c0ccfa231c13b00733c9850b470e292981db5bc02b"), looks := false }, kinds := [], alts := [], laidByText := true, laidKinds := [.data], laidTests := true, laidLooks := .later }
def CalForthCardSaid : Prop := Claim7.holds Tryd.pinned (.plain (OpenSpec.ofChange calForthSpec)) calForthCard

/-- THE SECOND FORM's CARD OF 'larderlaw03.CalDays'. -/
def calDaysUptoCard : Claim7 := { stood := { row := calDaysUptoRow, standIns := [], harness := (true, "51eb129f101609c5296c83c0ccfa231c13b00733c9850b470e292981db5bc02b"), looks := false }, kinds := [], alts := [], laidByText := true, laidKinds := [.data], laidTests := true, laidLooks := .later }
def CalDaysUptoCardSaid : Prop := Claim7.holds Tryd.pinned (.plain (OpenSpec.upto calDaysSpec)) calDaysUptoCard

/-- THE SECOND FORM's CARD OF 'larderlaw03.CalBack'. -/
def calBackUptoCard : Claim7 := { stood := { row := calBackUptoRow, standIns := [], harness := (true, "51eb129f101609c5296c83c0ccfa231c13b00733c9850b470e292981db5bc02b"), looks := false }, kinds := [], alts := [], laidByText := true, laidKinds := [.data], laidTests := true, laidLooks := .later }
def CalBackUptoCardSaid : Prop := Claim7.holds Tryd.pinned (.plain (OpenSpec.upto calBackSpec)) calBackUptoCard

/-- THE SECOND FORM's CARD OF 'larderlaw03.CalEach'. -/
def calEachUptoCard : Claim7 := { stood := { row := calEachUptoRow, standIns := [], harness := (true, "51eb129f101609c5296c83c0ccfa231c13b00733c9850b470e292981db5bc02b"), looks := false }, kinds := [], alts := [], laidByText := true, laidKinds := [.data], laidTests := true, laidLooks := .later }
def CalEachUptoCardSaid : Prop := Claim7.holds Tryd.pinned (.plain (OpenSpec.upto calEachSpec)) calEachUptoCard

/-- THE SECOND FORM's CARD OF 'larderlaw03.CalWalk'. -/
def calWalkUptoCard : Claim7 := { stood := { row := calWalkUptoRow, standIns := [], harness := (true, "51eb129f101609c5296c83c0ccfa231c13b00733c9850b470e292981db5bc02b"), looks := false }, kinds := [], alts := [], laidByText := true, laidKinds := [.data], laidTests := true, laidLooks := .later }
def CalWalkUptoCardSaid : Prop := Claim7.holds Tryd.pinned (.plain (OpenSpec.upto calWalkSpec)) calWalkUptoCard

/-- THE SECOND FORM's CARD OF 'larderlaw03.CalCycle'. -/
def calCycleUptoCard : Claim7 := { stood := { row := calCycleUptoRow, standIns := [], harness := (true, "51eb129f101609c5296c83c0ccfa231c13b00733c9850b470e292981db5bc02b"), looks := false }, kinds := [], alts := [], laidByText := true, laidKinds := [.data], laidTests := true, laidLooks := .later }
def CalCycleUptoCardSaid : Prop := Claim7.holds Tryd.pinned (.plain (OpenSpec.upto calCycleSpec)) calCycleUptoCard

/-- THE SECOND FORM's CARD OF 'larderlaw03.CalWeeks'. -/
def calWeeksUptoCard : Claim7 := { stood := { row := calWeeksUptoRow, standIns := [], harness := (true, "51eb129f101609c5296c83c0ccfa231c13b00733c9850b470e292981db5bc02b"), looks := false }, kinds := [], alts := [], laidByText := true, laidKinds := [.data], laidTests := true, laidLooks := .later }
def CalWeeksUptoCardSaid : Prop := Claim7.holds Tryd.pinned (.plain (OpenSpec.upto calWeeksSpec)) calWeeksUptoCard

/-- THE SECOND FORM's CARD OF 'larderlaw03.CalWeekly'. -/
def calWeeklyUptoCard : Claim7 := { stood := { row := calWeeklyUptoRow, standIns := [], harness := (true, "51eb129f101609c5296c83c0ccfa231c13b00733c9850b470e292981db5bc02b"), looks := false }, kinds := [], alts := [], laidByText := true, laidKinds := [.data], laidTests := true, laidLooks := .later }
def CalWeeklyUptoCardSaid : Prop := Claim7.holds Tryd.pinned (.plain (OpenSpec.upto calWeeklySpec)) calWeeklyUptoCard

/-- THE SECOND FORM's CARD OF 'larderlaw03.CalPrints'. -/
def calPrintsUptoCard : Claim7 := { stood := { row := calPrintsUptoRow, standIns := [], harness := (true, "51eb129f101609c5296c83c0ccfa231c13b00733c9850b470e292981db5bc02b"), looks := false }, kinds := [], alts := [], laidByText := true, laidKinds := [.data], laidTests := true, laidLooks := .later }
def CalPrintsUptoCardSaid : Prop := Claim7.holds Tryd.pinned (.plain (OpenSpec.upto calPrintsSpec)) calPrintsUptoCard

/-- THE SECOND FORM's CARD OF 'larderlaw03.CalAdds'. -/
def calAddsUptoCard : Claim7 := { stood := { row := calAddsUptoRow, standIns := [], harness := (true, "51eb129f101609c5296c83c0ccfa231c13b00733c9850b470e292981db5bc02b"), looks := false }, kinds := [], alts := [], laidByText := true, laidKinds := [.data], laidTests := true, laidLooks := .later }
def CalAddsUptoCardSaid : Prop := Claim7.holds Tryd.pinned (.plain (OpenSpec.upto calAddsSpec)) calAddsUptoCard

/-- THE SECOND FORM's CARD OF 'larderlaw03.CalForth'. -/
def calForthUptoCard : Claim7 := { stood := { row := calForthUptoRow, standIns := [], harness := (true, "51eb129f101609c5296c83c0ccfa231c13b00733c9850b470e292981db5bc02b"), looks := false }, kinds := [], alts := [], laidByText := true, laidKinds := [.data], laidTests := true, laidLooks := .later }
def CalForthUptoCardSaid : Prop := Claim7.holds Tryd.pinned (.plain (OpenSpec.upto calForthSpec)) calForthUptoCard
end Rows
end Go.Proofs.YtofafljfabgpmaaDoor
