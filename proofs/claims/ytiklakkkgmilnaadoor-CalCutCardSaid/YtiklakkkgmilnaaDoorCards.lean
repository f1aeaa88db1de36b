/-
  DERIVED. GIVEN WITH THE SEED: THE CARDS: each row of YtiklakkkgmilnaaDoorRows.lean that lists a variable, with what it lists TIED to the program's text (the seventh form; the later family's looks); each row that meets fmt, with fmt's text TOLD by the authors' own Lean function (tested against real Go, not proved from fmt's source: count such statements apart). THE CARD IS WHAT COUNTS. Prove the row's statement (the work); the ties are given (YtiklakkkgmilnaaDoorTie.lean); close each card by the builder's one call (the guide's Derived/Test/ToyasCard.lean, 'card_holds'). Laid BY PROGRAM, IN A SANDBOX (cutbox-door.mjs). By AI agents, Wed Nov 11 2026. No macro, syntax, notation, axiom, sorry.
-/
import Derived.Test.YtiklakkkgmilnaaDoorRows
import GoSem.ClaimSeven
namespace Go.Proofs.YtiklakkkgmilnaaDoor
namespace Rows

/-- THE TIED CARD OF 'larderlaw03.CalMonths'. -/
def calMonthsCard : Claim7 := { stood := { row := calMonthsRow, standIns := [], harness := (true, "328c28ed65964b3cac0cf68b682ca5e2f1955575564b744a938a6889805b0924"), looks := false }, kinds := [], alts := [], laidByText := true, laidKinds := [.data], laidTests := true, laidLooks := .later }
def CalMonthsCardSaid : Prop := Claim7.holds Tryd.pinned (.plain (OpenSpec.ofChange calMonthsSpec)) calMonthsCard

/-- THE TIED CARD OF 'larderlaw03.CalShows'. -/
def calShowsCard : Claim7 := { stood := { row := calShowsRow, standIns := [], harness := (true, "328c28ed65964b3cac0cf68b682ca5e2f1955575564b744a938a6889805b0924"), looks := false }, kinds := [], alts := [], laidByText := true, laidKinds := [.data], laidTests := true, laidLooks := .later }
def CalShowsCardSaid : Prop := Claim7.holds Tryd.pinned (.plain (OpenSpec.ofChange calShowsSpec)) calShowsCard

/-- THE TIED CARD OF 'larderlaw03.CalReads'. -/
def calReadsCard : Claim7 := { stood := { row := calReadsRow, standIns := [], harness := (true, "328c28ed65964b3cac0cf68b682ca5e2f1955575564b744a938a6889805b0924"), looks := false }, kinds := [], alts := [], laidByText := true, laidKinds := [.data], laidTests := true, laidLooks := .later }
def CalReadsCardSaid : Prop := Claim7.holds Tryd.pinned (.plain (OpenSpec.ofChange calReadsSpec)) calReadsCard

/-- THE TIED CARD OF 'larderlaw03.CalOpens'. -/
def calOpensCard : Claim7 := { stood := { row := calOpensRow, standIns := [], harness := (true, "328c28ed65964b3cac0cf68b682ca5e2f1955575564b744a938a6889805b0924"), looks := false }, kinds := [], alts := [], laidByText := true, laidKinds := [.data, .data], laidTests := true, laidLooks := .later }
def CalOpensCardSaid : Prop := Claim7.holds Tryd.pinned (.plain (OpenSpec.ofChange calOpensSpec)) calOpensCard

/-- THE TIED CARD OF 'larderlaw03.CalShop'. -/
def calShopCard : Claim7 := { stood := { row := calShopRow, standIns := [], harness := (true, "328c28ed65964b3cac0cf68b682ca5e2f1955575564b744a938a6889805b0924"), looks := false }, kinds := [], alts := [], laidByText := true, laidKinds := [.data], laidTests := true, laidLooks := .later }
def CalShopCardSaid : Prop := Claim7.holds Tryd.pinned (.plain (OpenSpec.ofChange calShopSpec)) calShopCard

/-- THE TIED CARD OF 'larderlaw03.CalRound'. -/
def calRoundCard : Claim7 := { stood := { row := calRoundRow, standIns := [], harness := (true, "328c28ed65964b3cac0cf68b682ca5e2f1955575564b744a938a6889805b0924"), looks := false }, kinds := [], alts := [], laidByText := true, laidKinds := [.data], laidTests := true, laidLooks := .later }
def CalRoundCardSaid : Prop := Claim7.holds Tryd.pinned (.plain (OpenSpec.ofChange calRoundSpec)) calRoundCard

/-- THE TIED CARD OF 'larderlaw03.CalInstants'. -/
def calInstantsCard : Claim7 := { stood := { row := calInstantsRow, standIns := [], harness := (true, "328c28ed65964b3cac0cf68b682ca5e2f1955575564b744a938a6889805b0924"), looks := false }, kinds := [], alts := [], laidByText := true, laidKinds := [.data], laidTests := true, laidLooks := .later }
def CalInstantsCardSaid : Prop := Claim7.holds Tryd.pinned (.plain (OpenSpec.ofChange calInstantsSpec)) calInstantsCard

/-- THE TIED CARD OF 'larderlaw03.CalMidnight'. -/
def calMidnightCard : Claim7 := { stood := { row := calMidnightRow, standIns := [], harness := (true, "328c28ed65964b3cac0cf68b682ca5e2f1955575564b744a938a6889805b0924"), looks := false }, kinds := [], alts := [], laidByText := true, laidKinds := [.data], laidTests := true, laidLooks := .later }
def CalMidnightCardSaid : Prop := Claim7.holds Tryd.pinned (.plain (OpenSpec.ofChange calMidnightSpec)) calMidnightCard

/-- THE TIED CARD OF 'larderlaw03.CalClock'. -/
def calClockCard : Claim7 := { stood := { row := calClockRow, standIns := [], harness := (true, "328c28ed65964b3cac0cf68b682ca5e2f1955575564b744a938a6889805b0924"), looks := false }, kinds := [], alts := [], laidByText := true, laidKinds := [.data], laidTests := true, laidLooks := .later }
def CalClockCardSaid : Prop := Claim7.holds Tryd.pinned (.plain (OpenSpec.ofChange calClockSpec)) calClockCard

/-- THE TIED CARD OF 'larderlaw03.CalCut'. -/
def calCutCard : Claim7 := { stood := { row := calCutRow, standIns := [], harness := (true, "328c28ed65964b3cac0cf68b682ca5e2f1955575564b744a938a6889805b0924"), looks := false }, kinds := [], alts := [], laidByText := true, laidKinds := [.data], laidTests := true, laidLooks := .later }
def CalCutCardSaid : Prop := Claim7.holds Tryd.pinned (.plain (OpenSpec.ofChange calCutSpec)) calCutCard

/-- THE SECOND FORM's CARD OF 'larderlaw03.CalMonths'. -/
def calMonthsUptoCard : Claim7 := { stood := { row := calMonthsUptoRow, standIns := [], harness := (true, "328c28ed65964b3cac0cf68b682ca5e2f1955575564b744a938a6889805b0924"), looks := false }, kinds := [], alts := [], laidByText := true, laidKinds := [.data], laidTests := true, laidLooks := .later }
def CalMonthsUptoCardSaid : Prop := Claim7.holds Tryd.pinned (.plain (OpenSpec.upto calMonthsSpec)) calMonthsUptoCard

/-- THE SECOND FORM's CARD OF 'larderlaw03.CalShows'. -/
def calShowsUptoCard : Claim7 := { stood := { row := calShowsUptoRow, standIns := [], harness := (true, "328c28ed65964b3cac0cf68b682ca5e2f1955575564b744a938a6889805b0924"), looks := false }, kinds := [], alts := [], laidByText := true, laidKinds := [.data], laidTests := true, laidLooks := .later }
def CalShowsUptoCardSaid : Prop := Claim7.holds Tryd.pinned (.plain (OpenSpec.upto calShowsSpec)) calShowsUptoCard

/-- THE SECOND FORM's CARD OF 'larderlaw03.CalReads'. -/
def calReadsUptoCard : Claim7 := { stood := { row := calReadsUptoRow, standIns := [], harness := (true, "328c28ed65964b3cac0cf68b682ca5e2f1955575564b744a938a6889805b0924"), looks := false }, kinds := [], alts := [], laidByText := true, laidKinds := [.data], laidTests := true, laidLooks := .later }
def CalReadsUptoCardSaid : Prop := Claim7.holds Tryd.pinned (.plain (OpenSpec.upto calReadsSpec)) calReadsUptoCard

/-- THE SECOND FORM's CARD OF 'larderlaw03.CalOpens'. -/
def calOpensUptoCard : Claim7 := { stood := { row := calOpensUptoRow, standIns := [], harness := (true, "328c28ed65964b3cac0cf68b682ca5e2f1955575564b744a938a6889805b0924"), looks := false }, kinds := [], alts := [], laidByText := true, laidKinds := [.data, .data], laidTests := true, laidLooks := .later }
def CalOpensUptoCardSaid : Prop := Claim7.holds Tryd.pinned (.plain (OpenSpec.upto calOpensSpec)) calOpensUptoCard

/-- THE SECOND FORM's CARD OF 'larderlaw03.CalShop'. -/
def calShopUptoCard : Claim7 := { stood := { row := calShopUptoRow, standIns := [], harness := (true, "328c28ed65964b3cac0cf68b682ca5e2f1955575564b744a938a6889805b0924"), looks := false }, kinds := [], alts := [], laidByText := true, laidKinds := [.data], laidTests := true, laidLooks := .later }
def CalShopUptoCardSaid : Prop := Claim7.holds Tryd.pinned (.plain (OpenSpec.upto calShopSpec)) calShopUptoCard

/-- THE SECOND FORM's CARD OF 'larderlaw03.CalRound'. -/
def calRoundUptoCard : Claim7 := { stood := { row := calRoundUptoRow, standIns := [], harness := (true, "328c28ed65964b3cac0cf68b682ca5e2f1955575564b744a938a6889805b0924"), looks := false }, kinds := [], alts := [], laidByText := true, laidKinds := [.data], laidTests := true, laidLooks := .later }
def CalRoundUptoCardSaid : Prop := Claim7.holds Tryd.pinned (.plain (OpenSpec.upto calRoundSpec)) calRoundUptoCard

/-- THE SECOND FORM's CARD OF 'larderlaw03.CalInstants'. -/
def calInstantsUptoCard : Claim7 := { stood := { row := calInstantsUptoRow, standIns := [], harness := (true, "328c28ed65964b3cac0cf68b682ca5e2f1955575564b744a938a6889805b0924"), looks := false }, kinds := [], alts := [], laidByText := true, laidKinds := [.data], laidTests := true, laidLooks := .later }
def CalInstantsUptoCardSaid : Prop := Claim7.holds Tryd.pinned (.plain (OpenSpec.upto calInstantsSpec)) calInstantsUptoCard

/-- THE SECOND FORM's CARD OF 'larderlaw03.CalMidnight'. -/
def calMidnightUptoCard : Claim7 := { stood := { row := calMidnightUptoRow, standIns := [], harness := (true, "328c28ed65964b3cac0cf68b682ca5e2f1955575564b744a938a6889805b0924"), looks := false }, kinds := [], alts := [], laidByText := true, laidKinds := [.data], laidTests := true, laidLooks := .later }
def CalMidnightUptoCardSaid : Prop := Claim7.holds Tryd.pinned (.plain (OpenSpec.upto calMidnightSpec)) calMidnightUptoCard

/-- THE SECOND FORM's CARD OF 'larderlaw03.CalClock'. -/
def calClockUptoCard : Claim7 := { stood := { row := calClockUptoRow, standIns := [], harness := (true, "328c28ed65964b3cac0cf68b682ca5e2f1955575564b744a938a6889805b0924"), looks := false }, kinds := [], alts := [], laidByText := true, laidKinds := [.data], laidTests := true, laidLooks := .later }
def CalClockUptoCardSaid : Prop := Claim7.holds Tryd.pinned (.plain (OpenSpec.upto calClockSpec)) calClockUptoCard

/-- THE SECOND FORM's CARD OF 'larderlaw03.CalCut'. -/
def calCutUptoCard : Claim7 := { stood := { row := calCutUptoRow, standIns := [], harness := (true, "328c28ed65964b3cac0cf68b682ca5e2f1955575564b744a938a6889805b0924"), looks := false }, kinds := [], alts := [], laidByText := true, laidKinds := [.data], laidTests := true, laidLooks := .later }
def CalCutUptoCardSaid : Prop := Claim7.holds Tryd.pinned (.plain (OpenSpec.upto calCutSpec)) calCutUptoCard
end Rows
end Go.Proofs.YtiklakkkgmilnaaDoor
