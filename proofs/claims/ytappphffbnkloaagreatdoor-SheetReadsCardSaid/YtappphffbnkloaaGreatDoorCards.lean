/-
  DERIVED. GIVEN WITH THE SEED: THE CARDS: each row of YtappphffbnkloaaGreatDoorRows.lean that lists a variable, with what it lists TIED to the program's text (the seventh form; the later family's looks); each row that meets fmt, with fmt's text TOLD by the authors' own Lean function (tested against real Go, not proved from fmt's source: count such statements apart). THE CARD IS WHAT COUNTS. Prove the row's statement (the work); the ties are given (YtappphffbnkloaaGreatDoorTie.lean); close each card by the builder's one call (the guide's Derived/Test/ToyasCard.lean, 'card_holds'). Laid BY PROGRAM, IN A SANDBOX (cutbox-door.mjs). By AI agents, Wed Nov 11 2026. No macro, syntax, notation, axiom, sorry.
-/
import Derived.Test.YtappphffbnkloaaGreatDoorRows
import GoSem.ClaimSeven
namespace Go.Proofs.YtappphffbnkloaaGreatDoor
namespace Rows

/-- THE TIED CARD OF 'larderlaw04.SheetReads'. -/
def sheetReadsCard : Claim7 := { stood := { row := sheetReadsRow, standIns := [], harness := (true, "a0e5e54866a29060525a9d47b33cdfd434b802f209f1a14b7066b8e3df1fb127"), looks := true }, kinds := [], alts := [], laidByText := true, laidKinds := [.data, .data, .data, .handle, .sentinel, .sentinel, .sentinel, .sentinel, .sentinel, .sentinel, .sentinel, .sentinel, .sentinel, .sentinel, .sentinel, .sentinel, .sentinel, .sentinel, .sentinel, .sentinel, .sentinel, .sentinel, .sentinel, .sentinel], laidTests := true, laidLooks := .later }
def SheetReadsCardSaid : Prop := Claim7.holds Tryz.pinned (.plain (OpenSpec.ofChange sheetReadsSpec)) sheetReadsCard

/-- THE TIED CARD OF 'larderlaw04.SheetPrints'. -/
def sheetPrintsCard : Claim7 := { stood := { row := sheetPrintsRow, standIns := [], harness := (true, "a0e5e54866a29060525a9d47b33cdfd434b802f209f1a14b7066b8e3df1fb127"), looks := true }, kinds := [], alts := [], laidByText := true, laidKinds := [.data, .data, .data, .data, .handle, .sentinel, .sentinel, .sentinel, .sentinel, .sentinel, .sentinel, .sentinel, .sentinel, .sentinel, .sentinel, .sentinel, .sentinel, .sentinel, .sentinel, .sentinel, .sentinel, .sentinel, .sentinel, .sentinel, .sentinel, .pinned], laidTests := true, laidLooks := .later }
def SheetPrintsCardSaid : Prop := Claim7.holds Tryz.pinned (.plain (OpenSpec.ofChange sheetPrintsSpec)) sheetPrintsCard

/-- THE TIED CARD OF 'larderlaw04.SheetFirst'. -/
def sheetFirstCard : Claim7 := { stood := { row := sheetFirstRow, standIns := [], harness := (true, "a0e5e54866a29060525a9d47b33cdfd434b802f209f1a14b7066b8e3df1fb127"), looks := true }, kinds := [], alts := [], laidByText := true, laidKinds := [.data, .handle, .sentinel, .sentinel, .sentinel, .sentinel, .sentinel, .sentinel, .sentinel, .sentinel, .sentinel, .sentinel, .pinned], laidTests := true, laidLooks := .later }
def SheetFirstCardSaid : Prop := Claim7.holds Tryz.pinned (.plain (OpenSpec.ofChange sheetFirstSpec)) sheetFirstCard

/-- THE TIED CARD OF 'larderlaw04.SheetNil'. -/
def sheetNilCard : Claim7 := { stood := { row := sheetNilRow, standIns := [], harness := (true, "a0e5e54866a29060525a9d47b33cdfd434b802f209f1a14b7066b8e3df1fb127"), looks := true }, kinds := [], alts := [], laidByText := true, laidKinds := [.data, .data, .data, .data, .handle, .sentinel, .sentinel, .sentinel, .sentinel, .sentinel, .sentinel, .sentinel, .sentinel, .sentinel, .sentinel, .sentinel, .sentinel, .sentinel, .sentinel, .sentinel, .sentinel, .sentinel, .sentinel, .sentinel, .sentinel, .pinned], laidTests := true, laidLooks := .later }
def SheetNilCardSaid : Prop := Claim7.holds Tryz.pinned (.plain (OpenSpec.ofChange sheetNilSpec)) sheetNilCard

/-- THE SECOND FORM's CARD OF 'larderlaw04.SheetReads'. -/
def sheetReadsUptoCard : Claim7 := { stood := { row := sheetReadsUptoRow, standIns := [], harness := (true, "a0e5e54866a29060525a9d47b33cdfd434b802f209f1a14b7066b8e3df1fb127"), looks := true }, kinds := [], alts := [], laidByText := true, laidKinds := [.data, .data, .data, .handle, .sentinel, .sentinel, .sentinel, .sentinel, .sentinel, .sentinel, .sentinel, .sentinel, .sentinel, .sentinel, .sentinel, .sentinel, .sentinel, .sentinel, .sentinel, .sentinel, .sentinel, .sentinel, .sentinel, .sentinel], laidTests := true, laidLooks := .later }
def SheetReadsUptoCardSaid : Prop := Claim7.holds Tryz.pinned (.plain (OpenSpec.upto sheetReadsSpec)) sheetReadsUptoCard

/-- THE SECOND FORM's CARD OF 'larderlaw04.SheetPrints'. -/
def sheetPrintsUptoCard : Claim7 := { stood := { row := sheetPrintsUptoRow, standIns := [], harness := (true, "a0e5e54866a29060525a9d47b33cdfd434b802f209f1a14b7066b8e3df1fb127"), looks := true }, kinds := [], alts := [], laidByText := true, laidKinds := [.data, .data, .data, .data, .handle, .sentinel, .sentinel, .sentinel, .sentinel, .sentinel, .sentinel, .sentinel, .sentinel, .sentinel, .sentinel, .sentinel, .sentinel, .sentinel, .sentinel, .sentinel, .sentinel, .sentinel, .sentinel, .sentinel, .sentinel, .pinned], laidTests := true, laidLooks := .later }
def SheetPrintsUptoCardSaid : Prop := Claim7.holds Tryz.pinned (.plain (OpenSpec.upto sheetPrintsSpec)) sheetPrintsUptoCard

/-- THE SECOND FORM's CARD OF 'larderlaw04.SheetFirst'. -/
def sheetFirstUptoCard : Claim7 := { stood := { row := sheetFirstUptoRow, standIns := [], harness := (true, "a0e5e54866a29060525a9d47b33cdfd434b802f209f1a14b7066b8e3df1fb127"), looks := true }, kinds := [], alts := [], laidByText := true, laidKinds := [.data, .handle, .sentinel, .sentinel, .sentinel, .sentinel, .sentinel, .sentinel, .sentinel, .sentinel, .sentinel, .sentinel, .pinned], laidTests := true, laidLooks := .later }
def SheetFirstUptoCardSaid : Prop := Claim7.holds Tryz.pinned (.plain (OpenSpec.upto sheetFirstSpec)) sheetFirstUptoCard

/-- THE SECOND FORM's CARD OF 'larderlaw04.SheetNil'. -/
def sheetNilUptoCard : Claim7 := { stood := { row := sheetNilUptoRow, standIns := [], harness := (true, "a0e5e54866a29060525a9d47b33cdfd434b802f209f1a14b7066b8e3df1fb127"), looks := true }, kinds := [], alts := [], laidByText := true, laidKinds := [.data, .data, .data, .data, .handle, .sentinel, .sentinel, .sentinel, .sentinel, .sentinel, .sentinel, .sentinel, .sentinel, .sentinel, .sentinel, .sentinel, .sentinel, .sentinel, .sentinel, .sentinel, .sentinel, .sentinel, .sentinel, .sentinel, .sentinel, .pinned], laidTests := true, laidLooks := .later }
def SheetNilUptoCardSaid : Prop := Claim7.holds Tryz.pinned (.plain (OpenSpec.upto sheetNilSpec)) sheetNilUptoCard
end Rows
end Go.Proofs.YtappphffbnkloaaGreatDoor
