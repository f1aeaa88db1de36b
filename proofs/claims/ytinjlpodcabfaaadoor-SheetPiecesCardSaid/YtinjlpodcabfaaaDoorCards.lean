/-
  DERIVED. GIVEN WITH THE SEED: THE CARDS: each row of YtinjlpodcabfaaaDoorRows.lean that lists a variable, with what it lists TIED to the program's text (the seventh form; the later family's looks); each row that meets fmt, with fmt's text TOLD by the authors' own Lean function (tested against real Go, not proved from fmt's source: count such statements apart). THE CARD IS WHAT COUNTS. Prove the row's statement (the work); the ties are given (YtinjlpodcabfaaaDoorTie.lean); close each card by the builder's one call (the guide's Derived/Test/ToyasCard.lean, 'card_holds'). Laid BY PROGRAM, IN A SANDBOX (cutbox-door.mjs). By AI agents, Wed Nov 11 2026. No macro, syntax, notation, axiom, sorry.
-/
import Derived.Test.YtinjlpodcabfaaaDoorRows
import GoSem.ClaimSeven
namespace Go.Proofs.YtinjlpodcabfaaaDoor
namespace Rows

/-- THE TIED CARD OF 'larderlaw04.SheetQuoted'. -/
def sheetQuotedCard : Claim7 := { stood := { row := sheetQuotedRow, standIns := [], harness := (true, "fb2a5bdbcf1324e1ea8f5a2bf45f0e2962b9ee8d43408748dffd36050f46484b"), looks := true }, kinds := [], alts := [], laidByText := true, laidKinds := [.handle, .sentinel, .sentinel, .sentinel, .sentinel, .sentinel, .sentinel, .sentinel, .sentinel, .sentinel, .sentinel], laidTests := true, laidLooks := .later }
def SheetQuotedCardSaid : Prop := Claim7.holds Tryd.pinned (.plain (OpenSpec.ofChange sheetQuotedSpec)) sheetQuotedCard

/-- THE TIED CARD OF 'larderlaw04.SheetStuck'. -/
def sheetStuckCard : Claim7 := { stood := { row := sheetStuckRow, standIns := [], harness := (true, "fb2a5bdbcf1324e1ea8f5a2bf45f0e2962b9ee8d43408748dffd36050f46484b"), looks := true }, kinds := [], alts := [], laidByText := true, laidKinds := [.handle, .sentinel, .sentinel, .sentinel, .sentinel, .sentinel, .sentinel, .sentinel, .sentinel, .sentinel, .sentinel, .sentinel, .sentinel, .sentinel, .sentinel, .sentinel, .sentinel, .sentinel, .sentinel, .sentinel, .sentinel], laidTests := true, laidLooks := .later }
def SheetStuckCardSaid : Prop := Claim7.holds Tryd.pinned (.plain (OpenSpec.ofChange sheetStuckSpec)) sheetStuckCard

/-- THE TIED CARD OF 'larderlaw04.SheetParses'. -/
def sheetParsesCard : Claim7 := { stood := { row := sheetParsesRow, standIns := [], harness := (true, "fb2a5bdbcf1324e1ea8f5a2bf45f0e2962b9ee8d43408748dffd36050f46484b"), looks := true }, kinds := [], alts := [], laidByText := true, laidKinds := [.data, .data, .data, .handle, .sentinel, .sentinel, .sentinel, .sentinel, .sentinel, .sentinel, .sentinel, .sentinel, .sentinel, .sentinel, .sentinel, .sentinel, .sentinel, .sentinel, .sentinel, .sentinel, .sentinel, .sentinel, .sentinel, .sentinel], laidTests := true, laidLooks := .later }
def SheetParsesCardSaid : Prop := Claim7.holds Tryd.pinned (.plain (OpenSpec.ofChange sheetParsesSpec)) sheetParsesCard

/-- THE TIED CARD OF 'larderlaw04.SheetPieces'. -/
def sheetPiecesCard : Claim7 := { stood := { row := sheetPiecesRow, standIns := [], harness := (true, "fb2a5bdbcf1324e1ea8f5a2bf45f0e2962b9ee8d43408748dffd36050f46484b"), looks := true }, kinds := [], alts := [], laidByText := true, laidKinds := [.handle, .sentinel, .sentinel, .sentinel, .sentinel, .sentinel, .sentinel, .sentinel, .sentinel, .sentinel, .sentinel, .sentinel, .sentinel, .sentinel, .sentinel, .sentinel, .sentinel, .sentinel, .sentinel, .sentinel, .sentinel], laidTests := true, laidLooks := .later }
def SheetPiecesCardSaid : Prop := Claim7.holds Tryd.pinned (.plain (OpenSpec.ofChange sheetPiecesSpec)) sheetPiecesCard

/-- THE SECOND FORM's CARD OF 'larderlaw04.SheetQuoted'. -/
def sheetQuotedUptoCard : Claim7 := { stood := { row := sheetQuotedUptoRow, standIns := [], harness := (true, "fb2a5bdbcf1324e1ea8f5a2bf45f0e2962b9ee8d43408748dffd36050f46484b"), looks := true }, kinds := [], alts := [], laidByText := true, laidKinds := [.handle, .sentinel, .sentinel, .sentinel, .sentinel, .sentinel, .sentinel, .sentinel, .sentinel, .sentinel, .sentinel], laidTests := true, laidLooks := .later }
def SheetQuotedUptoCardSaid : Prop := Claim7.holds Tryd.pinned (.plain (OpenSpec.upto sheetQuotedSpec)) sheetQuotedUptoCard

/-- THE SECOND FORM's CARD OF 'larderlaw04.SheetStuck'. -/
def sheetStuckUptoCard : Claim7 := { stood := { row := sheetStuckUptoRow, standIns := [], harness := (true, "fb2a5bdbcf1324e1ea8f5a2bf45f0e2962b9ee8d43408748dffd36050f46484b"), looks := true }, kinds := [], alts := [], laidByText := true, laidKinds := [.handle, .sentinel, .sentinel, .sentinel, .sentinel, .sentinel, .sentinel, .sentinel, .sentinel, .sentinel, .sentinel, .sentinel, .sentinel, .sentinel, .sentinel, .sentinel, .sentinel, .sentinel, .sentinel, .sentinel, .sentinel], laidTests := true, laidLooks := .later }
def SheetStuckUptoCardSaid : Prop := Claim7.holds Tryd.pinned (.plain (OpenSpec.upto sheetStuckSpec)) sheetStuckUptoCard

/-- THE SECOND FORM's CARD OF 'larderlaw04.SheetParses'. -/
def sheetParsesUptoCard : Claim7 := { stood := { row := sheetParsesUptoRow, standIns := [], harness := (true, "fb2a5bdbcf1324e1ea8f5a2bf45f0e2962b9ee8d43408748dffd36050f46484b"), looks := true }, kinds := [], alts := [], laidByText := true, laidKinds := [.data, .data, .data, .handle, .sentinel, .sentinel, .sentinel, .sentinel, .sentinel, .sentinel, .sentinel, .sentinel, .sentinel, .sentinel, .sentinel, .sentinel, .sentinel, .sentinel, .sentinel, .sentinel, .sentinel, .sentinel, .sentinel, .sentinel], laidTests := true, laidLooks := .later }
def SheetParsesUptoCardSaid : Prop := Claim7.holds Tryd.pinned (.plain (OpenSpec.upto sheetParsesSpec)) sheetParsesUptoCard

/-- THE SECOND FORM's CARD OF 'larderlaw04.SheetPieces'. -/
def sheetPiecesUptoCard : Claim7 := { stood := { row := sheetPiecesUptoRow, standIns := [], harness := (true, "fb2a5bdbcf1324e1ea8f5a2bf45f0e2962b9ee8d43408748dffd36050f46484b"), looks := true }, kinds := [], alts := [], laidByText := true, laidKinds := [.handle, .sentinel, .sentinel, .sentinel, .sentinel, .sentinel, .sentinel, .sentinel, .sentinel, .sentinel, .sentinel, .sentinel, .sentinel, .sentinel, .sentinel, .sentinel, .sentinel, .sentinel, .sentinel, .sentinel, .sentinel], laidTests := true, laidLooks := .later }
def SheetPiecesUptoCardSaid : Prop := Claim7.holds Tryd.pinned (.plain (OpenSpec.upto sheetPiecesSpec)) sheetPiecesUptoCard
end Rows
end Go.Proofs.YtinjlpodcabfaaaDoor
