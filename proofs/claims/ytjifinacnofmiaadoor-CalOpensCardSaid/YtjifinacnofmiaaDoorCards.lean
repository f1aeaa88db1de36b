/-
  DERIVED. GIVEN WITH THE SEED: THE CARDS: each row of YtjifinacnofmiaaDoorRows.lean that lists a variable, with what it lists TIED to the program's text (the seventh form; the later family's looks); each row that meets fmt, with fmt's text TOLD by the authors' own Lean function (tested against real Go, not proved from fmt's source: count such statements apart). THE CARD IS WHAT COUNTS. Prove the row's statement (the work); the ties are given (YtjifinacnofmiaaDoorTie.lean); close each card by the builder's one call (the guide's Derived/Test/ToyasCard.lean, 'card_holds'). Laid BY PROGRAM, IN A SANDBOX (cutbox-door.mjs). By AI agents, Wed Nov 11 2026. No macro, syntax, notation, axiom, sorry.
-/
import Derived.Test.YtjifinacnofmiaaDoorRows
import GoSem.ClaimSeven
namespace Go.Proofs.YtjifinacnofmiaaDoor
namespace Rows

/-- THE TIED CARD OF 'larderlaw03.CalOpens'. -/
def calOpensCard : Claim7 := { stood := { row := calOpensRow, standIns := [], harness := (true, "d92f42f73bd31dcda327982efaa98081d1fc09a1152de87e684cc4bb08efd608"), looks := false }, kinds := [], alts := [], laidByText := true, laidKinds := [.data, .data], laidTests := true, laidLooks := .later }
def CalOpensCardSaid : Prop := Claim7.holds Tryd.pinned (.plain (OpenSpec.ofChange calOpensSpec)) calOpensCard

/-- THE TIED CARD OF 'larderlaw03.CalShop'. -/
def calShopCard : Claim7 := { stood := { row := calShopRow, standIns := [], harness := (true, "d92f42f73bd31dcda327982efaa98081d1fc09a1152de87e684cc4bb08efd608"), looks := false }, kinds := [], alts := [], laidByText := true, laidKinds := [.data], laidTests := true, laidLooks := .later }
def CalShopCardSaid : Prop := Claim7.holds Tryd.pinned (.plain (OpenSpec.ofChange calShopSpec)) calShopCard

/-- THE SECOND FORM's CARD OF 'larderlaw03.CalOpens'. -/
def calOpensUptoCard : Claim7 := { stood := { row := calOpensUptoRow, standIns := [], harness := (true, "d92f42f73bd31dcda327982efaa98081d1fc09a1152de87e684cc4bb08efd608"), looks := false }, kinds := [], alts := [], laidByText := true, laidKinds := [.data, .data], laidTests := true, laidLooks := .later }
def CalOpensUptoCardSaid : Prop := Claim7.holds Tryd.pinned (.plain (OpenSpec.upto calOpensSpec)) calOpensUptoCard

/-- THE SECOND FORM's CARD OF 'larderlaw03.CalShop'. -/
def calShopUptoCard : Claim7 := { stood := { row := calShopUptoRow, standIns := [], harness := (true, "d92f42f73bd31dcda327982efaa98081d1fc09a1152de87e684cc4bb08efd608"), looks := false }, kinds := [], alts := [], laidByText := true, laidKinds := [.data], laidTests := true, laidLooks := .later }
def CalShopUptoCardSaid : Prop := Claim7.holds Tryd.pinned (.plain (OpenSpec.upto calShopSpec)) calShopUptoCard
end Rows
end Go.Proofs.YtjifinacnofmiaaDoor
