/-
  DERIVED. GIVEN WITH THE SEED: THE CARDS: each row of YtpapibanhooogaaDoorRows.lean that lists a variable, with what it lists TIED to the program's text (the seventh form; the later family's looks); each row that meets fmt, with fmt's text TOLD by the authors' own Lean function (tested against real Go, not proved from fmt's source: count such statements apart). THE CARD IS WHAT COUNTS. Prove the row's statement (the work); the ties are given (YtpapibanhooogaaDoorTie.lean); close each card by the builder's one call (the guide's Derived/Test/ToyasCard.lean, 'card_holds'). Laid BY PROGRAM, IN A SANDBOX (cutbox-door.mjs). By AI agents, Wed Nov 11 2026. No macro, syntax, notation, axiom, sorry.
-/
import Derived.Test.YtpapibanhooogaaDoorRows
import GoSem.ClaimSeven
namespace Go.Proofs.YtpapibanhooogaaDoor
namespace Rows

/-- THE TIED CARD OF 'larderlaw05.EdiErrors'. -/
def ediErrorsCard : Claim7 := { stood := { row := ediErrorsRow, standIns := [], harness := (true, "3884843c4baca0da2090341270303d149deff9ed1325050081c7eabfe59794a9"), looks := true }, kinds := [], alts := [], laidByText := true, laidKinds := [.data, .data, .data, .sentinel, .sentinel, .sentinel, .sentinel, .sentinel, .sentinel, .sentinel, .sentinel, .sentinel, .sentinel, .sentinel], laidTests := true, laidLooks := .later }
def EdiErrorsCardSaid : Prop := Claim7.holds Tryd.pinned (.plain (OpenSpec.ofChange ediErrorsSpec)) ediErrorsCard

/-- THE SECOND FORM's CARD OF 'larderlaw05.EdiErrors'. -/
def ediErrorsUptoCard : Claim7 := { stood := { row := ediErrorsUptoRow, standIns := [], harness := (true, "3884843c4baca0da2090341270303d149deff9ed1325050081c7eabfe59794a9"), looks := true }, kinds := [], alts := [], laidByText := true, laidKinds := [.data, .data, .data, .sentinel, .sentinel, .sentinel, .sentinel, .sentinel, .sentinel, .sentinel, .sentinel, .sentinel, .sentinel, .sentinel], laidTests := true, laidLooks := .later }
def EdiErrorsUptoCardSaid : Prop := Claim7.holds Tryd.pinned (.plain (OpenSpec.upto ediErrorsSpec)) ediErrorsUptoCard
end Rows
end Go.Proofs.YtpapibanhooogaaDoor
