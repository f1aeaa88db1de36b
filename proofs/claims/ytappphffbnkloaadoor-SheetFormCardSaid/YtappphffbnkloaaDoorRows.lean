/-
  NARROWER THAN 'FOR EVERY INPUT', by the rows' own cells (each row's printed sentence says how): SheetBack: laid · SheetForm: laid.
  DERIVED. THE GIVEN ROWS OF THIS SEAT. 2 by the template 'for every input the law returns true; each argument reads behind the call as it read before'; 0 by the template 'total and deterministic' (their statements: YtappphffbnkloaaDoorTotals.lean).
  GIVEN WITH THE SEED: the statements are not yours to turn. If you find one false, say at which input.
  Laid BY PROGRAM, IN A SANDBOX (cutbox-rows.mjs): the forced cells as the released guide's own fill.sh prints them over the translation e8dcde9b7f8f8233… (all of the seat's roots in one cut). By AI agents, Wed Nov 11 2026. No macro, syntax, notation, axiom, sorry.
-/
import Derived.Test.YtappphffbnkloaaDoorChecked
import GoSem.PinnedTables
import GoSem.Claim
import GoSem.ClaimJoined
import GoSem.ClaimMapViews
import Derived.JoinedTies
import Derived.KernelRfl
namespace Go.Proofs.YtappphffbnkloaaDoor
/- THE CELL 'sum', in the pinned program and in every row, IS THE sha256 OF THE DUMP (.gsa) THAT YtappphffbnkloaaDoorProg.lean LOADS. Nothing in Lean hashes anything: it is a label: what it is worth is what the hold of that sum in a sandbox is worth. -/
noncomputable def Tryd.pinned : Pinned := { name := "ytappphffbnkloaadoor", sum := "e8dcde9b7f8f823351f58b484850bc1bc282a2c40e42b67210a9c518e2d94366", checked := Tryd.checked }
namespace Rows
def none {H : Type} : Left H := { results := [], args := [] }

/- WHAT THE LISTED PACKAGE-LEVEL VARIABLES READ AS WHEN THE CALL BEGINS. Each datum BY PROGRAM (the guide's laid-datum.mjs) off the statement by which the dump's own 'gosem.cut.vars' lays the variable. In a bare row this is a premise. The card (YtappphffbnkloaaDoorCards.lean) ties it to the program's text. -/
def laid_unicode_utf8_acceptRanges {H : Type} : DataW H := .agg [.agg [.lit (.int .u8 128), .lit (.int .u8 191)], .agg [.lit (.int .u8 160), .lit (.int .u8 191)], .agg [.lit (.int .u8 128), .lit (.int .u8 159)], .agg [.lit (.int .u8 144), .lit (.int .u8 191)], .agg [.lit (.int .u8 128), .lit (.int .u8 143)], .agg [.lit (.int .u8 0), .lit (.int .u8 0)], .agg [.lit (.int .u8 0), .lit (.int .u8 0)], .agg [.lit (.int .u8 0), .lit (.int .u8 0)], .agg [.lit (.int .u8 0), .lit (.int .u8 0)], .agg [.lit (.int .u8 0), .lit (.int .u8 0)], .agg [.lit (.int .u8 0), .lit (.int .u8 0)], .agg [.lit (.int .u8 0), .lit (.int .u8 0)], .agg [.lit (.int .u8 0), .lit (.int .u8 0)], .agg [.lit (.int .u8 0), .lit (.int .u8 0)], .agg [.lit (.int .u8 0), .lit (.int .u8 0)], .agg [.lit (.int .u8 0), .lit (.int .u8 0)]]
def laid_errors_errorType {H : Type} : DataW H := .iface "internal/reflectlite.rtype" (.agg [.ptr (.lit (.string [101, 114, 114, 111, 114]))])
def laid_larder_sheet_ErrOpen {H : Type} : DataW H := .iface "*errors.errorString" (.ptr (.agg [.lit (.string [97, 32, 113, 117, 111, 116, 101, 100, 32, 99, 101, 108, 108, 32, 105, 115, 32, 110, 111, 116, 32, 99, 108, 111, 115, 101, 100])]))
def laid_larder_sheet_ErrQuote {H : Type} : DataW H := .iface "*errors.errorString" (.ptr (.agg [.lit (.string [97, 32, 113, 117, 111, 116, 101, 32, 109, 97, 121, 32, 110, 111, 116, 32, 115, 116, 97, 110, 100, 32, 104, 101, 114, 101])]))
def laid_larder_sheet_ErrLine {H : Type} : DataW H := .iface "*errors.errorString" (.ptr (.agg [.lit (.string [97, 32, 108, 105, 110, 101, 32, 109, 97, 121, 32, 110, 111, 116, 32, 101, 110, 100, 32, 115, 111])]))
def laid_larder_sheet_ErrByte {H : Type} : DataW H := .iface "*errors.errorString" (.ptr (.agg [.lit (.string [116, 104, 105, 115, 32, 98, 121, 116, 101, 32, 109, 97, 121, 32, 110, 111, 116, 32, 115, 116, 97, 110, 100, 32, 104, 101, 114, 101])]))
def laid_larder_sheet_ErrCell {H : Type} : DataW H := .iface "*errors.errorString" (.ptr (.agg [.lit (.string [116, 104, 101, 32, 99, 101, 108, 108, 32, 105, 115, 32, 116, 111, 111, 32, 108, 111, 110, 103])]))
def laid_larder_sheet_ErrCells {H : Type} : DataW H := .iface "*errors.errorString" (.ptr (.agg [.lit (.string [116, 111, 111, 32, 109, 97, 110, 121, 32, 99, 101, 108, 108, 115])]))
def laid_larder_sheet_ErrRows {H : Type} : DataW H := .iface "*errors.errorString" (.ptr (.agg [.lit (.string [116, 111, 111, 32, 109, 97, 110, 121, 32, 114, 111, 119, 115])]))
def laid_larder_sheet_ErrRagged {H : Type} : DataW H := .iface "*errors.errorString" (.ptr (.agg [.lit (.string [110, 111, 116, 32, 97, 115, 32, 109, 97, 110, 121, 32, 99, 101, 108, 108, 115, 32, 97, 115, 32, 116, 104, 101, 32, 102, 105, 114, 115, 116, 32, 114, 111, 119, 32, 104, 97, 115])]))
def laid_larder_sheet_ErrDone {H : Type} : DataW H := .iface "*errors.errorString" (.ptr (.agg [.lit (.string [116, 104, 101, 32, 114, 101, 97, 100, 101, 114, 32, 104, 97, 115, 32, 101, 110, 100, 101, 100])]))
def laid_larder_sheet_ErrLong {H : Type} : DataW H := .iface "*errors.errorString" (.ptr (.agg [.lit (.string [116, 104, 101, 32, 116, 101, 120, 116, 32, 105, 115, 32, 116, 111, 111, 32, 108, 111, 110, 103])]))
/-- One of Go's own tables, pinned by name: the form's constant. -/
def laid_unicode_utf8_first : DataW Unit := Go.Pinned.utf8First
def laid_larder_sheet_ErrColumns {H : Type} : DataW H := .iface "*errors.errorString" (.ptr (.agg [.lit (.string [116, 104, 101, 32, 99, 111, 108, 117, 109, 110, 115, 32, 109, 97, 121, 32, 110, 111, 116, 32, 98, 101, 32, 115, 111])]))
def laid_larder_sheet_ErrMissing {H : Type} : DataW H := .iface "*errors.errorString" (.ptr (.agg [.lit (.string [97, 32, 99, 111, 108, 117, 109, 110, 32, 105, 115, 32, 109, 105, 115, 115, 105, 110, 103])]))
def laid_larder_sheet_ErrTwice {H : Type} : DataW H := .iface "*errors.errorString" (.ptr (.agg [.lit (.string [97, 32, 99, 111, 108, 117, 109, 110, 32, 115, 116, 97, 110, 100, 115, 32, 116, 119, 105, 99, 101])]))
def laid_larder_sheet_ErrEmpty {H : Type} : DataW H := .iface "*errors.errorString" (.ptr (.agg [.lit (.string [116, 104, 101, 32, 99, 101, 108, 108, 32, 105, 115, 32, 101, 109, 112, 116, 121])]))
def laid_larder_sheet_ErrNumber {H : Type} : DataW H := .iface "*errors.errorString" (.ptr (.agg [.lit (.string [116, 104, 105, 115, 32, 105, 115, 32, 110, 111, 32, 110, 117, 109, 98, 101, 114])]))
def laid_larder_sheet_ErrCents {H : Type} : DataW H := .iface "*errors.errorString" (.ptr (.agg [.lit (.string [116, 104, 105, 115, 32, 105, 115, 32, 110, 111, 32, 112, 114, 105, 99, 101])]))
def laid_larder_sheet_ErrDate {H : Type} : DataW H := .iface "*errors.errorString" (.ptr (.agg [.lit (.string [116, 104, 105, 115, 32, 105, 115, 32, 110, 111, 32, 100, 97, 121])]))
def laid_larder_sheet_ErrCode {H : Type} : DataW H := .iface "*errors.errorString" (.ptr (.agg [.lit (.string [116, 104, 105, 115, 32, 105, 115, 32, 110, 111, 32, 99, 111, 100, 101])]))
def laid_larder_sheet_ErrYes {H : Type} : DataW H := .iface "*errors.errorString" (.ptr (.agg [.lit (.string [116, 104, 105, 115, 32, 105, 115, 32, 110, 101, 105, 116, 104, 101, 114, 32, 121, 101, 115, 32, 110, 111, 114, 32, 110, 111])]))
def laid_larder_sheet_ErrValue {H : Type} : DataW H := .iface "*errors.errorString" (.ptr (.agg [.lit (.string [116, 104, 105, 115, 32, 118, 97, 108, 117, 101, 32, 109, 97, 121, 32, 110, 111, 116, 32, 98, 101])]))

/-- 'larderlaw04.SheetBack': WHATEVER THE INPUT: true; the input reads as it did. -/
def sheetBackSpec : ChangeSpec := { name := "sheetBack", fn := fun _ => fun
  | [d] => { results := [.lit (.bool true)], args := [d] }
  | _ => none }
def sheetBackRow : OpenClaim := { program := "ytappphffbnkloaadoor", sum := "e8dcde9b7f8f823351f58b484850bc1bc282a2c40e42b67210a9c518e2d94366", func := "larder/larderlaw04.SheetBack", spec := "sheetBack", inPlace := ["internal/abi.NoEscape", "internal/bytealg.IndexByteString", "internal/bytealg.IndexString", "internal/bytealg.CountString", "internal/bytealg.MakeNoZero", "internal/reflectlite.TypeOf", "internal/reflectlite.ValueOf", "(internal/reflectlite.Value).Type", "(internal/reflectlite.Value).IsNil", "(internal/reflectlite.Value).Elem", "(internal/reflectlite.Value).Set"], unfollowed := true, recurses := true, named := ["larder/sheet.ErrLong", "larder/sheet.ErrRows", "larder/sheet.ErrCells", "larder/sheet.ErrRagged", "larder/sheet.ErrCell", "larder/sheet.ErrByte", "internal/bytealg.MaxLen", "unicode/utf8.first", "unicode/utf8.acceptRanges", "larder/sheet.ErrLine", "larder/sheet.ErrQuote", "larder/sheet.ErrOpen", "larder/sheet.ErrDone", "errors.errorType"], apart := false, laid := [("unicode/utf8.acceptRanges", laid_unicode_utf8_acceptRanges), ("errors.errorType", laid_errors_errorType), ("larder/sheet.ErrOpen", laid_larder_sheet_ErrOpen), ("larder/sheet.ErrQuote", laid_larder_sheet_ErrQuote), ("larder/sheet.ErrLine", laid_larder_sheet_ErrLine), ("larder/sheet.ErrByte", laid_larder_sheet_ErrByte), ("larder/sheet.ErrCell", laid_larder_sheet_ErrCell), ("larder/sheet.ErrCells", laid_larder_sheet_ErrCells), ("larder/sheet.ErrRows", laid_larder_sheet_ErrRows), ("larder/sheet.ErrRagged", laid_larder_sheet_ErrRagged), ("larder/sheet.ErrDone", laid_larder_sheet_ErrDone), ("larder/sheet.ErrLong", laid_larder_sheet_ErrLong), ("unicode/utf8.first", laid_unicode_utf8_first)] }
def SheetBackSaid : Prop := sheetBackRow.holds Tryd.pinned (OpenSpec.ofChange sheetBackSpec)

/-- ITS FALSE NEIGHBOUR: 'it returns false'. Refute it at one input. -/
def sheetBackWrong : ChangeSpec := { name := "sheetBack", fn := fun _ => fun
  | [d] => { results := [.lit (.bool false)], args := [d] }
  | _ => none }
def SheetBackWrongFalsely : Prop := sheetBackRow.holds Tryd.pinned (OpenSpec.ofChange sheetBackWrong)

/-- 'larderlaw04.SheetForm': WHATEVER THE INPUT: true; the input reads as it did. -/
def sheetFormSpec : ChangeSpec := { name := "sheetForm", fn := fun _ => fun
  | [d] => { results := [.lit (.bool true)], args := [d] }
  | _ => none }
def sheetFormRow : OpenClaim := { program := "ytappphffbnkloaadoor", sum := "e8dcde9b7f8f823351f58b484850bc1bc282a2c40e42b67210a9c518e2d94366", func := "larder/larderlaw04.SheetForm", spec := "sheetForm", inPlace := ["internal/reflectlite.TypeOf", "internal/reflectlite.ValueOf", "(internal/reflectlite.Value).Type", "(internal/reflectlite.Value).IsNil", "(internal/reflectlite.Value).Elem", "(internal/reflectlite.Value).Set", "internal/abi.NoEscape", "internal/bytealg.IndexByteString", "internal/bytealg.IndexString", "internal/bytealg.CountString", "internal/bytealg.MakeNoZero"], unfollowed := true, recurses := true, named := ["larder/sheet.ErrLong", "larder/sheet.ErrLine", "larder/sheet.ErrRows", "larder/sheet.ErrByte", "larder/sheet.ErrQuote", "larder/sheet.ErrOpen", "larder/sheet.ErrCell", "larder/sheet.ErrCells", "larder/sheet.ErrRagged", "larder/sheet.ErrDone", "errors.errorType", "internal/bytealg.MaxLen", "unicode/utf8.first", "unicode/utf8.acceptRanges", "larder/sheet.ErrColumns", "larder/sheet.ErrMissing", "larder/sheet.ErrTwice", "larder/sheet.ErrEmpty", "larder/sheet.ErrNumber", "larder/sheet.ErrCents", "larder/sheet.ErrDate", "larder/sheet.ErrCode", "larder/sheet.ErrYes", "larder/sheet.ErrValue"], apart := false, laid := [("unicode/utf8.acceptRanges", laid_unicode_utf8_acceptRanges), ("errors.errorType", laid_errors_errorType), ("larder/sheet.ErrOpen", laid_larder_sheet_ErrOpen), ("larder/sheet.ErrQuote", laid_larder_sheet_ErrQuote), ("larder/sheet.ErrLine", laid_larder_sheet_ErrLine), ("larder/sheet.ErrByte", laid_larder_sheet_ErrByte), ("larder/sheet.ErrCell", laid_larder_sheet_ErrCell), ("larder/sheet.ErrCells", laid_larder_sheet_ErrCells), ("larder/sheet.ErrRows", laid_larder_sheet_ErrRows), ("larder/sheet.ErrRagged", laid_larder_sheet_ErrRagged), ("larder/sheet.ErrDone", laid_larder_sheet_ErrDone), ("larder/sheet.ErrLong", laid_larder_sheet_ErrLong), ("larder/sheet.ErrColumns", laid_larder_sheet_ErrColumns), ("larder/sheet.ErrMissing", laid_larder_sheet_ErrMissing), ("larder/sheet.ErrTwice", laid_larder_sheet_ErrTwice), ("larder/sheet.ErrEmpty", laid_larder_sheet_ErrEmpty), ("larder/sheet.ErrNumber", laid_larder_sheet_ErrNumber), ("larder/sheet.ErrCents", laid_larder_sheet_ErrCents), ("larder/sheet.ErrDate", laid_larder_sheet_ErrDate), ("larder/sheet.ErrCode", laid_larder_sheet_ErrCode), ("larder/sheet.ErrYes", laid_larder_sheet_ErrYes), ("larder/sheet.ErrValue", laid_larder_sheet_ErrValue), ("unicode/utf8.first", laid_unicode_utf8_first)] }
def SheetFormSaid : Prop := sheetFormRow.holds Tryd.pinned (OpenSpec.ofChange sheetFormSpec)

/-- ITS FALSE NEIGHBOUR: 'it returns false'. Refute it at one input. -/
def sheetFormWrong : ChangeSpec := { name := "sheetForm", fn := fun _ => fun
  | [d] => { results := [.lit (.bool false)], args := [d] }
  | _ => none }
def SheetFormWrongFalsely : Prop := sheetFormRow.holds Tryd.pinned (OpenSpec.ofChange sheetFormWrong)

/- THE SECOND FORM. 'bulk': how many values and letters a reading holds, each counted each time it is reached (what is shared counts as often as it is met; a slice's spare places count too). A statement '..UptoSaid' is the law's where the arguments, and the package variables that the reading takes, are together of bulk at most 1048576: NARROWER than '..Said'. Prove '..Said' where nothing that the law and all that it calls make is longer than what came in: it says more and counts as full. Else prove '..UptoSaid'. A law counts once. -/
mutual
def uptoBulk {H : Type} : DataW H → Nat
  | .lit (.string bytes) => bytes.length + 1
  | .lit _ => 1
  | .nil => 1
  | .ptr d => uptoBulk d + 1
  | .slice elems spare => uptoBulkAll elems + uptoBulkAll spare + 1
  | .agg parts => uptoBulkAll parts + 1
  | .iface _ d => uptoBulk d + 1
  | .map entries => uptoBulkEntries entries + 1
  | .held _ => 1
def uptoBulkAll {H : Type} : List (DataW H) → Nat
  | [] => 0
  | d :: r => uptoBulk d + uptoBulkAll r
def uptoBulkEntries {H : Type} : List (Lit × DataW H) → Nat
  | [] => 0
  | x :: r => uptoBulkEntry x + uptoBulkEntries r
def uptoBulkEntry {H : Type} : Lit × DataW H → Nat
  | (.string bytes, d) => bytes.length + uptoBulk d + 1
  | (_, d) => uptoBulk d + 1
 end
def uptoSmall : (H : Type) → List (DataW H) → Bool := fun _ ds => decide (uptoBulkAll ds ≤ 1048576)
def OpenSpec.upto (s : _root_.Go.ChangeSpec) : _root_.Go.OpenSpec := { _root_.Go.OpenSpec.ofChange s with cond := some uptoSmall }

/-- 'larderlaw04.SheetBack', WHERE WHAT IT READS IS OF BULK AT MOST 1048576: true; the input reads as it did. -/
def sheetBackUptoRow : OpenClaim := { program := "ytappphffbnkloaadoor", sum := "e8dcde9b7f8f823351f58b484850bc1bc282a2c40e42b67210a9c518e2d94366", func := "larder/larderlaw04.SheetBack", spec := "sheetBack", inPlace := ["internal/abi.NoEscape", "internal/bytealg.IndexByteString", "internal/bytealg.IndexString", "internal/bytealg.CountString", "internal/bytealg.MakeNoZero", "internal/reflectlite.TypeOf", "internal/reflectlite.ValueOf", "(internal/reflectlite.Value).Type", "(internal/reflectlite.Value).IsNil", "(internal/reflectlite.Value).Elem", "(internal/reflectlite.Value).Set"], unfollowed := true, recurses := true, named := ["larder/sheet.ErrLong", "larder/sheet.ErrRows", "larder/sheet.ErrCells", "larder/sheet.ErrRagged", "larder/sheet.ErrCell", "larder/sheet.ErrByte", "internal/bytealg.MaxLen", "unicode/utf8.first", "unicode/utf8.acceptRanges", "larder/sheet.ErrLine", "larder/sheet.ErrQuote", "larder/sheet.ErrOpen", "larder/sheet.ErrDone", "errors.errorType"], apart := false, laid := [("unicode/utf8.acceptRanges", laid_unicode_utf8_acceptRanges), ("errors.errorType", laid_errors_errorType), ("larder/sheet.ErrOpen", laid_larder_sheet_ErrOpen), ("larder/sheet.ErrQuote", laid_larder_sheet_ErrQuote), ("larder/sheet.ErrLine", laid_larder_sheet_ErrLine), ("larder/sheet.ErrByte", laid_larder_sheet_ErrByte), ("larder/sheet.ErrCell", laid_larder_sheet_ErrCell), ("larder/sheet.ErrCells", laid_larder_sheet_ErrCells), ("larder/sheet.ErrRows", laid_larder_sheet_ErrRows), ("larder/sheet.ErrRagged", laid_larder_sheet_ErrRagged), ("larder/sheet.ErrDone", laid_larder_sheet_ErrDone), ("larder/sheet.ErrLong", laid_larder_sheet_ErrLong), ("unicode/utf8.first", laid_unicode_utf8_first)], narrowed := true }
def SheetBackUptoSaid : Prop := sheetBackUptoRow.holds Tryd.pinned (OpenSpec.upto sheetBackSpec)

/-- 'larderlaw04.SheetForm', WHERE WHAT IT READS IS OF BULK AT MOST 1048576: true; the input reads as it did. -/
def sheetFormUptoRow : OpenClaim := { program := "ytappphffbnkloaadoor", sum := "e8dcde9b7f8f823351f58b484850bc1bc282a2c40e42b67210a9c518e2d94366", func := "larder/larderlaw04.SheetForm", spec := "sheetForm", inPlace := ["internal/reflectlite.TypeOf", "internal/reflectlite.ValueOf", "(internal/reflectlite.Value).Type", "(internal/reflectlite.Value).IsNil", "(internal/reflectlite.Value).Elem", "(internal/reflectlite.Value).Set", "internal/abi.NoEscape", "internal/bytealg.IndexByteString", "internal/bytealg.IndexString", "internal/bytealg.CountString", "internal/bytealg.MakeNoZero"], unfollowed := true, recurses := true, named := ["larder/sheet.ErrLong", "larder/sheet.ErrLine", "larder/sheet.ErrRows", "larder/sheet.ErrByte", "larder/sheet.ErrQuote", "larder/sheet.ErrOpen", "larder/sheet.ErrCell", "larder/sheet.ErrCells", "larder/sheet.ErrRagged", "larder/sheet.ErrDone", "errors.errorType", "internal/bytealg.MaxLen", "unicode/utf8.first", "unicode/utf8.acceptRanges", "larder/sheet.ErrColumns", "larder/sheet.ErrMissing", "larder/sheet.ErrTwice", "larder/sheet.ErrEmpty", "larder/sheet.ErrNumber", "larder/sheet.ErrCents", "larder/sheet.ErrDate", "larder/sheet.ErrCode", "larder/sheet.ErrYes", "larder/sheet.ErrValue"], apart := false, laid := [("unicode/utf8.acceptRanges", laid_unicode_utf8_acceptRanges), ("errors.errorType", laid_errors_errorType), ("larder/sheet.ErrOpen", laid_larder_sheet_ErrOpen), ("larder/sheet.ErrQuote", laid_larder_sheet_ErrQuote), ("larder/sheet.ErrLine", laid_larder_sheet_ErrLine), ("larder/sheet.ErrByte", laid_larder_sheet_ErrByte), ("larder/sheet.ErrCell", laid_larder_sheet_ErrCell), ("larder/sheet.ErrCells", laid_larder_sheet_ErrCells), ("larder/sheet.ErrRows", laid_larder_sheet_ErrRows), ("larder/sheet.ErrRagged", laid_larder_sheet_ErrRagged), ("larder/sheet.ErrDone", laid_larder_sheet_ErrDone), ("larder/sheet.ErrLong", laid_larder_sheet_ErrLong), ("larder/sheet.ErrColumns", laid_larder_sheet_ErrColumns), ("larder/sheet.ErrMissing", laid_larder_sheet_ErrMissing), ("larder/sheet.ErrTwice", laid_larder_sheet_ErrTwice), ("larder/sheet.ErrEmpty", laid_larder_sheet_ErrEmpty), ("larder/sheet.ErrNumber", laid_larder_sheet_ErrNumber), ("larder/sheet.ErrCents", laid_larder_sheet_ErrCents), ("larder/sheet.ErrDate", laid_larder_sheet_ErrDate), ("larder/sheet.ErrCode", laid_larder_sheet_ErrCode), ("larder/sheet.ErrYes", laid_larder_sheet_ErrYes), ("larder/sheet.ErrValue", laid_larder_sheet_ErrValue), ("unicode/utf8.first", laid_unicode_utf8_first)], narrowed := true }
def SheetFormUptoSaid : Prop := sheetFormUptoRow.holds Tryd.pinned (OpenSpec.upto sheetFormSpec)

end Rows
end Go.Proofs.YtappphffbnkloaaDoor
