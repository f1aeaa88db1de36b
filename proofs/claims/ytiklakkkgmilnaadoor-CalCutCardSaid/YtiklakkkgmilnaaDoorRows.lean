/-
  NARROWER THAN 'FOR EVERY INPUT', by the rows' own cells (each row's printed sentence says how): CalMonths: laid · CalShows: laid · CalReads: laid · CalOpens: laid · CalShop: laid · CalRound: laid · CalInstants: laid · CalMidnight: laid · CalClock: laid · CalCut: laid.
  DERIVED. THE GIVEN ROWS OF THIS SEAT. 10 by the template 'for every input the law returns true; each argument reads behind the call as it read before'; 0 by the template 'total and deterministic' (their statements: YtiklakkkgmilnaaDoorTotals.lean).
  GIVEN WITH THE SEED: the statements are not yours to turn. If you find one false, say at which input.
  Laid BY PROGRAM, IN A SANDBOX (cutbox-rows.mjs): the forced cells as the released guide's own fill.sh prints them over the translation 02f6f40f1deb78bb… (all of the seat's roots in one cut). By AI agents, Wed Nov 11 2026. No macro, syntax, notation, axiom, sorry.
-/
import Derived.Test.YtiklakkkgmilnaaDoorChecked
import GoSem.Claim
import GoSem.ClaimJoined
import GoSem.ClaimMapViews
import Derived.JoinedTies
import Derived.KernelRfl
namespace Go.Proofs.YtiklakkkgmilnaaDoor
/- THE CELL 'sum', in the pinned program and in every row, IS THE sha256 OF THE DUMP (.gsa) THAT YtiklakkkgmilnaaDoorProg.lean LOADS. Nothing in Lean hashes anything: it is a label: what it is worth is what the hold of that sum in a sandbox is worth. -/
noncomputable def Tryd.pinned : Pinned := { name := "ytiklakkkgmilnaadoor", sum := "02f6f40f1deb78bbe50334d9bd6e389709e5ca27b98468912f53297209b87cf8", checked := Tryd.checked }
namespace Rows
def none {H : Type} : Left H := { results := [], args := [] }

/- WHAT THE LISTED PACKAGE-LEVEL VARIABLES READ AS WHEN THE CALL BEGINS. Each datum BY PROGRAM (the guide's laid-datum.mjs) off the statement by which the dump's own 'gosem.cut.vars' lays the variable. In a bare row this is a premise. The card (YtiklakkkgmilnaaDoorCards.lean) ties it to the program's text. -/
def laid_larder_cal_ahead {H : Type} : DataW H := .agg [.lit (.int .i64 0), .lit (.int .i64 0), .lit (.int .i64 31), .lit (.int .i64 59), .lit (.int .i64 90), .lit (.int .i64 120), .lit (.int .i64 151), .lit (.int .i64 181), .lit (.int .i64 212), .lit (.int .i64 243), .lit (.int .i64 273), .lit (.int .i64 304), .lit (.int .i64 334), .lit (.int .i64 365)]
def laid_larder_larderlaw03_mark {H : Type} : DataW H := .agg [.lit (.int .i64 1), .lit (.int .i64 2), .lit (.int .i64 3)]

/-- 'larderlaw03.CalMonths': WHATEVER THE INPUT: true; the input reads as it did. -/
def calMonthsSpec : ChangeSpec := { name := "calMonths", fn := fun _ => fun
  | [d1, d2, d3, d4, d5] => { results := [.lit (.bool true)], args := [d1, d2, d3, d4, d5] }
  | _ => none }
def calMonthsRow : OpenClaim := { program := "ytiklakkkgmilnaadoor", sum := "02f6f40f1deb78bbe50334d9bd6e389709e5ca27b98468912f53297209b87cf8", func := "larder/larderlaw03.CalMonths", spec := "calMonths", named := ["larder/cal.ahead"], apart := false, laid := [("larder/cal.ahead", laid_larder_cal_ahead)] }
def CalMonthsSaid : Prop := calMonthsRow.holds Tryd.pinned (OpenSpec.ofChange calMonthsSpec)

/-- ITS FALSE NEIGHBOUR: 'it returns false'. Refute it at one input. -/
def calMonthsWrong : ChangeSpec := { name := "calMonths", fn := fun _ => fun
  | [d1, d2, d3, d4, d5] => { results := [.lit (.bool false)], args := [d1, d2, d3, d4, d5] }
  | _ => none }
def CalMonthsWrongFalsely : Prop := calMonthsRow.holds Tryd.pinned (OpenSpec.ofChange calMonthsWrong)

/-- 'larderlaw03.CalShows': WHATEVER THE INPUT: true; the input reads as it did. -/
def calShowsSpec : ChangeSpec := { name := "calShows", fn := fun _ => fun
  | [d1, d2] => { results := [.lit (.bool true)], args := [d1, d2] }
  | _ => none }
def calShowsRow : OpenClaim := { program := "ytiklakkkgmilnaadoor", sum := "02f6f40f1deb78bbe50334d9bd6e389709e5ca27b98468912f53297209b87cf8", func := "larder/larderlaw03.CalShows", spec := "calShows", named := ["larder/cal.ahead"], apart := false, laid := [("larder/cal.ahead", laid_larder_cal_ahead)] }
def CalShowsSaid : Prop := calShowsRow.holds Tryd.pinned (OpenSpec.ofChange calShowsSpec)

/-- ITS FALSE NEIGHBOUR: 'it returns false'. Refute it at one input. -/
def calShowsWrong : ChangeSpec := { name := "calShows", fn := fun _ => fun
  | [d1, d2] => { results := [.lit (.bool false)], args := [d1, d2] }
  | _ => none }
def CalShowsWrongFalsely : Prop := calShowsRow.holds Tryd.pinned (OpenSpec.ofChange calShowsWrong)

/-- 'larderlaw03.CalReads': WHATEVER THE INPUT: true; the input reads as it did. -/
def calReadsSpec : ChangeSpec := { name := "calReads", fn := fun _ => fun
  | [d] => { results := [.lit (.bool true)], args := [d] }
  | _ => none }
def calReadsRow : OpenClaim := { program := "ytiklakkkgmilnaadoor", sum := "02f6f40f1deb78bbe50334d9bd6e389709e5ca27b98468912f53297209b87cf8", func := "larder/larderlaw03.CalReads", spec := "calReads", unfollowed := true, recurses := true, named := ["larder/cal.ahead"], apart := false, laid := [("larder/cal.ahead", laid_larder_cal_ahead)] }
def CalReadsSaid : Prop := calReadsRow.holds Tryd.pinned (OpenSpec.ofChange calReadsSpec)

/-- ITS FALSE NEIGHBOUR: 'it returns false'. Refute it at one input. -/
def calReadsWrong : ChangeSpec := { name := "calReads", fn := fun _ => fun
  | [d] => { results := [.lit (.bool false)], args := [d] }
  | _ => none }
def CalReadsWrongFalsely : Prop := calReadsRow.holds Tryd.pinned (OpenSpec.ofChange calReadsWrong)

/-- 'larderlaw03.CalOpens': WHATEVER THE INPUT: true; the input reads as it did. -/
def calOpensSpec : ChangeSpec := { name := "calOpens", fn := fun _ => fun
  | [d1, d2, d3, d4] => { results := [.lit (.bool true)], args := [d1, d2, d3, d4] }
  | _ => none }
def calOpensRow : OpenClaim := { program := "ytiklakkkgmilnaadoor", sum := "02f6f40f1deb78bbe50334d9bd6e389709e5ca27b98468912f53297209b87cf8", func := "larder/larderlaw03.CalOpens", spec := "calOpens", unfollowed := true, recurses := true, named := ["larder/larderlaw03.mark", "larder/cal.ahead"], apart := false, laid := [("larder/cal.ahead", laid_larder_cal_ahead), ("larder/larderlaw03.mark", laid_larder_larderlaw03_mark)] }
def CalOpensSaid : Prop := calOpensRow.holds Tryd.pinned (OpenSpec.ofChange calOpensSpec)

/-- ITS FALSE NEIGHBOUR: 'it returns false'. Refute it at one input. -/
def calOpensWrong : ChangeSpec := { name := "calOpens", fn := fun _ => fun
  | [d1, d2, d3, d4] => { results := [.lit (.bool false)], args := [d1, d2, d3, d4] }
  | _ => none }
def CalOpensWrongFalsely : Prop := calOpensRow.holds Tryd.pinned (OpenSpec.ofChange calOpensWrong)

/-- 'larderlaw03.CalShop': WHATEVER THE INPUT: true; the input reads as it did. -/
def calShopSpec : ChangeSpec := { name := "calShop", fn := fun _ => fun
  | [d1, d2, d3, d4, d5] => { results := [.lit (.bool true)], args := [d1, d2, d3, d4, d5] }
  | _ => none }
def calShopRow : OpenClaim := { program := "ytiklakkkgmilnaadoor", sum := "02f6f40f1deb78bbe50334d9bd6e389709e5ca27b98468912f53297209b87cf8", func := "larder/larderlaw03.CalShop", spec := "calShop", unfollowed := true, recurses := true, named := ["larder/cal.ahead"], apart := false, laid := [("larder/cal.ahead", laid_larder_cal_ahead)] }
def CalShopSaid : Prop := calShopRow.holds Tryd.pinned (OpenSpec.ofChange calShopSpec)

/-- ITS FALSE NEIGHBOUR: 'it returns false'. Refute it at one input. -/
def calShopWrong : ChangeSpec := { name := "calShop", fn := fun _ => fun
  | [d1, d2, d3, d4, d5] => { results := [.lit (.bool false)], args := [d1, d2, d3, d4, d5] }
  | _ => none }
def CalShopWrongFalsely : Prop := calShopRow.holds Tryd.pinned (OpenSpec.ofChange calShopWrong)

/-- 'larderlaw03.CalRound': WHATEVER THE INPUT: true; the input reads as it did. -/
def calRoundSpec : ChangeSpec := { name := "calRound", fn := fun _ => fun
  | [d1, d2] => { results := [.lit (.bool true)], args := [d1, d2] }
  | _ => none }
def calRoundRow : OpenClaim := { program := "ytiklakkkgmilnaadoor", sum := "02f6f40f1deb78bbe50334d9bd6e389709e5ca27b98468912f53297209b87cf8", func := "larder/larderlaw03.CalRound", spec := "calRound", unfollowed := true, recurses := true, named := ["larder/cal.ahead"], apart := false, laid := [("larder/cal.ahead", laid_larder_cal_ahead)] }
def CalRoundSaid : Prop := calRoundRow.holds Tryd.pinned (OpenSpec.ofChange calRoundSpec)

/-- ITS FALSE NEIGHBOUR: 'it returns false'. Refute it at one input. -/
def calRoundWrong : ChangeSpec := { name := "calRound", fn := fun _ => fun
  | [d1, d2] => { results := [.lit (.bool false)], args := [d1, d2] }
  | _ => none }
def CalRoundWrongFalsely : Prop := calRoundRow.holds Tryd.pinned (OpenSpec.ofChange calRoundWrong)

/-- 'larderlaw03.CalInstants': WHATEVER THE INPUT: true; the input reads as it did. -/
def calInstantsSpec : ChangeSpec := { name := "calInstants", fn := fun _ => fun
  | [d] => { results := [.lit (.bool true)], args := [d] }
  | _ => none }
def calInstantsRow : OpenClaim := { program := "ytiklakkkgmilnaadoor", sum := "02f6f40f1deb78bbe50334d9bd6e389709e5ca27b98468912f53297209b87cf8", func := "larder/larderlaw03.CalInstants", spec := "calInstants", inPlace := ["internal/bytealg.IndexByteString", "internal/bytealg.IndexString"], unfollowed := true, recurses := true, named := ["internal/bytealg.MaxLen", "larder/cal.ahead"], apart := false, laid := [("larder/cal.ahead", laid_larder_cal_ahead)] }
def CalInstantsSaid : Prop := calInstantsRow.holds Tryd.pinned (OpenSpec.ofChange calInstantsSpec)

/-- ITS FALSE NEIGHBOUR: 'it returns false'. Refute it at one input. -/
def calInstantsWrong : ChangeSpec := { name := "calInstants", fn := fun _ => fun
  | [d] => { results := [.lit (.bool false)], args := [d] }
  | _ => none }
def CalInstantsWrongFalsely : Prop := calInstantsRow.holds Tryd.pinned (OpenSpec.ofChange calInstantsWrong)

/-- 'larderlaw03.CalMidnight': WHATEVER THE INPUT: true; the input reads as it did. -/
def calMidnightSpec : ChangeSpec := { name := "calMidnight", fn := fun _ => fun
  | [d] => { results := [.lit (.bool true)], args := [d] }
  | _ => none }
def calMidnightRow : OpenClaim := { program := "ytiklakkkgmilnaadoor", sum := "02f6f40f1deb78bbe50334d9bd6e389709e5ca27b98468912f53297209b87cf8", func := "larder/larderlaw03.CalMidnight", spec := "calMidnight", inPlace := ["internal/bytealg.IndexByteString", "internal/bytealg.IndexString"], unfollowed := true, recurses := true, named := ["larder/cal.ahead", "internal/bytealg.MaxLen"], apart := false, laid := [("larder/cal.ahead", laid_larder_cal_ahead)] }
def CalMidnightSaid : Prop := calMidnightRow.holds Tryd.pinned (OpenSpec.ofChange calMidnightSpec)

/-- ITS FALSE NEIGHBOUR: 'it returns false'. Refute it at one input. -/
def calMidnightWrong : ChangeSpec := { name := "calMidnight", fn := fun _ => fun
  | [d] => { results := [.lit (.bool false)], args := [d] }
  | _ => none }
def CalMidnightWrongFalsely : Prop := calMidnightRow.holds Tryd.pinned (OpenSpec.ofChange calMidnightWrong)

/-- 'larderlaw03.CalClock': WHATEVER THE INPUT: true; the input reads as it did. -/
def calClockSpec : ChangeSpec := { name := "calClock", fn := fun _ => fun
  | [d1, d2] => { results := [.lit (.bool true)], args := [d1, d2] }
  | _ => none }
def calClockRow : OpenClaim := { program := "ytiklakkkgmilnaadoor", sum := "02f6f40f1deb78bbe50334d9bd6e389709e5ca27b98468912f53297209b87cf8", func := "larder/larderlaw03.CalClock", spec := "calClock", inPlace := ["internal/bytealg.IndexByteString", "internal/bytealg.IndexString"], unfollowed := true, recurses := true, named := ["larder/cal.ahead", "internal/bytealg.MaxLen"], apart := false, laid := [("larder/cal.ahead", laid_larder_cal_ahead)] }
def CalClockSaid : Prop := calClockRow.holds Tryd.pinned (OpenSpec.ofChange calClockSpec)

/-- ITS FALSE NEIGHBOUR: 'it returns false'. Refute it at one input. -/
def calClockWrong : ChangeSpec := { name := "calClock", fn := fun _ => fun
  | [d1, d2] => { results := [.lit (.bool false)], args := [d1, d2] }
  | _ => none }
def CalClockWrongFalsely : Prop := calClockRow.holds Tryd.pinned (OpenSpec.ofChange calClockWrong)

/-- 'larderlaw03.CalCut': WHATEVER THE INPUT: true; the input reads as it did. -/
def calCutSpec : ChangeSpec := { name := "calCut", fn := fun _ => fun
  | [d1, d2, d3, d4] => { results := [.lit (.bool true)], args := [d1, d2, d3, d4] }
  | _ => none }
def calCutRow : OpenClaim := { program := "ytiklakkkgmilnaadoor", sum := "02f6f40f1deb78bbe50334d9bd6e389709e5ca27b98468912f53297209b87cf8", func := "larder/larderlaw03.CalCut", spec := "calCut", inPlace := ["internal/bytealg.IndexByteString", "internal/bytealg.IndexString"], unfollowed := true, recurses := true, named := ["larder/cal.ahead", "internal/bytealg.MaxLen"], apart := false, laid := [("larder/cal.ahead", laid_larder_cal_ahead)] }
def CalCutSaid : Prop := calCutRow.holds Tryd.pinned (OpenSpec.ofChange calCutSpec)

/-- ITS FALSE NEIGHBOUR: 'it returns false'. Refute it at one input. -/
def calCutWrong : ChangeSpec := { name := "calCut", fn := fun _ => fun
  | [d1, d2, d3, d4] => { results := [.lit (.bool false)], args := [d1, d2, d3, d4] }
  | _ => none }
def CalCutWrongFalsely : Prop := calCutRow.holds Tryd.pinned (OpenSpec.ofChange calCutWrong)

/- THE SECOND FORM. 'bulk': how many values and letters a reading holds, each counted each time it is reached (what is shared counts as often as it is met; a slice's spare places count too). A statement '..UptoSaid' is the law's where the arguments, and the package variables that the reading takes, are together of bulk at most 1048576: NARROWER than '..Said'. Prove '..Said' where nothing that the law and all that it calls make is longer than what came in: it says more and counts as full. Else prove '..UptoSaid'. A law counts once. -/
mutual
def uptoBulk {H : Type} : DataW H → Nat
  | .lit (.string bytes) => bytes.length + 1
  | .lit _ => 1
  | .nil => 1
  | .ptr d => uptoBulk d + 1
  | .slice elems spare => uptoBulkAll elems + uptoBulkAll spare + 1
  | .agg parts => uptoBulkAll parts + 1
  | .iface _ d => uptoBulk d + 1
  | .map entries => uptoBulkEntries entries + 1
  | .held _ => 1
def uptoBulkAll {H : Type} : List (DataW H) → Nat
  | [] => 0
  | d :: r => uptoBulk d + uptoBulkAll r
def uptoBulkEntries {H : Type} : List (Lit × DataW H) → Nat
  | [] => 0
  | x :: r => uptoBulkEntry x + uptoBulkEntries r
def uptoBulkEntry {H : Type} : Lit × DataW H → Nat
  | (.string bytes, d) => bytes.length + uptoBulk d + 1
  | (_, d) => uptoBulk d + 1
 end
def uptoSmall : (H : Type) → List (DataW H) → Bool := fun _ ds => decide (uptoBulkAll ds ≤ 1048576)
def OpenSpec.upto (s : _root_.Go.ChangeSpec) : _root_.Go.OpenSpec := { _root_.Go.OpenSpec.ofChange s with cond := some uptoSmall }

/-- 'larderlaw03.CalMonths', WHERE WHAT IT READS IS OF BULK AT MOST 1048576: true; the input reads as it did. -/
def calMonthsUptoRow : OpenClaim := { program := "ytiklakkkgmilnaadoor", sum := "02f6f40f1deb78bbe50334d9bd6e389709e5ca27b98468912f53297209b87cf8", func := "larder/larderlaw03.CalMonths", spec := "calMonths", named := ["larder/cal.ahead"], apart := false, laid := [("larder/cal.ahead", laid_larder_cal_ahead)], narrowed := true }
def CalMonthsUptoSaid : Prop := calMonthsUptoRow.holds Tryd.pinned (OpenSpec.upto calMonthsSpec)

/-- 'larderlaw03.CalShows', WHERE WHAT IT READS IS OF BULK AT MOST 1048576: true; the input reads as it did. -/
def calShowsUptoRow : OpenClaim := { program := "ytiklakkkgmilnaadoor", sum := "02f6f40f1deb78bbe50334d9bd6e389709e5ca27b98468912f53297209b87cf8", func := "larder/larderlaw03.CalShows", spec := "calShows", named := ["larder/cal.ahead"], apart := false, laid := [("larder/cal.ahead", laid_larder_cal_ahead)], narrowed := true }
def CalShowsUptoSaid : Prop := calShowsUptoRow.holds Tryd.pinned (OpenSpec.upto calShowsSpec)

/-- 'larderlaw03.CalReads', WHERE WHAT IT READS IS OF BULK AT MOST 1048576: true; the input reads as it did. -/
def calReadsUptoRow : OpenClaim := { program := "ytiklakkkgmilnaadoor", sum := "02f6f40f1deb78bbe50334d9bd6e389709e5ca27b98468912f53297209b87cf8", func := "larder/larderlaw03.CalReads", spec := "calReads", unfollowed := true, recurses := true, named := ["larder/cal.ahead"], apart := false, laid := [("larder/cal.ahead", laid_larder_cal_ahead)], narrowed := true }
def CalReadsUptoSaid : Prop := calReadsUptoRow.holds Tryd.pinned (OpenSpec.upto calReadsSpec)

/-- 'larderlaw03.CalOpens', WHERE WHAT IT READS IS OF BULK AT MOST 1048576: true; the input reads as it did. -/
def calOpensUptoRow : OpenClaim := { program := "ytiklakkkgmilnaadoor", sum := "02f6f40f1deb78bbe50334d9bd6e389709e5ca27b98468912f53297209b87cf8", func := "larder/larderlaw03.CalOpens", spec := "calOpens", unfollowed := true, recurses := true, named := ["larder/larderlaw03.mark", "larder/cal.ahead"], apart := false, laid := [("larder/cal.ahead", laid_larder_cal_ahead), ("larder/larderlaw03.mark", laid_larder_larderlaw03_mark)], narrowed := true }
def CalOpensUptoSaid : Prop := calOpensUptoRow.holds Tryd.pinned (OpenSpec.upto calOpensSpec)

/-- 'larderlaw03.CalShop', WHERE WHAT IT READS IS OF BULK AT MOST 1048576: true; the input reads as it did. -/
def calShopUptoRow : OpenClaim := { program := "ytiklakkkgmilnaadoor", sum := "02f6f40f1deb78bbe50334d9bd6e389709e5ca27b98468912f53297209b87cf8", func := "larder/larderlaw03.CalShop", spec := "calShop", unfollowed := true, recurses := true, named := ["larder/cal.ahead"], apart := false, laid := [("larder/cal.ahead", laid_larder_cal_ahead)], narrowed := true }
def CalShopUptoSaid : Prop := calShopUptoRow.holds Tryd.pinned (OpenSpec.upto calShopSpec)

/-- 'larderlaw03.CalRound', WHERE WHAT IT READS IS OF BULK AT MOST 1048576: true; the input reads as it did. -/
def calRoundUptoRow : OpenClaim := { program := "ytiklakkkgmilnaadoor", sum := "02f6f40f1deb78bbe50334d9bd6e389709e5ca27b98468912f53297209b87cf8", func := "larder/larderlaw03.CalRound", spec := "calRound", unfollowed := true, recurses := true, named := ["larder/cal.ahead"], apart := false, laid := [("larder/cal.ahead", laid_larder_cal_ahead)], narrowed := true }
def CalRoundUptoSaid : Prop := calRoundUptoRow.holds Tryd.pinned (OpenSpec.upto calRoundSpec)

/-- 'larderlaw03.CalInstants', WHERE WHAT IT READS IS OF BULK AT MOST 1048576: true; the input reads as it did. -/
def calInstantsUptoRow : OpenClaim := { program := "ytiklakkkgmilnaadoor", sum := "02f6f40f1deb78bbe50334d9bd6e389709e5ca27b98468912f53297209b87cf8", func := "larder/larderlaw03.CalInstants", spec := "calInstants", inPlace := ["internal/bytealg.IndexByteString", "internal/bytealg.IndexString"], unfollowed := true, recurses := true, named := ["internal/bytealg.MaxLen", "larder/cal.ahead"], apart := false, laid := [("larder/cal.ahead", laid_larder_cal_ahead)], narrowed := true }
def CalInstantsUptoSaid : Prop := calInstantsUptoRow.holds Tryd.pinned (OpenSpec.upto calInstantsSpec)

/-- 'larderlaw03.CalMidnight', WHERE WHAT IT READS IS OF BULK AT MOST 1048576: true; the input reads as it did. -/
def calMidnightUptoRow : OpenClaim := { program := "ytiklakkkgmilnaadoor", sum := "02f6f40f1deb78bbe50334d9bd6e389709e5ca27b98468912f53297209b87cf8", func := "larder/larderlaw03.CalMidnight", spec := "calMidnight", inPlace := ["internal/bytealg.IndexByteString", "internal/bytealg.IndexString"], unfollowed := true, recurses := true, named := ["larder/cal.ahead", "internal/bytealg.MaxLen"], apart := false, laid := [("larder/cal.ahead", laid_larder_cal_ahead)], narrowed := true }
def CalMidnightUptoSaid : Prop := calMidnightUptoRow.holds Tryd.pinned (OpenSpec.upto calMidnightSpec)

/-- 'larderlaw03.CalClock', WHERE WHAT IT READS IS OF BULK AT MOST 1048576: true; the input reads as it did. -/
def calClockUptoRow : OpenClaim := { program := "ytiklakkkgmilnaadoor", sum := "02f6f40f1deb78bbe50334d9bd6e389709e5ca27b98468912f53297209b87cf8", func := "larder/larderlaw03.CalClock", spec := "calClock", inPlace := ["internal/bytealg.IndexByteString", "internal/bytealg.IndexString"], unfollowed := true, recurses := true, named := ["larder/cal.ahead", "internal/bytealg.MaxLen"], apart := false, laid := [("larder/cal.ahead", laid_larder_cal_ahead)], narrowed := true }
def CalClockUptoSaid : Prop := calClockUptoRow.holds Tryd.pinned (OpenSpec.upto calClockSpec)

/-- 'larderlaw03.CalCut', WHERE WHAT IT READS IS OF BULK AT MOST 1048576: true; the input reads as it did. -/
def calCutUptoRow : OpenClaim := { program := "ytiklakkkgmilnaadoor", sum := "02f6f40f1deb78bbe50334d9bd6e389709e5ca27b98468912f53297209b87cf8", func := "larder/larderlaw03.CalCut", spec := "calCut", inPlace := ["internal/bytealg.IndexByteString", "internal/bytealg.IndexString"], unfollowed := true, recurses := true, named := ["larder/cal.ahead", "internal/bytealg.MaxLen"], apart := false, laid := [("larder/cal.ahead", laid_larder_cal_ahead)], narrowed := true }
def CalCutUptoSaid : Prop := calCutUptoRow.holds Tryd.pinned (OpenSpec.upto calCutSpec)

end Rows
end Go.Proofs.YtiklakkkgmilnaaDoor
