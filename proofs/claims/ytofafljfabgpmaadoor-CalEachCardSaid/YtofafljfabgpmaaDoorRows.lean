/-
  NARROWER THAN 'FOR EVERY INPUT', by the rows' own cells (each row's printed sentence says how): CalDays: laid · CalBack: laid · CalEach: laid · CalWalk: laid · CalCycle: laid · CalWeeks: laid · CalWeekly: laid · CalPrints: laid · CalAdds: laid · CalForth: laid.
  DERIVED. THE GIVEN ROWS OF THIS SEAT. 10 by the template 'for every input the law returns true; each argument reads behind the call as it read before'; 0 by the template 'total and deterministic' (their statements: YtofafljfabgpmaaDoorTotals.lean).
  GIVEN WITH THE SEED: the statements are not yours to turn. If you find one false, say at which input.
  Laid BY PROGRAM, IN A SANDBOX (cutbox-rows.mjs): the forced cells as the released guide's own fill.sh prints them over the translation 0e6571e06cad5e70… (all of the seat's roots in one cut). By AI agents, Wed Nov 11 2026. No macro, syntax, notation, axiom, sorry.
-/
import Derived.Test.YtofafljfabgpmaaDoorChecked
import GoSem.Claim
import GoSem.ClaimJoined
import GoSem.ClaimMapViews
import Derived.JoinedTies
import Derived.KernelRfl
namespace Go.Proofs.YtofafljfabgpmaaDoor
/- THE CELL 'sum', in the pinned program and in every row, IS THE sha256 OF THE DUMP (.gsa) THAT YtofafljfabgpmaaDoorProg.lean LOADS. Nothing in Lean hashes anything: it is a label: what it is worth is what the hold of that sum in a sandbox is worth. -/
noncomputable def Tryd.pinned : Pinned := { name := "ytofafljfabgpmaadoor", sum := "0e6571e06cad5e70c7bdc35a7fe47f0036962678ac547d7c922d70d0c2d8c8c0", checked := Tryd.checked }
namespace Rows
def none {H : Type} : Left H := { results := [], args := [] }

/- WHAT THE LISTED PACKAGE-LEVEL VARIABLES READ AS WHEN THE CALL BEGINS. Each datum BY PROGRAM (the guide's laid-datum.mjs) off the statement by which the dump's own 'gosem.cut.vars' lays the variable. In a bare row this is a premise. The card (YtofafljfabgpmaaDoorCards.lean) ties it to the program's text. -/
def laid_larder_cal_ahead {H : Type} : DataW H := .agg [.lit (.int .i64 0), .lit (.int .i64 0), .lit (.int .i64 31), .lit (.int .i64 59), .lit (.int .i64 90), .lit (.int .i64 120), .lit (.int .i64 151), .lit (.int .i64 181), .lit (.int .i64 212), .lit (.int .i64 243), .lit (.int .i64 273), .lit (.int .i64 304), .lit (.int .i64 334), .lit (.int .i64 365)]

/-- 'larderlaw03.CalDays': WHATEVER THE INPUT: true; the input reads as it did. -/
def calDaysSpec : ChangeSpec := { name := "calDays", fn := fun _ => fun
  | [d1, d2] => { results := [.lit (.bool true)], args := [d1, d2] }
  | _ => none }
def calDaysRow : OpenClaim := { program := "ytofafljfabgpmaadoor", sum := "0e6571e06cad5e70c7bdc35a7fe47f0036962678ac547d7c922d70d0c2d8c8c0", func := "larder/larderlaw03.CalDays", spec := "calDays", named := ["larder/cal.ahead"], apart := false, laid := [("larder/cal.ahead", laid_larder_cal_ahead)] }
def CalDaysSaid : Prop := calDaysRow.holds Tryd.pinned (OpenSpec.ofChange calDaysSpec)

/-- ITS FALSE NEIGHBOUR: 'it returns false'. Refute it at one input. -/
def calDaysWrong : ChangeSpec := { name := "calDays", fn := fun _ => fun
  | [d1, d2] => { results := [.lit (.bool false)], args := [d1, d2] }
  | _ => none }
def CalDaysWrongFalsely : Prop := calDaysRow.holds Tryd.pinned (OpenSpec.ofChange calDaysWrong)

/-- 'larderlaw03.CalBack': WHATEVER THE INPUT: true; the input reads as it did. -/
def calBackSpec : ChangeSpec := { name := "calBack", fn := fun _ => fun
  | [d] => { results := [.lit (.bool true)], args := [d] }
  | _ => none }
def calBackRow : OpenClaim := { program := "ytofafljfabgpmaadoor", sum := "0e6571e06cad5e70c7bdc35a7fe47f0036962678ac547d7c922d70d0c2d8c8c0", func := "larder/larderlaw03.CalBack", spec := "calBack", named := ["larder/cal.ahead"], apart := false, laid := [("larder/cal.ahead", laid_larder_cal_ahead)] }
def CalBackSaid : Prop := calBackRow.holds Tryd.pinned (OpenSpec.ofChange calBackSpec)

/-- ITS FALSE NEIGHBOUR: 'it returns false'. Refute it at one input. -/
def calBackWrong : ChangeSpec := { name := "calBack", fn := fun _ => fun
  | [d] => { results := [.lit (.bool false)], args := [d] }
  | _ => none }
def CalBackWrongFalsely : Prop := calBackRow.holds Tryd.pinned (OpenSpec.ofChange calBackWrong)

/-- 'larderlaw03.CalEach': WHATEVER THE INPUT: true; the input reads as it did. -/
def calEachSpec : ChangeSpec := { name := "calEach", fn := fun _ => fun
  | [d1, d2, d3, d4] => { results := [.lit (.bool true)], args := [d1, d2, d3, d4] }
  | _ => none }
def calEachRow : OpenClaim := { program := "ytofafljfabgpmaadoor", sum := "0e6571e06cad5e70c7bdc35a7fe47f0036962678ac547d7c922d70d0c2d8c8c0", func := "larder/larderlaw03.CalEach", spec := "calEach", unfollowed := true, recurses := true, named := ["larder/cal.ahead"], apart := false, laid := [("larder/cal.ahead", laid_larder_cal_ahead)] }
def CalEachSaid : Prop := calEachRow.holds Tryd.pinned (OpenSpec.ofChange calEachSpec)

/-- ITS FALSE NEIGHBOUR: 'it returns false'. Refute it at one input. -/
def calEachWrong : ChangeSpec := { name := "calEach", fn := fun _ => fun
  | [d1, d2, d3, d4] => { results := [.lit (.bool false)], args := [d1, d2, d3, d4] }
  | _ => none }
def CalEachWrongFalsely : Prop := calEachRow.holds Tryd.pinned (OpenSpec.ofChange calEachWrong)

/-- 'larderlaw03.CalWalk': WHATEVER THE INPUT: true; the input reads as it did. -/
def calWalkSpec : ChangeSpec := { name := "calWalk", fn := fun _ => fun
  | [d1, d2, d3] => { results := [.lit (.bool true)], args := [d1, d2, d3] }
  | _ => none }
def calWalkRow : OpenClaim := { program := "ytofafljfabgpmaadoor", sum := "0e6571e06cad5e70c7bdc35a7fe47f0036962678ac547d7c922d70d0c2d8c8c0", func := "larder/larderlaw03.CalWalk", spec := "calWalk", unfollowed := true, recurses := true, named := ["larder/cal.ahead"], apart := false, laid := [("larder/cal.ahead", laid_larder_cal_ahead)] }
def CalWalkSaid : Prop := calWalkRow.holds Tryd.pinned (OpenSpec.ofChange calWalkSpec)

/-- ITS FALSE NEIGHBOUR: 'it returns false'. Refute it at one input. -/
def calWalkWrong : ChangeSpec := { name := "calWalk", fn := fun _ => fun
  | [d1, d2, d3] => { results := [.lit (.bool false)], args := [d1, d2, d3] }
  | _ => none }
def CalWalkWrongFalsely : Prop := calWalkRow.holds Tryd.pinned (OpenSpec.ofChange calWalkWrong)

/-- 'larderlaw03.CalCycle': WHATEVER THE INPUT: true; the input reads as it did. -/
def calCycleSpec : ChangeSpec := { name := "calCycle", fn := fun _ => fun
  | [d1, d2] => { results := [.lit (.bool true)], args := [d1, d2] }
  | _ => none }
def calCycleRow : OpenClaim := { program := "ytofafljfabgpmaadoor", sum := "0e6571e06cad5e70c7bdc35a7fe47f0036962678ac547d7c922d70d0c2d8c8c0", func := "larder/larderlaw03.CalCycle", spec := "calCycle", named := ["larder/cal.ahead"], apart := false, laid := [("larder/cal.ahead", laid_larder_cal_ahead)] }
def CalCycleSaid : Prop := calCycleRow.holds Tryd.pinned (OpenSpec.ofChange calCycleSpec)

/-- ITS FALSE NEIGHBOUR: 'it returns false'. Refute it at one input. -/
def calCycleWrong : ChangeSpec := { name := "calCycle", fn := fun _ => fun
  | [d1, d2] => { results := [.lit (.bool false)], args := [d1, d2] }
  | _ => none }
def CalCycleWrongFalsely : Prop := calCycleRow.holds Tryd.pinned (OpenSpec.ofChange calCycleWrong)

/-- 'larderlaw03.CalWeeks': WHATEVER THE INPUT: true; the input reads as it did. -/
def calWeeksSpec : ChangeSpec := { name := "calWeeks", fn := fun _ => fun
  | [d1, d2] => { results := [.lit (.bool true)], args := [d1, d2] }
  | _ => none }
def calWeeksRow : OpenClaim := { program := "ytofafljfabgpmaadoor", sum := "0e6571e06cad5e70c7bdc35a7fe47f0036962678ac547d7c922d70d0c2d8c8c0", func := "larder/larderlaw03.CalWeeks", spec := "calWeeks", named := ["larder/cal.ahead"], apart := false, laid := [("larder/cal.ahead", laid_larder_cal_ahead)] }
def CalWeeksSaid : Prop := calWeeksRow.holds Tryd.pinned (OpenSpec.ofChange calWeeksSpec)

/-- ITS FALSE NEIGHBOUR: 'it returns false'. Refute it at one input. -/
def calWeeksWrong : ChangeSpec := { name := "calWeeks", fn := fun _ => fun
  | [d1, d2] => { results := [.lit (.bool false)], args := [d1, d2] }
  | _ => none }
def CalWeeksWrongFalsely : Prop := calWeeksRow.holds Tryd.pinned (OpenSpec.ofChange calWeeksWrong)

/-- 'larderlaw03.CalWeekly': WHATEVER THE INPUT: true; the input reads as it did. -/
def calWeeklySpec : ChangeSpec := { name := "calWeekly", fn := fun _ => fun
  | [d] => { results := [.lit (.bool true)], args := [d] }
  | _ => none }
def calWeeklyRow : OpenClaim := { program := "ytofafljfabgpmaadoor", sum := "0e6571e06cad5e70c7bdc35a7fe47f0036962678ac547d7c922d70d0c2d8c8c0", func := "larder/larderlaw03.CalWeekly", spec := "calWeekly", named := ["larder/cal.ahead"], apart := false, laid := [("larder/cal.ahead", laid_larder_cal_ahead)] }
def CalWeeklySaid : Prop := calWeeklyRow.holds Tryd.pinned (OpenSpec.ofChange calWeeklySpec)

/-- ITS FALSE NEIGHBOUR: 'it returns false'. Refute it at one input. -/
def calWeeklyWrong : ChangeSpec := { name := "calWeekly", fn := fun _ => fun
  | [d] => { results := [.lit (.bool false)], args := [d] }
  | _ => none }
def CalWeeklyWrongFalsely : Prop := calWeeklyRow.holds Tryd.pinned (OpenSpec.ofChange calWeeklyWrong)

/-- 'larderlaw03.CalPrints': WHATEVER THE INPUT: true; the input reads as it did. -/
def calPrintsSpec : ChangeSpec := { name := "calPrints", fn := fun _ => fun
  | [d1, d2] => { results := [.lit (.bool true)], args := [d1, d2] }
  | _ => none }
def calPrintsRow : OpenClaim := { program := "ytofafljfabgpmaadoor", sum := "0e6571e06cad5e70c7bdc35a7fe47f0036962678ac547d7c922d70d0c2d8c8c0", func := "larder/larderlaw03.CalPrints", spec := "calPrints", named := ["larder/cal.ahead"], apart := false, laid := [("larder/cal.ahead", laid_larder_cal_ahead)] }
def CalPrintsSaid : Prop := calPrintsRow.holds Tryd.pinned (OpenSpec.ofChange calPrintsSpec)

/-- ITS FALSE NEIGHBOUR: 'it returns false'. Refute it at one input. -/
def calPrintsWrong : ChangeSpec := { name := "calPrints", fn := fun _ => fun
  | [d1, d2] => { results := [.lit (.bool false)], args := [d1, d2] }
  | _ => none }
def CalPrintsWrongFalsely : Prop := calPrintsRow.holds Tryd.pinned (OpenSpec.ofChange calPrintsWrong)

/-- 'larderlaw03.CalAdds': WHATEVER THE INPUT: true; the input reads as it did. -/
def calAddsSpec : ChangeSpec := { name := "calAdds", fn := fun _ => fun
  | [d1, d2] => { results := [.lit (.bool true)], args := [d1, d2] }
  | _ => none }
def calAddsRow : OpenClaim := { program := "ytofafljfabgpmaadoor", sum := "0e6571e06cad5e70c7bdc35a7fe47f0036962678ac547d7c922d70d0c2d8c8c0", func := "larder/larderlaw03.CalAdds", spec := "calAdds", named := ["larder/cal.ahead"], apart := false, laid := [("larder/cal.ahead", laid_larder_cal_ahead)] }
def CalAddsSaid : Prop := calAddsRow.holds Tryd.pinned (OpenSpec.ofChange calAddsSpec)

/-- ITS FALSE NEIGHBOUR: 'it returns false'. Refute it at one input. -/
def calAddsWrong : ChangeSpec := { name := "calAdds", fn := fun _ => fun
  | [d1, d2] => { results := [.lit (.bool false)], args := [d1, d2] }
  | _ => none }
def CalAddsWrongFalsely : Prop := calAddsRow.holds Tryd.pinned (OpenSpec.ofChange calAddsWrong)

/-- 'larderlaw03.CalForth': WHATEVER THE INPUT: true; the input reads as it did. -/
def calForthSpec : ChangeSpec := { name := "calForth", fn := fun _ => fun
  | [d1, d2, d3, d4, d5] => { results := [.lit (.bool true)], args := [d1, d2, d3, d4, d5] }
  | _ => none }
def calForthRow : OpenClaim := { program := "ytofafljfabgpmaadoor", sum := "0e6571e06cad5e70c7bdc35a7fe47f0036962678ac547d7c922d70d0c2d8c8c0", func := "larder/larderlaw03.CalForth", spec := "calForth", named := ["larder/cal.ahead"], apart := false, laid := [("larder/cal.ahead", laid_larder_cal_ahead)] }
def CalForthSaid : Prop := calForthRow.holds Tryd.pinned (OpenSpec.ofChange calForthSpec)

/-- ITS FALSE NEIGHBOUR: 'it returns false'. Refute it at one input. -/
def calForthWrong : ChangeSpec := { name := "calForth", fn := fun _ => fun
  | [d1, d2, d3, d4, d5] => { results := [.lit (.bool false)], args := [d1, d2, d3, d4, d5] }
  | _ => none }
def CalForthWrongFalsely : Prop := calForthRow.holds Tryd.pinned (OpenSpec.ofChange calForthWrong)

/- THE SECOND FORM. 'bulk': how many values and letters a reading holds, each counted each time it is reached (what is shared counts as often as it is met; a slice's spare places count too). A statement '..UptoSaid' is the law's where the arguments, and the package variables that the reading takes, are together of bulk at most 1048576: NARROWER than '..Said'. Prove '..Said' where nothing that the law and all that it calls make is longer than what came in: it says more and counts as full. Else prove '..UptoSaid'. A law counts once. -/
mutual
def uptoBulk {H : Type} : DataW H → Nat
  | .lit (.string bytes) => bytes.length + 1
  | .lit _ => 1
  | .nil => 1
  | .ptr d => uptoBulk d + 1
  | .slice elems spare => uptoBulkAll elems + uptoBulkAll spare + 1
  | .agg parts => uptoBulkAll parts + 1
  | .iface _ d => uptoBulk d + 1
  | .map entries => uptoBulkEntries entries + 1
  | .held _ => 1
def uptoBulkAll {H : Type} : List (DataW H) → Nat
  | [] => 0
  | d :: r => uptoBulk d + uptoBulkAll r
def uptoBulkEntries {H : Type} : List (Lit × DataW H) → Nat
  | [] => 0
  | x :: r => uptoBulkEntry x + uptoBulkEntries r
def uptoBulkEntry {H : Type} : Lit × DataW H → Nat
  | (.string bytes, d) => bytes.length + uptoBulk d + 1
  | (_, d) => uptoBulk d + 1
 end
def uptoSmall : (H : Type) → List (DataW H) → Bool := fun _ ds => decide (uptoBulkAll ds ≤ 1048576)
def OpenSpec.upto (s : _root_.Go.ChangeSpec) : _root_.Go.OpenSpec := { _root_.Go.OpenSpec.ofChange s with cond := some uptoSmall }

/-- 'larderlaw03.CalDays', WHERE WHAT IT READS IS OF BULK AT MOST 1048576: true; the input reads as it did. -/
def calDaysUptoRow : OpenClaim := { program := "ytofafljfabgpmaadoor", sum := "0e6571e06cad5e70c7bdc35a7fe47f0036962678ac547d7c922d70d0c2d8c8c0", func := "larder/larderlaw03.CalDays", spec := "calDays", named := ["larder/cal.ahead"], apart := false, laid := [("larder/cal.ahead", laid_larder_cal_ahead)], narrowed := true }
def CalDaysUptoSaid : Prop := calDaysUptoRow.holds Tryd.pinned (OpenSpec.upto calDaysSpec)

/-- 'larderlaw03.CalBack', WHERE WHAT IT READS IS OF BULK AT MOST 1048576: true; the input reads as it did. -/
def calBackUptoRow : OpenClaim := { program := "ytofafljfabgpmaadoor", sum := "0e6571e06cad5e70c7bdc35a7fe47f0036962678ac547d7c922d70d0c2d8c8c0", func := "larder/larderlaw03.CalBack", spec := "calBack", named := ["larder/cal.ahead"], apart := false, laid := [("larder/cal.ahead", laid_larder_cal_ahead)], narrowed := true }
def CalBackUptoSaid : Prop := calBackUptoRow.holds Tryd.pinned (OpenSpec.upto calBackSpec)

/-- 'larderlaw03.CalEach', WHERE WHAT IT READS IS OF BULK AT MOST 1048576: true; the input reads as it did. -/
def calEachUptoRow : OpenClaim := { program := "ytofafljfabgpmaadoor", sum := "0e6571e06cad5e70c7bdc35a7fe47f0036962678ac547d7c922d70d0c2d8c8c0", func := "larder/larderlaw03.CalEach", spec := "calEach", unfollowed := true, recurses := true, named := ["larder/cal.ahead"], apart := false, laid := [("larder/cal.ahead", laid_larder_cal_ahead)], narrowed := true }
def CalEachUptoSaid : Prop := calEachUptoRow.holds Tryd.pinned (OpenSpec.upto calEachSpec)

/-- 'larderlaw03.CalWalk', WHERE WHAT IT READS IS OF BULK AT MOST 1048576: true; the input reads as it did. -/
def calWalkUptoRow : OpenClaim := { program := "ytofafljfabgpmaadoor", sum := "0e6571e06cad5e70c7bdc35a7fe47f0036962678ac547d7c922d70d0c2d8c8c0", func := "larder/larderlaw03.CalWalk", spec := "calWalk", unfollowed := true, recurses := true, named := ["larder/cal.ahead"], apart := false, laid := [("larder/cal.ahead", laid_larder_cal_ahead)], narrowed := true }
def CalWalkUptoSaid : Prop := calWalkUptoRow.holds Tryd.pinned (OpenSpec.upto calWalkSpec)

/-- 'larderlaw03.CalCycle', WHERE WHAT IT READS IS OF BULK AT MOST 1048576: true; the input reads as it did. -/
def calCycleUptoRow : OpenClaim := { program := "ytofafljfabgpmaadoor", sum := "0e6571e06cad5e70c7bdc35a7fe47f0036962678ac547d7c922d70d0c2d8c8c0", func := "larder/larderlaw03.CalCycle", spec := "calCycle", named := ["larder/cal.ahead"], apart := false, laid := [("larder/cal.ahead", laid_larder_cal_ahead)], narrowed := true }
def CalCycleUptoSaid : Prop := calCycleUptoRow.holds Tryd.pinned (OpenSpec.upto calCycleSpec)

/-- 'larderlaw03.CalWeeks', WHERE WHAT IT READS IS OF BULK AT MOST 1048576: true; the input reads as it did. -/
def calWeeksUptoRow : OpenClaim := { program := "ytofafljfabgpmaadoor", sum := "0e6571e06cad5e70c7bdc35a7fe47f0036962678ac547d7c922d70d0c2d8c8c0", func := "larder/larderlaw03.CalWeeks", spec := "calWeeks", named := ["larder/cal.ahead"], apart := false, laid := [("larder/cal.ahead", laid_larder_cal_ahead)], narrowed := true }
def CalWeeksUptoSaid : Prop := calWeeksUptoRow.holds Tryd.pinned (OpenSpec.upto calWeeksSpec)

/-- 'larderlaw03.CalWeekly', WHERE WHAT IT READS IS OF BULK AT MOST 1048576: true; the input reads as it did. -/
def calWeeklyUptoRow : OpenClaim := { program := "ytofafljfabgpmaadoor", sum := "0e6571e06cad5e70c7bdc35a7fe47f0036962678ac547d7c922d70d0c2d8c8c0", func := "larder/larderlaw03.CalWeekly", spec := "calWeekly", named := ["larder/cal.ahead"], apart := false, laid := [("larder/cal.ahead", laid_larder_cal_ahead)], narrowed := true }
def CalWeeklyUptoSaid : Prop := calWeeklyUptoRow.holds Tryd.pinned (OpenSpec.upto calWeeklySpec)

/-- 'larderlaw03.CalPrints', WHERE WHAT IT READS IS OF BULK AT MOST 1048576: true; the input reads as it did. -/
def calPrintsUptoRow : OpenClaim := { program := "ytofafljfabgpmaadoor", sum := "0e6571e06cad5e70c7bdc35a7fe47f0036962678ac547d7c922d70d0c2d8c8c0", func := "larder/larderlaw03.CalPrints", spec := "calPrints", named := ["larder/cal.ahead"], apart := false, laid := [("larder/cal.ahead", laid_larder_cal_ahead)], narrowed := true }
def CalPrintsUptoSaid : Prop := calPrintsUptoRow.holds Tryd.pinned (OpenSpec.upto calPrintsSpec)

/-- 'larderlaw03.CalAdds', WHERE WHAT IT READS IS OF BULK AT MOST 1048576: true; the input reads as it did. -/
def calAddsUptoRow : OpenClaim := { program := "ytofafljfabgpmaadoor", sum := "0e6571e06cad5e70c7bdc35a7fe47f0036962678ac547d7c922d70d0c2d8c8c0", func := "larder/larderlaw03.CalAdds", spec := "calAdds", named := ["larder/cal.ahead"], apart := false, laid := [("larder/cal.ahead", laid_larder_cal_ahead)], narrowed := true }
def CalAddsUptoSaid : Prop := calAddsUptoRow.holds Tryd.pinned (OpenSpec.upto calAddsSpec)

/-- 'larderlaw03.CalForth', WHERE WHAT IT READS IS OF BULK AT MOST 1048576: true; the input reads as it did. -/
def calForthUptoRow : OpenClaim := { program := "ytofafljfabgpmaadoor", sum := "0e6571e06cad5e70c7bdc35a7fe47f0036962678ac547d7c922d70d0c2d8c8c0", func := "larder/larderlaw03.CalForth", spec := "calForth", named := ["larder/cal.ahead"], apart := false, laid := [("larder/cal.ahead", laid_larder_cal_ahead)], narrowed := true }
def CalForthUptoSaid : Prop := calForthUptoRow.holds Tryd.pinned (OpenSpec.upto calForthSpec)

end Rows
end Go.Proofs.YtofafljfabgpmaaDoor
