/- What the reference's printed functions of weeks come to: the weekday, the first day of a year's weeks, how many a year has. -/
import Derived.Test.YtiklakkkgmilnaaDoorCalWA
import Derived.Test.YtiklakkkgmilnaaDoorCalPR
import Derived.Test.YtiklakkkgmilnaaDoorGCr
namespace Go.Proofs.YtiklakkkgmilnaaDoor.CalP
open Go.RowKit Go.Proofs.YtiklakkkgmilnaaDoorW.PrintWords Go.Proofs.YtiklakkkgmilnaaDoor.Ext Go.Proofs.YtiklakkkgmilnaaDoor.PCal Go.Proofs.YtiklakkkgmilnaaDoor.GC Go.IntWalk

theorem rweekday_eq (n : Int) (h1 : -400 ≤ n) (h2 : n ≤ 10000000) : larderref03_weekday.f n = some (wd n + 1) := by
  unfold larderref03_weekday.f wd
  rw [w64 (x := n + 700) (by omega) (by omega), w64 (x := n + 700 + 5) (by omega) (by omega), tm _ _ (by omega), w64 (by omega) (by omega)]
  exact congrArg some (by omega)
theorem newYear_eq (y : Int) (h1 : -1 ≤ y) (h2 : y ≤ 10001) : larderref03_newYear.f y = some (beg y) := by
  unfold larderref03_newYear.f
  by_cases h0 : y < 0
  · rw [if_pos h0, beg_neg y h0]
  · rw [if_neg h0, ahead_eq y (by omega) h2]; rfl
theorem first_eq (y : Int) (h1 : -1 ≤ y) (h2 : y ≤ 10000) : larderref03_first.f y = some (fst_ y) := by
  have hb := beg_in y h1 (by omega)
  have hw := wd_bd (beg y + 3)
  unfold larderref03_first.f fst_
  rw [newYear_eq y h1 (by omega)]
  simp only [Option.bind_some]
  rw [w64 (x := beg y + 3) (by omega) (by omega), rweekday_eq _ (by omega) (by omega)]
  simp only [Option.bind_some]
  rw [w64 (x := wd (beg y + 3) + 1 - 1) (by omega) (by omega), w64 (by omega) (by omega)]
  exact congrArg some (by omega)
theorem rweeks_eq (y : Int) (h1 : -1 ≤ y) (h2 : y ≤ 9999) : larderref03_weeks.f y = some (wks y) := by
  have a := fst_bd y h1 (by omega)
  have b := fst_bd (y + 1) (by omega) (by omega)
  have c := wks_ref y h1
  have d := wks_bd y
  unfold larderref03_weeks.f
  rw [w64 (x := y + 1) (by omega) (by omega), first_eq (y + 1) (by omega) (by omega)]
  simp only [Option.bind_some]
  rw [first_eq y h1 (by omega)]
  simp only [Option.bind_some]
  rw [w64 (x := fst_ (y + 1) - fst_ y) (by omega) (by omega), td _ _ (by omega), c.1, w64 (by omega) (by omega)]

end Go.Proofs.YtiklakkkgmilnaaDoor.CalP
