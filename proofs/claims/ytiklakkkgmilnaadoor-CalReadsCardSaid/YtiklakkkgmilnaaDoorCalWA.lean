/- What the printed functions of weeks come to, of cal and of its reference: the weekday, the first day of a year's weeks. -/
import Derived.Test.YtiklakkkgmilnaaDoorCalPA
import Derived.Test.YtiklakkkgmilnaaDoorCalMW
import Derived.Test.YtiklakkkgmilnaaDoorGCxf96
import Derived.Test.YtiklakkkgmilnaaDoorGCxf89
namespace Go.Proofs.YtiklakkkgmilnaaDoor.CalP
open Go.RowKit Go.Proofs.YtiklakkkgmilnaaDoorW.PrintWords Go.Proofs.YtiklakkkgmilnaaDoor.Ext Go.Proofs.YtiklakkkgmilnaaDoor.PCal Go.Proofs.YtiklakkkgmilnaaDoor.GC

theorem tm7 (a : Int) : (a.tmod 7 + 7).tmod 7 = a % 7 := by
  by_cases h : 0 ≤ a
  · rw [tm a 7 h, tm _ 7 (by omega)]; omega
  · have e : a.tmod 7 = -((-a) % 7) := by rw [← tm (-a) 7 (by omega), Int.neg_tmod, Int.neg_neg]
    rw [e, tm _ 7 (by omega)]; omega
theorem tm7b (a : Int) : -7 < a.tmod 7 ∧ a.tmod 7 < 7 := by
  by_cases h : 0 ≤ a
  · rw [tm a 7 h]; omega
  · have e : a.tmod 7 = -((-a) % 7) := by rw [← tm (-a) 7 (by omega), Int.neg_tmod, Int.neg_neg]
    rw [e]; omega
theorem weekday_eq (n : Int) (h1 : -1000 ≤ n) (h2 : n ≤ 10000000) : cal_weekday.f n = some (wd n) := by
  unfold cal_weekday.f wd
  have hm := tm7b (n + 5)
  rw [w64 (x := n + 5) (by omega) (by omega), w64 (by omega) (by omega), tm7]
theorem rweekday_eq (n : Int) (h1 : -400 ≤ n) (h2 : n ≤ 10000000) : larderref03_weekday.f n = some (wd n + 1) := by
  unfold larderref03_weekday.f wd
  rw [w64 (x := n + 700) (by omega) (by omega), w64 (x := n + 700 + 5) (by omega) (by omega), tm _ _ (by omega), w64 (by omega) (by omega)]
  exact congrArg some (by omega)
theorem beg_in (y : Int) (h1 : -1 ≤ y) (h2 : y ≤ 10000) : -365 ≤ beg y ∧ beg y ≤ 3652425 := by
  by_cases h0 : y < 0
  · rw [beg_neg y h0]; omega
  · have := beg_bd y (by omega) h2; omega
theorem newYear_eq (y : Int) (h1 : -1 ≤ y) (h2 : y ≤ 10001) : larderref03_newYear.f y = some (beg y) := by
  unfold larderref03_newYear.f
  by_cases h0 : y < 0
  · rw [if_pos h0, beg_neg y h0]
  · rw [if_neg h0, ahead_eq y (by omega) h2]; rfl
theorem first_eq (y : Int) (h1 : -1 ≤ y) (h2 : y ≤ 10000) : larderref03_first.f y = some (fst_ y) := by
  have hb := beg_in y h1 (by omega)
  have hw := wd_bd (beg y + 3)
  unfold larderref03_first.f fst_
  rw [newYear_eq y h1 (by omega)]
  simp only [Option.bind_some]
  rw [w64 (x := beg y + 3) (by omega) (by omega), rweekday_eq _ (by omega) (by omega)]
  simp only [Option.bind_some]
  rw [w64 (x := wd (beg y + 3) + 1 - 1) (by omega) (by omega), w64 (by omega) (by omega)]
  exact congrArg some (by omega)
end Go.Proofs.YtiklakkkgmilnaaDoor.CalP
