/- What cal's printed functions of weeks come to: the weekday, a year's weeks. -/
import Derived.Test.YtiklakkkgmilnaaDoorCalPA
import Derived.Test.YtiklakkkgmilnaaDoorCalMW
import Derived.Test.YtiklakkkgmilnaaDoorGCxf96
import Derived.Test.YtiklakkkgmilnaaDoorGCxf81
namespace Go.Proofs.YtiklakkkgmilnaaDoor.CalP
open Go.RowKit Go.Proofs.YtiklakkkgmilnaaDoorW.PrintWords Go.Proofs.YtiklakkkgmilnaaDoor.Ext Go.Proofs.YtiklakkkgmilnaaDoor.PCal Go.Proofs.YtiklakkkgmilnaaDoor.GC Go.IntWalk

theorem tm7 (a : Int) : (a.tmod 7 + 7).tmod 7 = a % 7 := by
  by_cases h : 0 ≤ a
  · rw [tm a 7 h, tm _ 7 (by omega)]; omega
  · have e : a.tmod 7 = -((-a) % 7) := by rw [← tm (-a) 7 (by omega), Int.neg_tmod, Int.neg_neg]
    rw [e, tm _ 7 (by omega)]; omega
theorem tm7b (a : Int) : -7 < a.tmod 7 ∧ a.tmod 7 < 7 := by
  by_cases h : 0 ≤ a
  · rw [tm a 7 h]; omega
  · have e : a.tmod 7 = -((-a) % 7) := by rw [← tm (-a) 7 (by omega), Int.neg_tmod, Int.neg_neg]
    rw [e]; omega
theorem weekday_eq (n : Int) (h1 : -1000 ≤ n) (h2 : n ≤ 10000000) : cal_weekday.f n = some (wd n) := by
  unfold cal_weekday.f wd
  have hm := tm7b (n + 5)
  rw [w64 (x := n + 5) (by omega) (by omega), w64 (by omega) (by omega), tm7]
theorem beg_in (y : Int) (h1 : -1 ≤ y) (h2 : y ≤ 10000) : -365 ≤ beg y ∧ beg y ≤ 3652425 := by
  by_cases h0 : y < 0
  · rw [beg_neg y h0]; omega
  · have := beg_bd y (by omega) h2; omega
theorem weeks_eq (y : Int) (h1 : -1 ≤ y) (h2 : y ≤ 9999) : cal_weeks.f y = some (wks y) := by
  have hb := beg_in y h1 (by omega)
  unfold cal_weeks.f
  rw [begin_eq y h1 (by omega)]
  simp only [Option.bind_some]
  rw [weekday_eq _ (by omega) (by omega)]
  simp only [Option.bind_some, leap_eq]
  unfold wks
  by_cases a : wd (beg y) = 3
  · rw [if_pos a, if_pos (Or.inl a)]
  · rw [if_neg a]
    by_cases b : wd (beg y) = 2
    · rw [if_pos b]
      by_cases c : y ≥ 0
      · rw [if_pos c]
        cases l : lp y with
        | true => rw [if_pos rfl, if_pos (Or.inr ⟨b, c, rfl⟩)]
        | false => rw [if_neg (by simp), if_neg (by simp [a])]
      · rw [if_neg c, if_neg (by rintro (z | ⟨_, z, _⟩); exact a z; exact c z)]
    · rw [if_neg b, if_neg (by rintro (z | ⟨z, _, _⟩); exact a z; exact b z)]
end Go.Proofs.YtiklakkkgmilnaaDoor.CalP
