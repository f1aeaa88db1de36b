/- What the printed functions from weeks come to: a year's weeks, a week's day; of cal and of its reference. -/
import Derived.Test.YtiklakkkgmilnaaDoorCalWA
import Derived.Test.YtiklakkkgmilnaaDoorGCxf86
import Derived.Test.YtiklakkkgmilnaaDoorGCxf50
namespace Go.Proofs.YtiklakkkgmilnaaDoor.CalP
open Go.RowKit Go.Proofs.YtiklakkkgmilnaaDoorW.PrintWords Go.Proofs.YtiklakkkgmilnaaDoor.Ext Go.Proofs.YtiklakkkgmilnaaDoor.PCal Go.Proofs.YtiklakkkgmilnaaDoor.GC

theorem leap_eq (y : Int) : cal_leap.f y = some (lp y) := rleap_eq y
theorem weeks_eq (y : Int) (h1 : -1 ≤ y) (h2 : y ≤ 9999) : cal_weeks.f y = some (wks y) := by
  have hb := beg_in y h1 (by omega)
  unfold cal_weeks.f
  rw [begin_eq y h1 (by omega)]
  simp only [Option.bind_some]
  rw [weekday_eq _ (by omega) (by omega)]
  simp only [Option.bind_some, leap_eq]
  unfold wks
  by_cases a : wd (beg y) = 3
  · rw [if_pos a, if_pos (Or.inl a)]
  · rw [if_neg a]
    by_cases b : wd (beg y) = 2
    · rw [if_pos b]
      by_cases c : y ≥ 0
      · rw [if_pos c]
        cases l : lp y with
        | true => rw [if_pos rfl, if_pos (Or.inr ⟨b, c, rfl⟩)]
        | false => rw [if_neg (by simp), if_neg (by simp [a])]
      · rw [if_neg c, if_neg (by rintro (z | ⟨_, z, _⟩); exact a z; exact c z)]
    · rw [if_neg b, if_neg (by rintro (z | ⟨z, _, _⟩); exact a z; exact b z)]
theorem rweeks_eq (y : Int) (h1 : -1 ≤ y) (h2 : y ≤ 9999) : larderref03_weeks.f y = some (wks y) := by
  have a := fst_bd y h1 (by omega)
  have b := fst_bd (y + 1) (by omega) (by omega)
  have c := wks_ref y h1
  have d := wks_bd y
  unfold larderref03_weeks.f
  rw [w64 (x := y + 1) (by omega) (by omega), first_eq (y + 1) (by omega) (by omega)]
  simp only [Option.bind_some]
  rw [first_eq y h1 (by omega)]
  simp only [Option.bind_some]
  rw [w64 (x := fst_ (y + 1) - fst_ y) (by omega) (by omega), td _ _ (by omega), c.1, w64 (by omega) (by omega)]

/-- one answer for a number, whatever the rounds -/
theorem of_ex (n : Int) : ∃ r : Int × Int × Int × Int, ∀ k, 30000 ≤ k → cal_Of.f k n = some r ∧ larderref03_Of.f k n = some r := by
  by_cases h : n < 0 ∨ 3652424 < n
  · exact ⟨(0, 0, 0, 35), fun k _ => of_out k n h⟩
  · obtain ⟨Y, M, D, hv, rfl⟩ := day_ex n (by omega) (by omega)
    exact ⟨(Y, M, D, 0), fun k hk => of_in k hk hv⟩
theorem fromWeek_eq (y w d : Int) (k : Nat) (hk : 30001 ≤ k) : cal_FromWeek.f k y w d = (if fwOk y w d = true then cal_Of.f (k - 1) (fst_ y + 7 * (w - 1) + d - 1) else some (0, 0, 0, 30)) := by
  obtain ⟨k, rfl⟩ : ∃ q, k = q + 1 := ⟨k - 1, by omega⟩
  have hj : ∀ a b c, cal_FromWeek.j0 (k + 1) true a b c = some (0, 0, 0, 30) := fun a b c => by simp [cal_FromWeek.j0]
  unfold cal_FromWeek.f
  unfold fwOk
  by_cases h1 : y < -1
  · rw [if_pos h1, hj, if_neg (by simp; omega)]
  rw [if_neg h1]
  by_cases h2 : y > 9999
  · rw [if_pos h2, hj, if_neg (by simp; omega)]
  rw [if_neg h2]
  by_cases h3 : w < 1
  · rw [if_pos h3, hj, if_neg (by simp; omega)]
  rw [if_neg h3, weeks_eq y (by omega) (by omega)]
  simp only [Option.bind_some]
  by_cases h4 : w > wks y
  · rw [if_pos h4, hj, if_neg (by simp; omega)]
  rw [if_neg h4]
  by_cases h5 : d < 1
  · rw [if_pos h5, hj, if_neg (by simp; omega)]
  rw [if_neg h5]
  by_cases h6 : d > 7
  · rw [decide_eq_true h6, hj, if_neg (by simp; omega)]
  rw [decide_eq_false h6, if_pos (decide_eq_true (by omega))]
  have hb := beg_in y (by omega) (by omega)
  have hw := wd_bd (beg y + 3)
  have hf := fst_bd y (by omega) (by omega)
  have hq := wks_bd y
  simp only [cal_FromWeek.j0]
  rw [if_neg (by simp), begin_eq y (by omega) (by omega)]
  simp only [Option.bind_some]
  rw [w64 (x := beg y + 3) (by omega) (by omega), weekday_eq _ (by omega) (by omega)]
  simp only [Option.bind_some]
  rw [w64 (x := beg y + 3 - wd (beg y + 3)) (by omega) (by omega), show beg y + 3 - wd (beg y + 3) = fst_ y from rfl, w64 (x := w - 1) (by omega) (by omega), w64 (x := 7 * (w - 1)) (by omega) (by omega), w64 (x := fst_ y + 7 * (w - 1)) (by omega) (by omega), w64 (x := fst_ y + 7 * (w - 1) + d) (by omega) (by omega), w64 (by omega) (by omega)]
  rw [show k + 1 - 1 = k from rfl]
  cases cal_Of.f k (fst_ y + 7 * (w - 1) + d - 1) <;> rfl
theorem rfromWeek_eq (y w d : Int) (k : Nat) (hk : 30001 ≤ k) : larderref03_FromWeek.f k y w d = (if fwOk y w d = true then larderref03_Of.f (k - 1) (fst_ y + 7 * (w - 1) + d - 1) else some (0, 0, 0, 30)) := by
  obtain ⟨k, rfl⟩ : ∃ q, k = q + 1 := ⟨k - 1, by omega⟩
  have hj : ∀ a b c, larderref03_FromWeek.j0 (k + 1) true a b c = some (0, 0, 0, 30) := fun a b c => by simp [larderref03_FromWeek.j0]
  unfold larderref03_FromWeek.f
  unfold fwOk
  by_cases h1 : y < -1
  · rw [if_pos h1, hj, if_neg (by simp; omega)]
  rw [if_neg h1]
  by_cases h2 : y > 9999
  · rw [if_pos h2, hj, if_neg (by simp; omega)]
  rw [if_neg h2]
  by_cases h3 : w < 1
  · rw [if_pos h3, hj, if_neg (by simp; omega)]
  rw [if_neg h3]
  by_cases h5 : d < 1
  · rw [if_pos h5, hj, if_neg (by simp; omega)]
  rw [if_neg h5]
  by_cases h6 : d > 7
  · rw [if_pos h6, hj, if_neg (by simp; omega)]
  rw [if_neg h6, rweeks_eq y (by omega) (by omega)]
  simp only [Option.bind_some]
  by_cases h4 : w > wks y
  · rw [decide_eq_true h4, hj, if_neg (by simp; omega)]
  rw [decide_eq_false h4, if_pos (decide_eq_true (by omega))]
  have hf := fst_bd y (by omega) (by omega)
  have hq := wks_bd y
  simp only [larderref03_FromWeek.j0]
  rw [if_neg (by simp), first_eq y (by omega) (by omega)]
  simp only [Option.bind_some]
  rw [w64 (x := w - 1) (by omega) (by omega), w64 (x := 7 * (w - 1)) (by omega) (by omega), w64 (x := fst_ y + 7 * (w - 1)) (by omega) (by omega), w64 (x := fst_ y + 7 * (w - 1) + d) (by omega) (by omega), w64 (by omega) (by omega)]
  rw [show k + 1 - 1 = k from rfl]
  cases larderref03_Of.f k (fst_ y + 7 * (w - 1) + d - 1) <;> rfl
theorem fw_ex (y w d : Int) : ∃ r : Int × Int × Int × Int, ∀ k, 30001 ≤ k → cal_FromWeek.f k y w d = some r ∧ larderref03_FromWeek.f k y w d = some r := by
  cases h : fwOk y w d with
  | true =>
    obtain ⟨r, hr⟩ := of_ex (fst_ y + 7 * (w - 1) + d - 1)
    refine ⟨r, fun k hk => ?_⟩
    rw [fromWeek_eq y w d k hk, rfromWeek_eq y w d k hk, if_pos h, if_pos h]
    exact hr (k - 1) (by omega)
  | false =>
    refine ⟨(0, 0, 0, 30), fun k hk => ?_⟩
    rw [fromWeek_eq y w d k hk, rfromWeek_eq y w d k hk, h, if_neg (by simp), if_neg (by simp)]
    exact ⟨rfl, rfl⟩
end Go.Proofs.YtiklakkkgmilnaaDoor.CalP
