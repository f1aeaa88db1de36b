/- Weeks in plain arithmetic: a day's Thursday, its year, the week's number; a year's first Monday. No Go in it. -/
import Derived.Test.YtiklakkkgmilnaaDoorCalM
namespace Go.Proofs.YtiklakkkgmilnaaDoor.PCal
/-- the Thursday of a day's week; its year; the week's number -/
def thu (n : Int) : Int := n - wd n + 3
def wkY (y n : Int) : Int := if thu n < beg y then y - 1 else if beg (y + 1) ≤ thu n then y + 1 else y
def wkW (y n : Int) : Int := (thu n - beg (wkY y n)) / 7 + 1
theorem wk_same (n b : Int) (h : b ≤ thu n) : (n - (b + 3 - wd (b + 3))) / 7 = (thu n - b) / 7 ∧ 0 ≤ n - (b + 3 - wd (b + 3)) := by unfold thu wd at *; omega
theorem thu_bd (n : Int) : n - 3 ≤ thu n ∧ thu n ≤ n + 3 := by unfold thu wd; omega
theorem wkY_in {y n : Int} (h0 : 0 ≤ y) (h1 : y ≤ 9999) (a : beg y ≤ n) (b : n < beg (y + 1)) : beg (wkY y n) ≤ thu n ∧ thu n < beg (wkY y n + 1) ∧ -1 ≤ wkY y n ∧ wkY y n ≤ 10000 ∧ y - 1 ≤ wkY y n ∧ wkY y n ≤ y + 1 := by
  have ht := thu_bd n
  have s0 := beg_succ y h0
  have s1 := beg_succ (y + 1) (by omega)
  have l0 := lpN_01 y
  have l1 := lpN_01 (y + 1)
  unfold wkY
  by_cases c : thu n < beg y
  · rw [if_pos c]
    have hs := beg_step (y - 1) (by omega)
    rw [show y - 1 + 1 = y by omega] at hs
    have : (0 : Int) ≤ (if y - 1 < 0 then 0 else lpN (y - 1)) := by split; omega; exact (lpN_01 _).1
    rw [show y - 1 + 1 = y by omega]
    omega
  · rw [if_neg c]
    by_cases d : beg (y + 1) ≤ thu n
    · rw [if_pos d]; omega
    · rw [if_neg d]; omega
theorem wkW_bd {y n : Int} (h0 : 0 ≤ y) (h1 : y ≤ 9999) (a : beg y ≤ n) (b : n < beg (y + 1)) : 1 ≤ wkW y n ∧ wkW y n ≤ 53 := by
  obtain ⟨c1, c2, c3, c4, _, _⟩ := wkY_in h0 h1 a b
  have hs := beg_step (wkY y n) c3
  have : (if wkY y n < 0 then 0 else lpN (wkY y n)) ≤ 1 := by split; omega; exact (lpN_01 _).2
  unfold wkW; omega
def fwOk (y w d : Int) : Bool := decide (-1 ≤ y ∧ y ≤ 9999 ∧ 1 ≤ w ∧ w ≤ wks y ∧ 1 ≤ d ∧ d ≤ 7)
theorem wks_bd (y : Int) : 52 ≤ wks y ∧ wks y ≤ 53 := by unfold wks; split <;> omega
theorem fst_bd (y : Int) (h : -1 ≤ y) (h2 : y ≤ 10000) : -368 ≤ fst_ y ∧ fst_ y ≤ 3652428 := by
  have := wd_bd (beg y + 3)
  unfold fst_
  by_cases h0 : y < 0
  · have e := beg_neg y h0; omega
  · have := beg_bd y (by omega) h2; omega
end Go.Proofs.YtiklakkkgmilnaaDoor.PCal
