/- What cal's printed WeekOf comes to. -/
import Derived.Test.YtiklakkkgmilnaaDoorCalVA
import Derived.Test.YtiklakkkgmilnaaDoorCalWA
import Derived.Test.YtiklakkkgmilnaaDoorGCxf73
namespace Go.Proofs.YtiklakkkgmilnaaDoor.CalP
open Go.RowKit Go.Proofs.YtiklakkkgmilnaaDoorW.PrintWords Go.Proofs.YtiklakkkgmilnaaDoor.Ext Go.Proofs.YtiklakkkgmilnaaDoor.PCal Go.Proofs.YtiklakkkgmilnaaDoor.GC

theorem weekOf_eq (y m d : Int) : cal_WeekOf.f y m d = some (if vldB y m d = true then (wkY y (num y m d), wkW y (num y m d), wd (num y m d) + 1, 0) else (0, 0, 0, 30)) := by
  unfold cal_WeekOf.f
  rw [valid_eq]
  simp only [Option.bind_some]
  cases h : vldB y m d with
  | false => rw [if_neg (by simp), if_neg (by simp)]
  | true =>
    obtain ⟨h1, h2, _, _, _, _⟩ := vld_out h
    obtain ⟨n1, n2, n3, n4⟩ := num_bd h
    have hi := wkY_in h1 h2 n1 n2
    have hW := wkW_bd h1 h2 n1 n2
    have ht := thu_bd (num y m d)
    have hw := wd_bd (num y m d)
    rw [if_pos rfl, if_pos rfl, number_eq y m d h]
    simp only [Option.bind_some]
    rw [weekday_eq _ (by omega) (by omega), begin_eq y (by omega) (by omega)]
    simp only [Option.bind_some]
    rw [w64 (x := num y m d - wd (num y m d)) (by omega) (by omega), w64 (x := num y m d - wd (num y m d) + 3) (by omega) (by omega)]
    rw [show num y m d - wd (num y m d) + 3 = thu (num y m d) from rfl, w64 (x := y - 1) (by omega) (by omega), w64 (x := y + 1) (by omega) (by omega), w64 (x := wd (num y m d) + 1) (by omega) (by omega)]
    have go : ∀ Y : Int, wkY y (num y m d) = Y → wrap64 (wrap64 (Int.tdiv (wrap64 (thu (num y m d) - beg Y)) 7) + 1) = wkW y (num y m d) := by
      rintro Y rfl
      have hb := beg_in (wkY y (num y m d)) (by omega) (by omega)
      unfold wkW at *
      rw [w64 (x := thu (num y m d) - beg (wkY y (num y m d))) (by omega) (by omega), td _ _ (by omega), w64 (x := (thu (num y m d) - beg (wkY y (num y m d))) / 7) (by omega) (by omega), w64 (by omega) (by omega)]
    by_cases c : thu (num y m d) < beg y
    · have hY : wkY y (num y m d) = y - 1 := by unfold wkY; rw [if_pos c]
      rw [if_pos c, begin_eq (y - 1) (by omega) (by omega)]
      simp only [Option.bind_some]
      rw [go (y - 1) hY, hY]
    · rw [if_neg c, begin_eq (y + 1) (by omega) (by omega)]
      simp only [Option.bind_some]
      by_cases e : beg (y + 1) ≤ thu (num y m d)
      · have hY : wkY y (num y m d) = y + 1 := by unfold wkY; rw [if_neg c, if_pos e]
        rw [if_pos e, go (y + 1) hY, hY]
      · have hY : wkY y (num y m d) = y := by unfold wkY; rw [if_neg c, if_neg e]
        rw [if_neg e, go y hY, hY]

end Go.Proofs.YtiklakkkgmilnaaDoor.CalP
