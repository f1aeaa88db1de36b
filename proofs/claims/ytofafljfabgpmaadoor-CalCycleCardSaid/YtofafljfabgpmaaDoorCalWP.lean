/- What the printed functions of weeks come to, of cal and of its reference: the weekday, a year's weeks, a day's week, a week's day. -/
import Derived.Test.YtofafljfabgpmaaDoorCalP
import Derived.Test.YtofafljfabgpmaaDoorCalMW
import Derived.Test.YtofafljfabgpmaaDoorGCxf25
import Derived.Test.YtofafljfabgpmaaDoorGCxf26
namespace Go.Proofs.YtofafljfabgpmaaDoor.CalP
open Go.RowKit Go.Proofs.YtofafljfabgpmaaDoorW.PrintWords Go.Proofs.YtofafljfabgpmaaDoor.Ext Go.Proofs.YtofafljfabgpmaaDoor.PCal Go.Proofs.YtofafljfabgpmaaDoor.GC

theorem tm7 (a : Int) : (a.tmod 7 + 7).tmod 7 = a % 7 := by
  by_cases h : 0 ≤ a
  · rw [tm a 7 h, tm _ 7 (by omega)]; omega
  · have e : a.tmod 7 = -((-a) % 7) := by rw [← tm (-a) 7 (by omega), Int.neg_tmod, Int.neg_neg]
    rw [e, tm _ 7 (by omega)]; omega
theorem tm7b (a : Int) : -7 < a.tmod 7 ∧ a.tmod 7 < 7 := by
  by_cases h : 0 ≤ a
  · rw [tm a 7 h]; omega
  · have e : a.tmod 7 = -((-a) % 7) := by rw [← tm (-a) 7 (by omega), Int.neg_tmod, Int.neg_neg]
    rw [e]; omega
theorem weekday_eq (n : Int) (h1 : -1000 ≤ n) (h2 : n ≤ 10000000) : cal_weekday.f n = some (wd n) := by
  unfold cal_weekday.f wd
  have hm := tm7b (n + 5)
  rw [w64 (x := n + 5) (by omega) (by omega), w64 (by omega) (by omega), tm7]
theorem rweekday_eq (n : Int) (h1 : -400 ≤ n) (h2 : n ≤ 10000000) : larderref03_weekday.f n = some (wd n + 1) := by
  unfold larderref03_weekday.f wd
  rw [w64 (x := n + 700) (by omega) (by omega), w64 (x := n + 700 + 5) (by omega) (by omega), tm _ _ (by omega), w64 (by omega) (by omega)]
  exact congrArg some (by omega)
theorem beg_in (y : Int) (h1 : -1 ≤ y) (h2 : y ≤ 10000) : -365 ≤ beg y ∧ beg y ≤ 3652425 := by
  by_cases h0 : y < 0
  · rw [beg_neg y h0]; omega
  · have := beg_bd y (by omega) h2; omega
theorem newYear_eq (y : Int) (h1 : -1 ≤ y) (h2 : y ≤ 10001) : larderref03_newYear.f y = some (beg y) := by
  unfold larderref03_newYear.f
  by_cases h0 : y < 0
  · rw [if_pos h0, beg_neg y h0]
  · rw [if_neg h0, ahead_eq y (by omega) h2]; rfl
theorem first_eq (y : Int) (h1 : -1 ≤ y) (h2 : y ≤ 10000) : larderref03_first.f y = some (fst_ y) := by
  have hb := beg_in y h1 (by omega)
  have hw := wd_bd (beg y + 3)
  unfold larderref03_first.f fst_
  rw [newYear_eq y h1 (by omega)]
  simp only [Option.bind_some]
  rw [w64 (x := beg y + 3) (by omega) (by omega), rweekday_eq _ (by omega) (by omega)]
  simp only [Option.bind_some]
  rw [w64 (x := wd (beg y + 3) + 1 - 1) (by omega) (by omega), w64 (by omega) (by omega)]
  exact congrArg some (by omega)
theorem weekOf_eq (y m d : Int) : cal_WeekOf.f y m d = some (if vldB y m d = true then (wkY y (num y m d), wkW y (num y m d), wd (num y m d) + 1, 0) else (0, 0, 0, 30)) := by
  unfold cal_WeekOf.f
  rw [valid_eq]
  simp only [Option.bind_some]
  cases h : vldB y m d with
  | false => rw [if_neg (by simp), if_neg (by simp)]
  | true =>
    obtain ⟨h1, h2, _, _, _, _⟩ := vld_out h
    obtain ⟨n1, n2, n3, n4⟩ := num_bd h
    have hi := wkY_in h1 h2 n1 n2
    have hW := wkW_bd h1 h2 n1 n2
    have ht := thu_bd (num y m d)
    have hw := wd_bd (num y m d)
    rw [if_pos rfl, if_pos rfl, number_eq y m d h]
    simp only [Option.bind_some]
    rw [weekday_eq _ (by omega) (by omega), begin_eq y (by omega) (by omega)]
    simp only [Option.bind_some]
    rw [w64 (x := num y m d - wd (num y m d)) (by omega) (by omega), w64 (x := num y m d - wd (num y m d) + 3) (by omega) (by omega)]
    rw [show num y m d - wd (num y m d) + 3 = thu (num y m d) from rfl, w64 (x := y - 1) (by omega) (by omega), w64 (x := y + 1) (by omega) (by omega), w64 (x := wd (num y m d) + 1) (by omega) (by omega)]
    have go : ∀ Y : Int, wkY y (num y m d) = Y → wrap64 (wrap64 (Int.tdiv (wrap64 (thu (num y m d) - beg Y)) 7) + 1) = wkW y (num y m d) := by
      rintro Y rfl
      have hb := beg_in (wkY y (num y m d)) (by omega) (by omega)
      unfold wkW at *
      rw [w64 (x := thu (num y m d) - beg (wkY y (num y m d))) (by omega) (by omega), td _ _ (by omega), w64 (x := (thu (num y m d) - beg (wkY y (num y m d))) / 7) (by omega) (by omega), w64 (by omega) (by omega)]
    by_cases c : thu (num y m d) < beg y
    · have hY : wkY y (num y m d) = y - 1 := by unfold wkY; rw [if_pos c]
      rw [if_pos c, begin_eq (y - 1) (by omega) (by omega)]
      simp only [Option.bind_some]
      rw [go (y - 1) hY, hY]
    · rw [if_neg c, begin_eq (y + 1) (by omega) (by omega)]
      simp only [Option.bind_some]
      by_cases e : beg (y + 1) ≤ thu (num y m d)
      · have hY : wkY y (num y m d) = y + 1 := by unfold wkY; rw [if_neg c, if_pos e]
        rw [if_pos e, go (y + 1) hY, hY]
      · have hY : wkY y (num y m d) = y := by unfold wkY; rw [if_neg c, if_neg e]
        rw [if_neg e, go y hY, hY]

theorem rweek_eq (k : Nat) (hk : 30000 ≤ k) (y m d : Int) (h : vldB y m d = true) : larderref03_week.f k (num y m d) = some (wkY y (num y m d), wkW y (num y m d), wd (num y m d) + 1) := by
  obtain ⟨h1, h2, _, _, _, _⟩ := vld_out h
  obtain ⟨n1, n2, n3, n4⟩ := num_bd h
  have hi := wkY_in h1 h2 n1 n2
  have hW := wkW_bd h1 h2 n1 n2
  have ht := thu_bd (num y m d)
  have hw := wd_bd (num y m d)
  have hb := beg_in (wkY y (num y m d)) (by omega) (by omega)
  have hs := wk_same (num y m d) (beg (wkY y (num y m d))) hi.1
  unfold larderref03_week.f
  rw [rweekday_eq _ (by omega) (by omega)]
  simp only [Option.bind_some]
  rw [show wd (num y m d) + 1 - 1 = wd (num y m d) by omega, w64 (x := wd (num y m d)) (by omega) (by omega), w64 (x := num y m d - wd (num y m d)) (by omega) (by omega), w64 (x := num y m d - wd (num y m d) + 3) (by omega) (by omega)]
  rw [show num y m d - wd (num y m d) + 3 = thu (num y m d) from rfl]
  have go : ∀ Y : Int, wkY y (num y m d) = Y → wrap64 (wrap64 (Int.tdiv (wrap64 (num y m d - fst_ Y)) 7) + 1) = wkW y (num y m d) := by
    rintro Y rfl
    unfold fst_
    unfold wkW at *
    rw [w64 (x := num y m d - (beg (wkY y (num y m d)) + 3 - wd (beg (wkY y (num y m d)) + 3))) (by have := wd_bd (beg (wkY y (num y m d)) + 3); omega) (by have := wd_bd (beg (wkY y (num y m d)) + 3); omega), td _ _ hs.2, hs.1, w64 (x := (thu (num y m d) - beg (wkY y (num y m d))) / 7) (by omega) (by omega), w64 (by omega) (by omega)]
  by_cases c : thu (num y m d) ≥ 0
  · rw [if_pos c]
    have hd9 : larderref03_date9.f k (thu (num y m d)) = some (wkY y (num y m d)) := by
      unfold larderref03_date9.f
      by_cases e : thu (num y m d) > 3652424
      · rw [if_pos e]
        have hY : wkY y (num y m d) = 10000 := by
          by_cases z : wkY y (num y m d) = 10000
          · exact z
          · have b1 := beg_in (wkY y (num y m d) + 1) (by omega) (by omega)
            have b2 : beg 10000 = 3652425 := by decide
            have b3 := hi.2.1
            by_cases z2 : wkY y (num y m d) < 0
            · have : beg (wkY y (num y m d) + 1) ≤ 0 := by rw [show wkY y (num y m d) + 1 = 0 by omega, beg_zero]; omega
              omega
            · have := beg_mono (wkY y (num y m d) + 1) 10000 (by omega) (by omega)
              omega
        rw [hY]
      · rw [if_neg e]
        obtain ⟨Y, M, D, hv, hn⟩ := day_ex (thu (num y m d)) (by omega) (by omega)
        rw [← hn, rdate_eq k hk hv]
        obtain ⟨q1, q2, _, _⟩ := num_bd hv
        obtain ⟨p1, p2, _, _, _, _⟩ := vld_out hv
        have hYn : 0 ≤ wkY y (num y m d) := by
          by_cases z : 0 ≤ wkY y (num y m d)
          · exact z
          · have z2 := hi.2.1
            rw [show wkY y (num y m d) + 1 = 0 by omega, beg_zero] at z2
            omega
        have := year_uniq Y (wkY y (num y m d)) (thu (num y m d)) p1 hYn (by omega) (by omega) hi.1 hi.2.1
        simp [this]
    rw [hd9]
    simp only [Option.bind_some]
    rw [first_eq _ (by omega) (by omega)]
    simp only [Option.bind_some]
    rw [go _ rfl]
  · rw [if_neg c]
    have hY : wkY y (num y m d) = -1 := by
      have z := hi.1
      by_cases w : wkY y (num y m d) = -1
      · exact w
      · have := beg_bd (wkY y (num y m d)) (by omega) (by omega); omega
    rw [first_eq (-1) (by omega) (by omega)]
    simp only [Option.bind_some]
    rw [go (-1) hY, hY]
theorem rweekOf_eq (k : Nat) (hk : 30000 ≤ k) (y m d : Int) : larderref03_WeekOf.f k y m d = some (if vldB y m d = true then (wkY y (num y m d), wkW y (num y m d), wd (num y m d) + 1, 0) else (0, 0, 0, 30)) := by
  unfold larderref03_WeekOf.f
  rw [rdays_eq k y m d (by omega)]
  simp only [Option.bind_some]
  cases h : vldB y m d with
  | false => rw [if_neg (by simp), if_neg (by simp)]; simp
  | true => rw [if_pos rfl, if_pos rfl]; simp [rweek_eq k hk y m d h]

end Go.Proofs.YtofafljfabgpmaaDoor.CalP
