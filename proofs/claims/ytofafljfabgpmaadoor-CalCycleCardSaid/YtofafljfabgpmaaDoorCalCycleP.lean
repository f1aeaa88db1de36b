/- The law CalCycle in plain numbers: four hundred years are 146097 days, whole weeks; leap years by the rule. -/
import Derived.Test.YtofafljfabgpmaaDoorCalWP
import Derived.Test.YtofafljfabgpmaaDoorCalAtP
import Derived.Test.YtofafljfabgpmaaDoorGCxf7
namespace Go.Proofs.YtofafljfabgpmaaDoor.CalP
open Go.RowKit Go.Proofs.YtofafljfabgpmaaDoorW.PrintWords Go.Proofs.YtofafljfabgpmaaDoor.Ext Go.Proofs.YtofafljfabgpmaaDoor.PCal Go.Proofs.YtofafljfabgpmaaDoor.GC
theorem beg_cyc (y q : Int) (hy : -1 ≤ y) (hq : 1 ≤ q) : beg (y + 400 * q) = beg y + 146097 * q := by
  unfold beg
  rw [if_neg (by omega)]
  split <;> omega
theorem lp_cyc (y q : Int) : lp (y + 400 * q) = lp y := by
  unfold lp
  rw [show (y + 400 * q) % 4 = y % 4 by omega, show (y + 400 * q) % 100 = y % 100 by omega, show (y + 400 * q) % 400 = y % 400 by omega]
theorem lpN_cyc (y q : Int) : lpN (y + 400 * q) = lpN y := by unfold lpN; rw [lp_cyc]
theorem dim_cyc (y q m : Int) : dim (y + 400 * q) m = dim y m := by unfold dim; rw [lpN_cyc]
theorem num_cyc (y q m d : Int) (hy : 0 ≤ y) (hq : 1 ≤ q) : num (y + 400 * q) m d = num y m d + 146097 * q := by
  unfold num ahd; rw [lpN_cyc, beg_cyc y q (by omega) hq]; omega
theorem wd_cyc (n q : Int) : wd (n + 146097 * q) = wd n := by unfold wd; omega
theorem thu_cyc (n q : Int) : thu (n + 146097 * q) = thu n + 146097 * q := by unfold thu; rw [wd_cyc]; omega
theorem wkY_cyc (y q n : Int) (hy : 0 ≤ y) (hq : 1 ≤ q) : wkY (y + 400 * q) (n + 146097 * q) = wkY y n + 400 * q := by
  unfold wkY
  rw [thu_cyc, beg_cyc y q (by omega) hq, show y + 400 * q + 1 = (y + 1) + 400 * q by omega, beg_cyc (y + 1) q (by omega) hq]
  by_cases h : thu n < beg y
  · rw [if_pos h, if_pos (by omega)] <;> omega
  · rw [if_neg h, if_neg (by omega)]
    by_cases h2 : beg (y + 1) ≤ thu n
    · rw [if_pos h2, if_pos (by omega)] <;> omega
    · rw [if_neg h2, if_neg (by omega)]
theorem wkW_cyc (y q n : Int) (hy : 0 ≤ y) (hq : 1 ≤ q) (hw : -1 ≤ wkY y n) : wkW (y + 400 * q) (n + 146097 * q) = wkW y n := by
  unfold wkW
  rw [thu_cyc, wkY_cyc y q n hy hq, beg_cyc _ q hw hq, show thu n + 146097 * q - (beg (wkY y n) + 146097 * q) = thu n - beg (wkY y n) by omega]
theorem leap_vld (y : Int) (h0 : 0 ≤ y) (h1 : y ≤ 9999) : vldB y 2 29 = lp y := by
  have hd : dim y 2 = 28 + lpN y := by unfold dim cum; simp
  rcases lpN_lp y with ⟨a, b⟩ | ⟨a, b⟩
  · rw [a]; exact vld_mk ⟨h0, h1, by omega, by omega, by omega, by omega⟩
  · rw [a]; exact decide_eq_false (by omega)
theorem calCycle_pure (x yy : Int) (b0 : -9223372036854775808 ≤ x ∧ x ≤ 9223372036854775807) (b1 : -9223372036854775808 ≤ yy ∧ yy ≤ 9223372036854775807) : ∃ k, larderlaw03_CalCycle.f k x yy = some true := by
  obtain ⟨k, hk⟩ : ∃ k, 30020 ≤ k := ⟨30020, Nat.le_refl _⟩
  refine ⟨k, ?_⟩
  obtain ⟨v, hv, v0, v1⟩ := within_eq x 0 1826210 b0 (by omega) (by omega) (by omega)
  obtain ⟨q, hq, q0, q1⟩ := within_eq yy 1 10 b1 (by omega) (by omega) (by omega)
  obtain ⟨Y, M, D, hd, rfl⟩ := day_ex v v0 (by omega)
  obtain ⟨p1, p2, p3, p4, p5, p6⟩ := vld_out hd
  obtain ⟨n1, n2, n3, n4⟩ := num_bd hd
  have hb := beg_bd Y p1 (by omega)
  have hY : Y ≤ 5003 := by omega
  have hfar : vldB (Y + 400 * q) M D = true := vld_mk ⟨by omega, by omega, p3, p4, p5, by rw [dim_cyc]; exact p6⟩
  have hwk := wkY_in p1 p2 n1 n2
  unfold larderlaw03_CalCycle.f
  rw [hv]
  simp only [Option.bind_some]
  rw [at_eq k (by omega) hd]
  simp only [Option.bind_some]
  rw [hq]
  simp only [Option.bind_some]
  rw [w64 (x := 400 * q) (by omega) (by omega), w64 (x := Y + 400 * q) (by omega) (by omega), days_eq, days_eq, weekOf_eq, weekOf_eq, if_pos hd, if_pos hfar, if_pos hd, if_pos hfar, num_cyc Y q M D p1 q0, wkY_cyc Y q _ p1 q0, wkW_cyc Y q _ p1 q0 hwk.2.2.1, wd_cyc]
  simp only [Option.bind_some, if_true]
  rw [w64 (x := num Y M D + 146097 * q - num Y M D) (by omega) (by omega), td (400 * q) 400 (by omega), show 400 * q / 400 = q by omega, w64 (x := q) (by omega) (by omega), w64 (x := q * 146097) (by omega) (by omega), if_pos (by omega),
    w64 (x := wkY Y (num Y M D) + 400 * q - wkY Y (num Y M D)) (by omega) (by omega), if_pos (by omega), valid_eq, leap_vld Y p1 p2, tm Y 4 p1, tm Y 100 p1, tm Y 400 p1]
  simp only [Option.bind_some, lp]
  by_cases h4 : Y % 4 = 0
  · rw [if_pos h4]
    by_cases h1 : Y % 100 = 0
    · rw [if_pos h1]; by_cases h5 : Y % 400 = 0 <;> simp [h4, h1, h5]
    · rw [if_neg h1]; simp [h4, h1]
  · rw [if_neg h4]
    have : ¬ Y % 400 = 0 := by omega
    simp [h4, this]
end Go.Proofs.YtofafljfabgpmaaDoor.CalP
