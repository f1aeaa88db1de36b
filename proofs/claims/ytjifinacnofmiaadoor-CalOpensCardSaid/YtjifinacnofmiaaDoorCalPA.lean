/- What cal's printed functions come to, in the calendar's plain arithmetic: days of a month, the day of a number. -/
import Derived.Test.YtjifinacnofmiaaDoorCalM
import Derived.Test.YtjifinacnofmiaaDoorGCxf22
import Derived.Test.YtjifinacnofmiaaDoorGCxf35
import Derived.IntWalk
namespace Go.Proofs.YtjifinacnofmiaaDoor.CalP
open Go.RowKit Go.Proofs.YtjifinacnofmiaaDoorW.PrintWords Go.Proofs.YtjifinacnofmiaaDoor.Ext Go.Proofs.YtjifinacnofmiaaDoor.PCal Go.Proofs.YtjifinacnofmiaaDoor.GC Go.IntWalk

theorem w64 {x : Int} (h1 : -9223372036854775808 ≤ x) (h2 : x ≤ 9223372036854775807) : wrap64 x = x := wrap64_in x ⟨h1, h2⟩
theorem td (a k : Int) (h : 0 ≤ a) : a.tdiv k = a / k := Int.tdiv_eq_ediv_of_nonneg h
theorem tm (a k : Int) (h : 0 ≤ a) : a.tmod k = a % k := Int.tmod_eq_emod_of_nonneg h

theorem begin_eq (y : Int) (h1 : -1 ≤ y) (h2 : y ≤ 10001) : cal_begin.f y = some (beg y) := by
  unfold cal_begin.f
  by_cases h : y < 0
  · rw [if_pos h, beg_neg y h]
  · rw [if_neg h]
    unfold beg
    rw [if_neg h]
    have t1 : Int.tdiv (wrap64 (y + 3)) 4 = (y + 3) / 4 := by rw [w64 (by omega) (by omega), td _ _ (by omega)]
    have t2 : Int.tdiv (wrap64 (y + 99)) 100 = (y + 99) / 100 := by rw [w64 (by omega) (by omega), td _ _ (by omega)]
    have t3 : Int.tdiv (wrap64 (y + 399)) 400 = (y + 399) / 400 := by rw [w64 (by omega) (by omega), td _ _ (by omega)]
    rw [t1, t2, t3, w64 (x := 365 * y) (by omega) (by omega), w64 (x := (y + 3) / 4) (by omega) (by omega), w64 (x := (y + 99) / 100) (by omega) (by omega), w64 (x := (y + 399) / 400) (by omega) (by omega),
      w64 (x := 365 * y + (y + 3) / 4) (by omega) (by omega), w64 (x := 365 * y + (y + 3) / 4 - (y + 99) / 100) (by omega) (by omega), w64 (by omega) (by omega)]
theorem daysOf_eq (y m : Int) (h1 : 1 ≤ m) (h2 : m ≤ 12) : cal_daysOf.f y m = some (dim y m) := by unfold cal_daysOf.f; rw [if_pos ⟨h1, h2⟩]
theorem number_eq (y m d : Int) (h : vldB y m d = true) : cal_number.f y m d = some (num y m d) := by unfold cal_number.f; rw [if_pos h]

theorem leap_eq (y : Int) : cal_leap.f y = some (lp y) := by
  unfold cal_leap.f
  have hi := lp_iff y
  by_cases b4 : y % 4 = 0
  · rw [if_pos ((tm0 y 4).2 b4)]
    by_cases b100 : y % 100 = 0
    · rw [if_pos ((tm0 y 100).2 b100)]
      by_cases b400 : y % 400 = 0
      · rw [(tm0 y 400).2 b400, hi.2 ⟨b4, .inr b400⟩]; rfl
      · have : ¬ Int.tmod y 400 = 0 := fun z => b400 ((tm0 y 400).1 z)
        rw [beq_eq_false_iff_ne.mpr this]
        cases hl : lp y with
        | false => rfl
        | true => have := hi.1 hl; omega
    · rw [if_neg (fun z => b100 ((tm0 y 100).1 z)), hi.2 ⟨b4, .inl b100⟩]
  · rw [if_neg (fun z => b4 ((tm0 y 4).1 z))]
    cases hl : lp y with
    | false => rfl
    | true => have := hi.1 hl; omega
section
variable {Y M D : Int}
theorem date_l2 (hv : vldB Y M D = true) (g : Nat) : ∀ (k : Nat) (m : Int), 1 ≤ m → m ≤ M → M - m = g → g < k → cal_date.l2 k Y Y m (ahd Y M - ahd Y m + D) = some (Y, M, D) := by
  obtain ⟨h1, h2, h3, h4, h5, h6⟩ := vld_out hv
  have hd := dim_bd Y M h3 h4
  induction g with
  | zero =>
    intro k m a b c e
    obtain ⟨k, rfl⟩ : ∃ q, k = q + 1 := ⟨k - 1, by omega⟩
    obtain rfl : m = M := by omega
    simp only [cal_date.l2]
    rw [daysOf_eq Y m a (by omega)]
    simp only [Option.bind_some]
    rw [if_neg (by omega), show ahd Y m - ahd Y m + D = D by omega]
  | succ g ih =>
    intro k m a b c e
    obtain ⟨k, rfl⟩ : ∃ q, k = q + 1 := ⟨k - 1, by omega⟩
    have hs := ahd_succ Y m a (by omega)
    have ha := ahd_bd Y m a (by omega)
    have hA := ahd_bd Y M (by omega) (by omega)
    have hdm := dim_bd Y m a (by omega)
    have hmo := ahd_mono Y (m + 1) M (by omega) (by omega) (by omega)
    simp only [cal_date.l2]
    rw [daysOf_eq Y m a (by omega)]
    simp only [Option.bind_some]
    rw [if_pos (by omega), w64 (x := m + 1) (by omega) (by omega), w64 (by omega) (by omega), show ahd Y M - ahd Y m + D - dim Y m = ahd Y M - ahd Y (m + 1) + D by omega]
    exact ih k (m + 1) (by omega) (by omega) (by omega) (by omega)
theorem date_l1 (hv : vldB Y M D = true) (g : Nat) : ∀ (k : Nat) (y : Int), 0 ≤ y → y ≤ Y → Y - y = g → g + 20 < k → cal_date.l1 k (num Y M D) y = some (Y, M, D) := by
  obtain ⟨h1, h2, h3, h4, h5, h6⟩ := vld_out hv
  obtain ⟨n1, n2, n3, n4⟩ := num_bd hv
  induction g with
  | zero =>
    intro k y a b c e
    obtain ⟨k, rfl⟩ : ∃ q, k = q + 1 := ⟨k - 1, by omega⟩
    obtain rfl : y = Y := by omega
    simp only [cal_date.l1]
    rw [w64 (x := y + 1) (by omega) (by omega), begin_eq (y + 1) (by omega) (by omega)]
    simp only [Option.bind_some]
    rw [if_neg (by omega), begin_eq y (by omega) (by omega)]
    simp only [Option.bind_some]
    have hb := beg_bd y a (by omega)
    rw [w64 (x := num y M D - beg y) (by omega) (by omega), w64 (by omega) (by omega), show num y M D - beg y + 1 = ahd y M - ahd y 1 + D by rw [ahd_one]; unfold num; omega]
    exact date_l2 hv (M - 1).toNat k 1 (by omega) h3 (by omega) (by omega)
  | succ g ih =>
    intro k y a b c e
    obtain ⟨k, rfl⟩ : ∃ q, k = q + 1 := ⟨k - 1, by omega⟩
    have hm := beg_mono (y + 1) Y (by omega) (by omega)
    simp only [cal_date.l1]
    rw [w64 (x := y + 1) (by omega) (by omega), begin_eq (y + 1) (by omega) (by omega)]
    simp only [Option.bind_some]
    rw [if_pos (by omega)]
    exact ih k (y + 1) (by omega) (by omega) (by omega) (by omega)
theorem date_l0 (hv : vldB Y M D = true) (g : Nat) : ∀ (k : Nat) (y : Int), y = g → y ≤ 10000 → g + 10040 < k → cal_date.l0 k (num Y M D) y = some (Y, M, D) := by
  obtain ⟨h1, h2, h3, h4, h5, h6⟩ := vld_out hv
  obtain ⟨n1, n2, n3, n4⟩ := num_bd hv
  induction g with
  | zero =>
    intro k y a b e
    obtain ⟨k, rfl⟩ : ∃ q, k = q + 1 := ⟨k - 1, by omega⟩
    obtain rfl : y = 0 := by omega
    simp only [cal_date.l0]
    rw [begin_eq 0 (by omega) (by omega), beg_zero]
    simp only [Option.bind_some]
    rw [if_neg (by omega)]
    exact date_l1 hv Y.toNat k 0 (by omega) h1 (by omega) (by omega)
  | succ g ih =>
    intro k y a b e
    obtain ⟨k, rfl⟩ : ∃ q, k = q + 1 := ⟨k - 1, by omega⟩
    simp only [cal_date.l0]
    rw [begin_eq y (by omega) (by omega)]
    simp only [Option.bind_some]
    by_cases hc : beg y > num Y M D
    · rw [if_pos hc, w64 (by omega) (by omega)]
      exact ih k (y - 1) (by omega) (by omega) (by omega)
    · rw [if_neg hc]
      have : y ≤ Y := by
        by_cases z : y ≤ Y
        · exact z
        · have := beg_mono (Y + 1) y (by omega) (by omega); omega
      exact date_l1 hv (Y - y).toNat k y (by omega) this (by omega) (by omega)
theorem date_eq (k : Nat) (hk : 30000 ≤ k) (hv : vldB Y M D = true) : cal_date.f k (num Y M D) = some (Y, M, D) := by
  obtain ⟨n1, n2, n3, n4⟩ := num_bd hv
  unfold cal_date.f
  rw [w64 (x := num Y M D * 400) (by omega) (by omega), td _ _ (by omega), w64 (by omega) (by omega)]
  exact date_l0 hv (num Y M D * 400 / 146097).toNat k _ (by omega) (by omega) (by omega)

end
/-- the day of a number -/
theorem cof_out (k : Nat) (n : Int) (h : n < 0 ∨ 3652424 < n) : cal_Of.f k n = some (0, 0, 0, 35) := by
  unfold cal_Of.f
  by_cases h0 : n < 0
  · rw [if_pos h0]
  · rw [if_neg h0, if_pos (by omega)]
theorem cof_in (k : Nat) (hk : 30000 ≤ k) {Y M D : Int} (hv : vldB Y M D = true) : cal_Of.f k (num Y M D) = some (Y, M, D, 0) := by
  obtain ⟨n1, n2, n3, n4⟩ := num_bd hv
  unfold cal_Of.f
  rw [if_neg (by omega), if_neg (by omega), date_eq k hk hv]
  rfl
theorem cof_ex (n : Int) : ∃ r : Int × Int × Int × Int, ∀ k, 30000 ≤ k → cal_Of.f k n = some r := by
  by_cases h : n < 0 ∨ 3652424 < n
  · exact ⟨(0, 0, 0, 35), fun k _ => cof_out k n h⟩
  · obtain ⟨Y, M, D, hv, rfl⟩ := day_ex n (by omega) (by omega)
    exact ⟨(Y, M, D, 0), fun k hk => cof_in k hk hv⟩
end Go.Proofs.YtjifinacnofmiaaDoor.CalP
