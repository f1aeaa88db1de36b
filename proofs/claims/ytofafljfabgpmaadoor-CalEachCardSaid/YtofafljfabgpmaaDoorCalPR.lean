/- What the reference's printed functions come to, in the calendar's plain arithmetic: days of a month, the day of a number. -/
import Derived.Test.YtofafljfabgpmaaDoorCalPA
import Derived.Test.YtofafljfabgpmaaDoorGCxf16
import Derived.Test.YtofafljfabgpmaaDoorGCxf38
import Derived.Test.YtofafljfabgpmaaDoorGCxf48
namespace Go.Proofs.YtofafljfabgpmaaDoor.CalP
open Go.RowKit Go.Proofs.YtofafljfabgpmaaDoorW.PrintWords Go.Proofs.YtofafljfabgpmaaDoor.Ext Go.Proofs.YtofafljfabgpmaaDoor.PCal Go.Proofs.YtofafljfabgpmaaDoor.GC Go.IntWalk

theorem ahead_eq (y : Int) (h1 : 0 ≤ y) (h2 : y ≤ 10001) : larderref03_ahead.f y = some (beg y) := by
  unfold larderref03_ahead.f
  by_cases h : y = 0
  · rw [if_pos h, h, beg_zero]
  · rw [if_neg h]
    have t1 : Int.tdiv (wrap64 (y - 1)) 4 = (y - 1) / 4 := by rw [w64 (by omega) (by omega), td _ _ (by omega)]
    have t2 : Int.tdiv (wrap64 (y - 1)) 100 = (y - 1) / 100 := by rw [w64 (by omega) (by omega), td _ _ (by omega)]
    have t3 : Int.tdiv (wrap64 (y - 1)) 400 = (y - 1) / 400 := by rw [w64 (by omega) (by omega), td _ _ (by omega)]
    rw [t1, t2, t3, w64 (x := 365 * y) (by omega) (by omega), w64 (x := (y - 1) / 4) (by omega) (by omega), w64 (x := (y - 1) / 100) (by omega) (by omega), w64 (x := (y - 1) / 400) (by omega) (by omega),
      w64 (x := 365 * y + (y - 1) / 4) (by omega) (by omega), w64 (x := 365 * y + (y - 1) / 4 - (y - 1) / 100) (by omega) (by omega), w64 (x := 365 * y + (y - 1) / 4 - (y - 1) / 100 + (y - 1) / 400) (by omega) (by omega), w64 (by omega) (by omega)]
    unfold beg
    rw [if_neg (by omega)]
    exact congrArg some (by omega)

theorem rleap_eq (y : Int) : larderref03_leap.f y = some (lp y) := leap_eq y
theorem long_eq (k : Nat) (y m : Int) (hk : 1 ≤ k) (h1 : 1 ≤ m) (h2 : m ≤ 12) : larderref03_long.f k y m = some (dim y m) := by
  obtain ⟨k, rfl⟩ : ∃ q, k = q + 1 := ⟨k - 1, by omega⟩
  have hl := lpN_lp y
  rcases m_cases m h1 h2 with rfl | rfl | rfl | rfl | rfl | rfl | rfl | rfl | rfl | rfl | rfl | rfl <;>
    simp [larderref03_long.f, larderref03_long.j0, dim, cum, rleap_eq]
  rcases hl with ⟨h1, h2⟩ | ⟨h1, h2⟩ <;> simp [h1, h2]

section
variable {Y M D : Int}
theorem rdate_l1 (hv : vldB Y M D = true) (g : Nat) : ∀ (k : Nat) (m : Int), 1 ≤ m → m ≤ M → M - m = g → g + 1 < k → larderref03_date.l1 k (ahd Y M - ahd Y m + D - 1) Y m = some (Y, M, D) := by
  obtain ⟨h1, h2, h3, h4, h5, h6⟩ := vld_out hv
  have hd := dim_bd Y M h3 h4
  induction g with
  | zero =>
    intro k m a b c e
    obtain ⟨k, rfl⟩ : ∃ q, k = q + 1 := ⟨k - 1, by omega⟩
    obtain rfl : m = M := by omega
    simp only [larderref03_date.l1]
    rw [long_eq k Y m (by omega) a (by omega)]
    simp only [Option.bind_some]
    rw [if_neg (by omega), show ahd Y m - ahd Y m + D - 1 + 1 = D by omega, w64 (by omega) (by omega)]
  | succ g ih =>
    intro k m a b c e
    obtain ⟨k, rfl⟩ : ∃ q, k = q + 1 := ⟨k - 1, by omega⟩
    have hs := ahd_succ Y m a (by omega)
    have ha := ahd_bd Y m a (by omega)
    have hA := ahd_bd Y M (by omega) (by omega)
    have hdm := dim_bd Y m a (by omega)
    have hmo := ahd_mono Y (m + 1) M (by omega) (by omega) (by omega)
    simp only [larderref03_date.l1]
    rw [long_eq k Y m (by omega) a (by omega)]
    simp only [Option.bind_some]
    rw [if_pos (by omega), w64 (x := m + 1) (by omega) (by omega), w64 (by omega) (by omega), show ahd Y M - ahd Y m + D - 1 - dim Y m = ahd Y M - ahd Y (m + 1) + D - 1 by omega]
    exact ih k (m + 1) (by omega) (by omega) (by omega) (by omega)
theorem rdate_j1 (hv : vldB Y M D = true) (k : Nat) (hk : 30 ≤ k) : larderref03_date.j1 k (num Y M D) Y = some (Y, M, D) := by
  obtain ⟨h1, h2, h3, h4, h5, h6⟩ := vld_out hv
  obtain ⟨n1, n2, n3, n4⟩ := num_bd hv
  obtain ⟨k, rfl⟩ : ∃ q, k = q + 1 := ⟨k - 1, by omega⟩
  have hb := beg_bd Y h1 (by omega)
  simp only [larderref03_date.j1]
  rw [ahead_eq Y h1 (by omega)]
  simp only [Option.bind_some]
  rw [w64 (by omega) (by omega), show num Y M D - beg Y = ahd Y M - ahd Y 1 + D - 1 by rw [ahd_one]; unfold num; omega]
  exact rdate_l1 hv (M - 1).toNat k 1 (by omega) h3 (by omega) (by omega)
theorem rdate_l0 (hv : vldB Y M D = true) (g : Nat) : ∀ (k : Nat) (y : Int), 0 ≤ y → y ≤ Y → Y - y = g → g + 40 < k → larderref03_date.l0 k (num Y M D) y = some (Y, M, D) := by
  obtain ⟨h1, h2, h3, h4, h5, h6⟩ := vld_out hv
  obtain ⟨n1, n2, n3, n4⟩ := num_bd hv
  induction g with
  | zero =>
    intro k y a b c e
    obtain ⟨k, rfl⟩ : ∃ q, k = q + 1 := ⟨k - 1, by omega⟩
    obtain rfl : y = Y := by omega
    simp only [larderref03_date.l0]
    by_cases hy : y < 9999
    · rw [if_pos hy, w64 (x := y + 1) (by omega) (by omega), ahead_eq (y + 1) (by omega) (by omega)]
      simp only [Option.bind_some]
      rw [if_neg (by omega)]
      exact rdate_j1 hv k (by omega)
    · rw [if_neg hy]
      exact rdate_j1 hv k (by omega)
  | succ g ih =>
    intro k y a b c e
    obtain ⟨k, rfl⟩ : ∃ q, k = q + 1 := ⟨k - 1, by omega⟩
    have hm := beg_mono (y + 1) Y (by omega) (by omega)
    simp only [larderref03_date.l0]
    rw [if_pos (by omega), w64 (x := y + 1) (by omega) (by omega), ahead_eq (y + 1) (by omega) (by omega)]
    simp only [Option.bind_some]
    rw [if_pos (by omega)]
    exact ih k (y + 1) (by omega) (by omega) (by omega) (by omega)
theorem rdate_eq (k : Nat) (hk : 30000 ≤ k) (hv : vldB Y M D = true) : larderref03_date.f k (num Y M D) = some (Y, M, D) := by
  obtain ⟨h1, h2, h3, h4, h5, h6⟩ := vld_out hv
  obtain ⟨n1, n2, n3, n4⟩ := num_bd hv
  have hb := beg_bd (Y + 1) (by omega) (by omega)
  unfold larderref03_date.f
  rw [td _ _ (by omega), w64 (by omega) (by omega)]
  exact rdate_l0 hv (Y - num Y M D / 366).toNat k _ (by omega) (by omega) (by omega) (by omega)
end
/-- the day of a number, both ways -/
theorem of_out (k : Nat) (n : Int) (h : n < 0 ∨ 3652424 < n) : cal_Of.f k n = some (0, 0, 0, 35) ∧ larderref03_Of.f k n = some (0, 0, 0, 35) := by
  unfold cal_Of.f larderref03_Of.f
  by_cases h0 : n < 0
  · rw [if_pos h0, if_pos h0]; exact ⟨rfl, rfl⟩
  · rw [if_neg h0, if_neg h0, if_pos (by omega), if_pos (by omega)]; exact ⟨rfl, rfl⟩
theorem of_in (k : Nat) (hk : 30000 ≤ k) {Y M D : Int} (hv : vldB Y M D = true) : cal_Of.f k (num Y M D) = some (Y, M, D, 0) ∧ larderref03_Of.f k (num Y M D) = some (Y, M, D, 0) := by
  obtain ⟨n1, n2, n3, n4⟩ := num_bd hv
  unfold cal_Of.f larderref03_Of.f
  rw [if_neg (by omega), if_neg (by omega), if_neg (by omega), if_neg (by omega), date_eq k hk hv, rdate_eq k hk hv]
  exact ⟨rfl, rfl⟩
/-- one answer for a number, whatever the rounds -/
theorem of_ex (n : Int) : ∃ r : Int × Int × Int × Int, ∀ k, 30000 ≤ k → cal_Of.f k n = some r ∧ larderref03_Of.f k n = some r := by
  by_cases h : n < 0 ∨ 3652424 < n
  · exact ⟨(0, 0, 0, 35), fun k _ => of_out k n h⟩
  · obtain ⟨Y, M, D, hv, rfl⟩ := day_ex n (by omega) (by omega)
    exact ⟨(Y, M, D, 0), fun k hk => of_in k hk hv⟩
end Go.Proofs.YtofafljfabgpmaaDoor.CalP
