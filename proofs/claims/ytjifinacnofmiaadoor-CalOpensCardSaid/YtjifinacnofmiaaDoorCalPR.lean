/- What the reference's printed functions come to, in the calendar's plain arithmetic: days of a month, the day of a number. -/
import Derived.Test.YtjifinacnofmiaaDoorCalPA
import Derived.Test.YtjifinacnofmiaaDoorGCxf31
import Derived.Test.YtjifinacnofmiaaDoorGCxf44
import Derived.Test.YtjifinacnofmiaaDoorGCxf43
namespace Go.Proofs.YtjifinacnofmiaaDoor.CalP
open Go.RowKit Go.Proofs.YtjifinacnofmiaaDoorW.PrintWords Go.Proofs.YtjifinacnofmiaaDoor.Ext Go.Proofs.YtjifinacnofmiaaDoor.PCal Go.Proofs.YtjifinacnofmiaaDoor.GC Go.IntWalk

theorem ahead_eq (y : Int) (h1 : 0 ≤ y) (h2 : y ≤ 10001) : larderref03_ahead.f y = some (beg y) := by
  unfold larderref03_ahead.f
  by_cases h : y = 0
  · rw [if_pos h, h, beg_zero]
  · rw [if_neg h]
    have t1 : Int.tdiv (wrap64 (y - 1)) 4 = (y - 1) / 4 := by rw [w64 (by omega) (by omega), td _ _ (by omega)]
    have t2 : Int.tdiv (wrap64 (y - 1)) 100 = (y - 1) / 100 := by rw [w64 (by omega) (by omega), td _ _ (by omega)]
    have t3 : Int.tdiv (wrap64 (y - 1)) 400 = (y - 1) / 400 := by rw [w64 (by omega) (by omega), td _ _ (by omega)]
    rw [t1, t2, t3, w64 (x := 365 * y) (by omega) (by omega), w64 (x := (y - 1) / 4) (by omega) (by omega), w64 (x := (y - 1) / 100) (by omega) (by omega), w64 (x := (y - 1) / 400) (by omega) (by omega),
      w64 (x := 365 * y + (y - 1) / 4) (by omega) (by omega), w64 (x := 365 * y + (y - 1) / 4 - (y - 1) / 100) (by omega) (by omega), w64 (x := 365 * y + (y - 1) / 4 - (y - 1) / 100 + (y - 1) / 400) (by omega) (by omega), w64 (by omega) (by omega)]
    unfold beg
    rw [if_neg (by omega)]
    exact congrArg some (by omega)

theorem rleap_eq (y : Int) : larderref03_leap.f y = some (lp y) := leap_eq y
theorem long_eq (k : Nat) (y m : Int) (hk : 1 ≤ k) (h1 : 1 ≤ m) (h2 : m ≤ 12) : larderref03_long.f k y m = some (dim y m) := by
  obtain ⟨k, rfl⟩ : ∃ q, k = q + 1 := ⟨k - 1, by omega⟩
  have hl := lpN_lp y
  rcases m_cases m h1 h2 with rfl | rfl | rfl | rfl | rfl | rfl | rfl | rfl | rfl | rfl | rfl | rfl <;>
    simp [larderref03_long.f, larderref03_long.j0, dim, cum, rleap_eq]
  rcases hl with ⟨h1, h2⟩ | ⟨h1, h2⟩ <;> simp [h1, h2]

section
variable {Y M D : Int}
theorem rdate_l1 (hv : vldB Y M D = true) (g : Nat) : ∀ (k : Nat) (m : Int), 1 ≤ m → m ≤ M → M - m = g → g + 1 < k → larderref03_date.l1 k (ahd Y M - ahd Y m + D - 1) Y m = some (Y, M, D) := by
  obtain ⟨h1, h2, h3, h4, h5, h6⟩ := vld_out hv
  have hd := dim_bd Y M h3 h4
  induction g with
  | zero =>
    intro k m a b c e
    obtain ⟨k, rfl⟩ : ∃ q, k = q + 1 := ⟨k - 1, by omega⟩
    obtain rfl : m = M := by omega
    simp only [larderref03_date.l1]
    rw [long_eq k Y m (by omega) a (by omega)]
    simp only [Option.bind_some]
    rw [if_neg (by omega), show ahd Y m - ahd Y m + D - 1 + 1 = D by omega, w64 (by omega) (by omega)]
  | succ g ih =>
    intro k m a b c e
    obtain ⟨k, rfl⟩ : ∃ q, k = q + 1 := ⟨k - 1, by omega⟩
    have hs := ahd_succ Y m a (by omega)
    have ha := ahd_bd Y m a (by omega)
    have hA := ahd_bd Y M (by omega) (by omega)
    have hdm := dim_bd Y m a (by omega)
    have hmo := ahd_mono Y (m + 1) M (by omega) (by omega) (by omega)
    simp only [larderref03_date.l1]
    rw [long_eq k Y m (by omega) a (by omega)]
    simp only [Option.bind_some]
    rw [if_pos (by omega), w64 (x := m + 1) (by omega) (by omega), w64 (by omega) (by omega), show ahd Y M - ahd Y m + D - 1 - dim Y m = ahd Y M - ahd Y (m + 1) + D - 1 by omega]
    exact ih k (m + 1) (by omega) (by omega) (by omega) (by omega)
theorem rdate_j1 (hv : vldB Y M D = true) (k : Nat) (hk : 30 ≤ k) : larderref03_date.j1 k (num Y M D) Y = some (Y, M, D) := by
  obtain ⟨h1, h2, h3, h4, h5, h6⟩ := vld_out hv
  obtain ⟨n1, n2, n3, n4⟩ := num_bd hv
  obtain ⟨k, rfl⟩ : ∃ q, k = q + 1 := ⟨k - 1, by omega⟩
  have hb := beg_bd Y h1 (by omega)
  simp only [larderref03_date.j1]
  rw [ahead_eq Y h1 (by omega)]
  simp only [Option.bind_some]
  rw [w64 (by omega) (by omega), show num Y M D - beg Y = ahd Y M - ahd Y 1 + D - 1 by rw [ahd_one]; unfold num; omega]
  exact rdate_l1 hv (M - 1).toNat k 1 (by omega) h3 (by omega) (by omega)
theorem rdate_l0 (hv : vldB Y M D = true) (g : Nat) : ∀ (k : Nat) (y : Int), 0 ≤ y → y ≤ Y → Y - y = g → g + 40 < k → larderref03_date.l0 k (num Y M D) y = some (Y, M, D) := by
  obtain ⟨h1, h2, h3, h4, h5, h6⟩ := vld_out hv
  obtain ⟨n1, n2, n3, n4⟩ := num_bd hv
  induction g with
  | zero =>
    intro k y a b c e
    obtain ⟨k, rfl⟩ : ∃ q, k = q + 1 := ⟨k - 1, by omega⟩
    obtain rfl : y = Y := by omega
    simp only [larderref03_date.l0]
    by_cases hy : y < 9999
    · rw [if_pos hy, w64 (x := y + 1) (by omega) (by omega), ahead_eq (y + 1) (by omega) (by omega)]
      simp only [Option.bind_some]
      rw [if_neg (by omega)]
      exact rdate_j1 hv k (by omega)
    · rw [if_neg hy]
      exact rdate_j1 hv k (by omega)
  | succ g ih =>
    intro k y a b c e
    obtain ⟨k, rfl⟩ : ∃ q, k = q + 1 := ⟨k - 1, by omega⟩
    have hm := beg_mono (y + 1) Y (by omega) (by omega)
    simp only [larderref03_date.l0]
    rw [if_pos (by omega), w64 (x := y + 1) (by omega) (by omega), ahead_eq (y + 1) (by omega) (by omega)]
    simp only [Option.bind_some]
    rw [if_pos (by omega)]
    exact ih k (y + 1) (by omega) (by omega) (by omega) (by omega)
theorem rdate_eq (k : Nat) (hk : 30000 ≤ k) (hv : vldB Y M D = true) : larderref03_date.f k (num Y M D) = some (Y, M, D) := by
  obtain ⟨h1, h2, h3, h4, h5, h6⟩ := vld_out hv
  obtain ⟨n1, n2, n3, n4⟩ := num_bd hv
  have hb := beg_bd (Y + 1) (by omega) (by omega)
  unfold larderref03_date.f
  rw [td _ _ (by omega), w64 (by omega) (by omega)]
  exact rdate_l0 hv (Y - num Y M D / 366).toNat k _ (by omega) (by omega) (by omega) (by omega)
end
end Go.Proofs.YtjifinacnofmiaaDoor.CalP
