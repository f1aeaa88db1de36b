/- What the printed functions of cal and of its reference come to, in the calendar's plain arithmetic: valid days and their numbers. -/
import Derived.Test.YtjifinacnofmiaaDoorCalVA
import Derived.Test.YtjifinacnofmiaaDoorCalPR
import Derived.Test.YtjifinacnofmiaaDoorGCxf28
import Derived.Test.YtjifinacnofmiaaDoorGCxf37
import Derived.Test.YtjifinacnofmiaaDoorGCxf42
namespace Go.Proofs.YtjifinacnofmiaaDoor.CalP
open Go.RowKit Go.Proofs.YtjifinacnofmiaaDoorW.PrintWords Go.Proofs.YtjifinacnofmiaaDoor.Ext Go.Proofs.YtjifinacnofmiaaDoor.PCal Go.Proofs.YtjifinacnofmiaaDoor.GC Go.IntWalk

theorem rvalid_eq (k : Nat) (y m d : Int) (hk : 1 ≤ k) : larderref03_Valid.f k y m d = some (vldB y m d) := by
  unfold larderref03_Valid.f vldB
  by_cases h1 : y < 0
  · rw [if_pos h1, decide_eq_false (by omega)]
  · rw [if_neg h1]
    by_cases h2 : y > 9999
    · rw [if_pos h2, decide_eq_false (by omega)]
    · rw [if_neg h2]
      by_cases h3 : m < 1
      · rw [if_pos h3, decide_eq_false (by omega)]
      · rw [if_neg h3]
        by_cases h4 : m > 12
        · rw [if_pos h4, decide_eq_false (by omega)]
        · rw [if_neg h4]
          by_cases h5 : d ≥ 1
          · rw [if_pos h5, long_eq k y m hk (by omega) (by omega)]
            simp only [Option.bind_some]
            by_cases h6 : d ≤ dim y m
            · rw [decide_eq_true h6, decide_eq_true (by omega)]
            · rw [decide_eq_false h6, decide_eq_false (by omega)]
          · rw [if_neg h5, decide_eq_false (by omega)]
theorem rnumber_l0 (y M d : Int) (hv : vldB y M d = true) (g : Nat) : ∀ (k : Nat) (m : Int), 1 ≤ m → m ≤ M → M - m = g → g < k →
    larderref03_number.l0 k (beg y + d - 1 + ahd y m) m y M d = some (num y M d) := by
  obtain ⟨h1, h2, h3, h4, h5, h6⟩ := vld_out hv
  have hd := dim_bd y M h3 h4
  have hb := beg_bd y h1 (by omega)
  induction g with
  | zero =>
    intro k m a b c e
    obtain ⟨k, rfl⟩ : ∃ q, k = q + 1 := ⟨k - 1, by omega⟩
    obtain rfl : m = M := by omega
    simp only [larderref03_number.l0]
    rw [if_neg (by omega)]
    exact congrArg some (by unfold num; omega)
  | succ g ih =>
    intro k m a b c e
    obtain ⟨k, rfl⟩ : ∃ q, k = q + 1 := ⟨k - 1, by omega⟩
    have hs := ahd_succ y m a (by omega)
    have ha := ahd_bd y m a (by omega)
    have hdm := dim_bd y m a (by omega)
    simp only [larderref03_number.l0]
    rw [if_pos (by omega), long_eq k y m (by omega) a (by omega)]
    simp only [Option.bind_some]
    rw [w64 (x := m + 1) (by omega) (by omega), w64 (by omega) (by omega), show beg y + d - 1 + ahd y m + dim y m = beg y + d - 1 + ahd y (m + 1) by omega]
    exact ih k (m + 1) (by omega) (by omega) (by omega) (by omega)
theorem rnumber_eq (k : Nat) (y m d : Int) (hk : 20 ≤ k) (h : vldB y m d = true) : larderref03_number.f k y m d = some (num y m d) := by
  obtain ⟨h1, h2, h3, h4, h5, h6⟩ := vld_out h
  have hd := dim_bd y m h3 h4
  have hb := beg_bd y h1 (by omega)
  unfold larderref03_number.f
  rw [ahead_eq y h1 (by omega)]
  simp only [Option.bind_some]
  rw [w64 (x := beg y + d) (by omega) (by omega), w64 (by omega) (by omega)]
  have := rnumber_l0 y m d h (m - 1).toNat k 1 (by omega) h3 (by omega) (by omega)
  rw [ahd_one, show beg y + d - 1 + 0 = beg y + d - 1 by omega] at this
  exact this
theorem rdays_eq (k : Nat) (y m d : Int) (hk : 20 ≤ k) : larderref03_Days.f k y m d = some (if vldB y m d = true then (num y m d, 0) else (0, 30)) := by
  unfold larderref03_Days.f
  rw [rvalid_eq k y m d (by omega)]
  simp only [Option.bind_some]
  cases h : vldB y m d with
  | true => rw [if_pos rfl, if_pos rfl, rnumber_eq k y m d hk h]; rfl
  | false => rw [if_neg (by simp), if_neg (by simp)]

end Go.Proofs.YtjifinacnofmiaaDoor.CalP
