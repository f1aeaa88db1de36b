/- The calendar's plain arithmetic: days ahead of years and months, a day's number, that every number is one day's, weekdays and weeks. No Go in it. -/
namespace Go.Proofs.YtjifinacnofmiaaDoor.PCal
/-- a leap year -/
def lp (y : Int) : Bool := decide (y % 4 = 0) && (decide (y % 100 ≠ 0) || decide (y % 400 = 0))
theorem tm0 (a k : Int) : a.tmod k = 0 ↔ a % k = 0 := by rw [← Int.dvd_iff_tmod_eq_zero, ← Int.dvd_iff_emod_eq_zero]
def lpN (y : Int) : Int := if lp y then 1 else 0
def cum (m : Int) : Int := if m ≤ 1 then 0 else if m = 2 then 31 else if m = 3 then 59 else if m = 4 then 90 else if m = 5 then 120 else if m = 6 then 151 else if m = 7 then 181 else if m = 8 then 212 else if m = 9 then 243 else if m = 10 then 273 else if m = 11 then 304 else if m = 12 then 334 else 365
def dim (y m : Int) : Int := cum (m + 1) - cum m + if m = 2 then lpN y else 0
def beg (y : Int) : Int := if y < 0 then -365 else 365 * y + (y + 3) / 4 - (y + 99) / 100 + (y + 399) / 400
def ahd (y m : Int) : Int := cum m + if 2 < m then lpN y else 0
def num (y m d : Int) : Int := beg y + ahd y m + d - 1
def vldB (y m d : Int) : Bool := decide (0 ≤ y ∧ y ≤ 9999 ∧ 1 ≤ m ∧ m ≤ 12 ∧ 1 ≤ d ∧ d ≤ dim y m)
theorem vld_mk {y m d : Int} (h : 0 ≤ y ∧ y ≤ 9999 ∧ 1 ≤ m ∧ m ≤ 12 ∧ 1 ≤ d ∧ d ≤ dim y m) : vldB y m d = true := decide_eq_true h
theorem vld_out {y m d : Int} (h : vldB y m d = true) : 0 ≤ y ∧ y ≤ 9999 ∧ 1 ≤ m ∧ m ≤ 12 ∧ 1 ≤ d ∧ d ≤ dim y m := of_decide_eq_true h
theorem lpN_01 (y : Int) : 0 ≤ lpN y ∧ lpN y ≤ 1 := by unfold lpN; split <;> omega
theorem lpN_lp (y : Int) : (lp y = true ∧ lpN y = 1) ∨ (lp y = false ∧ lpN y = 0) := by unfold lpN; cases lp y <;> simp
theorem lp_iff (y : Int) : lp y = true ↔ (y % 4 = 0 ∧ (y % 100 ≠ 0 ∨ y % 400 = 0)) := by simp [lp]
theorem beg_succ (y : Int) (h : 0 ≤ y) : beg (y + 1) = beg y + 365 + lpN y := by
  have hi := lp_iff y
  unfold beg
  rw [if_neg (by omega), if_neg (by omega)]
  rcases lpN_lp y with ⟨h1, h2⟩ | ⟨h1, h2⟩
  · have := hi.1 h1; omega
  · have : ¬ (y % 4 = 0 ∧ (y % 100 ≠ 0 ∨ y % 400 = 0)) := fun h => by have := hi.2 h; simp [h1] at this
    omega
theorem beg_zero : beg 0 = 0 := by decide
theorem beg_neg (y : Int) (h : y < 0) : beg y = -365 := by unfold beg; rw [if_pos h]
theorem beg_bd (y : Int) (h : 0 ≤ y) (h2 : y ≤ 10000) : 0 ≤ beg y ∧ beg y ≤ 3652425 ∧ 365 * y ≤ beg y ∧ beg y ≤ 366 * y := by unfold beg; rw [if_neg (by omega)]; omega
theorem beg_mono (a b : Int) (h0 : 0 ≤ a) (h : a ≤ b) : beg a ≤ beg b := by unfold beg; rw [if_neg (by omega), if_neg (by omega)]; omega
theorem beg_lt (a b : Int) (h0 : 0 ≤ a) (h : a < b) : beg a + 365 ≤ beg b := by
  have h1 := beg_succ a h0
  have h2 := beg_mono (a + 1) b (by omega) (by omega)
  have := lpN_01 a
  omega
theorem m_cases (m : Int) (h1 : 1 ≤ m) (h2 : m ≤ 12) : m = 1 ∨ m = 2 ∨ m = 3 ∨ m = 4 ∨ m = 5 ∨ m = 6 ∨ m = 7 ∨ m = 8 ∨ m = 9 ∨ m = 10 ∨ m = 11 ∨ m = 12 := by omega
theorem dim_bd (y m : Int) (h1 : 1 ≤ m) (h2 : m ≤ 12) : 28 ≤ dim y m ∧ dim y m ≤ 31 := by
  have := lpN_01 y
  rcases m_cases m h1 h2 with rfl | rfl | rfl | rfl | rfl | rfl | rfl | rfl | rfl | rfl | rfl | rfl <;> simp [dim, cum] <;> omega
theorem ahd_succ (y m : Int) (h1 : 1 ≤ m) (h2 : m ≤ 12) : ahd y (m + 1) = ahd y m + dim y m := by
  rcases m_cases m h1 h2 with rfl | rfl | rfl | rfl | rfl | rfl | rfl | rfl | rfl | rfl | rfl | rfl <;> simp [ahd, dim, cum] <;> omega
theorem ahd_one (y : Int) : ahd y 1 = 0 := by simp [ahd, cum]
theorem ahd_13 (y : Int) : ahd y 13 = 365 + lpN y := by simp [ahd, cum]
theorem ahd_mono (y a b : Int) (h1 : 1 ≤ a) (h : a ≤ b) (h2 : b ≤ 13) : ahd y a ≤ ahd y b := by
  have := lpN_01 y
  obtain ⟨n, rfl⟩ : ∃ n : Nat, b = a + n := ⟨(b - a).toNat, by omega⟩
  induction n with
  | zero => simp
  | succ n ih =>
    have i1 := ih (by omega) (by omega)
    have i2 := ahd_succ y (a + n) (by omega) (by omega)
    have i3 := dim_bd y (a + n) (by omega) (by omega)
    have : a + ((n + 1 : Nat) : Int) = a + n + 1 := by omega
    rw [this]; omega
theorem ahd_bd (y m : Int) (h1 : 1 ≤ m) (h2 : m ≤ 13) : 0 ≤ ahd y m ∧ ahd y m ≤ 366 := by
  have a := ahd_mono y 1 m (by omega) h1 h2
  have b := ahd_mono y m 13 h1 h2 (by omega)
  rw [ahd_one] at a; rw [ahd_13] at b
  have := lpN_01 y
  omega
theorem num_bd {y m d : Int} (h : vldB y m d = true) : beg y ≤ num y m d ∧ num y m d < beg (y + 1) ∧ 0 ≤ num y m d ∧ num y m d ≤ 3652424 := by
  obtain ⟨h1, h2, h3, h4, h5, h6⟩ := vld_out h
  have a1 := ahd_bd y m h3 (by omega)
  have a2 := ahd_succ y m h3 h4
  have a3 := ahd_mono y (m + 1) 13 (by omega) (by omega) (by omega)
  rw [ahd_13] at a3
  have a4 := beg_succ y h1
  have a5 := beg_bd y h1 (by omega)
  have a6 := beg_bd (y + 1) (by omega) (by omega)
  unfold num
  omega
theorem year_uniq (y y' n : Int) (h0 : 0 ≤ y) (h0' : 0 ≤ y') (a : beg y ≤ n) (b : n < beg (y + 1)) (a' : beg y' ≤ n) (b' : n < beg (y' + 1)) : y = y' := by
  by_cases h : y < y'
  · have := beg_mono (y + 1) y' (by omega) (by omega); omega
  · by_cases h' : y' < y
    · have := beg_mono (y' + 1) y (by omega) (by omega); omega
    · omega
theorem num_inj {y m d y' m' d' : Int} (h : vldB y m d = true) (h' : vldB y' m' d' = true) (e : num y m d = num y' m' d') : y = y' ∧ m = m' ∧ d = d' := by
  obtain ⟨b1, b2, _, _⟩ := num_bd h
  obtain ⟨c1, c2, _, _⟩ := num_bd h'
  obtain ⟨h1, h2, h3, h4, h5, h6⟩ := vld_out h
  obtain ⟨g1, g2, g3, g4, g5, g6⟩ := vld_out h'
  obtain rfl := year_uniq y y' (num y m d) h1 g1 b1 b2 (by omega) (by omega)
  have s1 := ahd_succ y m h3 h4
  have s2 := ahd_succ y m' g3 g4
  unfold num at e
  by_cases h : m < m'
  · have := ahd_mono y (m + 1) m' (by omega) (by omega) (by omega); omega
  · by_cases h' : m' < m
    · have := ahd_mono y (m' + 1) m (by omega) (by omega) (by omega); omega
    · obtain rfl : m = m' := by omega
      exact ⟨rfl, rfl, by omega⟩
theorem year_ex (n : Int) (h0 : 0 ≤ n) (h1 : n ≤ 3652424) : ∃ y : Int, 0 ≤ y ∧ y ≤ 9999 ∧ beg y ≤ n ∧ n < beg (y + 1) := by
  suffices H : ∀ k : Nat, (k : Int) ≤ 10000 → n < beg k → ∃ y : Int, 0 ≤ y ∧ y ≤ 9999 ∧ beg y ≤ n ∧ n < beg (y + 1) by
    exact H 10000 (by omega) (by have : beg ((10000 : Nat) : Int) = 3652425 := by decide
                                 omega)
  intro k
  induction k with
  | zero => intro _ h; have := beg_zero; simp at h; omega
  | succ k ih =>
    intro hk h
    by_cases hb : n < beg k
    · exact ih (by omega) hb
    · exact ⟨k, by omega, by omega, by omega, by simpa using h⟩
theorem day_ex (n : Int) (h0 : 0 ≤ n) (h1 : n ≤ 3652424) : ∃ y m d : Int, vldB y m d = true ∧ num y m d = n := by
  obtain ⟨y, y0, y1, y2, y3⟩ := year_ex n h0 h1
  have hs := beg_succ y y0
  suffices H : ∀ k : Nat, (k : Int) ≤ 12 → n - beg y < ahd y (k + 1) → ∃ m : Int, 1 ≤ m ∧ m ≤ 12 ∧ ahd y m ≤ n - beg y ∧ n - beg y < ahd y (m + 1) by
    obtain ⟨m, m1, m2, m3, m4⟩ := H 12 (by omega) (by have := ahd_13 y; show _ < ahd y 13; omega)
    have := ahd_succ y m m1 m2
    exact ⟨y, m, n - beg y - ahd y m + 1, vld_mk ⟨y0, y1, m1, m2, by omega, by omega⟩, by unfold num; omega⟩
  intro k
  induction k with
  | zero => intro _ h; have := ahd_one y; simp at h; omega
  | succ k ih =>
    intro hk h
    by_cases hb : n - beg y < ahd y (k + 1)
    · exact ih (by omega) hb
    · exact ⟨k + 1, by omega, by omega, by omega, by simpa using h⟩
/-- the weekday of a number, Monday being 0 -/
def wd (n : Int) : Int := (n + 5) % 7
theorem wd_bd (n : Int) : 0 ≤ wd n ∧ wd n ≤ 6 := by unfold wd; omega
def wks (y : Int) : Int := if wd (beg y) = 3 ∨ (wd (beg y) = 2 ∧ 0 ≤ y ∧ lp y = true) then 53 else 52
/-- the Monday of a year's first week -/
def fst_ (y : Int) : Int := beg y + 3 - wd (beg y + 3)
theorem beg_step (y : Int) (h : -1 ≤ y) : beg (y + 1) = beg y + 365 + (if y < 0 then 0 else lpN y) := by
  by_cases h0 : y < 0
  · obtain rfl : y = -1 := by omega
    decide
  · rw [if_neg h0]; exact beg_succ y (by omega)
theorem wks_ref (y : Int) (h : -1 ≤ y) : (fst_ (y + 1) - fst_ y) / 7 = wks y ∧ fst_ (y + 1) - fst_ y = 7 * wks y := by
  have hs := beg_step y h
  have hl := lpN_01 y
  have hh : (lp y = true ↔ lpN y = 1) := by rcases lpN_lp y with ⟨h1, h2⟩ | ⟨h1, h2⟩ <;> simp [h1, h2]
  unfold wks fst_ wd
  simp only [hh]
  generalize beg (y + 1) = b' at *
  generalize beg y = b at *
  generalize lpN y = l at *
  by_cases h0 : y < 0
  · rw [if_pos h0] at hs
    split <;> omega
  · rw [if_neg h0] at hs
    split <;> omega
end Go.Proofs.YtjifinacnofmiaaDoor.PCal
