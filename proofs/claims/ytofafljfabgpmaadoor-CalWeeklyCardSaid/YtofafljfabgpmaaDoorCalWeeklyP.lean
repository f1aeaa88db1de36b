/- The law CalWeekly in plain numbers: weeks go round by seven days from Monday on, a week's Thursday lies in its year, each day comes back from its week, a year has 52 or 53 weeks. -/
import Derived.Test.YtofafljfabgpmaaDoorCalWP
import Derived.Test.YtofafljfabgpmaaDoorGCxf9
namespace Go.Proofs.YtofafljfabgpmaaDoor.CalP
open Go.RowKit Go.Proofs.YtofafljfabgpmaaDoorW.PrintWords Go.Proofs.YtofafljfabgpmaaDoor.Ext Go.Proofs.YtofafljfabgpmaaDoor.PCal Go.Proofs.YtofafljfabgpmaaDoor.GC

theorem within_eq (x lo hi : Int) (hx : -9223372036854775808 ≤ x ∧ x ≤ 9223372036854775807) (h0 : 0 ≤ lo) (h1 : lo ≤ hi) (h2 : hi ≤ 1000000000000) : ∃ v, larderlaw03_within.f x lo hi = some v ∧ lo ≤ v ∧ v ≤ hi := by
  unfold larderlaw03_within.f
  rw [w64 (x := hi - lo) (by omega) (by omega), w64 (x := hi - lo + 1) (by omega) (by omega)]
  have key : ∀ z : Int, 0 ≤ z → ∃ v, some (wrap64 (lo + Int.tmod z (hi - lo + 1))) = some v ∧ lo ≤ v ∧ v ≤ hi := by
    intro z hz
    have a := Int.emod_nonneg z (show hi - lo + 1 ≠ 0 by omega)
    have b := Int.emod_lt_of_pos z (show 0 < hi - lo + 1 by omega)
    refine ⟨_, rfl, ?_⟩
    rw [tm _ _ hz, w64 (by omega) (by omega)]
    omega
  by_cases hn : x < 0
  · rw [if_pos hn, if_neg (by omega), w64 (x := x + 1) (by omega) (by omega), w64 (x := -(x + 1)) (by omega) (by omega)]
    exact key _ (by omega)
  · rw [if_neg hn, if_neg (by omega)]
    exact key _ (by omega)
theorem within_same (x lo hi : Int) (h0 : 0 ≤ lo) (h1 : lo ≤ x) (h2 : x ≤ hi) (h3 : hi ≤ 1000000000000) (hl : lo = 0) : larderlaw03_within.f x lo hi = some x := by
  subst hl
  unfold larderlaw03_within.f
  rw [w64 (x := hi - 0) (by omega) (by omega), w64 (x := hi - 0 + 1) (by omega) (by omega), if_neg (by omega), if_neg (by omega), tm _ _ (by omega), Int.emod_eq_of_lt (by omega) (by omega), w64 (by omega) (by omega)]
  exact congrArg some (by omega)
theorem at_eq (k : Nat) (hk : 30000 ≤ k) {Y M D : Int} (hv : vldB Y M D = true) : larderlaw03_at.f k (num Y M D) = some (Y, M, D) := by
  obtain ⟨n1, n2, n3, n4⟩ := num_bd hv
  unfold larderlaw03_at.f
  rw [within_same (num Y M D) 0 3652424 (by omega) (by omega) (by omega) (by omega) rfl]
  simp only [Option.bind_some]
  rw [(of_in k hk hv).1]
  rfl
/-- a day's week, told from its number alone -/
theorem wk_of {y n : Int} (h0 : 0 ≤ y) (h1 : y ≤ 9999) (a : beg y ≤ n) (b : n < beg (y + 1)) (Y : Int) (hY0 : -1 ≤ Y) (hY : beg Y ≤ thu n) (hY2 : thu n < beg (Y + 1)) : wkY y n = Y := by
  obtain ⟨c1, c2, c3, c4, _, _⟩ := wkY_in h0 h1 a b
  by_cases z : Y < 0
  · obtain rfl : Y = -1 := by omega
    rw [show (-1 : Int) + 1 = 0 by omega, beg_zero] at hY2
    by_cases w : 0 ≤ wkY y n
    · have := (beg_bd (wkY y n) w (by omega)).1; omega
    · omega
  · by_cases w : wkY y n < 0
    · rw [show wkY y n + 1 = 0 by omega, beg_zero] at c2
      have := beg_mono 0 Y (by omega) (by omega)
      rw [beg_zero] at this; omega
    · exact year_uniq _ _ (thu n) (by omega) (by omega) c1 c2 hY hY2
theorem beg_gap (y : Int) (h : -1 ≤ y) : beg y + 365 ≤ beg (y + 1) ∧ beg (y + 1) ≤ beg y + 366 := by
  have hs := beg_step y h
  have : (0 : Int) ≤ (if y < 0 then 0 else lpN y) ∧ (if y < 0 then 0 else lpN y) ≤ 1 := by split; omega; exact lpN_01 _
  omega
/-- what a week's parts say of the day -/
theorem wk_facts {y n : Int} (h0 : 0 ≤ y) (h1 : y ≤ 9999) (a : beg y ≤ n) (b : n < beg (y + 1)) :
    fst_ (wkY y n) + 7 * (wkW y n - 1) + (wd n + 1) - 1 = n ∧ fst_ (wkY y n) + 7 * (wkW y n - 1) + 4 - 1 = thu n ∧ (wkY y n ≤ 9999 → wkW y n ≤ wks (wkY y n)) ∧ 1 ≤ wkW y n := by
  obtain ⟨c1, c2, c3, c4, _, _⟩ := wkY_in h0 h1 a b
  have hr := wks_ref (wkY y n) c3
  have hs := wk_same n (beg (wkY y n)) c1
  refine ⟨?_, ?_, ?_, ?_⟩
  · unfold wkW fst_; unfold thu wd at *; omega
  · unfold wkW fst_; unfold thu wd at *; omega
  · intro _; unfold wkW; unfold fst_ at hr; unfold thu wd at *; omega
  · unfold wkW; omega
theorem wk_7 {y n y7 : Int} (h0 : 0 ≤ y) (h1 : y ≤ 9999) (a : beg y ≤ n) (b : n < beg (y + 1)) (h70 : 0 ≤ y7) (h71 : y7 ≤ 9999) (a7 : beg y7 ≤ n + 7) (b7 : n + 7 < beg (y7 + 1)) :
    (wkY y7 (n + 7) = wkY y n ∧ wkW y7 (n + 7) = wkW y n + 1) ∨ (wkY y7 (n + 7) = wkY y n + 1 ∧ wkW y7 (n + 7) = 1 ∧ (wkW y n = 52 ∨ wkW y n = 53)) := by
  obtain ⟨c1, c2, c3, c4, _, _⟩ := wkY_in h0 h1 a b
  have e : thu (n + 7) = thu n + 7 := by unfold thu wd; omega
  have g := beg_gap (wkY y n) c3
  have g2 := beg_gap (wkY y n + 1) (by omega)
  by_cases h : thu n + 7 < beg (wkY y n + 1)
  · have hy := wk_of h70 h71 a7 b7 (wkY y n) c3 (by omega) (by omega)
    refine .inl ⟨hy, ?_⟩
    unfold wkW; rw [hy, e]; omega
  · have hy := wk_of h70 h71 a7 b7 (wkY y n + 1) (by omega) (by omega) (by omega)
    refine .inr ⟨hy, ?_, ?_⟩
    · unfold wkW; rw [hy, e]; omega
    · unfold wkW; omega
theorem wk_1 {y n y1 : Int} (h0 : 0 ≤ y) (h1 : y ≤ 9999) (a : beg y ≤ n) (b : n < beg (y + 1)) (h10 : 0 ≤ y1) (h11 : y1 ≤ 9999) (a1 : beg y1 ≤ n + 1) (b1 : n + 1 < beg (y1 + 1)) :
    (wd n < 6 ∧ wd (n + 1) = wd n + 1 ∧ wkY y1 (n + 1) = wkY y n ∧ wkW y1 (n + 1) = wkW y n) ∨ (wd n = 6 ∧ wd (n + 1) = 0) := by
  obtain ⟨c1, c2, c3, c4, _, _⟩ := wkY_in h0 h1 a b
  by_cases h : wd n < 6
  · have e1 : wd (n + 1) = wd n + 1 := by unfold wd at *; omega
    have e : thu (n + 1) = thu n := by unfold thu; omega
    have hy := wk_of h10 h11 a1 b1 (wkY y n) c3 (by omega) (by omega)
    refine .inl ⟨h, e1, hy, ?_⟩
    unfold wkW; rw [hy, e]
  · have := wd_bd n
    refine .inr ⟨by omega, ?_⟩
    unfold wd at *; omega
theorem calWeekly_pure (x : Int) (hx : -9223372036854775808 ≤ x ∧ x ≤ 9223372036854775807) : ∃ k, larderlaw03_CalWeekly.f k x = some true := by
  obtain ⟨k, hk⟩ : ∃ k, 30002 ≤ k := ⟨30002, Nat.le_refl _⟩
  obtain ⟨n, hn, n1, n2⟩ := within_eq x 7 3652417 hx (by omega) (by omega) (by omega)
  obtain ⟨Y, M, D, hv, rfl⟩ := day_ex n (by omega) (by omega)
  obtain ⟨Y7, M7, D7, hv7, h7⟩ := day_ex (num Y M D + 7) (by omega) (by omega)
  obtain ⟨Y8, M8, D8, hv8, h8⟩ := day_ex (num Y M D + 1) (by omega) (by omega)
  obtain ⟨p1, p2, _, _, _, _⟩ := vld_out hv
  obtain ⟨q1, q2, _, _⟩ := num_bd hv
  obtain ⟨p71, p72, _, _, _, _⟩ := vld_out hv7
  obtain ⟨q71, q72, _, _⟩ := num_bd hv7
  obtain ⟨p81, p82, _, _, _, _⟩ := vld_out hv8
  obtain ⟨q81, q82, _, _⟩ := num_bd hv8
  obtain ⟨c1, c2, c3, c4, _, _⟩ := wkY_in p1 p2 q1 q2
  obtain ⟨f1, f2, f3, f4⟩ := wk_facts p1 p2 q1 q2
  have g7 := wk_7 p1 p2 q1 q2 p71 p72 (by omega) (by omega)
  have g8 := wk_1 p1 p2 q1 q2 p81 p82 (by omega) (by omega)
  have ht := thu_bd (num Y M D)
  have hw := wd_bd (num Y M D)
  obtain ⟨Yt, Mt, Dt, hvt, hnt⟩ := day_ex (thu (num Y M D)) (by omega) (by omega)
  obtain ⟨pt1, pt2, _, _, _, _⟩ := vld_out hvt
  obtain ⟨qt1, qt2, _, _⟩ := num_bd hvt
  have y0 : 0 ≤ wkY Y (num Y M D) := by
    by_cases z : 0 ≤ wkY Y (num Y M D)
    · exact z
    · rw [show wkY Y (num Y M D) + 1 = 0 by omega, beg_zero] at c2; omega
  have y9 : wkY Y (num Y M D) ≤ 9999 := by
    by_cases z : wkY Y (num Y M D) ≤ 9999
    · exact z
    · rw [show wkY Y (num Y M D) = 10000 by omega] at c1
      have : beg 10000 = 3652425 := by decide
      omega
  have eY : Yt = wkY Y (num Y M D) := year_uniq _ _ (thu (num Y M D)) pt1 y0 (by omega) (by omega) c1 c2
  have d7 : wd (num Y M D + 7) = wd (num Y M D) := by unfold wd; omega
  have ok1 : fwOk (wkY Y (num Y M D)) (wkW Y (num Y M D)) (wd (num Y M D) + 1) = true := decide_eq_true ⟨by omega, y9, f4, f3 y9, by omega, by omega⟩
  have ok2 : fwOk (wkY Y (num Y M D)) (wkW Y (num Y M D)) 4 = true := decide_eq_true ⟨by omega, y9, f4, f3 y9, by omega, by omega⟩
  refine ⟨k, ?_⟩
  obtain ⟨k, rfl⟩ : ∃ q, k = q + 2 := ⟨k - 2, by omega⟩
  unfold larderlaw03_CalWeekly.f
  rw [hn]
  simp only [Option.bind_some]
  rw [at_eq _ (by omega) hv]
  simp only [Option.bind_some]
  rw [weekOf_eq, if_pos hv]
  simp only [Option.bind_some]
  rw [w64 (x := num Y M D + 7) (by omega) (by omega), ← h7, at_eq _ (by omega) hv7]
  simp only [Option.bind_some]
  rw [weekOf_eq, if_pos hv7]
  simp only [Option.bind_some]
  rw [fromWeek_eq _ _ _ _ (by omega), if_pos ok1, f1, (of_in _ (by omega) hv).1]
  simp only [Option.bind_some]
  rw [fromWeek_eq _ _ _ _ (by omega), if_pos ok2, f2, ← hnt, (of_in _ (by omega) hvt).1]
  simp only [Option.bind_some]
  rw [h7, d7, eY]
  simp only [larderlaw03_CalWeekly.j0, larderlaw03_CalWeekly.j1]
  rw [w64 (x := num Y M D + 1) (by omega) (by omega), ← h8, at_eq _ (by omega) hv8]
  simp only [Option.bind_some]
  rw [weekOf_eq, if_pos hv8]
  simp only [Option.bind_some]
  rw [h8]
  clear hn hv hv7 hv8 h7 h8 hvt hnt ok1 ok2 f1 f2 f3
  have w53 := wkW_bd p1 p2 q1 q2
  generalize wkY Y8 (num Y M D + 1) = y8 at *
  generalize wkW Y8 (num Y M D + 1) = w8 at *
  generalize wkY Y7 (num Y M D + 7) = y7 at *
  generalize wkW Y7 (num Y M D + 7) = w7 at *
  generalize wkY Y (num Y M D) = y at *
  generalize wkW Y (num Y M D) = w at *
  generalize wd (num Y M D + 1) = e8 at *
  generalize wd (num Y M D) = e at *
  rw [w64 (x := w + 1) (by omega) (by omega), w64 (x := y + 1) (by omega) (by omega), w64 (x := e + 1 + 1) (by omega) (by omega)]
  rcases g8 with ⟨a1, rfl, rfl, rfl⟩ | ⟨rfl, rfl⟩
  · have a2 : e + 1 < 7 := by omega
    have a3 : ¬ e + 1 = 7 := by omega
    have a4 : ¬ e + 1 < 1 := by omega
    have a5 : ¬ 7 < e + 1 := by omega
    rcases g7 with ⟨rfl, rfl⟩ | ⟨rfl, rfl, b3⟩
    · simp [a2, a3, a4, a5]
    · have hne : ∀ z : Int, ¬ z + 1 = z := fun z => by omega
      rcases b3 with rfl | rfl <;> simp [a2, a3, a4, a5, hne]
  · rcases g7 with ⟨rfl, rfl⟩ | ⟨rfl, rfl, b3⟩
    · simp
    · have hne : ∀ z : Int, ¬ z + 1 = z := fun z => by omega
      rcases b3 with rfl | rfl <;> simp [hne]
end Go.Proofs.YtofafljfabgpmaaDoor.CalP
