/- The law CalShows in plain numbers and texts: for every second and every zone cal's PrintInstant answers what the reference answers. -/
import Derived.Test.YtiklakkkgmilnaaDoorCalPdP
import Derived.Test.YtiklakkkgmilnaaDoorGCxf4
namespace Go.Proofs.YtiklakkkgmilnaaDoor.CalP
open Go.RowKit Go.Proofs.YtiklakkkgmilnaaDoorW.PrintWords Go.Proofs.YtiklakkkgmilnaaDoor.Ext Go.Proofs.YtiklakkkgmilnaaDoor.PCal Go.Proofs.YtiklakkkgmilnaaDoor.GC

/-- the whole of an instant's text -/
theorem body_eq (k : Nat) (hk : 30005 ≤ k) (z s : Int) (h0 : 0 ≤ s) (h1 : s ≤ 315569519999) (hz : -1439 ≤ z) (hz1 : z ≤ 1439) :
    ∃ r, cal_PrintInstant.j1 k z s false = some r ∧ larderref03_PrintInstant.j2 k z s false = some r := by
  obtain ⟨k, rfl⟩ : ∃ q, k = q + 1 := ⟨k - 1, by omega⟩
  obtain ⟨y, m, d, hv, hn⟩ := day_ex (s / 86400) (by omega) (by omega)
  obtain ⟨v1, v2, v3, v4, v5, v6⟩ := vld_out hv
  have vd := dim_bd y m v3 v4
  have q1 := date_eq (Y := y) (M := m) (D := d) k (by omega) hv
  have q2 := rdate_eq (Y := y) (M := m) (D := d) k (by omega) hv
  rw [hn] at q1 q2
  have q3 := printDate_eq k (by omega) y m d 0
  rw [hv, if_pos rfl] at q3
  have q4 : pd y m d (num y m d) 0 = (P y 4 ++ (⟨#[45]⟩ : ByteArray) ++ P m 2 ++ (⟨#[45]⟩ : ByteArray) ++ P d 2, 0) := by
    unfold pd; rw [if_neg (by omega), if_pos rfl]
  rw [q4] at q3
  have zz : (P y 4 ++ (⟨#[45]⟩ : ByteArray) ++ P m 2 ++ (⟨#[45]⟩ : ByteArray) ++ P d 2).size ≤ 100 := by
    have a1 := P_size y 4
    have a2 := P_size m 2
    have a3 := P_size d 2
    have e1 : (⟨#[45]⟩ : ByteArray).size = 1 := rfl
    simp only [ByteArray.size_append, e1]
    omega
  generalize P y 4 ++ (⟨#[45]⟩ : ByteArray) ++ P m 2 ++ (⟨#[45]⟩ : ByteArray) ++ P d 2 = T at q3 zz
  rw [cal_PrintInstant.j1, larderref03_PrintInstant.j2]
  rw [td s _ h0, w64 (x := s / 86400) (by omega) (by omega), q1, q2]
  simp only [Option.bind_some, q3.1, q3.2, Bool.false_eq_true, if_false]
  rw [tm s _ h0, td _ _ (by omega), w64 (x := s % 86400 / 3600) (by omega) (by omega), td _ _ (by omega), w64 (x := s % 86400 / 60) (by omega) (by omega), tm _ 60 (by omega), tm _ 60 (by omega)]
  have e1 := pad_eq k (s % 86400 / 3600) 2 (by omega) (by omega) (by omega) (by omega) (by omega)
  have e2 := pad_eq k (s % 86400 / 60 % 60) 2 (by omega) (by omega) (by omega) (by omega) (by omega)
  have e3 := pad_eq k (s % 86400 % 60) 2 (by omega) (by omega) (by omega) (by omega) (by omega)
  have r1 := rpad_eq k (s % 86400 / 3600) 2 (by omega) (by omega) (by omega) (by omega) (by omega)
  have r2 := rpad_eq k (s % 86400 / 60 % 60) 2 (by omega) (by omega) (by omega) (by omega) (by omega)
  have r3 := rpad_eq k (s % 86400 % 60) 2 (by omega) (by omega) (by omega) (by omega) (by omega)
  have z1 := P_size (s % 86400 / 3600) 2
  have z2 := P_size (s % 86400 / 60 % 60) 2
  have z3 := P_size (s % 86400 % 60) 2
  simp only [Option.bind_some, e1, e2, e3, r1, r2, r3]
  repeat rw [if_pos (by omega)]
  by_cases a0 : z = 0
  · simp only [if_pos a0]
    repeat rw [if_pos (by omega)]
    exact ⟨_, rfl, rfl⟩
  simp only [if_neg a0]
  by_cases a1 : z < 0
  · simp only [if_pos a1]
    rw [w64 (x := -z) (by omega) (by omega), td (-z) 60 (by omega), tm (-z) 60 (by omega), w64 (x := -z / 60) (by omega) (by omega)]
    have e4 := pad_eq k (-z / 60) 2 (by omega) (by omega) (by omega) (by omega) (by omega)
    have e5 := pad_eq k (-z % 60) 2 (by omega) (by omega) (by omega) (by omega) (by omega)
    have r4 := rpad_eq k (-z / 60) 2 (by omega) (by omega) (by omega) (by omega) (by omega)
    have r5 := rpad_eq k (-z % 60) 2 (by omega) (by omega) (by omega) (by omega) (by omega)
    have z4 := P_size (-z / 60) 2
    have z5 := P_size (-z % 60) 2
    simp only [Option.bind_some, e4, e5, r4, r5]
    repeat rw [if_pos (by omega)]
    exact ⟨_, rfl, rfl⟩
  simp only [if_neg a1]
  rw [td z 60 (by omega), tm z 60 (by omega), w64 (x := z / 60) (by omega) (by omega)]
  have e4 := pad_eq k (z / 60) 2 (by omega) (by omega) (by omega) (by omega) (by omega)
  have e5 := pad_eq k (z % 60) 2 (by omega) (by omega) (by omega) (by omega) (by omega)
  have r4 := rpad_eq k (z / 60) 2 (by omega) (by omega) (by omega) (by omega) (by omega)
  have r5 := rpad_eq k (z % 60) 2 (by omega) (by omega) (by omega) (by omega) (by omega)
  have z4 := P_size (z / 60) 2
  have z5 := P_size (z % 60) 2
  simp only [Option.bind_some, e4, e5, r4, r5]
  repeat rw [if_pos (by omega)]
  exact ⟨_, rfl, rfl⟩
theorem instant_eq (k : Nat) (hk : 30009 ≤ k) (a z : Int) : ∃ r, cal_PrintInstant.f k a z = some r ∧ larderref03_PrintInstant.f k a z = some r := by
  obtain ⟨k, rfl⟩ : ∃ q, k = q + 3 := ⟨k - 3, by omega⟩
  unfold cal_PrintInstant.f larderref03_PrintInstant.f
  by_cases h0 : a < 0
  · rw [if_pos h0, if_pos h0]; exact ⟨((⟨#[]⟩ : ByteArray), 35), by simp [cal_PrintInstant.j0], by simp [larderref03_PrintInstant.j0]⟩
  rw [if_neg h0, if_neg h0]
  by_cases h1 : a > 315569519999
  · rw [decide_eq_true h1]; exact ⟨((⟨#[]⟩ : ByteArray), 35), by simp [cal_PrintInstant.j0], by simp [larderref03_PrintInstant.j0]⟩
  rw [decide_eq_false h1]
  by_cases h2 : z < -1439
  · refine ⟨((⟨#[]⟩ : ByteArray), 33), ?_, ?_⟩
    · rw [cal_PrintInstant.j0]; simp [h2]
    · rw [larderref03_PrintInstant.j0]; simp only [Bool.false_eq_true, if_false, if_pos h2]; simp [larderref03_PrintInstant.j1]
  by_cases h3 : z > 1439
  · refine ⟨((⟨#[]⟩ : ByteArray), 33), ?_, ?_⟩
    · rw [cal_PrintInstant.j0]; simp only [Bool.false_eq_true, if_false, if_neg h2, if_pos h3]
    · rw [larderref03_PrintInstant.j0]; simp only [Bool.false_eq_true, if_false, if_neg h2, decide_eq_true h3]; simp [larderref03_PrintInstant.j1]
  rw [cal_PrintInstant.j0, larderref03_PrintInstant.j0]
  simp only [Bool.false_eq_true, if_false, if_neg h2, if_neg h3, decide_eq_false h3]
  rw [larderref03_PrintInstant.j1]
  simp only [Bool.false_eq_true, if_false]
  rw [w64 (x := 60 * z) (by omega) (by omega), w64 (x := a + 60 * z) (by omega) (by omega)]
  by_cases h4 : a + 60 * z < 0
  · rw [if_pos h4, if_pos h4]; exact ⟨((⟨#[]⟩ : ByteArray), 35), by simp [cal_PrintInstant.j1], by simp [larderref03_PrintInstant.j2]⟩
  rw [if_neg h4, if_neg h4]
  by_cases h5 : a + 60 * z > 315569519999
  · rw [decide_eq_true h5]; exact ⟨((⟨#[]⟩ : ByteArray), 35), by simp [cal_PrintInstant.j1], by simp [larderref03_PrintInstant.j2]⟩
  rw [decide_eq_false h5]
  obtain ⟨r, e1, e2⟩ := body_eq (k + 1) (by omega) z (a + 60 * z) (by omega) (by omega) (by omega) (by omega)
  have l1 : cal_PrintInstant.j1 (k + 2) z (a + 60 * z) false = some r := (cal_PrintInstant.mono_l (k + 1)).2 z (a + 60 * z) false r e1
  exact ⟨r, l1, e2⟩
theorem calShows_pure (a z : Int) : ∃ k, larderlaw03_CalShows.f k a z = some true := by
  refine ⟨30010, ?_⟩
  unfold larderlaw03_CalShows.f
  obtain ⟨⟨r1, r2⟩, e1, e2⟩ := instant_eq 30010 (by omega) a z
  rw [e1, e2]
  simp
end Go.Proofs.YtiklakkkgmilnaaDoor.CalP
