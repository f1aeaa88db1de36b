/- What the reference's FromWeek comes to; cal's and the reference's answer alike. -/
import Derived.Test.YtiklakkkgmilnaaDoorCalWR
import Derived.Test.YtiklakkkgmilnaaDoorCalFwkX
import Derived.Test.YtiklakkkgmilnaaDoorGCxf50
namespace Go.Proofs.YtiklakkkgmilnaaDoor.CalP
open Go.RowKit Go.Proofs.YtiklakkkgmilnaaDoorW.PrintWords Go.Proofs.YtiklakkkgmilnaaDoor.Ext Go.Proofs.YtiklakkkgmilnaaDoor.PCal Go.Proofs.YtiklakkkgmilnaaDoor.GC Go.IntWalk

theorem rfromWeek_eq (y w d : Int) (k : Nat) (hk : 30001 ≤ k) : larderref03_FromWeek.f k y w d = (if fwOk y w d = true then larderref03_Of.f (k - 1) (fst_ y + 7 * (w - 1) + d - 1) else some (0, 0, 0, 30)) := by
  obtain ⟨k, rfl⟩ : ∃ q, k = q + 1 := ⟨k - 1, by omega⟩
  have hj : ∀ a b c, larderref03_FromWeek.j0 (k + 1) true a b c = some (0, 0, 0, 30) := fun a b c => by simp [larderref03_FromWeek.j0]
  unfold larderref03_FromWeek.f
  unfold fwOk
  by_cases h1 : y < -1
  · rw [if_pos h1, hj, if_neg (by simp; omega)]
  rw [if_neg h1]
  by_cases h2 : y > 9999
  · rw [if_pos h2, hj, if_neg (by simp; omega)]
  rw [if_neg h2]
  by_cases h3 : w < 1
  · rw [if_pos h3, hj, if_neg (by simp; omega)]
  rw [if_neg h3]
  by_cases h5 : d < 1
  · rw [if_pos h5, hj, if_neg (by simp; omega)]
  rw [if_neg h5]
  by_cases h6 : d > 7
  · rw [if_pos h6, hj, if_neg (by simp; omega)]
  rw [if_neg h6, rweeks_eq y (by omega) (by omega)]
  simp only [Option.bind_some]
  by_cases h4 : w > wks y
  · rw [decide_eq_true h4, hj, if_neg (by simp; omega)]
  rw [decide_eq_false h4, if_pos (decide_eq_true (by omega))]
  have hf := fst_bd y (by omega) (by omega)
  have hq := wks_bd y
  simp only [larderref03_FromWeek.j0]
  rw [if_neg (by simp), first_eq y (by omega) (by omega)]
  simp only [Option.bind_some]
  rw [w64 (x := w - 1) (by omega) (by omega), w64 (x := 7 * (w - 1)) (by omega) (by omega), w64 (x := fst_ y + 7 * (w - 1)) (by omega) (by omega), w64 (x := fst_ y + 7 * (w - 1) + d) (by omega) (by omega), w64 (by omega) (by omega)]
  rw [show k + 1 - 1 = k from rfl]
  cases larderref03_Of.f k (fst_ y + 7 * (w - 1) + d - 1) <;> rfl
theorem fw_ex (y w d : Int) : ∃ r : Int × Int × Int × Int, ∀ k, 30001 ≤ k → cal_FromWeek.f k y w d = some r ∧ larderref03_FromWeek.f k y w d = some r := by
  cases h : fwOk y w d with
  | true =>
    obtain ⟨r, hr⟩ := of_ex (fst_ y + 7 * (w - 1) + d - 1)
    refine ⟨r, fun k hk => ?_⟩
    rw [fromWeek_eq, rfromWeek_eq y w d k hk, if_pos h, if_pos h]
    exact ⟨(hr k (by omega)).1, (hr (k - 1) (by omega)).2⟩
  | false =>
    refine ⟨(0, 0, 0, 30), fun k hk => ?_⟩
    rw [fromWeek_eq, rfromWeek_eq y w d k hk, h, if_neg (by simp), if_neg (by simp)]
    exact ⟨rfl, rfl⟩
end Go.Proofs.YtiklakkkgmilnaaDoor.CalP
