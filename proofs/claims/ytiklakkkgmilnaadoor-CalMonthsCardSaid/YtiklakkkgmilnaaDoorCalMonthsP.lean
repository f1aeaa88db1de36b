/- The law CalMonths in plain numbers: months go by the month's number; the day stays, or is the month's last; the time of the day stays; twelve months are a year. -/
import Derived.Test.YtiklakkkgmilnaaDoorCalAddC
import Derived.Test.YtiklakkkgmilnaaDoorCalAtP
import Derived.Test.YtiklakkkgmilnaaDoorGCxf3
namespace Go.Proofs.YtiklakkkgmilnaaDoor.CalP
open Go.RowKit Go.Proofs.YtiklakkkgmilnaaDoorW.PrintWords Go.Proofs.YtiklakkkgmilnaaDoor.Ext Go.Proofs.YtiklakkkgmilnaaDoor.PCal Go.Proofs.YtiklakkkgmilnaaDoor.GC
theorem good_months (y mo : Int) (a : 0 ≤ y ∧ y ≤ 999999999) (b : 0 ≤ mo ∧ mo ≤ 999999999) : goodB y mo 0 0 0 0 0 = true := by
  simp [goodB, allOk, okB, a, b]
theorem at_ex (k : Nat) (hk : 30000 ≤ k) (x : Int) (hx : -9223372036854775808 ≤ x ∧ x ≤ 9223372036854775807) : ∃ Y M D, vldB Y M D = true ∧ larderlaw03_at.f k x = some (Y, M, D) := by
  obtain ⟨v, hv, v0, v1⟩ := within_eq x 0 3652424 hx (by omega) (by omega) (by omega)
  obtain ⟨Y, M, D, hd, rfl⟩ := day_ex v v0 v1
  refine ⟨Y, M, D, hd, ?_⟩
  unfold larderlaw03_at.f
  rw [hv]
  simp only [Option.bind_some]
  rw [(of_in k hk hd).1]
  rfl
theorem calMonths_pure (x cc yy mm : Int) (back : Bool) (b0 : -9223372036854775808 ≤ x ∧ x ≤ 9223372036854775807) (b1 : -9223372036854775808 ≤ cc ∧ cc ≤ 9223372036854775807) (b2 : -9223372036854775808 ≤ yy ∧ yy ≤ 9223372036854775807)
    (b3 : -9223372036854775808 ≤ mm ∧ mm ≤ 9223372036854775807) : ∃ k, larderlaw03_CalMonths.f k x cc yy mm back = some true := by
  obtain ⟨k, hk⟩ : ∃ k, 30020 ≤ k := ⟨30020, Nat.le_refl _⟩
  obtain ⟨Y, M, D, hv, hat⟩ := at_ex k (by omega) x b0
  obtain ⟨c, hc, c0, c1⟩ := within_eq cc 0 86399 b1 (by omega) (by omega) (by omega)
  obtain ⟨y, hy, y0, y1⟩ := within_eq yy 0 300 b2 (by omega) (by omega) (by omega)
  obtain ⟨mo, hm, m0, m1⟩ := within_eq mm 0 3000 b3 (by omega) (by omega) (by omega)
  obtain ⟨p1, p2, p3, p4, p5, p6⟩ := vld_out hv
  obtain ⟨n1, n2, n3, n4⟩ := num_bd hv
  have hdim := dim_bd Y M p3 p4
  refine ⟨k, ?_⟩
  obtain ⟨k, rfl⟩ : ∃ q, k = q + 2 := ⟨k - 2, by omega⟩
  unfold larderlaw03_CalMonths.f
  rw [hat, hc]
  simp only [Option.bind_some]
  rw [days_eq, if_pos hv, hy]
  simp only [Option.bind_some]
  rw [hm]
  simp only [Option.bind_some]
  have e1 : wrap64 (wrap64 (12 * y) + mo) = 12 * y + mo := by rw [w64 (x := 12 * y) (by omega) (by omega), w64 (by omega) (by omega)]
  have e2 : wrap64 (-(12 * y + mo)) = -(12 * y + mo) := w64 (by omega) (by omega)
  have hj : (if back = true then larderlaw03_CalMonths.j0 (k + 2) back c (num Y M D) (wrap64 (-wrap64 (wrap64 (12 * y) + mo))) Y M D y mo 0 0 0 0 0 else larderlaw03_CalMonths.j0 (k + 2) back c (num Y M D) (wrap64 (wrap64 (12 * y) + mo)) Y M D y mo 0 0 0 0 0)
      = larderlaw03_CalMonths.j0 (k + 2) back c (num Y M D) (sgn back * (12 * y + mo)) Y M D y mo 0 0 0 0 0 := by
    rw [e1, e2]
    cases back
    · rw [if_neg (by simp)]; simp [sgn]
    · rw [if_pos rfl]; simp only [sgn, if_true]; congr 1; omega
  rw [hj]
  have hS : wrap64 (wrap64 (num Y M D * 86400) + c) = num Y M D * 86400 + c := by rw [w64 (x := num Y M D * 86400) (by omega) (by omega), w64 (by omega) (by omega)]
  have s0 : 0 ≤ num Y M D * 86400 + c := by omega
  have s1 : num Y M D * 86400 + c ≤ 315569519999 := by omega
  have sd : num Y M D = (num Y M D * 86400 + c) / 86400 := by omega
  have sm : (num Y M D * 86400 + c) % 86400 = c := by omega
  have g1 := good_months y mo (by omega) (by omega)
  have g2 := good_months 0 (12 * y + mo) (by omega) (by omega)
  have g3 := good_months 0 0 (by omega) (by omega)
  have R : ∀ b : Bool, sgn b * rst 0 0 0 0 0 = 0 := fun b => by unfold rst; omega
  have hN : ∀ m, newN m D (num Y M D * 86400 + c) 0 0 0 0 0 back = num (m / 12) (m % 12 + 1) (mn D (dim (m / 12) (m % 12 + 1))) * 86400 + c := fun m => by unfold newN; rw [R, sm]; omega
  have hsg := sgn_cases back
  simp only [larderlaw03_CalMonths.j0]
  rw [hS, e1, addSpan_eq (k + 1) (by omega) hv _ y mo 0 0 0 0 0 back s0 s1 sd g1]
  simp only [Option.bind_some]
  rw [addSpan_eq (k + 1) (by omega) hv _ 0 (12 * y + mo) 0 0 0 0 0 back s0 s1 sd g2]
  simp only [Option.bind_some]
  have hW : wrap64 (wrap64 (wrap64 (wrap64 (12 * Y) + M) - 1) + sgn back * (12 * y + mo)) = mon Y M y mo back := by
    rw [w64 (x := 12 * Y) (by omega) (by omega), w64 (x := 12 * Y + M) (by omega) (by omega), w64 (x := 12 * Y + M - 1) (by omega) (by omega)]
    unfold mon
    rcases hsg with ⟨_, e⟩ | ⟨_, e⟩ <;> rw [e] <;> exact w64 (by omega) (by omega)
  have hmm : mon Y M 0 (12 * y + mo) back = mon Y M y mo back := by unfold mon; rw [show (12 : Int) * 0 + (12 * y + mo) = 12 * y + mo by omega]
  have hm0 : mon Y M 0 0 back = 12 * Y + M - 1 := by unfold mon; rcases hsg with ⟨_, e⟩ | ⟨_, e⟩ <;> rw [e] <;> omega
  have ea : addE Y M D (num Y M D * 86400 + c) 0 (12 * y + mo) 0 0 0 0 0 back = addE Y M D (num Y M D * 86400 + c) y mo 0 0 0 0 0 back := by unfold addE; rw [hmm]
  rw [hW, ea]
  have hj1 : (if mon Y M y mo back < 0 then larderlaw03_CalMonths.j1 (k + 1) back c (num Y M D) (mon Y M y mo back) (addE Y M D (num Y M D * 86400 + c) y mo 0 0 0 0 0 back).1 (addE Y M D (num Y M D * 86400 + c) y mo 0 0 0 0 0 back).2 (addE Y M D (num Y M D * 86400 + c) y mo 0 0 0 0 0 back).1 (addE Y M D (num Y M D * 86400 + c) y mo 0 0 0 0 0 back).2 true Y M D
      else larderlaw03_CalMonths.j1 (k + 1) back c (num Y M D) (mon Y M y mo back) (addE Y M D (num Y M D * 86400 + c) y mo 0 0 0 0 0 back).1 (addE Y M D (num Y M D * 86400 + c) y mo 0 0 0 0 0 back).2 (addE Y M D (num Y M D * 86400 + c) y mo 0 0 0 0 0 back).1 (addE Y M D (num Y M D * 86400 + c) y mo 0 0 0 0 0 back).2 (decide (mon Y M y mo back ≥ 120000)) Y M D)
      = larderlaw03_CalMonths.j1 (k + 1) back c (num Y M D) (mon Y M y mo back) (addE Y M D (num Y M D * 86400 + c) y mo 0 0 0 0 0 back).1 (addE Y M D (num Y M D * 86400 + c) y mo 0 0 0 0 0 back).2 (addE Y M D (num Y M D * 86400 + c) y mo 0 0 0 0 0 back).1 (addE Y M D (num Y M D * 86400 + c) y mo 0 0 0 0 0 back).2 (decide (mon Y M y mo back < 0 ∨ mon Y M y mo back ≥ 120000)) Y M D := by
    by_cases z : mon Y M y mo back < 0
    · rw [if_pos z, decide_eq_true (Or.inl z)]
    · rw [if_neg z]
      by_cases u : mon Y M y mo back ≥ 120000
      · rw [decide_eq_true u, decide_eq_true (Or.inr u)]
      · rw [decide_eq_false u, decide_eq_false (show ¬ (mon Y M y mo back < 0 ∨ mon Y M y mo back ≥ 120000) by omega)]
  rw [hj1]
  simp only [larderlaw03_CalMonths.j1]
  rw [hS]
  by_cases z : mon Y M y mo back < 0 ∨ mon Y M y mo back ≥ 120000
  · have hA : addE Y M D (num Y M D * 86400 + c) y mo 0 0 0 0 0 back = (0, 35) := by unfold addE; rw [if_pos z]
    rw [decide_eq_true z, if_pos rfl, hA, addSpan_eq k (by omega) hv _ 0 0 0 0 0 0 0 back s0 s1 sd g3]
    simp only [Option.bind_some]
    have hB : addE Y M D (num Y M D * 86400 + c) 0 0 0 0 0 0 0 back = (num Y M D * 86400 + c, 0) := by
      unfold addE
      rw [hm0, if_neg (show ¬ (12 * Y + M - 1 < 0 ∨ 12 * Y + M - 1 ≥ 120000) by omega), hN, show (12 * Y + M - 1) / 12 = Y by omega, show (12 * Y + M - 1) % 12 + 1 = M by omega]
      have e3 : mn D (dim Y M) = D := by unfold mn; rw [if_neg (by omega)]
      rw [e3, if_neg (show ¬ (num Y M D * 86400 + c < 0 ∨ num Y M D * 86400 + c > 315569519999) by omega)]
    rw [hB]
    simp
  · have hmv := min_vld hv (mon Y M y mo back) (by omega) (by omega)
    obtain ⟨w1, w2, w3, w4⟩ := num_bd hmv
    have hA : addE Y M D (num Y M D * 86400 + c) y mo 0 0 0 0 0 back = (num (mon Y M y mo back / 12) (mon Y M y mo back % 12 + 1) (mn D (dim (mon Y M y mo back / 12) (mon Y M y mo back % 12 + 1))) * 86400 + c, 0) := by
      unfold addE
      rw [if_neg z, hN, if_neg (by omega)]
    rw [decide_eq_false z, if_neg (by simp), hA]
    generalize hm' : mon Y M y mo back = m at *
    generalize hX : num (m / 12) (m % 12 + 1) (mn D (dim (m / 12) (m % 12 + 1))) = X at *
    have q1 : Int.tdiv (X * 86400 + c) 86400 = X := by rw [td _ _ (by omega)]; omega
    have q2 : Int.tmod (X * 86400 + c) 86400 = c := by rw [tm _ _ (by omega)]; omega
    rw [q1, q2, w64 (x := X) (by omega) (by omega), ← hX, (of_in k (by omega) hmv).1]
    simp only [Option.bind_some]
    have q3 : wrap64 (wrap64 (wrap64 (12 * (m / 12)) + (m % 12 + 1)) - 1) = m := by
      rw [w64 (x := 12 * (m / 12)) (by omega) (by omega), w64 (x := 12 * (m / 12) + (m % 12 + 1)) (by omega) (by omega), w64 (by omega) (by omega)]; omega
    have hd2 := dim_bd (m / 12) (m % 12 + 1) (by omega) (by omega)
    simp only [q3, if_true]
    by_cases u : mn D (dim (m / 12) (m % 12 + 1)) = D
    · rw [if_pos u]
    · rw [if_neg u]
      have hmn : mn D (dim (m / 12) (m % 12 + 1)) = dim (m / 12) (m % 12 + 1) ∧ dim (m / 12) (m % 12 + 1) < D := by
        unfold mn at *
        split at u
        · rename_i h; rw [if_pos h]; exact ⟨rfl, h⟩
        · exact absurd rfl u
      rw [hmn.1, if_pos hmn.2, w64 (by omega) (by omega), valid_eq]
      have : vldB (m / 12) (m % 12 + 1) (dim (m / 12) (m % 12 + 1) + 1) = false := decide_eq_false (by omega)
      rw [this]
      rfl
end Go.Proofs.YtiklakkkgmilnaaDoor.CalP
