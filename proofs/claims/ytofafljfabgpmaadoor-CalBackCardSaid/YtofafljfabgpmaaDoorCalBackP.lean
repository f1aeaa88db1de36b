/- The law CalBack in plain numbers: every number's day has that number; the day behind it is the next of its month, or the first of the next month, or of the next year. -/
import Derived.Test.YtofafljfabgpmaaDoorCalAtP
import Derived.Test.YtofafljfabgpmaaDoorGCxf4
namespace Go.Proofs.YtofafljfabgpmaaDoor.CalP
open Go.RowKit Go.Proofs.YtofafljfabgpmaaDoorW.PrintWords Go.Proofs.YtofafljfabgpmaaDoor.Ext Go.Proofs.YtofafljfabgpmaaDoor.PCal Go.Proofs.YtofafljfabgpmaaDoor.GC
theorem calBack_pure (x : Int) (hx : -9223372036854775808 ≤ x ∧ x ≤ 9223372036854775807) : ∃ k, larderlaw03_CalBack.f k x = some true := by
  obtain ⟨k, hk⟩ : ∃ k, 30002 ≤ k := ⟨30002, Nat.le_refl _⟩
  obtain ⟨n, hn, n0, n1⟩ := within_eq x 0 3652423 hx (by omega) (by omega) (by omega)
  obtain ⟨Y, M, D, hv, rfl⟩ := day_ex n (by omega) (by omega)
  obtain ⟨Y2, M2, D2, hv2, h2⟩ := day_ex (num Y M D + 1) (by omega) (by omega)
  obtain ⟨a1, a2, a3, a4, a5, a6⟩ := vld_out hv
  have hd := dim_bd Y M a3 a4
  obtain ⟨q1, q2, _, _⟩ := num_bd hv2
  obtain ⟨p1, p2, _, _⟩ := num_bd hv
  refine ⟨k, ?_⟩
  obtain ⟨k, rfl⟩ : ∃ q, k = q + 1 := ⟨k - 1, by omega⟩
  unfold larderlaw03_CalBack.f
  rw [hn]
  simp only [Option.bind_some]
  rw [(of_in (k + 1) (by omega) hv).1]
  simp only [Option.bind_some]
  rw [days_eq, if_pos hv, w64 (x := num Y M D + 1) (by omega) (by omega), ← h2, (of_in (k + 1) (by omega) hv2).1]
  simp only [Option.bind_some]
  rw [if_pos trivial, if_pos trivial, if_pos trivial, if_pos trivial, valid_eq, hv]
  simp only [Option.bind_some]
  rw [if_pos trivial, valid_eq, hv2]
  simp only [Option.bind_some, larderlaw03_CalBack.j0]
  rw [w64 (x := D + 1) (by omega) (by omega), w64 (x := M + 1) (by omega) (by omega), w64 (x := Y + 1) (by omega) (by omega), valid_eq]
  simp only [Option.bind_some]
  cases v1 : vldB Y M (D + 1) with
  | true =>
    have e : num Y M (D + 1) = num Y2 M2 D2 := by rw [h2]; unfold num; omega
    obtain ⟨rfl, rfl, rfl⟩ := num_inj v1 hv2 e
    simp
  | false =>
    have hD : D = dim Y M := by
      by_cases z : D = dim Y M
      · exact z
      · have := vld_mk (y := Y) (m := M) (d := D + 1) ⟨a1, a2, a3, a4, by omega, by omega⟩
        rw [v1] at this; cases this
    have hs := ahd_succ Y M a3 a4
    rw [valid_eq]
    simp only [Option.bind_some]
    cases v2 : vldB Y (M + 1) 1 with
    | true =>
      have e : num Y (M + 1) 1 = num Y2 M2 D2 := by rw [h2]; unfold num; omega
      obtain ⟨rfl, rfl, rfl⟩ := num_inj v2 hv2 e
      have : 28 ≤ D := by omega
      simp [this]
    | false =>
      have hM : M = 12 := by
        by_cases z : M = 12
        · exact z
        · have hd2 := dim_bd Y (M + 1) (by omega) (by omega)
          have := vld_mk (y := Y) (m := M + 1) (d := 1) ⟨a1, a2, by omega, by omega, by omega, by omega⟩
          rw [v2] at this; cases this
      subst hM
      rw [show (12 : Int) + 1 = 13 from rfl, ahd_13] at hs
      have hb := beg_succ Y a1
      have hY : Y + 1 ≤ 9999 := by
        by_cases z : Y + 1 ≤ 9999
        · exact z
        · have : beg 10000 = 3652425 := by decide
          have e9 : Y + 1 = 10000 := by omega
          rw [e9] at hb
          unfold num at n1
          omega
      have hd3 := dim_bd (Y + 1) 1 (by omega) (by omega)
      have v3 := vld_mk (y := Y + 1) (m := 1) (d := 1) ⟨by omega, hY, by omega, by omega, by omega, by omega⟩
      have h1 := ahd_one (Y + 1)
      have e : num (Y + 1) 1 1 = num Y2 M2 D2 := by rw [h2]; unfold num; omega
      obtain ⟨rfl, rfl, rfl⟩ := num_inj v3 hv2 e
      have hD31 : D = 31 := by rw [hD]; simp [dim, cum]
      subst hD31
      simp
end Go.Proofs.YtofafljfabgpmaaDoor.CalP
