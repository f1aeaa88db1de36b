/- The law CalDays in plain numbers: for every date and every number what cal answers (valid, number, day) is what the reference answers. -/
import Derived.Test.YtofafljfabgpmaaDoorCalP
import Derived.Test.YtofafljfabgpmaaDoorGCxf3
namespace Go.Proofs.YtofafljfabgpmaaDoor.CalP
open Go.RowKit Go.Proofs.YtofafljfabgpmaaDoorW.PrintWords Go.Proofs.YtofafljfabgpmaaDoor.Ext Go.Proofs.YtofafljfabgpmaaDoor.PCal Go.Proofs.YtofafljfabgpmaaDoor.GC
theorem calDays_pure (y m d n : Int) : ∃ k, larderlaw03_CalDays.f k y m d n = some true := by
  obtain ⟨k, hk⟩ : ∃ k, 30000 ≤ k := ⟨30000, Nat.le_refl _⟩
  refine ⟨k, ?_⟩
  unfold larderlaw03_CalDays.f
  rw [days_eq, rdays_eq k y m d (by omega), valid_eq, rvalid_eq k y m d (by omega)]
  by_cases h : n < 0 ∨ 3652424 < n
  · rw [(of_out k n h).1, (of_out k n h).2]
    simp
  · obtain ⟨Y, M, D, hv, rfl⟩ := day_ex n (by omega) (by omega)
    rw [(of_in k hk hv).1, (of_in k hk hv).2]
    simp
end Go.Proofs.YtofafljfabgpmaaDoor.CalP
