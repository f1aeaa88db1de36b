/- The law CalWeeks in plain numbers: for every date and every week cal's WeekOf and FromWeek answer what the reference answers. -/
import Derived.Test.YtofafljfabgpmaaDoorCalWP
import Derived.Test.YtofafljfabgpmaaDoorGCxf8
namespace Go.Proofs.YtofafljfabgpmaaDoor.CalP
open Go.RowKit Go.Proofs.YtofafljfabgpmaaDoorW.PrintWords Go.Proofs.YtofafljfabgpmaaDoor.Ext Go.Proofs.YtofafljfabgpmaaDoor.PCal Go.Proofs.YtofafljfabgpmaaDoor.GC
theorem calWeeks_pure (y m d a b c : Int) : ∃ k, larderlaw03_CalWeeks.f k y m d a b c = some true := by
  obtain ⟨k, hk⟩ : ∃ k, 30001 ≤ k := ⟨30001, Nat.le_refl _⟩
  refine ⟨k, ?_⟩
  obtain ⟨r, hr⟩ := fw_ex a b c
  unfold larderlaw03_CalWeeks.f
  rw [weekOf_eq, rweekOf_eq k (by omega) y m d, (hr k hk).1, (hr k hk).2]
  simp
end Go.Proofs.YtofafljfabgpmaaDoor.CalP
