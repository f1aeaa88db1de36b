/- The law CalSpans in plain numbers and texts, joined. -/
import Derived.Test.YtofafljfabgpmaaCalSpansP
import Derived.Test.YtofafljfabgpmaaGCxf4
namespace Go.Proofs.Ytofafljfabgpmaa.CalP
open Go.RowKit Go.IntWalk Go.Proofs.YtofafljfabgpmaaW.PrintWords Go.Proofs.Ytofafljfabgpmaa.Ext Go.Proofs.Ytofafljfabgpmaa.GC
theorem cspan_some (s : ByteArray) : ∃ r, cal_ParseSpan.f s = some r := by
  unfold cal_ParseSpan.f
  split
  · exact ⟨_, rfl⟩
  · split <;> exact ⟨_, rfl⟩
theorem calSpans_pure (s : ByteArray) : ∃ k, larderlaw03_CalSpans.f k s = some true := by
  obtain ⟨k, hk⟩ := rspan_eq s
  obtain ⟨r, hr⟩ := cspan_some s
  refine ⟨k, ?_⟩
  unfold larderlaw03_CalSpans.f
  rw [hk, hr]
  simp
end Go.Proofs.Ytofafljfabgpmaa.CalP
