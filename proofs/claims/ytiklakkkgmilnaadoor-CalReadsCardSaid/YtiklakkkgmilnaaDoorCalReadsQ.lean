/- The law CalReads in plain numbers and texts: of every text cal's ParseDate answers what the reference answers. -/
import Derived.Test.YtiklakkkgmilnaaDoorCalReadsP
import Derived.Test.YtiklakkkgmilnaaDoorGCxf5
namespace Go.Proofs.YtiklakkkgmilnaaDoor.CalP
open Go.RowKit Go.IntWalk Go.Proofs.YtiklakkkgmilnaaDoorW.PrintWords Go.Proofs.YtiklakkkgmilnaaDoor.Ext Go.Proofs.YtiklakkkgmilnaaDoor.GC
theorem calReads_pure (s : ByteArray) : ∃ k, larderlaw03_CalReads.f k s = some true := by
  obtain ⟨r, hr⟩ := cparse_some s
  refine ⟨40000, ?_⟩
  unfold larderlaw03_CalReads.f
  rw [rparse_eq 40000 (Nat.le_refl _) s, hr]
  simp
end Go.Proofs.YtiklakkkgmilnaaDoor.CalP
