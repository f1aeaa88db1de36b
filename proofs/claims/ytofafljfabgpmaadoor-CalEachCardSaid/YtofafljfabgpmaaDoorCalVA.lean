/- Which dates are valid, and their numbers: what cal's functions answer. -/
import Derived.Test.YtofafljfabgpmaaDoorCalPA
import Derived.Test.YtofafljfabgpmaaDoorCalValX
namespace Go.Proofs.YtofafljfabgpmaaDoor.CalP
open Go.RowKit Go.Proofs.YtofafljfabgpmaaDoorW.PrintWords Go.Proofs.YtofafljfabgpmaaDoor.Ext Go.Proofs.YtofafljfabgpmaaDoor.PCal Go.Proofs.YtofafljfabgpmaaDoor.GC Go.IntWalk

theorem valid_eq (y m d : Int) : cal_Valid.f y m d = some (vldB y m d) := rfl
end Go.Proofs.YtofafljfabgpmaaDoor.CalP
