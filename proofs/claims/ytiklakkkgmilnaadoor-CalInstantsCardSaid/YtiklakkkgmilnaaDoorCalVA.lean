/- Which dates are valid, and their numbers: what cal's functions answer. -/
import Derived.Test.YtiklakkkgmilnaaDoorCalPA
import Derived.Test.YtiklakkkgmilnaaDoorCalValX
namespace Go.Proofs.YtiklakkkgmilnaaDoor.CalP
open Go.RowKit Go.Proofs.YtiklakkkgmilnaaDoorW.PrintWords Go.Proofs.YtiklakkkgmilnaaDoor.Ext Go.Proofs.YtiklakkkgmilnaaDoor.PCal Go.Proofs.YtiklakkkgmilnaaDoor.GC Go.IntWalk

theorem valid_eq (y m d : Int) : cal_Valid.f y m d = some (vldB y m d) := rfl
end Go.Proofs.YtiklakkkgmilnaaDoor.CalP
