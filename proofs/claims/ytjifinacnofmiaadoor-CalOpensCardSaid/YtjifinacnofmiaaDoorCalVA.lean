/- Which dates are valid, and their numbers: what cal's functions answer. -/
import Derived.Test.YtjifinacnofmiaaDoorCalPA
import Derived.Test.YtjifinacnofmiaaDoorCalValX
namespace Go.Proofs.YtjifinacnofmiaaDoor.CalP
open Go.RowKit Go.Proofs.YtjifinacnofmiaaDoorW.PrintWords Go.Proofs.YtjifinacnofmiaaDoor.Ext Go.Proofs.YtjifinacnofmiaaDoor.PCal Go.Proofs.YtjifinacnofmiaaDoor.GC Go.IntWalk

theorem valid_eq (y m d : Int) : cal_Valid.f y m d = some (vldB y m d) := rfl
end Go.Proofs.YtjifinacnofmiaaDoor.CalP
