/- The text of a sheet's fault. -/
import Derived.Test.YtappphffbnkloaaDoorShtX
import Derived.Deep.RegionHeld3
import Derived.Deep.RegionWith
import Derived.Deep.DrawnRows
set_option linter.unusedVariables false
set_option linter.unusedSimpArgs false
namespace Go.Proofs.YtappphffbnkloaaDoor.Sht
open Go Go.RowKit
attribute [local go_sem ↓] Go.wp_at_zero Go.wp_at_succ
theorem methodError (v : Value) (w : World) : (Go.method 264 134 v "Error").run Tryd.prog w = .ok (115, v) w := by kernel_rfl
end Go.Proofs.YtappphffbnkloaaDoor.Sht
