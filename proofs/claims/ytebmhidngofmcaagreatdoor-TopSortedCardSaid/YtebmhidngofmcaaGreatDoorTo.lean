/- The run for six bays. Conditions: none. -/
import Derived.Test.YtebmhidngofmcaaGreatDoorTn
namespace Go.Xm
set_option maxRecDepth 100000

theorem run_6 : runN (.ofNat 6) = true := by kernel_rfl

end Go.Xm
