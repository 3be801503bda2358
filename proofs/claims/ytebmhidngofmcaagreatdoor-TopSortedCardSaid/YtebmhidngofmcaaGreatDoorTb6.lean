/- A part of the table of sorted wishes. Conditions: none. -/
import Derived.Test.YtebmhidngofmcaaGreatDoorWt
namespace Go.Xm
set_option maxRecDepth 100000
theorem tab6_420 : tabOk 6 420 42 = true := by kernel_rfl
end Go.Xm
