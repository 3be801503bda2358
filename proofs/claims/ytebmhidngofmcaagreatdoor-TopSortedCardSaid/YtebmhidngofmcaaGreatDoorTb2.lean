/- A part of the table of sorted wishes. Conditions: none. -/
import Derived.Test.YtebmhidngofmcaaGreatDoorWt
namespace Go.Xm
set_option maxRecDepth 100000
theorem tab6_84 : tabOk 6 84 42 = true := by kernel_rfl
theorem tab6_126 : tabOk 6 126 42 = true := by kernel_rfl
end Go.Xm
