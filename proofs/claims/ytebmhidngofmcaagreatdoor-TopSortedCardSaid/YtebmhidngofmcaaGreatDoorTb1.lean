/- A part of the table of sorted wishes. Conditions: none. -/
import Derived.Test.YtebmhidngofmcaaGreatDoorWt
namespace Go.Xm
set_option maxRecDepth 100000
theorem tab6_0 : tabOk 6 0 42 = true := by kernel_rfl
theorem tab6_42 : tabOk 6 42 42 = true := by kernel_rfl
end Go.Xm
