/- A part of the table of sorted wishes. Conditions: none. -/
import Derived.Test.YtebmhidngofmcaaGreatDoorWt
namespace Go.Xm
set_option maxRecDepth 100000
theorem tab6_252 : tabOk 6 252 42 = true := by kernel_rfl
theorem tab6_294 : tabOk 6 294 42 = true := by kernel_rfl
end Go.Xm
