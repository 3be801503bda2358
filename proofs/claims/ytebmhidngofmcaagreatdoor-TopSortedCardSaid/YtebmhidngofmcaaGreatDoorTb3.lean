/- A part of the table of sorted wishes. Conditions: none. -/
import Derived.Test.YtebmhidngofmcaaGreatDoorWt
namespace Go.Xm
set_option maxRecDepth 100000
theorem tab6_168 : tabOk 6 168 42 = true := by kernel_rfl
theorem tab6_210 : tabOk 6 210 42 = true := by kernel_rfl
end Go.Xm
