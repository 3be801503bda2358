/- A part of the table of sorted wishes. Conditions: none. -/
import Derived.Test.YtebmhidngofmcaaGreatDoorWt
namespace Go.Xm
set_option maxRecDepth 100000
theorem tab6_336 : tabOk 6 336 42 = true := by kernel_rfl
theorem tab6_378 : tabOk 6 378 42 = true := by kernel_rfl
end Go.Xm
