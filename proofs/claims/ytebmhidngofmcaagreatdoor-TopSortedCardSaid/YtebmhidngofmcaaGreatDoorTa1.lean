/- A part of the table of sorted wishes. Conditions: none. -/
import Derived.Test.YtebmhidngofmcaaGreatDoorWt
namespace Go.Xm
set_option maxRecDepth 100000
theorem tab1 : tabOk 1 0 1 = true := by kernel_rfl
theorem tab2 : tabOk 2 0 3 = true := by kernel_rfl
theorem tab3 : tabOk 3 0 10 = true := by kernel_rfl
theorem tab4 : tabOk 4 0 35 = true := by kernel_rfl
end Go.Xm
