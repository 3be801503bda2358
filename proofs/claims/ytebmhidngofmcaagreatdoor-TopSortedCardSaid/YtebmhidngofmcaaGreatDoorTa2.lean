/- A part of the table of sorted wishes. Conditions: none. -/
import Derived.Test.YtebmhidngofmcaaGreatDoorWt
namespace Go.Xm
set_option maxRecDepth 100000
theorem tab5a : tabOk 5 0 42 = true := by kernel_rfl
theorem tab5b : tabOk 5 42 42 = true := by kernel_rfl
theorem tab5c : tabOk 5 84 42 = true := by kernel_rfl
end Go.Xm
