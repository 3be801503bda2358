/- TopSeparable: some orders of bales, in the kernel. Conditions: none. -/
import Derived.Test.YtlfobnldaneccaaGreatDoorJa
namespace Go.Xm
open Go.RowKit
set_option maxRecDepth 100000

theorem sepT5_2 : ((List.range 4).all fun c1 => (List.range 3).all fun c2 => (List.range 2).all fun c3 => okB (f4 200 4 (.ofNat 2) (.ofNat c1) (.ofNat c2) (.ofNat c3) (.ofNat 0))) = true := by kernel_rfl
theorem sepT5_3 : ((List.range 4).all fun c1 => (List.range 3).all fun c2 => (List.range 2).all fun c3 => okB (f4 200 4 (.ofNat 3) (.ofNat c1) (.ofNat c2) (.ofNat c3) (.ofNat 0))) = true := by kernel_rfl
end Go.Xm
