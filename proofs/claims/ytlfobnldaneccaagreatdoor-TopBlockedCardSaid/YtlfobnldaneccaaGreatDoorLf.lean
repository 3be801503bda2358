/- TopBlocked: tables of the floor of nine, part 6. Conditions: none. -/
import Derived.Test.YtlfobnldaneccaaGreatDoorLi
namespace Go.Xm
open Go.RowKit
set_option maxRecDepth 100000
theorem nine_20 : ((List.range 16).all fun c => good5 2 2 (320 + c)) = true := by kernel_rfl
theorem nine_21 : ((List.range 16).all fun c => good5 2 2 (336 + c)) = true := by kernel_rfl
theorem nine_22 : ((List.range 16).all fun c => good5 2 2 (352 + c)) = true := by kernel_rfl
theorem nine_23 : ((List.range 16).all fun c => good5 2 2 (368 + c)) = true := by kernel_rfl
end Go.Xm
