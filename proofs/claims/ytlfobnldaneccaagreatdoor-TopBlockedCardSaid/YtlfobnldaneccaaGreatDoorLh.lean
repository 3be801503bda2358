/- TopBlocked: tables of the floor of nine, part 8. Conditions: none. -/
import Derived.Test.YtlfobnldaneccaaGreatDoorLi
namespace Go.Xm
open Go.RowKit
set_option maxRecDepth 100000
theorem nine_28 : ((List.range 16).all fun c => good5 2 2 (448 + c)) = true := by kernel_rfl
theorem nine_29 : ((List.range 16).all fun c => good5 2 2 (464 + c)) = true := by kernel_rfl
theorem nine_30 : ((List.range 16).all fun c => good5 2 2 (480 + c)) = true := by kernel_rfl
theorem nine_31 : ((List.range 16).all fun c => good5 2 2 (496 + c)) = true := by kernel_rfl
end Go.Xm
