/- TopBlocked: tables of the floor of nine, part 5. Conditions: none. -/
import Derived.Test.YtlfobnldaneccaaGreatDoorLi
namespace Go.Xm
open Go.RowKit
set_option maxRecDepth 100000
theorem nine_16 : ((List.range 16).all fun c => good5 2 2 (256 + c)) = true := by kernel_rfl
theorem nine_17 : ((List.range 16).all fun c => good5 2 2 (272 + c)) = true := by kernel_rfl
theorem nine_18 : ((List.range 16).all fun c => good5 2 2 (288 + c)) = true := by kernel_rfl
theorem nine_19 : ((List.range 16).all fun c => good5 2 2 (304 + c)) = true := by kernel_rfl
end Go.Xm
