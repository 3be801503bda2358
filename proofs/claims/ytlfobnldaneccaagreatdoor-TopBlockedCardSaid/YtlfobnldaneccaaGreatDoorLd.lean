/- TopBlocked: tables of the floor of nine, part 4. Conditions: none. -/
import Derived.Test.YtlfobnldaneccaaGreatDoorLi
namespace Go.Xm
open Go.RowKit
set_option maxRecDepth 100000
theorem nine_12 : ((List.range 16).all fun c => good5 2 2 (192 + c)) = true := by kernel_rfl
theorem nine_13 : ((List.range 16).all fun c => good5 2 2 (208 + c)) = true := by kernel_rfl
theorem nine_14 : ((List.range 16).all fun c => good5 2 2 (224 + c)) = true := by kernel_rfl
theorem nine_15 : ((List.range 16).all fun c => good5 2 2 (240 + c)) = true := by kernel_rfl
end Go.Xm
