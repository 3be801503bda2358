/- TopBlocked: tables of the floor of nine, part 7. Conditions: none. -/
import Derived.Test.YtlfobnldaneccaaGreatDoorLi
namespace Go.Xm
open Go.RowKit
set_option maxRecDepth 100000
theorem nine_24 : ((List.range 16).all fun c => good5 2 2 (384 + c)) = true := by kernel_rfl
theorem nine_25 : ((List.range 16).all fun c => good5 2 2 (400 + c)) = true := by kernel_rfl
theorem nine_26 : ((List.range 16).all fun c => good5 2 2 (416 + c)) = true := by kernel_rfl
theorem nine_27 : ((List.range 16).all fun c => good5 2 2 (432 + c)) = true := by kernel_rfl
end Go.Xm
