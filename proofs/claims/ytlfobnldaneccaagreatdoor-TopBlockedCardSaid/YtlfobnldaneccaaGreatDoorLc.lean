/- TopBlocked: tables of the floor of nine, part 3. Conditions: none. -/
import Derived.Test.YtlfobnldaneccaaGreatDoorLi
namespace Go.Xm
open Go.RowKit
set_option maxRecDepth 100000
theorem nine_8 : ((List.range 16).all fun c => good5 2 2 (128 + c)) = true := by kernel_rfl
theorem nine_9 : ((List.range 16).all fun c => good5 2 2 (144 + c)) = true := by kernel_rfl
theorem nine_10 : ((List.range 16).all fun c => good5 2 2 (160 + c)) = true := by kernel_rfl
theorem nine_11 : ((List.range 16).all fun c => good5 2 2 (176 + c)) = true := by kernel_rfl
end Go.Xm
