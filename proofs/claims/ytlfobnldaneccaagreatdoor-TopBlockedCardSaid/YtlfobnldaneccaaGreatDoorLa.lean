/- TopBlocked: tables of the floor of nine, part 1. Conditions: none. -/
import Derived.Test.YtlfobnldaneccaaGreatDoorLi
namespace Go.Xm
open Go.RowKit
set_option maxRecDepth 100000
theorem nine_0 : ((List.range 16).all fun c => good5 2 2 (0 + c)) = true := by kernel_rfl
theorem nine_1 : ((List.range 16).all fun c => good5 2 2 (16 + c)) = true := by kernel_rfl
theorem nine_2 : ((List.range 16).all fun c => good5 2 2 (32 + c)) = true := by kernel_rfl
theorem nine_3 : ((List.range 16).all fun c => good5 2 2 (48 + c)) = true := by kernel_rfl
end Go.Xm
