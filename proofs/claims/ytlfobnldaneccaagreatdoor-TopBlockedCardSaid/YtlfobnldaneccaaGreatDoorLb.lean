/- TopBlocked: tables of the floor of nine, part 2. Conditions: none. -/
import Derived.Test.YtlfobnldaneccaaGreatDoorLi
namespace Go.Xm
open Go.RowKit
set_option maxRecDepth 100000
theorem nine_4 : ((List.range 16).all fun c => good5 2 2 (64 + c)) = true := by kernel_rfl
theorem nine_5 : ((List.range 16).all fun c => good5 2 2 (80 + c)) = true := by kernel_rfl
theorem nine_6 : ((List.range 16).all fun c => good5 2 2 (96 + c)) = true := by kernel_rfl
theorem nine_7 : ((List.range 16).all fun c => good5 2 2 (112 + c)) = true := by kernel_rfl
end Go.Xm
