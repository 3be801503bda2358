/- TopRow: the tables of parking at five bays, by the first cart (0, 1, 2). Conditions: none. -/
import Derived.Test.YtlfobnldaneccaaGreatDoorKd
namespace Go.Xm
open Go.RowKit
set_option maxRecDepth 100000
theorem park5_0 : ((wordsL 5 4).all fun l => parkOk 5 (0 :: l)) = true := by kernel_rfl
theorem park5_1 : ((wordsL 5 4).all fun l => parkOk 5 (1 :: l)) = true := by kernel_rfl
theorem park5_2 : ((wordsL 5 4).all fun l => parkOk 5 (2 :: l)) = true := by kernel_rfl

end Go.Xm
