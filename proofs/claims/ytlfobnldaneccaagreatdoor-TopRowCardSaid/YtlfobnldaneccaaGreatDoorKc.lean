/- TopRow: the tables of parking at five bays (3, 4, and short lists) and at fewer bays. Conditions: none. -/
import Derived.Test.YtlfobnldaneccaaGreatDoorKd
namespace Go.Xm
open Go.RowKit
set_option maxRecDepth 100000
theorem park5_3 : ((wordsL 5 4).all fun l => parkOk 5 (3 :: l)) = true := by kernel_rfl
theorem park5_4 : ((wordsL 5 4).all fun l => parkOk 5 (4 :: l)) = true := by kernel_rfl
theorem park5_s : ((List.range 5).all fun k => (wordsL 5 k).all (parkOk 5)) = true := by kernel_rfl
theorem park4 : ((List.range 4).all fun n => (List.range (n + 2)).all fun k => (wordsL (n + 1) k).all (parkOk (n + 1))) = true := by kernel_rfl

end Go.Xm
