/- All counts in descending order are tried: a plan is there just if the sum is even and nothing stands against it. Conditions: none. -/
import Derived.Test.YtfimbmhannndaaaDoorCd
namespace Go.Xm
set_option maxRecDepth 100000

theorem tab1 : (dls 1 1).all chk = true := by kernel_rfl
theorem tab2 : (dls 2 2).all chk = true := by kernel_rfl
theorem tab3 : (dls 3 3).all chk = true := by kernel_rfl
theorem tab4 : (dls 4 4).all chk = true := by kernel_rfl
theorem tab5 : (dls 5 5).all chk = true := by kernel_rfl
theorem tab6 : (dls 6 6).all chk = true := by kernel_rfl
theorem tab7 : (dls 7 7).all chk = true := by kernel_rfl

end Go.Xm
