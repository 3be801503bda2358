/- duty.opened at more fractions. Conditions: none. -/
import Derived.Test.YtcpagojealaigaaGreatDoorFa
namespace Go.Xm
open Go.RowKit
set_option maxRecDepth 100000

theorem opT_17 : opT 17 = true := by kernel_rfl
theorem opT_18 : opT 18 = true := by kernel_rfl
theorem opT_19 : opT 19 = true := by kernel_rfl
theorem opT_20 : opT 20 = true := by kernel_rfl
theorem opT_21 : opT 21 = true := by kernel_rfl
theorem opT_22 : opT 22 = true := by kernel_rfl
theorem opT_23 : opT 23 = true := by kernel_rfl

end Go.Xm
