/- duty.opened at more fractions. Conditions: none. -/
import Derived.Test.YtcpagojealaigaaGreatDoorFb
namespace Go.Xm
open Go.RowKit
set_option maxRecDepth 100000

theorem opT_24 : opT 24 = true := by kernel_rfl
theorem opT_25 : opT 25 = true := by kernel_rfl
theorem opT_26 : opT 26 = true := by kernel_rfl
theorem opT_27 : opT 27 = true := by kernel_rfl
theorem opT_28 : opT 28 = true := by kernel_rfl
theorem opT_29 : opT 29 = true := by kernel_rfl
theorem opT_30 : opT 30 = true := by kernel_rfl

end Go.Xm
