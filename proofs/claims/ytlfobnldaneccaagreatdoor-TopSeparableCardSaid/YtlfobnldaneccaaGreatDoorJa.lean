/- TopSeparable: some orders of bales, in the kernel. Conditions: none. -/
import Derived.Test.YtlfobnldaneccaaGreatDoorBe
namespace Go.Xm
open Go.RowKit
set_option maxRecDepth 100000

def okB (x : Option Bool) : Bool := match x with
  | some true => true
  | _ => false

theorem okB_eq {x : Option Bool} (h : okB x = true) : x = some true := by
  unfold okB at h
  split at h
  · rfl
  · cases h

theorem sepT5_0 : ((List.range 4).all fun c1 => (List.range 3).all fun c2 => (List.range 2).all fun c3 => okB (f4 200 4 (.ofNat 0) (.ofNat c1) (.ofNat c2) (.ofNat c3) (.ofNat 0))) = true := by kernel_rfl
theorem sepT5_1 : ((List.range 4).all fun c1 => (List.range 3).all fun c2 => (List.range 2).all fun c3 => okB (f4 200 4 (.ofNat 1) (.ofNat c1) (.ofNat c2) (.ofNat c3) (.ofNat 0))) = true := by kernel_rfl
end Go.Xm
