/- TopBlocked: the tables of the smaller floors. Conditions: none. -/
import Derived.Test.YtlfobnldaneccaaGreatDoorHd
namespace Go.Xm
open Go.RowKit
set_option maxRecDepth 100000
def okB (x : Option Bool) : Bool := match x with
  | some true => true
  | _ => false
theorem okB_eq {x : Option Bool} (h : okB x = true) : x = some true := by
  unfold okB at h
  split at h
  · rfl
  · cases h
def good5 (a b c : Nat) : Bool := okB (f5 200 (.ofNat a) (.ofNat b) (.ofNat c))
theorem small_0_0_0 : ((List.range 2).all fun c => good5 0 0 (0 + c)) = true := by kernel_rfl
theorem small_0_1_0 : ((List.range 4).all fun c => good5 0 1 (0 + c)) = true := by kernel_rfl
theorem small_0_2_0 : ((List.range 8).all fun c => good5 0 2 (0 + c)) = true := by kernel_rfl
theorem small_1_0_0 : ((List.range 4).all fun c => good5 1 0 (0 + c)) = true := by kernel_rfl
theorem small_1_1_0 : ((List.range 16).all fun c => good5 1 1 (0 + c)) = true := by kernel_rfl
theorem small_1_2_0 : ((List.range 16).all fun c => good5 1 2 (0 + c)) = true := by kernel_rfl
theorem small_1_2_1 : ((List.range 16).all fun c => good5 1 2 (16 + c)) = true := by kernel_rfl
theorem small_1_2_2 : ((List.range 16).all fun c => good5 1 2 (32 + c)) = true := by kernel_rfl
theorem small_1_2_3 : ((List.range 16).all fun c => good5 1 2 (48 + c)) = true := by kernel_rfl
theorem small_2_0_0 : ((List.range 8).all fun c => good5 2 0 (0 + c)) = true := by kernel_rfl
theorem small_2_1_0 : ((List.range 16).all fun c => good5 2 1 (0 + c)) = true := by kernel_rfl
theorem small_2_1_1 : ((List.range 16).all fun c => good5 2 1 (16 + c)) = true := by kernel_rfl
theorem small_2_1_2 : ((List.range 16).all fun c => good5 2 1 (32 + c)) = true := by kernel_rfl
theorem small_2_1_3 : ((List.range 16).all fun c => good5 2 1 (48 + c)) = true := by kernel_rfl
end Go.Xm
