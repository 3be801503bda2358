/- Such runs. Conditions: none. -/
import Derived.Test.YtebmhidngofmcaaGreatDoorTq
namespace Go.Xm
set_option maxRecDepth 100000

noncomputable def hQ5 (n : Nat) : Heap := (931, rowQ [1, 1]) :: (930, rowQ [1]) :: (929, .was (cellsI [1]) 931 0 3 1) :: (928, rowQ [1]) :: (5, rowQ [0]) :: (4, rowQ [0]) :: hpQ n
noncomputable def mQ5 : Run1 := ⟨argQ 931 2 1, hQ5 132, 932, .tuple #[], hQ5 132, 1182⟩

theorem runQ5 : runs (fastEnv E3) 1000 Proofs.Tryz.f4 mQ5 = true := by kernel_rfl

end Go.Xm
