/- Such runs. Conditions: none. -/
import Derived.Test.YtebmhidngofmcaaGreatDoorTq
namespace Go.Xm
set_option maxRecDepth 100000

noncomputable def hQ6 (n : Nat) : Heap := (1183, rowQ [1, 2]) :: (1182, rowQ [2]) :: (930, rowQ [1]) :: (929, .was (cellsI [1]) 1183 0 3 1) :: (928, rowQ [1]) :: (5, rowQ [0]) :: (4, rowQ [0]) :: hpQ n
noncomputable def mQ6 : Run1 := ⟨argQ 1183 2 2, hQ6 132, 1184, .tuple #[], hQ6 132, 1322⟩
noncomputable def hQ7 (n : Nat) : Heap := (679, rowQ [0, 2]) :: (678, rowQ [2]) :: (426, rowQ [1]) :: (6, rowQ [0]) :: (5, .was (cellsI [0]) 679 0 3 1) :: (4, rowQ [0]) :: hpQ n
noncomputable def mQ7 : Run1 := ⟨argQ 679 2 2, hQ7 132, 680, .tuple #[], hQ7 132, 818⟩

theorem runQ6 : runs (fastEnv E3) 1000 Proofs.Tryz.f4 mQ6 = true := by kernel_rfl
theorem runQ7 : runs (fastEnv E3) 1000 Proofs.Tryz.f4 mQ7 = true := by kernel_rfl

end Go.Xm
