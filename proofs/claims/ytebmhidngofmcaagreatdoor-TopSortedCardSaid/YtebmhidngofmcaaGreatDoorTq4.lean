/- One such run. Conditions: none. -/
import Derived.Test.YtebmhidngofmcaaGreatDoorTq
namespace Go.Xm
set_option maxRecDepth 100000

noncomputable def hQ4 (n : Nat) : Heap := (1433, rowQ [2]) :: (1432, rowQ [2]) :: hQ3 n
noncomputable def mQ4 : Run1 := ⟨argQ 1433 1 2, hQ4 132, 1434, .tuple #[], hQ4 132, 1684⟩

theorem runQ4 : runs (fastEnv E3) 1000 Proofs.Tryz.f4 mQ4 = true := by kernel_rfl

end Go.Xm
