/- One such run. Conditions: none. -/
import Derived.Test.YtebmhidngofmcaaGreatDoorTq
namespace Go.Xm
set_option maxRecDepth 100000

theorem runQ1 : runs (fastEnv E3) 1000 Proofs.Tryz.f4 mQ1 = true := by kernel_rfl

end Go.Xm
