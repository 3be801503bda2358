/- The contract of Read. Conditions: none. -/
import Derived.Test.YtglkjlafglpalaaGreatDoorPf
namespace Go.Xm
open Go.RowKit
set_option linter.unusedVariables false
def getBk (m : Nat) (t : ByteArray) : Option (Int × Option BkS) := f23 m t
theorem read_cn {m : Nat} {t : ByteArray} {r : Int × Option BkS} {s : BkS} (h : getBk m t = some r) (e : r.2 = some s) : CN E0 23 [.string t] (fun u => .tuple #[u, ii r.1]) (bookX s) := by
 obtain ⟨n, o⟩ := r
 cases e
 exact get_cn rfl (f23_ok m t _ h)
theorem read_no {m : Nat} {t : ByteArray} {r : Int × Option BkS} (h : getBk m t = some r) (e : r.2 = none) {h0 : Heap} {c : Nat} : KC E0 23 [.string t] h0 c (fun v h' c' => v = .tuple #[.pointer none, ii r.1] ∧ h' = h0 ∧ c' = c) := by
 obtain ⟨n, o⟩ := r
 cases e
 exact err_kc rfl (f23_ok m t _ h) fun v h' c' q => q
end Go.Xm
