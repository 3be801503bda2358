/- What becomes of a cart, as an element of a row: it parks (which bay, and how far it had to go on), or leaves. Conditions: none. -/
import Derived.Test.YtlfobnldaneccaaGreatDoorNj
import Derived.Test.YtlfobnldaneccaaGreatDoorNf
import Derived.Test.YtlfobnldaneccaaGreatDoorWa
import Derived.Test.YtlfobnldaneccaaGreatDoorMx
import Derived.Test.YtlfobnldaneccaaGreatDoorNg
import Derived.Test.YtlfobnldaneccaaGreatDoorNh
import Derived.Test.YtlfobnldaneccaaGreatDoorNi
import Derived.Test.YtlfobnldaneccaaGreatDoorNd
import Derived.Test.YtlfobnldaneccaaGreatDoorNe
namespace Go.Xm
open Go.RowKit

def optF : Option (Int × Int) → Value
  | none => .iface 58 (.agg #[])
  | some p => .iface 56 (.agg #[.int .i64 p.1, .int .i64 p.2])

def encF (o : Option (Int × Int)) : List Value := [optF o]

theorem encF_ok : Enc encF 1 := ⟨fun _ => rfl, fun o => by cases o <;> rfl⟩

theorem optF_some {o : Option (Int × Int)} (h : Option.isSome o = true) : optF o = .iface 56 (.agg #[.int .i64 (Option.getD o (0, 0)).1, .int .i64 (Option.getD o (0, 0)).2]) := by
  cases o with
  | none => cases h
  | some p => rfl

theorem optF_none {o : Option (Int × Int)} (h : Option.isSome o = false) : optF o = .iface 58 (.agg #[]) := by
  cases o with
  | none => rfl
  | some p => cases h

end Go.Xm
namespace Go.Xm
open Go.RowKit

def tzS (x : Int) : Option Int := match tzC x with | true => some (tzF x) | false => none

theorem tzS_ok {x r : Int} (h : tzS x = some r) (w : World) (hI : seatInv w) : Calls Proofs.Tryz.prog 57 #[.int .u64 x] w (fun e w' => e = .returned (.int .i64 r) ∧ Below w.heap.size w w') := by
  unfold tzS at h
  cases hc : tzC x with
  | false => rw [hc] at h; cases h
  | true =>
    rw [hc] at h
    cases h
    exact tzF_ok hc w hI

end Go.Xm
namespace Go.Xm
open Go.RowKit

theorem works_ok (w : World) (hI : seatInv w) : Calls Proofs.Tryz.prog 10 #[] w fun e w' => e = .returned (.bool true) ∧ Below w.heap.size w w' := beetles_ok w hI

end Go.Xm
