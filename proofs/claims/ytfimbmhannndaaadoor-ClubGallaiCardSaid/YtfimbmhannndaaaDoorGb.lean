/- The counts of every plan of at most five sorters, as the code finds them: all plans are tried. Conditions: none. -/
import Derived.Test.YtfimbmhannndaaaDoorEc
import Derived.Test.YtfimbmhannndaaaDoorGa
namespace Go.Xm
set_option linter.unusedVariables false
set_option maxRecDepth 100000

/-- The code's counts of plan number s are those of 'codeN'. -/
def okS (n s : Nat) : Bool :=
  match f33 5000 (n : Int) (s : Int) with
  | some r => match f32 5000 r.1 r.2 with
    | some l => Nat.beq l.length n && (l.all fun x => decide (0 ≤ x) && decide (x < (n : Int))) && Nat.beq (numN n (l.map Int.toNat)) (codeN n (edgeN n) s)
    | none => false
  | none => false
def tabS (n : Nat) : Bool := (List.range (2 ^ (n * (n - 1) / 2))).all (okS n)

theorem tabS1 : tabS 1 = true := by kernel_rfl
theorem tabS2 : tabS 2 = true := by kernel_rfl
theorem tabS3 : tabS 3 = true := by kernel_rfl
theorem tabS4 : tabS 4 = true := by kernel_rfl
theorem tabS5 : tabS 5 = true := by kernel_rfl

end Go.Xm
