/- duty.opened at fractions below one: what the machine answers. Conditions: none. -/
import Derived.Test.YtcpagojealaigaaGreatDoorTp
import Derived.Test.YtcpagojealaigaaGreatDoorTm
namespace Go.Xm
open Go.RowKit
set_option maxRecDepth 100000

noncomputable def opR (a b : Nat) : Option Value := callH (fastEnv Ep) 100000 17 [.agg #[.int .i64 (.ofNat a), .int .i64 (.ofNat b)]] [] 0

def opV (r : Option Value) (x y : Nat) : Bool :=
  match r with
  | some (.tuple t) => match t.toList with
    | [.agg c, .int .i64 (.ofNat 0)] => match c.toList with
      | [.int .i64 (.ofNat p), .int .i64 (.ofNat q)] => Nat.beq p x && Nat.beq q y
      | _ => false
    | _ => false
  | _ => false

theorem opV_eq {r : Option Value} {x y : Nat} (h : opV r x y = true) : r = some (.tuple #[.agg #[.int .i64 (.ofNat x), .int .i64 (.ofNat y)], .int .i64 0]) := by
  unfold opV at h
  split at h
  · rename_i t
    split at h
    · rename_i c e
      split at h
      · rename_i p q e2
        simp only [Bool.and_eq_true] at h
        rw [Nat.eq_of_beq_eq_true h.1, Nat.eq_of_beq_eq_true h.2] at e2
        have e3 : c = #[.int .i64 (.ofNat x), .int .i64 (.ofNat y)] := Array.ext' e2
        subst e3
        have e4 : t = #[.agg #[.int .i64 (.ofNat x), .int .i64 (.ofNat y)], .int .i64 (.ofNat 0)] := Array.ext' e
        rw [e4]
        rfl
      · cases h
    · cases h
  · cases h

/-- All fractions with one number below. -/
noncomputable def opT (b : Nat) : Bool := (List.range (b - 1)).all fun i => opV (opR (i + 1) b) ((i + 1) / Nat.gcd (i + 1) b) (b / Nat.gcd (i + 1) b)

theorem opT_2 : opT 2 = true := by kernel_rfl
theorem opT_3 : opT 3 = true := by kernel_rfl
theorem opT_4 : opT 4 = true := by kernel_rfl
theorem opT_5 : opT 5 = true := by kernel_rfl
theorem opT_6 : opT 6 = true := by kernel_rfl
theorem opT_7 : opT 7 = true := by kernel_rfl
theorem opT_8 : opT 8 = true := by kernel_rfl
theorem opT_9 : opT 9 = true := by kernel_rfl
theorem opT_10 : opT 10 = true := by kernel_rfl
theorem opT_11 : opT 11 = true := by kernel_rfl
theorem opT_12 : opT 12 = true := by kernel_rfl
theorem opT_13 : opT 13 = true := by kernel_rfl
theorem opT_14 : opT 14 = true := by kernel_rfl
theorem opT_15 : opT 15 = true := by kernel_rfl
theorem opT_16 : opT 16 = true := by kernel_rfl

end Go.Xm
