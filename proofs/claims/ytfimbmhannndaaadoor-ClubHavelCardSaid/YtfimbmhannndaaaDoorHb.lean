/- ClubHavel: one sorter sits with those of the greatest counts: all counts in descending order, and all of their values, are asked. Conditions: none. -/
import Derived.Test.YtfimbmhannndaaaDoorCd
namespace Go.Xm
set_option maxRecDepth 100000

def eraN (v : Nat) : List Nat → List Nat
  | [] => []
  | x :: l => match Nat.beq x v with
    | true => l
    | false => x :: eraN v l

def mxN : List Nat → Nat
  | [] => 0
  | x :: l => match Nat.ble x (mxN l) with
    | true => mxN l
    | false => x

/-- The values of a descending list, each once. -/
def ddN : List Nat → List Nat
  | [] => []
  | x :: l => match l with
    | [] => [x]
    | y :: _ => match Nat.beq x y with
      | true => ddN l
      | false => x :: ddN l

theorem mem_ddN : ∀ {l : List Nat} {v : Nat}, v ∈ l → v ∈ ddN l
  | [x], v, h => h
  | x :: y :: l, v, h => by
    have ih := fun q => mem_ddN (l := y :: l) (v := v) q
    show v ∈ (match Nat.beq x y with | true => ddN (y :: l) | false => x :: ddN (y :: l))
    cases hb : Nat.beq x y with
    | true =>
      have := Nat.eq_of_beq_eq_true hb
      subst this
      rcases List.mem_cons.1 h with rfl | h
      · exact ih (List.mem_cons_self ..)
      · exact ih h
    | false =>
      rcases List.mem_cons.1 h with rfl | h
      · exact List.mem_cons_self ..
      · exact List.mem_cons_of_mem _ (ih h)

def chkH (l : List Nat) (v : Nat) : Bool :=
  match decN v (eraN v l) with
  | none => !canN 8 l
  | some r => match Nat.ble (mxN r) (l.length - 2) with
    | false => !canN 8 l
    | true => match canN 8 l with
      | true => canN 8 (sortN r).reverse
      | false => !canN 8 (sortN r).reverse

def chkA (l : List Nat) : Bool := (ddN l).all (chkH l)

end Go.Xm
