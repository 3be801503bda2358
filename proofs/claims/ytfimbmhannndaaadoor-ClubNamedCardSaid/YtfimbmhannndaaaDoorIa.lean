/- What these functions of the program compute, as functions in Lean, and the proofs that they do: vitolaref12.has, slices.Contains[[]int,int], vitolaref12.CheckPlan, vitolaref12.Trios, vitolaref12.Others, vitolaref12.Counts. Conditions: the library's variables hold what their texts lay. -/
import Derived.Test.YtfimbmhannndaaaDoorDa
import Derived.Test.YtfimbmhannndaaaDoorNg
namespace Go.Xm
open Go.RowKit
set_option linter.unusedVariables false
set_option linter.unusedSimpArgs false
set_option maxRecDepth 20000
inductive Of79_1 where
 | r
 | x0
def f79_1 (m : Nat) : Nat → List (Int × Int) → Int → Int → Int → Option Of79_1
 | 0, _, _, _, _ => none
 | fuel + 1, a, b, c, x7_1 =>
  cond (decide (x7_1 < ((a.length : Nat) : Int))) (
   cond (inRow x7_1 a.length) (
    cond (((List.getD a (Int.toNat x7_1) (0, 0)).1) == b && ((List.getD a (Int.toNat x7_1) (0, 0)).2) == c) (
     some (.r)
    ) (
     cond (((List.getD a (Int.toNat x7_1) (0, 0)).1) == c && ((List.getD a (Int.toNat x7_1) (0, 0)).2) == b) (
      some (.r)
     ) (
      f79_1 m fuel a b c (w64 (x7_1 + 1))
     )
    )
   ) none
  ) (
   some (.x0)
  )
def f79 (m : Nat) (a : List (Int × Int)) (b : Int) (c : Int) : Option (Bool) :=
 (f79_1 m m a b c 0).bind fun o1 =>
  match o1 with
  | .r =>
   some (true)
  | .x0 =>
   some (false)
inductive Of75_1 where
 | r (x4_r1 : Int)
 | x0
inductive Of48_1 where
 | r (x2_r1 : Int)
 | x0
def f48_1 (m : Nat) : Nat → Int → List (Int × Int) → Int → Option Of48_1
 | 0, _, _, _ => none
 | fuel + 1, a_Sorters, a_Tables, x3_1 =>
  cond (decide (x3_1 < ((a_Tables.length : Nat) : Int))) (
   cond (inRow x3_1 a_Tables.length) (
    (f66 m ((List.getD a_Tables (Int.toNat x3_1) (0, 0)).1) 0 (w64 (a_Sorters - 1))).bind fun r8 =>
     cond (!r8) (
      some (.r 2)
     ) (
      (f66 m ((List.getD a_Tables (Int.toNat x3_1) (0, 0)).2) 0 (w64 (a_Sorters - 1))).bind fun r9 =>
       cond (!r9) (
        some (.r 2)
       ) (
        cond (((List.getD a_Tables (Int.toNat x3_1) (0, 0)).1) == ((List.getD a_Tables (Int.toNat x3_1) (0, 0)).2)) (
         some (.r 13)
        ) (
         cond (cutOK 0 x3_1 ((a_Tables.length : Nat) : Int) a_Tables.length) (
          cond (Nat.ble (Int.toNat x3_1) a_Tables.length) (
           (f79 m (List.take (Int.toNat x3_1) a_Tables) ((List.getD a_Tables (Int.toNat x3_1) (0, 0)).1) ((List.getD a_Tables (Int.toNat x3_1) (0, 0)).2)).bind fun r10 =>
            cond (r10) (
             some (.r 6)
            ) (
             f48_1 m fuel a_Sorters a_Tables (w64 (x3_1 + 1))
            )
          ) none
         ) none
        )
       )
     )
   ) none
  ) (
   some (.x0)
  )
def f48 (m : Nat) (a_Sorters : Int) (a_Tables : List (Int × Int)) : Option (Int) :=
 (f66 m a_Sorters 1 8).bind fun r1 =>
  cond (!r1) (
   some (1)
  ) (
   cond (decide (((a_Tables.length : Nat) : Int) > 28)) (
    some (3)
   ) (
    (f48_1 m m a_Sorters a_Tables 0).bind fun o1 =>
     match o1 with
     | .r x2_r1 =>
      some (x2_r1)
     | .x0 =>
      some (0)
   )
  )
def f46_3 (m : Nat) : Nat → Int → List (Int × Int) → Int → Int → Int → Int → Option Int
 | 0, _, _, _, _, _, _ => none
 | fuel + 1, a_Sorters, a_Tables, x6_1, x7_2, x5_3, x8_3 =>
  cond (decide (x8_3 < a_Sorters)) (
   (f79 m a_Tables x6_1 x7_2).bind fun r80 =>
    (f79 m a_Tables x6_1 x8_3).bind fun r81 =>
     cond (r81 == r80) (
      (f79 m a_Tables x7_2 x8_3).bind fun r82 =>
       f46_3 m fuel a_Sorters a_Tables x6_1 x7_2 (cond (r82 == r80) (w64 (x5_3 + 1)) x5_3) (w64 (x8_3 + 1))
     ) (
      f46_3 m fuel a_Sorters a_Tables x6_1 x7_2 x5_3 (w64 (x8_3 + 1))
     )
  ) (
   some (x5_3)
  )
def f46_2 (m : Nat) : Nat → Int → List (Int × Int) → Int → Int → Int → Option Int
 | 0, _, _, _, _, _ => none
 | fuel + 1, a_Sorters, a_Tables, x6_1, x5_2, x7_2 =>
  cond (decide (x7_2 < a_Sorters)) (
   (f46_3 m m a_Sorters a_Tables x6_1 x7_2 x5_2 (w64 (x7_2 + 1))).bind fun o3 =>
    f46_2 m fuel a_Sorters a_Tables x6_1 o3 (w64 (x7_2 + 1))
  ) (
   some (x5_2)
  )
def f46_1 (m : Nat) : Nat → Int → List (Int × Int) → Int → Int → Option Int
 | 0, _, _, _, _ => none
 | fuel + 1, a_Sorters, a_Tables, x5_1, x6_1 =>
  cond (decide (x6_1 < a_Sorters)) (
   (f46_2 m m a_Sorters a_Tables x6_1 x5_1 (w64 (x6_1 + 1))).bind fun o2 =>
    f46_1 m fuel a_Sorters a_Tables o2 (w64 (x6_1 + 1))
  ) (
   some (x5_1)
  )
def f46 (m : Nat) (a_Sorters : Int) (a_Tables : List (Int × Int)) : Option (Int × Int) :=
 (f48 m a_Sorters a_Tables).bind fun r1 =>
  cond (r1 != 0) (
   some (0, r1)
  ) (
   (f46_1 m m a_Sorters a_Tables 0 0).bind fun o1 =>
    some (o1, 0)
  )
def f44_2 (m : Nat) : Nat → Int → List (Int × Int) → Int → List Int → Int → Int → Option Int
 | 0, _, _, _, _, _, _ => none
 | fuel + 1, a_Sorters, a_Tables, x6_1, lh2_1, x7_2, x8_2 =>
  cond (decide (x8_2 < a_Sorters)) (
   (f79 m a_Tables x6_1 x8_2).bind fun r10 =>
    f44_2 m fuel a_Sorters a_Tables x6_1 lh2_1 (cond (r10) (w64 (x7_2 + 1)) x7_2) (w64 (x8_2 + 1))
  ) (
   some (x7_2)
  )
def f44_1 (m : Nat) : Nat → Int → List (Int × Int) → Int → List Int → Option (List Int)
 | 0, _, _, _, _ => none
 | fuel + 1, a_Sorters, a_Tables, x6_1, lh2_1 =>
  cond (decide (x6_1 < a_Sorters)) (
   (f44_2 m m a_Sorters a_Tables x6_1 lh2_1 0 0).bind fun o2 =>
    cond (fitsB (lh2_1.length + 1) 8) (
     f44_1 m fuel a_Sorters a_Tables (w64 (x6_1 + 1)) (lh2_1 ++ [o2])
    ) none
  ) (
   some (lh2_1)
  )
def f44 (m : Nat) (a_Sorters : Int) (a_Tables : List (Int × Int)) : Option ((List Int) × Int) :=
 (f48 m a_Sorters a_Tables).bind fun r1 =>
  cond (r1 != 0) (
   some ([], r1)
  ) (
   (f44_1 m m a_Sorters a_Tables 0 []).bind fun o1 =>
    some (o1, 0)
  )
end Go.Xm
