/- Widths of gaps: what the loops of function 37 of the program compute (printed by genw.py). Conditions: none. -/
import Derived.Test.YtagagpkjlkoieaaKB
import Derived.Test.YtagagpkjlkoieaaPn
namespace Go.Xm
set_option linter.unusedVariables false
set_option linter.unusedSimpArgs false

theorem s0_37 (m fuel : Nat) (A B C D E : Int) (F : List Int) (l3 : List (Int × Int)) (x y : Int) : f37_3 m (fuel + 1) A B C D E F [] l3 0 0 x y = some (.x0 x y) := by
  unfold f37_3
  rfl

theorem s1_37 (m fuel : Nat) (A B C D E : Int) (F : List Int) (l3 : List (Int × Int)) (a c x y : Int) : f37_3 m (fuel + 2) A B C D E F [(a, c)] l3 1 0 x y = some (if a = x then .r 0 x y else .x0 x y) := by
  unfold f37_3
  show cond (a == x) _ (f37_3 m (fuel + 1) A B C D E F [(a, c)] l3 1 (w64 (0 + 1)) x y) = _
  by_cases h : a = x
  · rw [if_pos h, show (a == x) = true by simpa using h]
    rfl
  · rw [if_neg h, show (a == x) = false by simpa using h]
    unfold f37_3
    rfl

theorem s2_37 (m fuel : Nat) (A B C D E : Int) (F : List Int) (l3 : List (Int × Int)) (a c b d x y : Int) : f37_3 m (fuel + 3) A B C D E F [(a, c), (b, d)] l3 2 0 x y = some (if a = x then .r 0 x y else if b = x then .r 1 x y else .x0 x y) := by
  unfold f37_3
  show cond (a == x) _ (f37_3 m (fuel + 2) A B C D E F [(a, c), (b, d)] l3 2 (w64 (0 + 1)) x y) = _
  by_cases h : a = x
  · rw [if_pos h, show (a == x) = true by simpa using h]
    rfl
  · rw [if_neg h, show (a == x) = false by simpa using h, show w64 (0 + 1) = 1 from rfl]
    simp only [cond_false]
    unfold f37_3
    show cond (b == x) _ (f37_3 m (fuel + 1) A B C D E F [(a, c), (b, d)] l3 2 (w64 (1 + 1)) x y) = _
    by_cases h : b = x
    · rw [if_pos h, show (b == x) = true by simpa using h]
      rfl
    · rw [if_neg h, show (b == x) = false by simpa using h]
      unfold f37_3
      rfl

/-- Three widths, the first two of which may be the same; the third may be that of no gap. -/
def wid3_37 (d1 n1 d2 n2 d3 n3 : Int) : List (Int × Int) :=
  if d1 = d2 then (if n3 = 0 then [(d1, n1 + n2)] else [(d1, n1 + n2), (d3, n3)]) else (if n3 = 0 then [(d1, n1), (d2, n2)] else [(d1, n1), (d2, n2), (d3, n3)])

theorem m_37 (j : Nat) (A B C D E : Int) (F : List Int) (d1 n1 d2 n2 d3 n3 : Int) (h1 : n1 ≠ 0) (h2 : n2 ≠ 0) (h3 : d1 ≠ d3) (h4 : d2 ≠ d3) (hw : w64 (n1 + n2) = n1 + n2) (m : Nat) (hm : m = j + 10) :
    f37_2 m m A B C D E F 0 [] [(d1, n1), (d2, n2), (d3, n3)] = some (wid3_37 d1 n1 d2 n2 d3 n3) := by
  have e1 : (n1 == 0) = false := by simpa using h1
  have e2 : (n2 == 0) = false := by simpa using h2
  have q0 : ∀ x y l3, f37_3 m m A B C D E F [] l3 0 0 x y = some (.x0 x y) := fun x y l3 => by rw [show f37_3 m m A B C D E F [] l3 0 0 x y = f37_3 m (j + 9 + 1) A B C D E F [] l3 0 0 x y by rw [show j + 9 + 1 = m by omega]]; exact s0_37 m (j + 9) A B C D E F l3 x y
  have q1 : ∀ a c x y l3, f37_3 m m A B C D E F [(a, c)] l3 1 0 x y = some (if a = x then .r 0 x y else .x0 x y) := fun a c x y l3 => by rw [show f37_3 m m A B C D E F [(a, c)] l3 1 0 x y = f37_3 m (j + 8 + 2) A B C D E F [(a, c)] l3 1 0 x y by rw [show j + 8 + 2 = m by omega]]; exact s1_37 m (j + 8) A B C D E F l3 a c x y
  have q2 : ∀ a c b d x y l3, f37_3 m m A B C D E F [(a, c), (b, d)] l3 2 0 x y = some (if a = x then .r 0 x y else if b = x then .r 1 x y else .x0 x y) := fun a c b d x y l3 => by rw [show f37_3 m m A B C D E F [(a, c), (b, d)] l3 2 0 x y = f37_3 m (j + 7 + 3) A B C D E F [(a, c), (b, d)] l3 2 0 x y by rw [show j + 7 + 3 = m by omega]]; exact s2_37 m (j + 7) A B C D E F l3 a c b d x y
  have fin : ∀ fu l, f37_2 m (fu + 1) A B C D E F 3 l [(d1, n1), (d2, n2), (d3, n3)] = some (l) := fun fu l => by
    unfold f37_2
    rfl
  -- the third one
  have r3a : ∀ fu a c, d3 ≠ a → f37_2 m (fu + 2) A B C D E F 2 [(a, c)] [(d1, n1), (d2, n2), (d3, n3)] = some ((if n3 = 0 then [(a, c)] else [(a, c), (d3, n3)])) := fun fu a c ha => by
    unfold f37_2
    show cond (n3 == 0) (f37_2 m (fu + 1) A B C D E F (w64 (2 + 1)) [(a, c)] [(d1, n1), (d2, n2), (d3, n3)]) ((f37_3 m m A B C D E F [(a, c)] [(d1, n1), (d2, n2), (d3, n3)] 1 0 d3 n3).bind _) = _
    rw [show w64 (2 + 1) = 3 from rfl, q1, if_neg (Ne.symm ha), fin]
    by_cases h : n3 = 0
    · rw [if_pos h, show (n3 == 0) = true by simpa using h]
      rfl
    · rw [if_neg h, show (n3 == 0) = false by simpa using h]
      show f37_2 m (fu + 1) A B C D E F (w64 (2 + 1)) ([(a, c)] ++ [(d3, n3)]) [(d1, n1), (d2, n2), (d3, n3)] = _
      rw [show w64 (2 + 1) = 3 from rfl, fin]
      rfl
  have r3b : ∀ fu, f37_2 m (fu + 2) A B C D E F 2 [(d1, n1), (d2, n2)] [(d1, n1), (d2, n2), (d3, n3)] = some ((if n3 = 0 then [(d1, n1), (d2, n2)] else [(d1, n1), (d2, n2), (d3, n3)])) := fun fu => by
    unfold f37_2
    show cond (n3 == 0) (f37_2 m (fu + 1) A B C D E F (w64 (2 + 1)) [(d1, n1), (d2, n2)] [(d1, n1), (d2, n2), (d3, n3)]) ((f37_3 m m A B C D E F [(d1, n1), (d2, n2)] [(d1, n1), (d2, n2), (d3, n3)] 2 0 d3 n3).bind _) = _
    rw [show w64 (2 + 1) = 3 from rfl, q2, if_neg h3, if_neg h4, fin]
    by_cases h : n3 = 0
    · rw [if_pos h, show (n3 == 0) = true by simpa using h]
      rfl
    · rw [if_neg h, show (n3 == 0) = false by simpa using h]
      show f37_2 m (fu + 1) A B C D E F (w64 (2 + 1)) ([(d1, n1), (d2, n2)] ++ [(d3, n3)]) [(d1, n1), (d2, n2), (d3, n3)] = _
      rw [show w64 (2 + 1) = 3 from rfl, fin]
      rfl
  have r2 : ∀ fu, f37_2 m (fu + 3) A B C D E F 1 [(d1, n1)] [(d1, n1), (d2, n2), (d3, n3)] = some (wid3_37 d1 n1 d2 n2 d3 n3) := fun fu => by
    unfold f37_2
    show cond (n2 == 0) _ ((f37_3 m m A B C D E F [(d1, n1)] [(d1, n1), (d2, n2), (d3, n3)] 1 0 d2 n2).bind _) = _
    rw [e2, q1]
    unfold wid3_37
    by_cases h : d1 = d2
    · rw [if_pos h, if_pos h]
      show f37_2 m (fu + 2) A B C D E F (w64 (1 + 1)) [(d1, w64 (n1 + n2))] [(d1, n1), (d2, n2), (d3, n3)] = _
      rw [show w64 (1 + 1) = 2 from rfl, hw]
      exact r3a fu d1 (n1 + n2) (Ne.symm h3)
    · rw [if_neg h, if_neg h]
      show f37_2 m (fu + 2) A B C D E F (w64 (1 + 1)) ([(d1, n1)] ++ [(d2, n2)]) [(d1, n1), (d2, n2), (d3, n3)] = _
      rw [show w64 (1 + 1) = 2 from rfl]
      exact r3b fu
  rw [show f37_2 m m A B C D E F 0 [] [(d1, n1), (d2, n2), (d3, n3)] = f37_2 m (j + 6 + 4) A B C D E F 0 [] [(d1, n1), (d2, n2), (d3, n3)] by rw [show j + 6 + 4 = m by omega]]
  unfold f37_2
  show cond (n1 == 0) _ ((f37_3 m m A B C D E F [] [(d1, n1), (d2, n2), (d3, n3)] 0 0 d1 n1).bind _) = _
  rw [e1, q0]
  show f37_2 m (j + 6 + 3) A B C D E F (w64 (0 + 1)) ([] ++ [(d1, n1)]) [(d1, n1), (d2, n2), (d3, n3)] = _
  rw [show w64 (0 + 1) = 1 from rfl]
  exact r2 (j + 6)

/-! Insertion -/
theorem i1_37 (m fuel : Nat) (A B C D E : Int) (F : List Int) (x2 x8 a c b d : Int) (l : List (Int × Int)) (hw : w64 (b - a) = b - a) : f37_6 m (fuel + 2) A B C D E F x2 x8 1 ((a, c) :: (b, d) :: l) = some (if b < a then (b, d) :: (a, c) :: l else (a, c) :: (b, d) :: l) := by
  unfold f37_6
  have h1 : inRow 1 ((a, c) :: (b, d) :: l).length = true := inRow_iff.2 ⟨by omega, by simp only [List.length_cons]; omega⟩
  have h0 : inRow 0 ((a, c) :: (b, d) :: l).length = true := inRow_iff.2 ⟨by omega, by simp only [List.length_cons]; omega⟩
  rw [h1, show w64 (1 - 1) = 0 from rfl, h0]
  show (f88 m b d a c).bind (fun r => cond (decide (r < 0)) (f37_6 m (fuel + 1) A B C D E F x2 x8 0 ((b, d) :: (a, c) :: l)) (some ((a, c) :: (b, d) :: l))) = _
  unfold f88
  rw [hw]
  simp only [Option.bind_some]
  by_cases h : b < a
  · rw [if_pos h, decide_eq_true (by omega)]
    unfold f37_6
    rfl
  · rw [if_neg h, decide_eq_false (by omega)]
    rfl

theorem i2_37 (m fuel : Nat) (A B C D E : Int) (F : List Int) (x2 x8 a c b d e f : Int) (hw : w64 (e - b) = e - b) (h : b ≤ e) : f37_6 m (fuel + 1) A B C D E F x2 x8 2 [(a, c), (b, d), (e, f)] = some [(a, c), (b, d), (e, f)] := by
  unfold f37_6
  show (f88 m e f b d).bind (fun r => cond (decide (r < 0)) _ (some [(a, c), (b, d), (e, f)])) = _
  unfold f88
  rw [hw]
  simp only [Option.bind_some]
  rw [decide_eq_false (by omega)]
  rfl

/-- Two, or three of which the last one is the greatest, sorted. -/
def srt_37 : List (Int × Int) → List (Int × Int)
  | (a, c) :: (b, d) :: l => if b < a then (b, d) :: (a, c) :: l else (a, c) :: (b, d) :: l
  | l => l

theorem t1_37 (j : Nat) (A B C D E : Int) (F : List Int) (a c : Int) (x3 : Int) (m : Nat) (hm : m = j + 10) : f37_4 m m A B C D E F [(a, c)] 1 x3 = some ([(a, c)]) := by
  have f5 : f37_5 m m A B C D E F 1 1 [(a, c)] = some [(a, c)] := by
    rw [show f37_5 m m A B C D E F 1 1 [(a, c)] = f37_5 m (j + 9 + 1) A B C D E F 1 1 [(a, c)] by rw [show j + 9 + 1 = m by omega]]
    unfold f37_5
    rfl
  rw [show f37_4 m m A B C D E F [(a, c)] 1 x3 = f37_4 m (j + 9 + 1) A B C D E F [(a, c)] 1 x3 by rw [show j + 9 + 1 = m by omega]]
  unfold f37_4
  show (f37_5 m m A B C D E F 1 1 [(a, c)]).bind _ = _
  rw [f5]
  rfl

theorem t2_37 (j : Nat) (A B C D E : Int) (F : List Int) (a c b d : Int) (hw : w64 (b - a) = b - a) (x3 : Int) (m : Nat) (hm : m = j + 10) : f37_4 m m A B C D E F [(a, c), (b, d)] 2 x3 = some (srt_37 [(a, c), (b, d)]) := by
  have g6 : f37_6 m m A B C D E F 2 1 1 [(a, c), (b, d)] = some (srt_37 [(a, c), (b, d)]) := by
    rw [show f37_6 m m A B C D E F 2 1 1 [(a, c), (b, d)] = f37_6 m (j + 8 + 2) A B C D E F 2 1 1 [(a, c), (b, d)] by rw [show j + 8 + 2 = m by omega]]
    exact i1_37 m (j + 8) A B C D E F 2 1 a c b d [] hw
  have f5 : f37_5 m m A B C D E F 2 1 [(a, c), (b, d)] = some (srt_37 [(a, c), (b, d)]) := by
    rw [show f37_5 m m A B C D E F 2 1 [(a, c), (b, d)] = f37_5 m (j + 8 + 2) A B C D E F 2 1 [(a, c), (b, d)] by rw [show j + 8 + 2 = m by omega]]
    unfold f37_5
    show (f37_6 m m A B C D E F 2 1 1 [(a, c), (b, d)]).bind _ = _
    rw [g6]
    simp only [Option.bind_some]
    rw [show w64 (1 + 1) = 2 from rfl]
    unfold f37_5
    rfl
  rw [show f37_4 m m A B C D E F [(a, c), (b, d)] 2 x3 = f37_4 m (j + 9 + 1) A B C D E F [(a, c), (b, d)] 2 x3 by rw [show j + 9 + 1 = m by omega]]
  unfold f37_4
  show (f37_5 m m A B C D E F 2 1 [(a, c), (b, d)]).bind _ = _
  rw [f5]
  rfl

theorem t3_37 (j : Nat) (A B C D E : Int) (F : List Int) (a c b d e f : Int) (hw : w64 (b - a) = b - a) (h1 : a ≤ e) (h2 : b ≤ e) (hw1 : w64 (e - a) = e - a) (hw2 : w64 (e - b) = e - b) (x3 : Int) (m : Nat) (hm : m = j + 10) : f37_4 m m A B C D E F [(a, c), (b, d), (e, f)] 3 x3 = some (srt_37 [(a, c), (b, d), (e, f)]) := by
  have g6 : f37_6 m m A B C D E F 3 1 1 [(a, c), (b, d), (e, f)] = some (srt_37 [(a, c), (b, d), (e, f)]) := by
    rw [show f37_6 m m A B C D E F 3 1 1 [(a, c), (b, d), (e, f)] = f37_6 m (j + 8 + 2) A B C D E F 3 1 1 [(a, c), (b, d), (e, f)] by rw [show j + 8 + 2 = m by omega]]
    exact i1_37 m (j + 8) A B C D E F 3 1 a c b d [(e, f)] hw
  have g7 : f37_6 m m A B C D E F 3 2 2 (srt_37 [(a, c), (b, d), (e, f)]) = some (srt_37 [(a, c), (b, d), (e, f)]) := by
    rw [show f37_6 m m A B C D E F 3 2 2 (srt_37 [(a, c), (b, d), (e, f)]) = f37_6 m (j + 9 + 1) A B C D E F 3 2 2 (srt_37 [(a, c), (b, d), (e, f)]) by rw [show j + 9 + 1 = m by omega]]
    have es : srt_37 [(a, c), (b, d), (e, f)] = if b < a then [(b, d), (a, c), (e, f)] else [(a, c), (b, d), (e, f)] := rfl
    rw [es]
    by_cases h : b < a
    · rw [if_pos h]
      exact i2_37 m (j + 9) A B C D E F 3 2 b d a c e f hw1 h1
    · rw [if_neg h]
      exact i2_37 m (j + 9) A B C D E F 3 2 a c b d e f hw2 h2
  have f5 : f37_5 m m A B C D E F 3 1 [(a, c), (b, d), (e, f)] = some (srt_37 [(a, c), (b, d), (e, f)]) := by
    rw [show f37_5 m m A B C D E F 3 1 [(a, c), (b, d), (e, f)] = f37_5 m (j + 7 + 3) A B C D E F 3 1 [(a, c), (b, d), (e, f)] by rw [show j + 7 + 3 = m by omega]]
    unfold f37_5
    show (f37_6 m m A B C D E F 3 1 1 [(a, c), (b, d), (e, f)]).bind _ = _
    rw [g6]
    simp only [Option.bind_some]
    rw [show w64 (1 + 1) = 2 from rfl]
    unfold f37_5
    show (f37_6 m m A B C D E F 3 2 2 (srt_37 [(a, c), (b, d), (e, f)])).bind _ = _
    rw [g7]
    simp only [Option.bind_some]
    rw [show w64 (2 + 1) = 3 from rfl]
    unfold f37_5
    rfl
  rw [show f37_4 m m A B C D E F [(a, c), (b, d), (e, f)] 3 x3 = f37_4 m (j + 9 + 1) A B C D E F [(a, c), (b, d), (e, f)] 3 x3 by rw [show j + 9 + 1 = m by omega]]
  unfold f37_4
  show (f37_5 m m A B C D E F 3 1 [(a, c), (b, d), (e, f)]).bind _ = _
  rw [f5]
  rfl
end Go.Xm
