/- Widths of gaps in ascending order. Conditions: none. -/
import Derived.Test.YtagagpkjlkoieaaKB
import Derived.Test.YtagagpkjlkoieaaPm
import Derived.Test.YtagagpkjlkoieaaPn
import Derived.Test.YtagagpkjlkoieaaKA
namespace Go.Xm
set_option linter.unusedVariables false
set_option linter.unusedSimpArgs false
set_option maxRecDepth 20000

theorem bind_r {α β : Type} {x : Option α} {f : α → Option β} {v : α} {r : Option β} (hx : x = some v) (hf : f v = r) : x.bind f = r := by rw [hx]; exact hf

/-- Two widths and their sum, in ascending order. -/
def wexp (d1 n1 d2 n2 n3 : Nat) : List (Int × Int) :=
  (if d1 = d2 then [((d1 : Int), ((n1 + n2 : Nat) : Int))] else if d2 < d1 then [((d2 : Int), (n2 : Int)), ((d1 : Int), (n1 : Int))] else [((d1 : Int), (n1 : Int)), ((d2 : Int), (n2 : Int))]) ++
  (if n3 = 0 then [] else [(((d1 + d2 : Nat) : Int), (n3 : Int))])

theorem wlF_tail {c : Nat → Nat} {d1 n1 d2 n2 n3 M x : Nat} (hc : ∀ w, c w = (if d1 = w then n1 else 0) + (if d1 + d2 = w then n3 else 0) + (if d2 = w then n2 else 0)) (h1 : d1 < x) (h2 : d2 < x) (hx : x ≤ d1 + d2) (hM : d1 + d2 ≤ M) :
    wlF c (M + 1 - x) x = if n3 = 0 then [] else [(((d1 + d2 : Nat) : Int), (n3 : Int))] := by
  have hz : ∀ w, x ≤ w → w ≠ d1 + d2 → c w = 0 := fun w hw hn => by rw [hc, if_neg (by omega), if_neg (by omega), if_neg (by omega)]
  have hv : c (d1 + d2) = n3 := by rw [hc, if_neg (by omega), if_pos rfl, if_neg (by omega)]; omega
  by_cases h : n3 = 0
  · rw [if_pos h]
    refine wlF_none c _ _ (fun w hw _ => ?_)
    by_cases e : w = d1 + d2
    · rw [e, hv, h]
    · exact hz w hw e
  · rw [if_neg h, wlF_hit c x (d1 + d2) M hx hM (by omega) (fun w hw hw2 => hz w hw (by omega)), hv, wlF_none c _ _ (fun w hw _ => hz w (by omega) (by omega))]

theorem wlF_exp {c : Nat → Nat} {d1 n1 d2 n2 n3 M : Nat} (hc : ∀ w, c w = (if d1 = w then n1 else 0) + (if d1 + d2 = w then n3 else 0) + (if d2 = w then n2 else 0)) (p1 : 0 < d1) (p2 : 0 < d2) (q1 : 0 < n1) (q2 : 0 < n2) (hM : d1 + d2 ≤ M) :
    wlF c M 1 = wexp d1 n1 d2 n2 n3 := by
  have hz : ∀ w, w < d1 + d2 → w ≠ d1 → w ≠ d2 → c w = 0 := fun w hw a b => by rw [hc, if_neg (by omega), if_neg (by omega), if_neg (by omega)]
  unfold wexp
  rw [show wlF c M 1 = wlF c (M + 1 - 1) 1 from rfl]
  by_cases e : d1 = d2
  · have hv : c d1 = n1 + n2 := by rw [hc, if_pos rfl, if_neg (by omega), if_pos e.symm]; omega
    rw [if_pos e, wlF_hit c 1 d1 M (by omega) (by omega) (by omega) (fun w h1 h2 => hz w (by omega) (by omega) (by omega)), hv, wlF_tail hc (by omega) (by omega) (by omega) hM]
    rfl
  · have hv1 : c d1 = n1 := by rw [hc, if_pos rfl, if_neg (by omega), if_neg (by omega)]; omega
    have hv2 : c d2 = n2 := by rw [hc, if_neg e, if_neg (by omega), if_pos rfl]; omega
    rw [if_neg e]
    by_cases g : d2 < d1
    · rw [if_pos g, wlF_hit c 1 d2 M (by omega) (by omega) (by omega) (fun w h1 h2 => hz w (by omega) (by omega) (by omega)), hv2,
        wlF_hit c (d2 + 1) d1 M (by omega) (by omega) (by omega) (fun w h1 h2 => hz w (by omega) (by omega) (by omega)), hv1, wlF_tail hc (by omega) (by omega) (by omega) hM]
      rfl
    · rw [if_neg g, wlF_hit c 1 d1 M (by omega) (by omega) (by omega) (fun w h1 h2 => hz w (by omega) (by omega) (by omega)), hv1,
        wlF_hit c (d1 + 1) d2 M (by omega) (by omega) (by omega) (fun w h1 h2 => hz w (by omega) (by omega) (by omega)), hv2, wlF_tail hc (by omega) (by omega) (by omega) hM]
      rfl

theorem wl_one {M S : Nat} (hM : 0 < M) : wlF (cw M S 1) M 1 = [((M : Int), 1)] := by
  have hv : cw M S 1 M = 1 := by rw [cw_one, if_pos rfl]
  rw [show wlF (cw M S 1) M 1 = wlF (cw M S 1) (M + 1 - 1) 1 from rfl, wlF_hit (cw M S 1) 1 M M (by omega) (by omega) (by omega) (fun w h1 h2 => by rw [cw_one, if_neg (by omega)]), hv, wlF_none _ _ _ (fun w h1 h2 => by omega)]
  rfl

/-- What is known of the turns beside turn 0. -/
theorem bes_facts {M S T : Nat} (h : Turns M T (mrk M S)) (hT : 2 ≤ T) : ∃ p q d1 d2 : Nat, (bes M S T).1 = p ∧ (bes M S T).2 = q ∧ mrk M S p = d1 ∧ mrk M S q = M - d2 ∧ 0 < p ∧ p < T ∧ 0 < q ∧ q < T ∧ T ≤ p + q ∧ 0 < d1 ∧ 0 < d2 ∧ d2 ≤ M ∧ d1 + d2 ≤ M ∧
    ∀ w, cw M S T w = (if d1 = w then T - p else 0) + (if d1 + d2 = w then p + q - T else 0) + (if d2 = w then T - q else 0) := by
  have hb : Beside T (mrk M S) (bes M S T).1 (bes M S T).2 := loopB_all (M := M) (S := S) hT
  have hs := beside_sum h hb
  have hc := cw_val h hT
  obtain ⟨p0, pT, q0, qT, mm⟩ := hb
  have o1 := h.own _ p0 pT
  have l1 := h.lt (bes M S T).1
  have l2 := h.lt (bes M S T).2
  have m1 := mm _ q0 qT
  exact ⟨_, _, mrk M S (bes M S T).1, M - mrk M S (bes M S T).2, rfl, rfl, rfl, by omega, p0, pT, q0, qT, hs, o1, by omega, by omega, by omega, hc⟩

theorem s0_33 (m fuel : Nat) (A B C D E F : Int) (l3 : List (Int × Int)) (x y : Int) : f33_3 m (fuel + 1) A B C D E F [] l3 0 0 x y = some (.x0 x y) := by
  unfold f33_3
  rfl

theorem s1_33 (m fuel : Nat) (A B C D E F : Int) (l3 : List (Int × Int)) (a c x y : Int) : f33_3 m (fuel + 2) A B C D E F [(a, c)] l3 1 0 x y = some (if a = x then .r 0 x y else .x0 x y) := by
  unfold f33_3
  show cond (a == x) _ (f33_3 m (fuel + 1) A B C D E F [(a, c)] l3 1 (w64 (0 + 1)) x y) = _
  by_cases h : a = x
  · rw [if_pos h, show (a == x) = true by simpa using h]
    rfl
  · rw [if_neg h, show (a == x) = false by simpa using h]
    unfold f33_3
    rfl

theorem s2_33 (m fuel : Nat) (A B C D E F : Int) (l3 : List (Int × Int)) (a c b d x y : Int) : f33_3 m (fuel + 3) A B C D E F [(a, c), (b, d)] l3 2 0 x y = some (if a = x then .r 0 x y else if b = x then .r 1 x y else .x0 x y) := by
  unfold f33_3
  show cond (a == x) _ (f33_3 m (fuel + 2) A B C D E F [(a, c), (b, d)] l3 2 (w64 (0 + 1)) x y) = _
  by_cases h : a = x
  · rw [if_pos h, show (a == x) = true by simpa using h]
    rfl
  · rw [if_neg h, show (a == x) = false by simpa using h, show w64 (0 + 1) = 1 from rfl]
    simp only [cond_false]
    unfold f33_3
    show cond (b == x) _ (f33_3 m (fuel + 1) A B C D E F [(a, c), (b, d)] l3 2 (w64 (1 + 1)) x y) = _
    by_cases h : b = x
    · rw [if_pos h, show (b == x) = true by simpa using h]
      rfl
    · rw [if_neg h, show (b == x) = false by simpa using h]
      unfold f33_3
      rfl

/-- Three widths, the first two of which may be the same; the third may be that of no gap. -/
def wid3_33 (d1 n1 d2 n2 d3 n3 : Int) : List (Int × Int) :=
  if d1 = d2 then (if n3 = 0 then [(d1, n1 + n2)] else [(d1, n1 + n2), (d3, n3)]) else (if n3 = 0 then [(d1, n1), (d2, n2)] else [(d1, n1), (d2, n2), (d3, n3)])

theorem m_33 (j : Nat) (A B C D E F : Int) (d1 n1 d2 n2 d3 n3 : Int) (h1 : n1 ≠ 0) (h2 : n2 ≠ 0) (h3 : d1 ≠ d3) (h4 : d2 ≠ d3) (hw : w64 (n1 + n2) = n1 + n2) (m : Nat) (hm : m = j + 10) :
    f33_2 m m A B C 0 D E F [] [(d1, n1), (d2, n2), (d3, n3)] = some (D, E, F, wid3_33 d1 n1 d2 n2 d3 n3) := by
  have e1 : (n1 == 0) = false := by simpa using h1
  have e2 : (n2 == 0) = false := by simpa using h2
  have q0 : ∀ x y l3, f33_3 m m A B C D E F [] l3 0 0 x y = some (.x0 x y) := fun x y l3 => by rw [show f33_3 m m A B C D E F [] l3 0 0 x y = f33_3 m (j + 9 + 1) A B C D E F [] l3 0 0 x y by rw [show j + 9 + 1 = m by omega]]; exact s0_33 m (j + 9) A B C D E F l3 x y
  have q1 : ∀ a c x y l3, f33_3 m m A B C D E F [(a, c)] l3 1 0 x y = some (if a = x then .r 0 x y else .x0 x y) := fun a c x y l3 => by rw [show f33_3 m m A B C D E F [(a, c)] l3 1 0 x y = f33_3 m (j + 8 + 2) A B C D E F [(a, c)] l3 1 0 x y by rw [show j + 8 + 2 = m by omega]]; exact s1_33 m (j + 8) A B C D E F l3 a c x y
  have q2 : ∀ a c b d x y l3, f33_3 m m A B C D E F [(a, c), (b, d)] l3 2 0 x y = some (if a = x then .r 0 x y else if b = x then .r 1 x y else .x0 x y) := fun a c b d x y l3 => by rw [show f33_3 m m A B C D E F [(a, c), (b, d)] l3 2 0 x y = f33_3 m (j + 7 + 3) A B C D E F [(a, c), (b, d)] l3 2 0 x y by rw [show j + 7 + 3 = m by omega]]; exact s2_33 m (j + 7) A B C D E F l3 a c b d x y
  have fin : ∀ fu l, f33_2 m (fu + 1) A B C 3 D E F l [(d1, n1), (d2, n2), (d3, n3)] = some (D, E, F, l) := fun fu l => by
    unfold f33_2
    rfl
  -- the third one
  have r3a : ∀ fu a c, d3 ≠ a → f33_2 m (fu + 2) A B C 2 D E F [(a, c)] [(d1, n1), (d2, n2), (d3, n3)] = some (D, E, F, (if n3 = 0 then [(a, c)] else [(a, c), (d3, n3)])) := fun fu a c ha => by
    unfold f33_2
    show cond (n3 == 0) (f33_2 m (fu + 1) A B C (w64 (2 + 1)) D E F [(a, c)] [(d1, n1), (d2, n2), (d3, n3)]) ((f33_3 m m A B C D E F [(a, c)] [(d1, n1), (d2, n2), (d3, n3)] 1 0 d3 n3).bind _) = _
    rw [show w64 (2 + 1) = 3 from rfl, q1, if_neg (Ne.symm ha), fin]
    by_cases h : n3 = 0
    · rw [if_pos h, show (n3 == 0) = true by simpa using h]
      rfl
    · rw [if_neg h, show (n3 == 0) = false by simpa using h]
      show f33_2 m (fu + 1) A B C (w64 (2 + 1)) D E F ([(a, c)] ++ [(d3, n3)]) [(d1, n1), (d2, n2), (d3, n3)] = _
      rw [show w64 (2 + 1) = 3 from rfl, fin]
      rfl
  have r3b : ∀ fu, f33_2 m (fu + 2) A B C 2 D E F [(d1, n1), (d2, n2)] [(d1, n1), (d2, n2), (d3, n3)] = some (D, E, F, (if n3 = 0 then [(d1, n1), (d2, n2)] else [(d1, n1), (d2, n2), (d3, n3)])) := fun fu => by
    unfold f33_2
    show cond (n3 == 0) (f33_2 m (fu + 1) A B C (w64 (2 + 1)) D E F [(d1, n1), (d2, n2)] [(d1, n1), (d2, n2), (d3, n3)]) ((f33_3 m m A B C D E F [(d1, n1), (d2, n2)] [(d1, n1), (d2, n2), (d3, n3)] 2 0 d3 n3).bind _) = _
    rw [show w64 (2 + 1) = 3 from rfl, q2, if_neg h3, if_neg h4, fin]
    by_cases h : n3 = 0
    · rw [if_pos h, show (n3 == 0) = true by simpa using h]
      rfl
    · rw [if_neg h, show (n3 == 0) = false by simpa using h]
      show f33_2 m (fu + 1) A B C (w64 (2 + 1)) D E F ([(d1, n1), (d2, n2)] ++ [(d3, n3)]) [(d1, n1), (d2, n2), (d3, n3)] = _
      rw [show w64 (2 + 1) = 3 from rfl, fin]
      rfl
  have r2 : ∀ fu, f33_2 m (fu + 3) A B C 1 D E F [(d1, n1)] [(d1, n1), (d2, n2), (d3, n3)] = some (D, E, F, wid3_33 d1 n1 d2 n2 d3 n3) := fun fu => by
    unfold f33_2
    show cond (n2 == 0) _ ((f33_3 m m A B C D E F [(d1, n1)] [(d1, n1), (d2, n2), (d3, n3)] 1 0 d2 n2).bind _) = _
    rw [e2, q1]
    unfold wid3_33
    by_cases h : d1 = d2
    · rw [if_pos h, if_pos h]
      show f33_2 m (fu + 2) A B C (w64 (1 + 1)) D E F [(d1, w64 (n1 + n2))] [(d1, n1), (d2, n2), (d3, n3)] = _
      rw [show w64 (1 + 1) = 2 from rfl, hw]
      exact r3a fu d1 (n1 + n2) (Ne.symm h3)
    · rw [if_neg h, if_neg h]
      show f33_2 m (fu + 2) A B C (w64 (1 + 1)) D E F ([(d1, n1)] ++ [(d2, n2)]) [(d1, n1), (d2, n2), (d3, n3)] = _
      rw [show w64 (1 + 1) = 2 from rfl]
      exact r3b fu
  rw [show f33_2 m m A B C 0 D E F [] [(d1, n1), (d2, n2), (d3, n3)] = f33_2 m (j + 6 + 4) A B C 0 D E F [] [(d1, n1), (d2, n2), (d3, n3)] by rw [show j + 6 + 4 = m by omega]]
  unfold f33_2
  show cond (n1 == 0) _ ((f33_3 m m A B C D E F [] [(d1, n1), (d2, n2), (d3, n3)] 0 0 d1 n1).bind _) = _
  rw [e1, q0]
  show f33_2 m (j + 6 + 3) A B C (w64 (0 + 1)) D E F ([] ++ [(d1, n1)]) [(d1, n1), (d2, n2), (d3, n3)] = _
  rw [show w64 (0 + 1) = 1 from rfl]
  exact r2 (j + 6)

/-! Insertion -/
theorem i1_33 (m fuel : Nat) (A B C D E F : Int) (x2 x8 a c b d : Int) (l : List (Int × Int)) (hw : w64 (b - a) = b - a) : f33_6 m (fuel + 2) A B C x2 D E F x8 1 ((a, c) :: (b, d) :: l) = some (if b < a then (b, d) :: (a, c) :: l else (a, c) :: (b, d) :: l) := by
  unfold f33_6
  have h1 : inRow 1 ((a, c) :: (b, d) :: l).length = true := inRow_iff.2 ⟨by omega, by simp only [List.length_cons]; omega⟩
  have h0 : inRow 0 ((a, c) :: (b, d) :: l).length = true := inRow_iff.2 ⟨by omega, by simp only [List.length_cons]; omega⟩
  rw [h1, show w64 (1 - 1) = 0 from rfl, h0]
  show (f88 m b d a c).bind (fun r => cond (decide (r < 0)) (f33_6 m (fuel + 1) A B C x2 D E F x8 0 ((b, d) :: (a, c) :: l)) (some ((a, c) :: (b, d) :: l))) = _
  unfold f88
  rw [hw]
  simp only [Option.bind_some]
  by_cases h : b < a
  · rw [if_pos h, decide_eq_true (by omega)]
    unfold f33_6
    rfl
  · rw [if_neg h, decide_eq_false (by omega)]
    rfl

theorem i2_33 (m fuel : Nat) (A B C D E F : Int) (x2 x8 a c b d e f : Int) (hw : w64 (e - b) = e - b) (h : b ≤ e) : f33_6 m (fuel + 1) A B C x2 D E F x8 2 [(a, c), (b, d), (e, f)] = some [(a, c), (b, d), (e, f)] := by
  unfold f33_6
  show (f88 m e f b d).bind (fun r => cond (decide (r < 0)) _ (some [(a, c), (b, d), (e, f)])) = _
  unfold f88
  rw [hw]
  simp only [Option.bind_some]
  rw [decide_eq_false (by omega)]
  rfl

/-- Two, or three of which the last one is the greatest, sorted. -/
def srt_33 : List (Int × Int) → List (Int × Int)
  | (a, c) :: (b, d) :: l => if b < a then (b, d) :: (a, c) :: l else (a, c) :: (b, d) :: l
  | l => l

theorem t1_33 (j : Nat) (A B C D E F : Int) (a c : Int) (x3 : Int) (m : Nat) (hm : m = j + 10) : f33_4 m m A B C 1 x3 D E F [(a, c)] = some (D, E, F, [(a, c)]) := by
  have f5 : f33_5 m m A B C 1 D E F 1 [(a, c)] = some [(a, c)] := by
    rw [show f33_5 m m A B C 1 D E F 1 [(a, c)] = f33_5 m (j + 9 + 1) A B C 1 D E F 1 [(a, c)] by rw [show j + 9 + 1 = m by omega]]
    unfold f33_5
    rfl
  rw [show f33_4 m m A B C 1 x3 D E F [(a, c)] = f33_4 m (j + 9 + 1) A B C 1 x3 D E F [(a, c)] by rw [show j + 9 + 1 = m by omega]]
  unfold f33_4
  show (f33_5 m m A B C 1 D E F 1 [(a, c)]).bind _ = _
  rw [f5]
  rfl

theorem t2_33 (j : Nat) (A B C D E F : Int) (a c b d : Int) (hw : w64 (b - a) = b - a) (x3 : Int) (m : Nat) (hm : m = j + 10) : f33_4 m m A B C 2 x3 D E F [(a, c), (b, d)] = some (D, E, F, srt_33 [(a, c), (b, d)]) := by
  have g6 : f33_6 m m A B C 2 D E F 1 1 [(a, c), (b, d)] = some (srt_33 [(a, c), (b, d)]) := by
    rw [show f33_6 m m A B C 2 D E F 1 1 [(a, c), (b, d)] = f33_6 m (j + 8 + 2) A B C 2 D E F 1 1 [(a, c), (b, d)] by rw [show j + 8 + 2 = m by omega]]
    exact i1_33 m (j + 8) A B C D E F 2 1 a c b d [] hw
  have f5 : f33_5 m m A B C 2 D E F 1 [(a, c), (b, d)] = some (srt_33 [(a, c), (b, d)]) := by
    rw [show f33_5 m m A B C 2 D E F 1 [(a, c), (b, d)] = f33_5 m (j + 8 + 2) A B C 2 D E F 1 [(a, c), (b, d)] by rw [show j + 8 + 2 = m by omega]]
    unfold f33_5
    show (f33_6 m m A B C 2 D E F 1 1 [(a, c), (b, d)]).bind _ = _
    rw [g6]
    simp only [Option.bind_some]
    rw [show w64 (1 + 1) = 2 from rfl]
    unfold f33_5
    rfl
  rw [show f33_4 m m A B C 2 x3 D E F [(a, c), (b, d)] = f33_4 m (j + 9 + 1) A B C 2 x3 D E F [(a, c), (b, d)] by rw [show j + 9 + 1 = m by omega]]
  unfold f33_4
  show (f33_5 m m A B C 2 D E F 1 [(a, c), (b, d)]).bind _ = _
  rw [f5]
  rfl

theorem t3_33 (j : Nat) (A B C D E F : Int) (a c b d e f : Int) (hw : w64 (b - a) = b - a) (h1 : a ≤ e) (h2 : b ≤ e) (hw1 : w64 (e - a) = e - a) (hw2 : w64 (e - b) = e - b) (x3 : Int) (m : Nat) (hm : m = j + 10) : f33_4 m m A B C 3 x3 D E F [(a, c), (b, d), (e, f)] = some (D, E, F, srt_33 [(a, c), (b, d), (e, f)]) := by
  have g6 : f33_6 m m A B C 3 D E F 1 1 [(a, c), (b, d), (e, f)] = some (srt_33 [(a, c), (b, d), (e, f)]) := by
    rw [show f33_6 m m A B C 3 D E F 1 1 [(a, c), (b, d), (e, f)] = f33_6 m (j + 8 + 2) A B C 3 D E F 1 1 [(a, c), (b, d), (e, f)] by rw [show j + 8 + 2 = m by omega]]
    exact i1_33 m (j + 8) A B C D E F 3 1 a c b d [(e, f)] hw
  have g7 : f33_6 m m A B C 3 D E F 2 2 (srt_33 [(a, c), (b, d), (e, f)]) = some (srt_33 [(a, c), (b, d), (e, f)]) := by
    rw [show f33_6 m m A B C 3 D E F 2 2 (srt_33 [(a, c), (b, d), (e, f)]) = f33_6 m (j + 9 + 1) A B C 3 D E F 2 2 (srt_33 [(a, c), (b, d), (e, f)]) by rw [show j + 9 + 1 = m by omega]]
    have es : srt_33 [(a, c), (b, d), (e, f)] = if b < a then [(b, d), (a, c), (e, f)] else [(a, c), (b, d), (e, f)] := rfl
    rw [es]
    by_cases h : b < a
    · rw [if_pos h]
      exact i2_33 m (j + 9) A B C D E F 3 2 b d a c e f hw1 h1
    · rw [if_neg h]
      exact i2_33 m (j + 9) A B C D E F 3 2 a c b d e f hw2 h2
  have f5 : f33_5 m m A B C 3 D E F 1 [(a, c), (b, d), (e, f)] = some (srt_33 [(a, c), (b, d), (e, f)]) := by
    rw [show f33_5 m m A B C 3 D E F 1 [(a, c), (b, d), (e, f)] = f33_5 m (j + 7 + 3) A B C 3 D E F 1 [(a, c), (b, d), (e, f)] by rw [show j + 7 + 3 = m by omega]]
    unfold f33_5
    show (f33_6 m m A B C 3 D E F 1 1 [(a, c), (b, d), (e, f)]).bind _ = _
    rw [g6]
    simp only [Option.bind_some]
    rw [show w64 (1 + 1) = 2 from rfl]
    unfold f33_5
    show (f33_6 m m A B C 3 D E F 2 2 (srt_33 [(a, c), (b, d), (e, f)])).bind _ = _
    rw [g7]
    simp only [Option.bind_some]
    rw [show w64 (2 + 1) = 3 from rfl]
    unfold f33_5
    rfl
  rw [show f33_4 m m A B C 3 x3 D E F [(a, c), (b, d), (e, f)] = f33_4 m (j + 9 + 1) A B C 3 x3 D E F [(a, c), (b, d), (e, f)] by rw [show j + 9 + 1 = m by omega]]
  unfold f33_4
  show (f33_5 m m A B C 3 D E F 1 [(a, c), (b, d), (e, f)]).bind _ = _
  rw [f5]
  rfl

theorem f33_1_eq29 (m : Nat) (a b t : Int) : ∀ (fuel : Nat) (x p q : Int), f33_1 m fuel a b t x p q = f29_1 m fuel a b t x p q
  | 0, _, _, _ => rfl
  | fuel + 1, x, p, q => by
    unfold f33_1 f29_1
    simp only [f33_1_eq29 m a b t fuel]

theorem f33_eq (m M S T o : Nat) (hm : 2000 < m) (g : Good M S T o) (h0 : f20 m M S T = some 0) : f33 m M S T = some (wlF (cw M S T) M 1, 0) := by
  have g1 := g.m1
  have g2 := g.m2
  have g3 := g.s
  have g4 := g.om
  have g5 := g.to
  have g6 := g.t1
  have hT := g.turns g5
  unfold f33
  rw [h0, f33_1_eq29, f29_1_bes hm (by omega) (by omega) g6 (by omega)]
  simp only [Option.bind_some, bne_self_eq_false, cond_false]
  by_cases hT1 : T = 1
  · subst hT1
    rw [wl_one (by omega)]
    rfl
  have c1 : ((T : Int) == 1) = false := by simp; omega
  rw [c1]
  simp only [cond_false]
  obtain ⟨p, q, d1, d2, e1, e2, e3, e4, p0, pT, q0, qT, hs, k1, k2, k3, k4, hc⟩ := bes_facts hT (by omega)
  rw [e1, e2]
  have r1 : f59 m M S T p = some (d1 : Int) := (f59_eq m M S _ p (by omega) (by omega) (by omega)).trans (by rw [← e3]; rfl)
  have r2 : f59 m M S T q = some ((M - d2 : Nat) : Int) := (f59_eq m M S _ q (by omega) (by omega) (by omega)).trans (by rw [← e4]; rfl)
  rw [r1, r2, wlF_exp hc k1 k2 (by omega) (by omega) k4]
  simp only [Option.bind_some]
  rw [show (T : Int) - (p : Int) = ((T - p : Nat) : Int) by omega, show (T : Int) - (q : Int) = ((T - q : Nat) : Int) by omega, show (M : Int) - ((M - d2 : Nat) : Int) = ((d2 : Nat) : Int) by omega, show (p : Int) + (q : Int) = ((p + q : Nat) : Int) by omega,
    natw (n := T - p) (by omega), natw (n := T - q) (by omega), natw (n := d2) (by omega), natw (n := p + q) (by omega), show (d1 : Int) + ((d2 : Nat) : Int) = ((d1 + d2 : Nat) : Int) by omega, natw (n := d1 + d2) (by omega), show ((p + q : Nat) : Int) - (T : Int) = ((p + q - T : Nat) : Int) by omega, natw (n := p + q - T) (by omega)]
  obtain ⟨j, hj⟩ : ∃ j, m = j + 10 := ⟨m - 10, by omega⟩
  have hw : w64 (((T - p : Nat) : Int) + ((T - q : Nat) : Int)) = ((T - p : Nat) : Int) + ((T - q : Nat) : Int) := w64_id (by omega) (by omega)
  refine bind_r (m_33 j M S T T p q d1 ((T - p : Nat) : Int) d2 ((T - q : Nat) : Int) ((d1 + d2 : Nat) : Int) ((p + q - T : Nat) : Int) (by omega) (by omega) (by omega) (by omega) hw m hj) ?_
  unfold wid3_33 wexp
  by_cases b1 : d1 = d2
  · rw [if_pos (show (d1 : Int) = (d2 : Int) by omega), if_pos b1]
    by_cases b2 : p + q - T = 0
    · rw [if_pos (show ((p + q - T : Nat) : Int) = 0 by omega), if_pos b2]
      refine bind_r (v := 1) (by kernel_rfl) ?_
      refine bind_r (t1_33 j M S T T p q _ _ _ m hj) ?_
      rw [Int.natCast_add]
      rfl
    · rw [if_neg (show ¬ ((p + q - T : Nat) : Int) = 0 by omega), if_neg b2]
      refine bind_r (v := 2) (by kernel_rfl) ?_
      refine bind_r (t2_33 j M S T T p q _ _ _ _ (w64_id (by omega) (by omega)) _ m hj) ?_
      have es : ∀ (a c b d : Int), ¬ b < a → srt_33 [(a, c), (b, d)] = [(a, c), (b, d)] := fun a c b d h => if_neg h
      rw [es _ _ _ _ (by omega), Int.natCast_add (T - p)]
      rfl
  · rw [if_neg (show ¬ (d1 : Int) = (d2 : Int) by omega), if_neg b1]
    have es1 : ∀ (a c b d : Int) (l : List (Int × Int)), b < a → srt_33 ((a, c) :: (b, d) :: l) = (b, d) :: (a, c) :: l := fun a c b d l h => if_pos h
    have es2 : ∀ (a c b d : Int) (l : List (Int × Int)), ¬ b < a → srt_33 ((a, c) :: (b, d) :: l) = (a, c) :: (b, d) :: l := fun a c b d l h => if_neg h
    by_cases b2 : p + q - T = 0
    · rw [if_pos (show ((p + q - T : Nat) : Int) = 0 by omega), if_pos b2]
      refine bind_r (v := 2) (by kernel_rfl) ?_
      refine bind_r (t2_33 j M S T T p q _ _ _ _ (w64_id (by omega) (by omega)) _ m hj) ?_
      by_cases b3 : d2 < d1
      · rw [if_pos b3, es1 _ _ _ _ _ (by omega)]
        rfl
      · rw [if_neg b3, es2 _ _ _ _ _ (by omega)]
        rfl
    · rw [if_neg (show ¬ ((p + q - T : Nat) : Int) = 0 by omega), if_neg b2]
      refine bind_r (v := 2) (by kernel_rfl) ?_
      refine bind_r (t3_33 j M S T T p q _ _ _ _ _ _ (w64_id (by omega) (by omega)) (by omega) (by omega) (w64_id (by omega) (by omega)) (w64_id (by omega) (by omega)) _ m hj) ?_
      by_cases b3 : d2 < d1
      · rw [if_pos b3, es1 _ _ _ _ _ (by omega)]
        rfl
      · rw [if_neg b3, es2 _ _ _ _ _ (by omega)]
        rfl

theorem s0_37 (m fuel : Nat) (A B C D E : Int) (F : List Int) (l3 : List (Int × Int)) (x y : Int) : f37_3 m (fuel + 1) A B C D E F [] l3 0 0 x y = some (.x0 x y) := by
  unfold f37_3
  rfl

theorem s1_37 (m fuel : Nat) (A B C D E : Int) (F : List Int) (l3 : List (Int × Int)) (a c x y : Int) : f37_3 m (fuel + 2) A B C D E F [(a, c)] l3 1 0 x y = some (if a = x then .r 0 x y else .x0 x y) := by
  unfold f37_3
  show cond (a == x) _ (f37_3 m (fuel + 1) A B C D E F [(a, c)] l3 1 (w64 (0 + 1)) x y) = _
  by_cases h : a = x
  · rw [if_pos h, show (a == x) = true by simpa using h]
    rfl
  · rw [if_neg h, show (a == x) = false by simpa using h]
    unfold f37_3
    rfl

theorem s2_37 (m fuel : Nat) (A B C D E : Int) (F : List Int) (l3 : List (Int × Int)) (a c b d x y : Int) : f37_3 m (fuel + 3) A B C D E F [(a, c), (b, d)] l3 2 0 x y = some (if a = x then .r 0 x y else if b = x then .r 1 x y else .x0 x y) := by
  unfold f37_3
  show cond (a == x) _ (f37_3 m (fuel + 2) A B C D E F [(a, c), (b, d)] l3 2 (w64 (0 + 1)) x y) = _
  by_cases h : a = x
  · rw [if_pos h, show (a == x) = true by simpa using h]
    rfl
  · rw [if_neg h, show (a == x) = false by simpa using h, show w64 (0 + 1) = 1 from rfl]
    simp only [cond_false]
    unfold f37_3
    show cond (b == x) _ (f37_3 m (fuel + 1) A B C D E F [(a, c), (b, d)] l3 2 (w64 (1 + 1)) x y) = _
    by_cases h : b = x
    · rw [if_pos h, show (b == x) = true by simpa using h]
      rfl
    · rw [if_neg h, show (b == x) = false by simpa using h]
      unfold f37_3
      rfl

/-- Three widths, the first two of which may be the same; the third may be that of no gap. -/
def wid3_37 (d1 n1 d2 n2 d3 n3 : Int) : List (Int × Int) :=
  if d1 = d2 then (if n3 = 0 then [(d1, n1 + n2)] else [(d1, n1 + n2), (d3, n3)]) else (if n3 = 0 then [(d1, n1), (d2, n2)] else [(d1, n1), (d2, n2), (d3, n3)])

theorem m_37 (j : Nat) (A B C D E : Int) (F : List Int) (d1 n1 d2 n2 d3 n3 : Int) (h1 : n1 ≠ 0) (h2 : n2 ≠ 0) (h3 : d1 ≠ d3) (h4 : d2 ≠ d3) (hw : w64 (n1 + n2) = n1 + n2) (m : Nat) (hm : m = j + 10) :
    f37_2 m m A B C D E F 0 [] [(d1, n1), (d2, n2), (d3, n3)] = some (wid3_37 d1 n1 d2 n2 d3 n3) := by
  have e1 : (n1 == 0) = false := by simpa using h1
  have e2 : (n2 == 0) = false := by simpa using h2
  have q0 : ∀ x y l3, f37_3 m m A B C D E F [] l3 0 0 x y = some (.x0 x y) := fun x y l3 => by rw [show f37_3 m m A B C D E F [] l3 0 0 x y = f37_3 m (j + 9 + 1) A B C D E F [] l3 0 0 x y by rw [show j + 9 + 1 = m by omega]]; exact s0_37 m (j + 9) A B C D E F l3 x y
  have q1 : ∀ a c x y l3, f37_3 m m A B C D E F [(a, c)] l3 1 0 x y = some (if a = x then .r 0 x y else .x0 x y) := fun a c x y l3 => by rw [show f37_3 m m A B C D E F [(a, c)] l3 1 0 x y = f37_3 m (j + 8 + 2) A B C D E F [(a, c)] l3 1 0 x y by rw [show j + 8 + 2 = m by omega]]; exact s1_37 m (j + 8) A B C D E F l3 a c x y
  have q2 : ∀ a c b d x y l3, f37_3 m m A B C D E F [(a, c), (b, d)] l3 2 0 x y = some (if a = x then .r 0 x y else if b = x then .r 1 x y else .x0 x y) := fun a c b d x y l3 => by rw [show f37_3 m m A B C D E F [(a, c), (b, d)] l3 2 0 x y = f37_3 m (j + 7 + 3) A B C D E F [(a, c), (b, d)] l3 2 0 x y by rw [show j + 7 + 3 = m by omega]]; exact s2_37 m (j + 7) A B C D E F l3 a c b d x y
  have fin : ∀ fu l, f37_2 m (fu + 1) A B C D E F 3 l [(d1, n1), (d2, n2), (d3, n3)] = some (l) := fun fu l => by
    unfold f37_2
    rfl
  -- the third one
  have r3a : ∀ fu a c, d3 ≠ a → f37_2 m (fu + 2) A B C D E F 2 [(a, c)] [(d1, n1), (d2, n2), (d3, n3)] = some ((if n3 = 0 then [(a, c)] else [(a, c), (d3, n3)])) := fun fu a c ha => by
    unfold f37_2
    show cond (n3 == 0) (f37_2 m (fu + 1) A B C D E F (w64 (2 + 1)) [(a, c)] [(d1, n1), (d2, n2), (d3, n3)]) ((f37_3 m m A B C D E F [(a, c)] [(d1, n1), (d2, n2), (d3, n3)] 1 0 d3 n3).bind _) = _
    rw [show w64 (2 + 1) = 3 from rfl, q1, if_neg (Ne.symm ha), fin]
    by_cases h : n3 = 0
    · rw [if_pos h, show (n3 == 0) = true by simpa using h]
      rfl
    · rw [if_neg h, show (n3 == 0) = false by simpa using h]
      show f37_2 m (fu + 1) A B C D E F (w64 (2 + 1)) ([(a, c)] ++ [(d3, n3)]) [(d1, n1), (d2, n2), (d3, n3)] = _
      rw [show w64 (2 + 1) = 3 from rfl, fin]
      rfl
  have r3b : ∀ fu, f37_2 m (fu + 2) A B C D E F 2 [(d1, n1), (d2, n2)] [(d1, n1), (d2, n2), (d3, n3)] = some ((if n3 = 0 then [(d1, n1), (d2, n2)] else [(d1, n1), (d2, n2), (d3, n3)])) := fun fu => by
    unfold f37_2
    show cond (n3 == 0) (f37_2 m (fu + 1) A B C D E F (w64 (2 + 1)) [(d1, n1), (d2, n2)] [(d1, n1), (d2, n2), (d3, n3)]) ((f37_3 m m A B C D E F [(d1, n1), (d2, n2)] [(d1, n1), (d2, n2), (d3, n3)] 2 0 d3 n3).bind _) = _
    rw [show w64 (2 + 1) = 3 from rfl, q2, if_neg h3, if_neg h4, fin]
    by_cases h : n3 = 0
    · rw [if_pos h, show (n3 == 0) = true by simpa using h]
      rfl
    · rw [if_neg h, show (n3 == 0) = false by simpa using h]
      show f37_2 m (fu + 1) A B C D E F (w64 (2 + 1)) ([(d1, n1), (d2, n2)] ++ [(d3, n3)]) [(d1, n1), (d2, n2), (d3, n3)] = _
      rw [show w64 (2 + 1) = 3 from rfl, fin]
      rfl
  have r2 : ∀ fu, f37_2 m (fu + 3) A B C D E F 1 [(d1, n1)] [(d1, n1), (d2, n2), (d3, n3)] = some (wid3_37 d1 n1 d2 n2 d3 n3) := fun fu => by
    unfold f37_2
    show cond (n2 == 0) _ ((f37_3 m m A B C D E F [(d1, n1)] [(d1, n1), (d2, n2), (d3, n3)] 1 0 d2 n2).bind _) = _
    rw [e2, q1]
    unfold wid3_37
    by_cases h : d1 = d2
    · rw [if_pos h, if_pos h]
      show f37_2 m (fu + 2) A B C D E F (w64 (1 + 1)) [(d1, w64 (n1 + n2))] [(d1, n1), (d2, n2), (d3, n3)] = _
      rw [show w64 (1 + 1) = 2 from rfl, hw]
      exact r3a fu d1 (n1 + n2) (Ne.symm h3)
    · rw [if_neg h, if_neg h]
      show f37_2 m (fu + 2) A B C D E F (w64 (1 + 1)) ([(d1, n1)] ++ [(d2, n2)]) [(d1, n1), (d2, n2), (d3, n3)] = _
      rw [show w64 (1 + 1) = 2 from rfl]
      exact r3b fu
  rw [show f37_2 m m A B C D E F 0 [] [(d1, n1), (d2, n2), (d3, n3)] = f37_2 m (j + 6 + 4) A B C D E F 0 [] [(d1, n1), (d2, n2), (d3, n3)] by rw [show j + 6 + 4 = m by omega]]
  unfold f37_2
  show cond (n1 == 0) _ ((f37_3 m m A B C D E F [] [(d1, n1), (d2, n2), (d3, n3)] 0 0 d1 n1).bind _) = _
  rw [e1, q0]
  show f37_2 m (j + 6 + 3) A B C D E F (w64 (0 + 1)) ([] ++ [(d1, n1)]) [(d1, n1), (d2, n2), (d3, n3)] = _
  rw [show w64 (0 + 1) = 1 from rfl]
  exact r2 (j + 6)

/-! Insertion -/
theorem i1_37 (m fuel : Nat) (A B C D E : Int) (F : List Int) (x2 x8 a c b d : Int) (l : List (Int × Int)) (hw : w64 (b - a) = b - a) : f37_6 m (fuel + 2) A B C D E F x2 x8 1 ((a, c) :: (b, d) :: l) = some (if b < a then (b, d) :: (a, c) :: l else (a, c) :: (b, d) :: l) := by
  unfold f37_6
  have h1 : inRow 1 ((a, c) :: (b, d) :: l).length = true := inRow_iff.2 ⟨by omega, by simp only [List.length_cons]; omega⟩
  have h0 : inRow 0 ((a, c) :: (b, d) :: l).length = true := inRow_iff.2 ⟨by omega, by simp only [List.length_cons]; omega⟩
  rw [h1, show w64 (1 - 1) = 0 from rfl, h0]
  show (f88 m b d a c).bind (fun r => cond (decide (r < 0)) (f37_6 m (fuel + 1) A B C D E F x2 x8 0 ((b, d) :: (a, c) :: l)) (some ((a, c) :: (b, d) :: l))) = _
  unfold f88
  rw [hw]
  simp only [Option.bind_some]
  by_cases h : b < a
  · rw [if_pos h, decide_eq_true (by omega)]
    unfold f37_6
    rfl
  · rw [if_neg h, decide_eq_false (by omega)]
    rfl

theorem i2_37 (m fuel : Nat) (A B C D E : Int) (F : List Int) (x2 x8 a c b d e f : Int) (hw : w64 (e - b) = e - b) (h : b ≤ e) : f37_6 m (fuel + 1) A B C D E F x2 x8 2 [(a, c), (b, d), (e, f)] = some [(a, c), (b, d), (e, f)] := by
  unfold f37_6
  show (f88 m e f b d).bind (fun r => cond (decide (r < 0)) _ (some [(a, c), (b, d), (e, f)])) = _
  unfold f88
  rw [hw]
  simp only [Option.bind_some]
  rw [decide_eq_false (by omega)]
  rfl

/-- Two, or three of which the last one is the greatest, sorted. -/
def srt_37 : List (Int × Int) → List (Int × Int)
  | (a, c) :: (b, d) :: l => if b < a then (b, d) :: (a, c) :: l else (a, c) :: (b, d) :: l
  | l => l

theorem t1_37 (j : Nat) (A B C D E : Int) (F : List Int) (a c : Int) (x3 : Int) (m : Nat) (hm : m = j + 10) : f37_4 m m A B C D E F [(a, c)] 1 x3 = some ([(a, c)]) := by
  have f5 : f37_5 m m A B C D E F 1 1 [(a, c)] = some [(a, c)] := by
    rw [show f37_5 m m A B C D E F 1 1 [(a, c)] = f37_5 m (j + 9 + 1) A B C D E F 1 1 [(a, c)] by rw [show j + 9 + 1 = m by omega]]
    unfold f37_5
    rfl
  rw [show f37_4 m m A B C D E F [(a, c)] 1 x3 = f37_4 m (j + 9 + 1) A B C D E F [(a, c)] 1 x3 by rw [show j + 9 + 1 = m by omega]]
  unfold f37_4
  show (f37_5 m m A B C D E F 1 1 [(a, c)]).bind _ = _
  rw [f5]
  rfl

theorem t2_37 (j : Nat) (A B C D E : Int) (F : List Int) (a c b d : Int) (hw : w64 (b - a) = b - a) (x3 : Int) (m : Nat) (hm : m = j + 10) : f37_4 m m A B C D E F [(a, c), (b, d)] 2 x3 = some (srt_37 [(a, c), (b, d)]) := by
  have g6 : f37_6 m m A B C D E F 2 1 1 [(a, c), (b, d)] = some (srt_37 [(a, c), (b, d)]) := by
    rw [show f37_6 m m A B C D E F 2 1 1 [(a, c), (b, d)] = f37_6 m (j + 8 + 2) A B C D E F 2 1 1 [(a, c), (b, d)] by rw [show j + 8 + 2 = m by omega]]
    exact i1_37 m (j + 8) A B C D E F 2 1 a c b d [] hw
  have f5 : f37_5 m m A B C D E F 2 1 [(a, c), (b, d)] = some (srt_37 [(a, c), (b, d)]) := by
    rw [show f37_5 m m A B C D E F 2 1 [(a, c), (b, d)] = f37_5 m (j + 8 + 2) A B C D E F 2 1 [(a, c), (b, d)] by rw [show j + 8 + 2 = m by omega]]
    unfold f37_5
    show (f37_6 m m A B C D E F 2 1 1 [(a, c), (b, d)]).bind _ = _
    rw [g6]
    simp only [Option.bind_some]
    rw [show w64 (1 + 1) = 2 from rfl]
    unfold f37_5
    rfl
  rw [show f37_4 m m A B C D E F [(a, c), (b, d)] 2 x3 = f37_4 m (j + 9 + 1) A B C D E F [(a, c), (b, d)] 2 x3 by rw [show j + 9 + 1 = m by omega]]
  unfold f37_4
  show (f37_5 m m A B C D E F 2 1 [(a, c), (b, d)]).bind _ = _
  rw [f5]
  rfl

theorem t3_37 (j : Nat) (A B C D E : Int) (F : List Int) (a c b d e f : Int) (hw : w64 (b - a) = b - a) (h1 : a ≤ e) (h2 : b ≤ e) (hw1 : w64 (e - a) = e - a) (hw2 : w64 (e - b) = e - b) (x3 : Int) (m : Nat) (hm : m = j + 10) : f37_4 m m A B C D E F [(a, c), (b, d), (e, f)] 3 x3 = some (srt_37 [(a, c), (b, d), (e, f)]) := by
  have g6 : f37_6 m m A B C D E F 3 1 1 [(a, c), (b, d), (e, f)] = some (srt_37 [(a, c), (b, d), (e, f)]) := by
    rw [show f37_6 m m A B C D E F 3 1 1 [(a, c), (b, d), (e, f)] = f37_6 m (j + 8 + 2) A B C D E F 3 1 1 [(a, c), (b, d), (e, f)] by rw [show j + 8 + 2 = m by omega]]
    exact i1_37 m (j + 8) A B C D E F 3 1 a c b d [(e, f)] hw
  have g7 : f37_6 m m A B C D E F 3 2 2 (srt_37 [(a, c), (b, d), (e, f)]) = some (srt_37 [(a, c), (b, d), (e, f)]) := by
    rw [show f37_6 m m A B C D E F 3 2 2 (srt_37 [(a, c), (b, d), (e, f)]) = f37_6 m (j + 9 + 1) A B C D E F 3 2 2 (srt_37 [(a, c), (b, d), (e, f)]) by rw [show j + 9 + 1 = m by omega]]
    have es : srt_37 [(a, c), (b, d), (e, f)] = if b < a then [(b, d), (a, c), (e, f)] else [(a, c), (b, d), (e, f)] := rfl
    rw [es]
    by_cases h : b < a
    · rw [if_pos h]
      exact i2_37 m (j + 9) A B C D E F 3 2 b d a c e f hw1 h1
    · rw [if_neg h]
      exact i2_37 m (j + 9) A B C D E F 3 2 a c b d e f hw2 h2
  have f5 : f37_5 m m A B C D E F 3 1 [(a, c), (b, d), (e, f)] = some (srt_37 [(a, c), (b, d), (e, f)]) := by
    rw [show f37_5 m m A B C D E F 3 1 [(a, c), (b, d), (e, f)] = f37_5 m (j + 7 + 3) A B C D E F 3 1 [(a, c), (b, d), (e, f)] by rw [show j + 7 + 3 = m by omega]]
    unfold f37_5
    show (f37_6 m m A B C D E F 3 1 1 [(a, c), (b, d), (e, f)]).bind _ = _
    rw [g6]
    simp only [Option.bind_some]
    rw [show w64 (1 + 1) = 2 from rfl]
    unfold f37_5
    show (f37_6 m m A B C D E F 3 2 2 (srt_37 [(a, c), (b, d), (e, f)])).bind _ = _
    rw [g7]
    simp only [Option.bind_some]
    rw [show w64 (2 + 1) = 3 from rfl]
    unfold f37_5
    rfl
  rw [show f37_4 m m A B C D E F [(a, c), (b, d), (e, f)] 3 x3 = f37_4 m (j + 9 + 1) A B C D E F [(a, c), (b, d), (e, f)] 3 x3 by rw [show j + 9 + 1 = m by omega]]
  unfold f37_4
  show (f37_5 m m A B C D E F 3 1 [(a, c), (b, d), (e, f)]).bind _ = _
  rw [f5]
  rfl

theorem w37 {α : Type} (K : List (Int × Int) → Option α) (l : List Int) (m M S T : Nat) (hm : 2000 < m) (g1 : 1 ≤ M) (g2 : M ≤ 100) (g3 : S < M) (g4 : T ≤ M) (hT2 : 2 ≤ T) (hT : Turns M T (mrk M S)) :
    ((f59 m M S T (bes M S T).1).bind fun r32 => (f59 m M S T (bes M S T).2).bind fun r33 =>
      (f37_2 m m M S T (bes M S T).1 (bes M S T).2 l 0 [] [(r32, w64 ((T : Int) - ((bes M S T).1 : Int))), (w64 ((M : Int) - r33), w64 ((T : Int) - ((bes M S T).2 : Int))), (w64 (r32 + (w64 ((M : Int) - r33))), w64 ((w64 (((bes M S T).1 : Int) + ((bes M S T).2 : Int))) - (T : Int)))]).bind fun o2 =>
        (f93 m (IntKind.wrap .u64 ((o2.length : Nat) : Int))).bind fun r34 =>
          (f37_4 m m M S T (bes M S T).1 (bes M S T).2 l o2 ((o2.length : Nat) : Int) r34).bind fun o4 =>
            cond (decide (o2.length = o4.length)) (K o4) none) = K (wlF (cw M S T) M 1) := by
  obtain ⟨p, q, d1, d2, e1, e2, e3, e4, p0, pT, q0, qT, hs, k1, k2, k3, k4, hc⟩ := bes_facts hT (by omega)
  rw [e1, e2]
  have r1 : f59 m M S T p = some (d1 : Int) := (f59_eq m M S _ p (by omega) (by omega) (by omega)).trans (by rw [← e3]; rfl)
  have r2 : f59 m M S T q = some ((M - d2 : Nat) : Int) := (f59_eq m M S _ q (by omega) (by omega) (by omega)).trans (by rw [← e4]; rfl)
  rw [r1, r2, wlF_exp hc k1 k2 (by omega) (by omega) k4]
  simp only [Option.bind_some]
  rw [show (T : Int) - (p : Int) = ((T - p : Nat) : Int) by omega, show (T : Int) - (q : Int) = ((T - q : Nat) : Int) by omega, show (M : Int) - ((M - d2 : Nat) : Int) = ((d2 : Nat) : Int) by omega, show (p : Int) + (q : Int) = ((p + q : Nat) : Int) by omega,
    natw (n := T - p) (by omega), natw (n := T - q) (by omega), natw (n := d2) (by omega), natw (n := p + q) (by omega), show (d1 : Int) + ((d2 : Nat) : Int) = ((d1 + d2 : Nat) : Int) by omega, natw (n := d1 + d2) (by omega), show ((p + q : Nat) : Int) - (T : Int) = ((p + q - T : Nat) : Int) by omega, natw (n := p + q - T) (by omega)]
  obtain ⟨j, hj⟩ : ∃ j, m = j + 10 := ⟨m - 10, by omega⟩
  have hw : w64 (((T - p : Nat) : Int) + ((T - q : Nat) : Int)) = ((T - p : Nat) : Int) + ((T - q : Nat) : Int) := w64_id (by omega) (by omega)
  refine bind_r (m_37 j M S T p q l d1 ((T - p : Nat) : Int) d2 ((T - q : Nat) : Int) ((d1 + d2 : Nat) : Int) ((p + q - T : Nat) : Int) (by omega) (by omega) (by omega) (by omega) hw m hj) ?_
  unfold wid3_37 wexp
  by_cases b1 : d1 = d2
  · rw [if_pos (show (d1 : Int) = (d2 : Int) by omega), if_pos b1]
    by_cases b2 : p + q - T = 0
    · rw [if_pos (show ((p + q - T : Nat) : Int) = 0 by omega), if_pos b2]
      refine bind_r (v := 1) (by kernel_rfl) ?_
      refine bind_r (t1_37 j M S T p q l _ _ _ m hj) ?_
      rw [Int.natCast_add]
      rfl
    · rw [if_neg (show ¬ ((p + q - T : Nat) : Int) = 0 by omega), if_neg b2]
      refine bind_r (v := 2) (by kernel_rfl) ?_
      refine bind_r (t2_37 j M S T p q l _ _ _ _ (w64_id (by omega) (by omega)) _ m hj) ?_
      have es : ∀ (a c b d : Int), ¬ b < a → srt_37 [(a, c), (b, d)] = [(a, c), (b, d)] := fun a c b d h => if_neg h
      rw [es _ _ _ _ (by omega), Int.natCast_add (T - p)]
      rfl
  · rw [if_neg (show ¬ (d1 : Int) = (d2 : Int) by omega), if_neg b1]
    have es1 : ∀ (a c b d : Int) (l : List (Int × Int)), b < a → srt_37 ((a, c) :: (b, d) :: l) = (b, d) :: (a, c) :: l := fun a c b d l h => if_pos h
    have es2 : ∀ (a c b d : Int) (l : List (Int × Int)), ¬ b < a → srt_37 ((a, c) :: (b, d) :: l) = (a, c) :: (b, d) :: l := fun a c b d l h => if_neg h
    by_cases b2 : p + q - T = 0
    · rw [if_pos (show ((p + q - T : Nat) : Int) = 0 by omega), if_pos b2]
      refine bind_r (v := 2) (by kernel_rfl) ?_
      refine bind_r (t2_37 j M S T p q l _ _ _ _ (w64_id (by omega) (by omega)) _ m hj) ?_
      by_cases b3 : d2 < d1
      · rw [if_pos b3, es1 _ _ _ _ _ (by omega)]
        rfl
      · rw [if_neg b3, es2 _ _ _ _ _ (by omega)]
        rfl
    · rw [if_neg (show ¬ ((p + q - T : Nat) : Int) = 0 by omega), if_neg b2]
      refine bind_r (v := 2) (by kernel_rfl) ?_
      refine bind_r (t3_37 j M S T p q l _ _ _ _ _ _ (w64_id (by omega) (by omega)) (by omega) (by omega) (w64_id (by omega) (by omega)) (w64_id (by omega) (by omega)) _ m hj) ?_
      by_cases b3 : d2 < d1
      · rw [if_pos b3, es1 _ _ _ _ _ (by omega)]
        rfl
      · rw [if_neg b3, es2 _ _ _ _ _ (by omega)]
        rfl

def evL (M S : Nat) : Nat → Nat → List Int
  | 0, _ => []
  | k + 1, T => if (wlF (cw M S T) M 1).length ≤ 2 then (T : Int) :: evL M S k (T + 1) else evL M S k (T + 1)

theorem evL_len (M S : Nat) : ∀ k T, (evL M S k T).length ≤ k
  | 0, _ => Nat.le_refl _
  | k + 1, T => by
    unfold evL
    have := evL_len M S k (T + 1)
    split
    · simp only [List.length_cons]; omega
    · omega

theorem loopB_snoc (M S : Nat) : ∀ (k n p q : Nat), loopB M S (k + 1) n p q = stepB M S (n + k) (loopB M S k n p q).1 (loopB M S k n p q).2
  | 0, n, p, q => rfl
  | k + 1, n, p, q => by
    have ih := loopB_snoc M S k (n + 1) (stepB M S n p q).1 (stepB M S n p q).2
    rw [show n + (k + 1) = n + 1 + k by omega]
    exact ih

theorem bes_succ {M S T : Nat} (hT : 1 ≤ T) : bes M S (T + 1) = stepB M S T (bes M S T).1 (bes M S T).2 := by
  unfold bes
  obtain ⟨k, rfl⟩ : ∃ k, T = k + 1 := ⟨T - 1, by omega⟩
  rw [show k + 1 + 1 - 1 = k + 1 from rfl, show k + 1 - 1 = k from rfl, loopB_snoc, show 1 + k = k + 1 by omega]

/-- One turn more, beside. -/
theorem step37 {α : Type} (m M S T : Nat) (hM : 0 < M) (hS : S ≤ 100) (hT2 : 2 ≤ T) (hT : T ≤ 1000) (G : Int → Int → Option α) (t : Int) :
    ((f59 m M S t T).bind fun r53 => (f59 m M S t (bes M S T).1).bind fun r54 => cond (decide (r53 < r54)) (G T (bes M S T).2) ((f59 m M S t (bes M S T).2).bind fun r56 => G (bes M S T).1 (cond (decide (r53 > r56)) T (bes M S T).2))) = G (bes M S (T + 1)).1 (bes M S (T + 1)).2 := by
  have hb := bes_le (M := M) (S := S) (T := T) (by omega)
  rw [f59_eq m M S t T hM (by omega) (by omega), f59_eq m M S t (bes M S T).1 hM (by omega) (by omega), f59_eq m M S t (bes M S T).2 hM (by omega) (by omega), bes_succ (by omega)]
  simp only [Option.bind_some]
  unfold stepB mrk
  rw [if_neg (by omega)]
  by_cases c3 : (T * S) % M < ((bes M S T).1 * S) % M
  · rw [if_pos c3, decide_eq_true (Int.ofNat_lt.2 c3)]
    rfl
  · rw [if_neg c3, decide_eq_false (fun q => c3 (Int.ofNat_lt.1 q))]
    simp only [cond_false]
    by_cases c4 : ((bes M S T).2 * S) % M < (T * S) % M
    · rw [if_pos c4, decide_eq_true (p := (((T * S) % M : Nat) : Int) > ((((bes M S T).2 * S) % M : Nat) : Int)) (Int.ofNat_lt.2 c4)]
      rfl
    · rw [if_neg c4, decide_eq_false (p := (((T * S) % M : Nat) : Int) > ((((bes M S T).2 * S) % M : Nat) : Int)) (fun q => c4 (Int.ofNat_lt.1 q))]
      rfl

theorem f37_1_eq (m M S o : Nat) (hm : 2000 < m) (g : Good M S 1 o) : ∀ (k T fuel : Nat) (l : List Int), T + k = o + 1 → 1 ≤ T → k < fuel → l.length ≤ T →
    f37_1 m fuel M S o T (bes M S T).1 (bes M S T).2 l = some (l ++ evL M S k T)
  | k, T, 0, _, _, _, h, _ => by omega
  | 0, T, fuel + 1, l, hT, _, _, _ => by
    unfold f37_1
    rw [decide_eq_false (by omega)]
    simp [evL]
  | k + 1, T, fuel + 1, l, hT, h1, hf, hl => by
    have g1 := g.m1
    have g2 := g.m2
    have g3 := g.s
    have g4 := g.om
    have hfit : fitsB (l.length + 1) 8 = true := by
      simp only [fitsB, Bool.and_eq_true, Nat.ble_eq]; omega
    have ih := fun l' (hl' : l'.length ≤ T + 1) => f37_1_eq m M S o hm g k (T + 1) fuel l' (by omega) (by omega) (by omega) hl'
    unfold f37_1
    rw [decide_eq_true (by omega), w64_succ T (by omega), hfit]
    simp only [cond_true]
    by_cases hT1 : T = 1
    · subst hT1
      have ih1 := ih (l ++ [1]) (by simp; omega)
      rw [show bes M S (1 + 1) = (1, 1) from rfl] at ih1
      show f37_1 m fuel M S o ((1 + 1 : Nat) : Int) 1 1 (l ++ [1]) = _
      have e : evL M S (k + 1) 1 = 1 :: evL M S k 2 := by
        show (if (wlF (cw M S 1) M 1).length ≤ 2 then ((1 : Nat) : Int) :: evL M S k (1 + 1) else evL M S k (1 + 1)) = _
        rw [if_pos (by rw [wl_one (by omega)]; simp)]
        rfl
      rw [e]
      refine ih1.trans ?_
      rw [List.append_assoc]
      rfl
    · have c1 : ((T : Int) == 1) = false := by simp; omega
      rw [c1]
      simp only [cond_false]
      have hTu := g.turns (n := T) (by omega)
      refine (w37 (fun o4 => cond (decide (((o4.length : Nat) : Int) < 3)) ((f59 m M S ((T + 1 : Nat) : Int) T).bind fun r53 => (f59 m M S ((T + 1 : Nat) : Int) (bes M S T).1).bind fun r54 => cond (decide (r53 < r54)) (f37_1 m fuel M S o ((T + 1 : Nat) : Int) T (bes M S T).2 (l ++ [(T : Int)])) ((f59 m M S ((T + 1 : Nat) : Int) (bes M S T).2).bind fun r56 => f37_1 m fuel M S o ((T + 1 : Nat) : Int) (bes M S T).1 (cond (decide (r53 > r56)) T (bes M S T).2) (l ++ [(T : Int)])))
        ((f59 m M S ((T + 1 : Nat) : Int) T).bind fun r53 => (f59 m M S ((T + 1 : Nat) : Int) (bes M S T).1).bind fun r54 => cond (decide (r53 < r54)) (f37_1 m fuel M S o ((T + 1 : Nat) : Int) T (bes M S T).2 l) ((f59 m M S ((T + 1 : Nat) : Int) (bes M S T).2).bind fun r56 => f37_1 m fuel M S o ((T + 1 : Nat) : Int) (bes M S T).1 (cond (decide (r53 > r56)) T (bes M S T).2) l)))
        l m M S T hm g1 g2 g3 (by omega) (by omega) hTu).trans ?_
      rw [step37 m M S T (by omega) (by omega) (by omega) (by omega) (fun x y => f37_1 m fuel M S o ((T + 1 : Nat) : Int) x y (l ++ [(T : Int)])), step37 m M S T (by omega) (by omega) (by omega) (by omega) (fun x y => f37_1 m fuel M S o ((T + 1 : Nat) : Int) x y l), ih _ (by simp; omega), ih _ (by omega)]
      conv => rhs; unfold evL
      by_cases c : (wlF (cw M S T) M 1).length ≤ 2
      · rw [if_pos c, decide_eq_true (by omega), List.append_assoc]
        rfl
      · rw [if_neg c, decide_eq_false (by omega)]
        rfl

theorem f37_eq (m M S o : Nat) (hm : 2000 < m) (g : Good M S 1 o) (h65 : f65 m M S 1 = some (o : Int)) : f37 m M S = some (evL M S o 1, 0) := by
  have g1 := g.m1
  have g2 := g.m2
  have g3 := g.s
  have g4 := g.om
  have h := f37_1_eq m M S o hm g o 1 m [] (by omega) (by omega) (by omega) (by simp)
  rw [show bes M S 1 = (0, 0) from rfl, List.nil_append] at h
  unfold f37
  rw [f64_eq, decide_eq_true (p := 1 ≤ (M : Int) ∧ (M : Int) ≤ 100 ∧ 0 ≤ (S : Int) ∧ (S : Int) < (M : Int)) (by omega), h65]
  simp only [Option.bind_some, Bool.not_true, cond_false]
  have h : f37_1 m m M S o 1 0 0 [] = some (evL M S o 1) := h
  rw [h]
  rfl
end Go.Xm
