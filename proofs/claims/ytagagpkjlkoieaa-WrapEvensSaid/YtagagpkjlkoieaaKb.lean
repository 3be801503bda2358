/- How many gaps have which width. Conditions: none. -/
import Derived.Test.YtagagpkjlkoieaaKa
namespace Go.Xm
set_option linter.unusedVariables false
set_option linter.unusedSimpArgs false

theorem gp_one (M S k : Nat) (hk : k < 1) : gp M S 1 k = M := by
  have : k = 0 := by omega
  subst this
  have e : nextN 1 (bes M S 1).1 (bes M S 1).2 0 = 0 := rfl
  unfold gp
  rw [e, if_pos rfl, mrk_zero]
  rfl

theorem gp_val {M S T k : Nat} (h : Turns M T (mrk M S)) (hT : 2 ≤ T) (hk : k < T) :
    gp M S T k = if k < T - (bes M S T).1 then mrk M S (bes M S T).1 else if k < (bes M S T).2 then mrk M S (bes M S T).1 + (M - mrk M S (bes M S T).2) else M - mrk M S (bes M S T).2 := by
  have hb := loopB_all (M := M) (S := S) hT
  have hn := next_ok h hb hk
  have hs := beside_sum h hb
  obtain ⟨p0, pT, q0, qT, mm⟩ := hb
  unfold gp
  show (if nextN T (loopB M S (T - 1) 1 0 0).1 (loopB M S (T - 1) 1 0 0).2 k = 0 then _ else _) = _
  show (if nextN T (loopB M S (T - 1) 1 0 0).1 (loopB M S (T - 1) 1 0 0).2 k = 0 then M - mrk M S k else mrk M S (nextN T (loopB M S (T - 1) 1 0 0).1 (loopB M S (T - 1) 1 0 0).2 k) - mrk M S k) = if k < T - (loopB M S (T - 1) 1 0 0).1 then mrk M S (loopB M S (T - 1) 1 0 0).1 else if k < (loopB M S (T - 1) 1 0 0).2 then mrk M S (loopB M S (T - 1) 1 0 0).1 + (M - mrk M S (loopB M S (T - 1) 1 0 0).2) else M - mrk M S (loopB M S (T - 1) 1 0 0).2
  generalize (loopB M S (T - 1) 1 0 0).1 = p at *
  generalize (loopB M S (T - 1) 1 0 0).2 = q at *
  have lk := h.lt k
  have lp := h.lt p
  have lq := h.lt q
  have z := h.zero
  have mpq := mm q q0 qT
  unfold nextN at hn ⊢
  by_cases c1 : k < T - p
  · rw [if_pos c1] at hn ⊢
    rw [if_pos c1, if_neg (by omega)]
    have a := h.add k p
    have hlt : mrk M S k < mrk M S (k + p) := by
      rcases hn.2 with ⟨e, _⟩ | ⟨e, _⟩
      · exact e
      · omega
    omega
  · rw [if_neg c1] at hn ⊢
    rw [if_neg c1]
    by_cases c2 : k < q
    · rw [if_pos c2] at hn ⊢
      rw [if_pos c2, if_neg (by omega)]
      have a := h.add k p
      have s := h.sub (i := k + p) (j := q) (by omega)
      have hlt : mrk M S k < mrk M S (k + p - q) := by
        rcases hn.2 with ⟨e, _⟩ | ⟨e, _⟩
        · exact e
        · omega
      omega
    · rw [if_neg c2] at hn ⊢
      rw [if_neg c2]
      by_cases c3 : k = q
      · subst c3
        rw [if_pos (by omega)]
      · rw [if_neg (by omega)]
        have s := h.sub (i := k) (j := q) (by omega)
        have hlt : mrk M S k < mrk M S (k - q) := by
          rcases hn.2 with ⟨e, _⟩ | ⟨e, _⟩
          · exact e
          · omega
        omega

/-! Counts -/
/-- How many of the first n. -/
def cr (f : Nat → Bool) : Nat → Nat
  | 0 => 0
  | n + 1 => cr f n + (if f n then 1 else 0)

/-- How many of a list of turns. -/
def cl (f : Nat → Bool) : List Int → Nat
  | [] => 0
  | v :: l => (if f v.toNat then 1 else 0) + cl f l

theorem cl_append (f : Nat → Bool) : ∀ a b, cl f (a ++ b) = cl f a + cl f b
  | [], b => by
    show cl f b = 0 + cl f b
    omega
  | v :: a, b => by
    have := cl_append f a b
    show (if f v.toNat then 1 else 0) + cl f (a ++ b) = (if f v.toNat then 1 else 0) + cl f a + cl f b
    omega

theorem trn_succ {P : Nat → Nat} {T : Nat} (h : ∀ t, t < T → P t ≠ P T) (x : Nat) : trn P (T + 1) x = if P T = x then some T else trn P T x := by
  cases h1 : trn P (T + 1) x with
  | some t =>
    obtain ⟨g1, g2⟩ := trn_some h1
    by_cases e : P T = x
    · rw [if_pos e]
      rcases Nat.lt_or_ge t T with q | q
      · exact absurd (by omega) (h t q)
      · rw [show t = T by omega]
    · rw [if_neg e]
      have ht : t < T := by
        rcases Nat.lt_or_ge t T with q | q
        · exact q
        · exact absurd (by rw [show T = t by omega]; exact g2) e
      unfold trn at h1 ⊢
      rw [← h1]
      exact (fnd_more (p := fun k => P k == x) T (T + 1) 0 t (by omega) (by omega) (by omega) (by simpa using g2)).symm
  | none =>
    have n := trn_none h1
    rw [if_neg (n T (by omega))]
    cases h3 : trn P T x with
    | none => rfl
    | some u =>
      obtain ⟨g1, g2⟩ := trn_some h3
      exact absurd g2 (n u (by omega))

theorem clT {P : Nat → Nat} {T : Nat} (f : Nat → Bool) (h : ∀ t, t < T → P t ≠ P T) : ∀ k x, cl f (lst P (T + 1) k x) = cl f (lst P T k x) + (if x ≤ P T ∧ P T < x + k ∧ f T = true then 1 else 0)
  | 0, x => by
    rw [if_neg (by omega)]
    rfl
  | k + 1, x => by
    rw [lst_succ, lst_succ, cl_append, cl_append, clT f h k (x + 1)]
    unfold hd1
    rw [trn_succ h]
    by_cases e : P T = x
    · rw [if_pos e, if_neg (by omega)]
      have hn : trn P T x = none := by
        cases h3 : trn P T x with
        | none => rfl
        | some u =>
          obtain ⟨g1, g2⟩ := trn_some h3
          exact absurd (by omega) (h u g1)
      rw [hn]
      show (if f (T : Int).toNat then 1 else 0) + 0 + (cl f (lst P T k (x + 1)) + 0) = 0 + cl f (lst P T k (x + 1)) + _
      rw [Int.toNat_natCast]
      by_cases c : f T = true
      · rw [if_pos c, if_pos ⟨by omega, by omega, c⟩]; omega
      · rw [if_neg c, if_neg (fun q => c q.2.2)]; omega
    · rw [if_neg e]
      by_cases c : x + 1 ≤ P T ∧ P T < x + 1 + k ∧ f T = true
      · rw [if_pos c, if_pos ⟨by omega, by omega, c.2.2⟩]; omega
      · rw [if_neg c, if_neg (fun q => c ⟨by omega, by omega, q.2.2⟩)]; omega

theorem cl_round {M T : Nat} {P : Nat → Nat} (h : Turns M T P) (f : Nat → Bool) : ∀ t, t ≤ T → cl f (lst P t M 0) = cr f t
  | 0, _ => by rw [lst_zero]; rfl
  | t + 1, ht => by
    rw [clT f (fun u hu e => by have := h.inj (i := u) (j := t) (by omega) (by omega) e; omega), cl_round h f t (by omega)]
    have := h.lt t
    show cr f t + _ = cr f t + (if f t then 1 else 0)
    by_cases c : f t = true
    · rw [if_pos c, if_pos ⟨by omega, by omega, c⟩]
    · rw [if_neg c, if_neg (fun q => c q.2.2)]

/-- How many of a list are one number. -/
def cI (w : Int) : List Int → Nat
  | [] => 0
  | v :: l => (if v = w then 1 else 0) + cI w l

theorem cI_gF (M S T w : Nat) : ∀ k x, cI w (gF M S T k x) = cl (fun t => gp M S T t == w) (walkN T (bes M S T).1 (bes M S T).2 k (tN M S T x))
  | 0, _ => rfl
  | k + 1, x => by
    have ih := cI_gF M S T w k (x + 1)
    show (if (gp M S T (tN M S T x) : Int) = (w : Int) then 1 else 0) + cI w (gF M S T k (x + 1)) = (if gp M S T ((tN M S T x : Nat) : Int).toNat == w then 1 else 0) + cl (fun t => gp M S T t == w) (walkN T (bes M S T).1 (bes M S T).2 k (tN M S T (x + 1)))
    rw [ih, Int.toNat_natCast]
    congr 1
    by_cases c : gp M S T (tN M S T x) = w
    · rw [if_pos (by omega), if_pos (by simpa using c)]
    · rw [if_neg (by omega), if_neg (by simpa using c)]

/-- How many gaps have a width. -/
def cw (M S T w : Nat) : Nat := cr (fun t => gp M S T t == w) T

theorem cI_all {M S T : Nat} (h : Turns M T (mrk M S)) (hT : 0 < T) (w : Nat) : cI w (gF M S T T 0) = cw M S T w := by
  rw [cI_gF]
  have := walk_all h hT
  show cl (fun t => gp M S T t == w) (walkN T (bes M S T).1 (bes M S T).2 T 0) = _
  rw [this]
  exact cl_round h _ T (Nat.le_refl _)

theorem cr_const {f : Nat → Bool} {b : Bool} : ∀ (d a : Nat), (∀ k, a ≤ k → k < a + d → f k = b) → cr f (a + d) = cr f a + (if b then d else 0)
  | 0, a, _ => by cases b <;> rfl
  | d + 1, a, h => by
    have ih := cr_const (f := f) (b := b) d a (fun k h1 h2 => h k h1 (by omega))
    show cr f (a + d) + (if f (a + d) then 1 else 0) = _
    rw [ih, h (a + d) (by omega) (by omega)]
    cases b <;> simp <;> omega

theorem cw_one (M S w : Nat) : cw M S 1 w = if w = M then 1 else 0 := by
  show 0 + (if gp M S 1 0 == w then 1 else 0) = _
  rw [gp_one M S 0 (by omega)]
  by_cases c : w = M
  · subst c; simp
  · rw [if_neg c, if_neg (by simpa using Ne.symm c)]

/-- Of three kinds. -/
theorem cw_val {M S T : Nat} (h : Turns M T (mrk M S)) (hT : 2 ≤ T) (w : Nat) :
    cw M S T w = (if mrk M S (bes M S T).1 = w then T - (bes M S T).1 else 0) + (if mrk M S (bes M S T).1 + (M - mrk M S (bes M S T).2) = w then (bes M S T).1 + (bes M S T).2 - T else 0) + (if M - mrk M S (bes M S T).2 = w then T - (bes M S T).2 else 0) := by
  have hb : Beside T (mrk M S) (bes M S T).1 (bes M S T).2 := loopB_all (M := M) (S := S) hT
  have hs := beside_sum h hb
  have hg := fun k hk => gp_val h hT (k := k) hk
  obtain ⟨p0, pT, q0, qT, mm⟩ := hb
  generalize (bes M S T).1 = p at *
  generalize (bes M S T).2 = q at *
  unfold cw
  have e1 := cr_const (f := fun t => gp M S T t == w) (b := mrk M S p == w) (T - p) 0 (fun k h1 h2 => by
    show (gp M S T k == w) = _
    rw [hg k (by omega), if_pos (by omega)])
  have e2 := cr_const (f := fun t => gp M S T t == w) (b := mrk M S p + (M - mrk M S q) == w) (q - (T - p)) (T - p) (fun k h1 h2 => by
    show (gp M S T k == w) = _
    rw [hg k (by omega), if_neg (by omega), if_pos (by omega)])
  have e3 := cr_const (f := fun t => gp M S T t == w) (b := M - mrk M S q == w) (T - q) q (fun k h1 h2 => by
    show (gp M S T k == w) = _
    rw [hg k (by omega), if_neg (by omega), if_neg (by omega)])
  rw [show q + (T - q) = T by omega] at e3
  rw [show T - p + (q - (T - p)) = q by omega] at e2
  rw [Nat.zero_add] at e1
  rw [e3, e2, e1]
  show 0 + _ + _ + _ = _
  simp only [beq_iff_eq, Nat.zero_add]
  rw [show q - (T - p) = p + q - T by omega]

/-! The list of widths -/
def wlF (c : Nat → Nat) : Nat → Nat → List (Int × Int)
  | 0, _ => []
  | k + 1, w => if 0 < c w then ((w : Int), (c w : Int)) :: wlF c k (w + 1) else wlF c k (w + 1)

theorem wlF_skip (c : Nat → Nat) : ∀ (j k x : Nat), (∀ w, x ≤ w → w < x + j → c w = 0) → wlF c (j + k) x = wlF c k (x + j)
  | 0, k, x, _ => by rw [Nat.zero_add, Nat.add_zero]
  | j + 1, k, x, h => by
    rw [show j + 1 + k = (j + k) + 1 by omega]
    unfold wlF
    rw [if_neg (by have := h x (by omega) (by omega); omega), wlF_skip c j k (x + 1) (fun w h1 h2 => h w (by omega) (by omega)), show x + 1 + j = x + (j + 1) by omega]
    cases k <;> rfl

theorem wlF_none (c : Nat → Nat) (k x : Nat) (h : ∀ w, x ≤ w → w < x + k → c w = 0) : wlF c k x = [] := by
  have := wlF_skip c k 0 x h
  rw [Nat.add_zero] at this
  rw [this]
  rfl

/-- The next width. -/
theorem wlF_hit (c : Nat → Nat) (x y M : Nat) (hxy : x ≤ y) (hy : y ≤ M) (hc : 0 < c y) (h : ∀ w, x ≤ w → w < y → c w = 0) : wlF c (M + 1 - x) x = ((y : Int), (c y : Int)) :: wlF c (M + 1 - (y + 1)) (y + 1) := by
  have := wlF_skip c (y - x) (M + 1 - y) x (fun w h1 h2 => h w h1 (by omega))
  rw [show y - x + (M + 1 - y) = M + 1 - x by omega, show x + (y - x) = y by omega] at this
  rw [this, show M + 1 - y = (M + 1 - (y + 1)) + 1 by omega]
  conv => lhs; unfold wlF
  rw [if_pos hc]
end Go.Xm
