/- The document's list of turns by their marks. Conditions: none. -/
import Derived.Test.YtagagpkjlkoieaaK3
import Derived.Test.YtagagpkjlkoieaaPh
namespace Go.Xm
set_option linter.unusedVariables false
set_option linter.unusedSimpArgs false

def trn (P : Nat → Nat) (T x : Nat) : Option Nat := fnd (fun k => P k == x) T 0

theorem f63_1_eq (m M S T b : Nat) (hM : 0 < M) (hS : S ≤ 1000) (hT : T ≤ 1000) : ∀ (k x fuel : Nat), x + k = T → k < fuel →
    f63_1 m fuel M S T b x = some (match fnd (fun k => mrk M S k == b) k x with | some t => .r (t : Int) | none => .x0)
  | k, x, 0, _, h => by omega
  | 0, x, fuel + 1, hx, _ => by
    unfold f63_1
    rw [decide_eq_false (by omega)]
    rfl
  | k + 1, x, fuel + 1, hx, hf => by
    unfold f63_1
    rw [decide_eq_true (by omega), f61_eq m M S T x hM hS (by omega), w64_succ x (by omega)]
    simp only [cond_true, Option.bind_some, fnd]
    by_cases h : mrk M S x = b
    · have h1 : ((((x * S) % M : Nat) : Int) == (b : Int)) = true := by
        have : (x * S) % M = b := h
        rw [this]; simp
      have h2 : (mrk M S x == b) = true := by simpa using h
      rw [h1, h2]
      rfl
    · have h1 : ((((x * S) % M : Nat) : Int) == (b : Int)) = false := by
        have h : ¬ (x * S) % M = b := h
        generalize (x * S) % M = r at h
        simp; omega
      have h2 : (mrk M S x == b) = false := by simpa using h
      rw [h1, h2]
      simp only [cond_false]
      exact f63_1_eq m M S T b hM hS hT k (x + 1) fuel (by omega) (by omega)

theorem f63_eq (m M S T b : Nat) (hM : 0 < M) (hS : S ≤ 1000) (hT : T ≤ 1000) (hm : T < m) : f63 m M S T b = some (match trn (mrk M S) T b with | some t => (t : Int) | none => -1) := by
  unfold f63
  have := f63_1_eq m M S T b hM hS hT T 0 m (by omega) (by omega)
  rw [show ((0 : Int)) = ((0 : Nat) : Int) from rfl, this]
  unfold trn
  cases fnd (fun k => mrk M S k == b) T 0 <;> rfl

/-- Turns whose marks are x, x + 1, .. -/
def lst (P : Nat → Nat) (T : Nat) : Nat → Nat → List Int
  | 0, _ => []
  | k + 1, x => match trn P T x with
    | some t => (t : Int) :: lst P T k (x + 1)
    | none => lst P T k (x + 1)

theorem lst_len (P : Nat → Nat) (T : Nat) : ∀ k x, (lst P T k x).length ≤ k
  | 0, _ => Nat.le_refl _
  | k + 1, x => by
    have := lst_len P T k (x + 1)
    unfold lst
    split
    · simp only [List.length_cons]; omega
    · omega

def hd1 (P : Nat → Nat) (T x : Nat) : List Int := match trn P T x with
  | some t => [(t : Int)]
  | none => []

theorem lst_succ (P : Nat → Nat) (T k x : Nat) : lst P T (k + 1) x = hd1 P T x ++ lst P T k (x + 1) := by
  show (match trn P T x with | some t => (t : Int) :: lst P T k (x + 1) | none => lst P T k (x + 1)) = (match trn P T x with | some t => [(t : Int)] | none => []) ++ lst P T k (x + 1)
  cases trn P T x <;> rfl

theorem lst_add (P : Nat → Nat) (T : Nat) : ∀ i j x, lst P T (i + j) x = lst P T i x ++ lst P T j (x + i)
  | 0, j, x => by
    rw [Nat.zero_add]
    rfl
  | i + 1, j, x => by
    have ih := lst_add P T i j (x + 1)
    rw [show i + 1 + j = (i + j) + 1 by omega, lst_succ, lst_succ, ih, List.append_assoc, show x + 1 + i = x + (i + 1) by omega]

theorem f70_1_eq (m M S T : Nat) (hM : 0 < M) (hM2 : M ≤ 1000) (hS : S ≤ 1000) (hT : T ≤ 1000) (hm : T < m) : ∀ (k x fuel : Nat) (l : List Int), x + k = M → l.length ≤ x → k < fuel →
    f70_1 m fuel M S T x l = some (l ++ lst (mrk M S) T k x)
  | k, x, 0, l, _, _, h => by omega
  | 0, x, fuel + 1, l, hx, _, _ => by
    unfold f70_1
    rw [decide_eq_false (by omega)]
    simp [lst]
  | k + 1, x, fuel + 1, l, hx, hl, hf => by
    unfold f70_1
    rw [decide_eq_true (by omega), f63_eq m M S T x hM hS hT hm, w64_succ x (by omega)]
    simp only [cond_true, Option.bind_some, lst]
    cases ht : trn (mrk M S) T x with
    | none =>
      show f70_1 m fuel M S T ((x + 1 : Nat) : Int) l = _
      exact f70_1_eq m M S T hM hM2 hS hT hm k (x + 1) fuel l (by omega) (by omega) (by omega)
    | some t =>
      simp only []
      rw [decide_eq_true (p := (t : Int) ≥ 0) (by omega)]
      have hfit : fitsB (l.length + 1) 8 = true := by
        simp only [fitsB, Bool.and_eq_true, Nat.ble_eq]; omega
      simp only [cond_true, hfit]
      rw [f70_1_eq m M S T hM hM2 hS hT hm k (x + 1) fuel (l ++ [(t : Int)]) (by omega) (by simp; omega) (by omega), List.append_assoc]
      rfl

theorem f70_2_eq (m : Nat) (b : Int) (c : Nat) (l : List Int) (idx : Nat) (hi : idx < l.length) (hl : l.length ≤ 1000) (hc : c ≤ 1000) (hb : l.getD idx 0 = b) (hne : ∀ j, j < idx → l.getD j 0 ≠ b) : ∀ (k x fuel : Nat), x + k = idx → k < fuel →
    f70_2 m fuel b c l x = some (.r (l.getD ((idx + c) % l.length) 0))
  | k, x, 0, _, h => by omega
  | k, x, fuel + 1, hx, hf => by
    unfold f70_2
    rw [decide_eq_true (by omega)]
    have hr : inRow (x : Int) l.length = true := inRow_iff.2 ⟨by omega, by omega⟩
    simp only [cond_true, hr, Int.toNat_natCast]
    by_cases h : x = idx
    · subst h
      have h1 : (l.getD x 0 == b) = true := by rw [hb]; simp
      have h2 : (((l.length : Nat) : Int) != 0) = true := by simp; intro e; rw [e] at hi; cases hi
      have h3 : Int.tmod (w64 ((x : Int) + (c : Int))) ((l.length : Nat) : Int) = (((x + c) % l.length : Nat) : Int) := by
        rw [show (x : Int) + (c : Int) = ((x + c : Nat) : Int) by omega, natw (by omega)]; rfl
      have h4 : (x + c) % l.length < l.length := Nat.mod_lt _ (by omega)
      have h5 : inRow (((x + c) % l.length : Nat) : Int) l.length = true := inRow_iff.2 ⟨Int.natCast_nonneg _, Int.ofNat_lt.2 h4⟩
      rw [h1, h2, h3, h5]
      rfl
    · have h1 : (l.getD x 0 == b) = false := by
        have := hne x (by omega)
        simpa using this
      rw [h1, w64_succ x (by omega)]
      exact f70_2_eq m b c l idx hi hl hc hb hne (k - 1) (x + 1) fuel (by omega) (by omega)

/-! The list -/
theorem Turns.inj {M T : Nat} {P : Nat → Nat} (h : Turns M T P) {i j : Nat} (hi : i < T) (hj : j < T) (e : P i = P j) : i = j := by
  rcases Nat.lt_trichotomy i j with q | q | q
  · have s := h.sub (i := j) (j := i) (by omega)
    have o := h.own (j - i) (by omega) (by omega)
    omega
  · exact q
  · have s := h.sub (i := i) (j := j) (by omega)
    have o := h.own (i - j) (by omega) (by omega)
    omega

theorem trn_some {P : Nat → Nat} {T x t : Nat} (h : trn P T x = some t) : t < T ∧ P t = x := by
  obtain ⟨_, h2, h3, _⟩ := fnd_some T 0 h
  exact ⟨by omega, by simpa using h3⟩

theorem trn_none {P : Nat → Nat} {T x : Nat} (h : trn P T x = none) : ∀ t, t < T → P t ≠ x := fun t ht => by
  have := fnd_none_iff T 0 h t (by omega) (by omega)
  simpa using this

theorem Turns.trn {M T : Nat} {P : Nat → Nat} (h : Turns M T P) {t : Nat} (ht : t < T) : Go.Xm.trn P T (P t) = some t := by
  cases hh : Go.Xm.trn P T (P t) with
  | none => exact absurd rfl (trn_none hh t ht)
  | some u =>
    obtain ⟨h1, h2⟩ := trn_some hh
    rw [h.inj h1 ht h2]

theorem mem_lst {P : Nat → Nat} {T : Nat} : ∀ {k x : Nat} {v : Int}, v ∈ lst P T k x → ∃ t : Nat, v = (t : Int) ∧ t < T ∧ x ≤ P t ∧ P t < x + k
  | 0, x, v, h => by cases h
  | k + 1, x, v, h => by
    unfold lst at h
    split at h
    · rename_i t ht
      rcases List.mem_cons.1 h with e | e
      · obtain ⟨h1, h2⟩ := trn_some ht
        exact ⟨t, e, h1, by omega, by omega⟩
      · obtain ⟨u, h1, h2, h3, h4⟩ := mem_lst e
        exact ⟨u, h1, h2, by omega, by omega⟩
    · obtain ⟨u, h1, h2, h3, h4⟩ := mem_lst h
      exact ⟨u, h1, h2, by omega, by omega⟩

/-- The first one of the list has the smallest mark from x on. -/
theorem lst_head {P : Nat → Nat} {T : Nat} : ∀ {k x : Nat} {v : Int} {l : List Int}, lst P T k x = v :: l → ∃ t : Nat, v = (t : Int) ∧ t < T ∧ x ≤ P t ∧ P t < x + k ∧ ∀ i, i < T → ¬ (x ≤ P i ∧ P i < P t)
  | 0, x, v, l, h => by cases h
  | k + 1, x, v, l, h => by
    unfold lst at h
    split at h
    · rename_i t ht
      cases h
      obtain ⟨h1, h2⟩ := trn_some ht
      exact ⟨t, rfl, h1, by omega, by omega, fun i hi hh => by omega⟩
    · rename_i hn
      obtain ⟨t, h1, h2, h3, h4, h5⟩ := lst_head h
      refine ⟨t, h1, h2, by omega, by omega, fun i hi hh => ?_⟩
      have := trn_none hn i hi
      exact h5 i hi ⟨by omega, hh.2⟩

theorem lst_nil {P : Nat → Nat} {T : Nat} : ∀ {k x : Nat}, lst P T k x = [] → ∀ i, i < T → ¬ (x ≤ P i ∧ P i < x + k)
  | 0, x, _, i, hi => by omega
  | k + 1, x, h, i, hi => by
    unfold lst at h
    split at h
    · cases h
    · rename_i hn
      have h1 := lst_nil h i hi
      have := trn_none hn i hi
      omega

/-- The last one of the list has the greatest mark. -/
theorem lst_last {P : Nat → Nat} {T : Nat} : ∀ {k x : Nat} {v : Int} {l : List Int}, lst P T k x = l ++ [v] → ∃ t : Nat, v = (t : Int) ∧ t < T ∧ x ≤ P t ∧ P t < x + k ∧ ∀ i, i < T → ¬ (P t < P i ∧ P i < x + k)
  | 0, x, v, l, h => by cases l <;> cases h
  | k + 1, x, v, l, h => by
    have e := lst_add P T k 1 x
    rw [e] at h
    cases ht : trn P T (x + k) with
    | none =>
      have e1 : lst P T 1 (x + k) = [] := by simp only [lst, ht]
      rw [e1, List.append_nil] at h
      obtain ⟨t, h1, h2, h3, h4, h5⟩ := lst_last h
      refine ⟨t, h1, h2, h3, by omega, fun i hi hh => ?_⟩
      have := trn_none ht i hi
      exact h5 i hi ⟨hh.1, by omega⟩
    | some u =>
      have e1 : lst P T 1 (x + k) = [(u : Int)] := by simp only [lst, ht]
      rw [e1] at h
      obtain ⟨g1, g2⟩ := List.append_inj' h rfl
      simp only [List.cons.injEq, and_true] at g2
      obtain ⟨h1, h2⟩ := trn_some ht
      exact ⟨u, g2.symm, h1, by omega, by omega, fun i hi hh => by omega⟩
end Go.Xm
