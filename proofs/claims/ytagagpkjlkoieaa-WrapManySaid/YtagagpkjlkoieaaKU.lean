/- Gaps and counts in lists. Conditions: none. -/
import Derived.Test.YtagagpkjlkoieaaKB
import Derived.Test.YtagagpkjlkoieaaPh
import Derived.Test.YtagagpkjlkoieaaKA
import Derived.Test.YtagagpkjlkoieaaPc
import Derived.Test.YtagagpkjlkoieaaPj
import Derived.Test.YtagagpkjlkoieaaPq
namespace Go.Xm
set_option linter.unusedVariables false
set_option linter.unusedSimpArgs false
set_option maxRecDepth 20000

theorem getM_putM {α : Type} (d v : α) (k x : Int) : ∀ l : List (Int × α), getM d (putM l k v) x = if x = k then v else getM d l x
  | [] => by
    unfold putM getM getM
    by_cases e : x = k
    · rw [if_pos e.symm, if_pos e]
    · rw [if_neg (Ne.symm e), if_neg e]
  | p :: l => by
    have ih := getM_putM d v k x l
    unfold putM
    by_cases c : p.1 = k
    · rw [if_pos c]
      unfold getM
      by_cases e : x = k
      · rw [if_pos e.symm, if_pos e]
      · rw [if_neg (Ne.symm e), if_neg e, if_neg (fun q => e (q.symm.trans c))]
    · rw [if_neg c]
      unfold getM
      by_cases e : p.1 = x
      · rw [if_pos e, if_pos e, if_neg (fun q => c (e.trans q))]
      · rw [if_neg e, if_neg e, ih]

theorem f47_1_eq (m M S o : Nat) (g : Good M S 1 o) : ∀ (k n fuel : Nat) (mp : List (Int × Bool)), n + k = o → k < fuel → (∀ x, getM false mp x = true ↔ ∃ j, j < n ∧ (mrk M S j : Int) = x) →
    f47_1 m fuel M S n (mrk M S n : Int) mp = some (o : Int)
  | k, n, 0, _, _, h, _ => by omega
  | 0, n, fuel + 1, mp, hn, _, hc => by
    have g1 := g.to
    have e : getM false mp (mrk M S n : Int) = true := by
      refine (hc _).2 ⟨0, by omega, ?_⟩
      have : mrk M S n = 0 := by rw [show n = o by omega]; exact g.oz
      rw [this, mrk_zero]
    unfold f47_1
    rw [e, show n = o by omega]
    rfl
  | k + 1, n, fuel + 1, mp, hn, hf, hc => by
    have g1 := g.m1
    have g2 := g.m2
    have g3 := g.s
    have g4 := g.om
    have e : getM false mp (mrk M S n : Int) = false := by
      cases h : getM false mp (mrk M S n : Int) with
      | false => rfl
      | true =>
        obtain ⟨j, j1, j2⟩ := (hc _).1 h
        have := (g.turns (n := o) (Nat.le_refl _)).inj (i := j) (j := n) (by omega) (by omega) (by omega)
        omega
    have c1 : ((M : Int) != 0) = true := by simp; omega
    have hl := mrk_lt (M := M) (S := S) n (by omega)
    unfold f47_1
    rw [e, c1, w64_succ n (by omega), show (mrk M S n : Int) + (S : Int) = ((mrk M S n + S : Nat) : Int) by omega, natw (by omega), tmN, ← mrk_succ]
    simp only [Bool.not_false, cond_true]
    refine f47_1_eq m M S o g k (n + 1) fuel _ (by omega) (by omega) (fun x => ?_)
    rw [getM_putM]
    by_cases c : x = (mrk M S n : Int)
    · rw [if_pos c]
      exact ⟨fun _ => ⟨n, by omega, c.symm⟩, fun _ => rfl⟩
    · rw [if_neg c, hc]
      exact ⟨fun ⟨j, h1, h2⟩ => ⟨j, by omega, h2⟩, fun ⟨j, h1, h2⟩ => ⟨j, by
        rcases Nat.eq_or_lt_of_le (Nat.le_of_lt_succ h1) with q | q
        · exact absurd (by rw [← q]; exact h2.symm) c
        · exact q, h2⟩⟩

theorem good_one (M S : Nat) (h1 : 1 ≤ M) (h2 : M ≤ 100) (h3 : S < M) : ∃ o, Good M S 1 o := by
  obtain ⟨o, _, q2, q3, q4, q5⟩ := f67_min 1001 M S 0 (by omega) (by omega) (by omega) (by omega)
  exact ⟨o, h1, h2, h3, Nat.le_refl _, q2, q3, q4, q5⟩

theorem f47_eq (m M S o : Nat) (hm : 1000 < m) (g : Good M S 1 o) : f47 m M S = some (o : Int) := by
  have g4 := g.om
  have g2 := g.m2
  have h := f47_1_eq m M S o g o 0 m [] (by omega) (by omega) (fun x => ⟨fun q => (by cases q), fun ⟨j, q, _⟩ => (by omega)⟩)
  rw [mrk_zero] at h
  unfold f47
  rw [show ((0 : Int)) = ((0 : Nat) : Int) from rfl, h]
  rfl

/-- A roll by numbers. -/
theorem roll {a b : Int} (wa : (Lit.int .u8 a).wf = true) (wb : (Lit.int .u8 b).wf = true) : ∃ M S : Nat, w64 (1 + Int.tmod (w64 a) 100) = (M : Int) ∧ Int.tmod (w64 b) (M : Int) = (S : Int) ∧ 1 ≤ M ∧ M ≤ 100 ∧ S < M := by
  have ha : 0 ≤ a ∧ a ≤ 255 := by
    have := wa
    simp [Lit.wf, IntKind.min, IntKind.max, IntKind.signed, IntKind.bits] at this
    omega
  have hb : 0 ≤ b ∧ b ≤ 255 := by
    have := wb
    simp [Lit.wf, IntKind.min, IntKind.max, IntKind.signed, IntKind.bits] at this
    omega
  obtain ⟨A, rfl⟩ : ∃ n : Nat, a = n := ⟨a.toNat, by omega⟩
  obtain ⟨B, rfl⟩ : ∃ n : Nat, b = n := ⟨b.toNat, by omega⟩
  have l := Nat.mod_lt A (show 0 < 100 by omega)
  refine ⟨1 + A % 100, B % (1 + A % 100), ?_, ?_, by omega, by omega, Nat.mod_lt _ (by omega)⟩
  · rw [natw (n := A) (by omega), show Int.tmod (A : Int) 100 = ((A % 100 : Nat) : Int) from rfl, show (1 : Int) + ((A % 100 : Nat) : Int) = ((1 + A % 100 : Nat) : Int) by omega, natw (by omega)]
  · rw [natw (n := B) (by omega), tmN]

theorem f20_val (m M S o T : Nat) (hm : 1000 < m) (g : Good M S 1 o) (hT : 1 ≤ T) : f20 m M S T = some (cond (decide (T > o)) 3 0) := by
  have g1 := g.m1
  have g2 := g.m2
  have g3 := g.s
  have g5 := g.to
  unfold f20
  rw [f64_eq, decide_eq_true (p := 1 ≤ (M : Int) ∧ (M : Int) ≤ 100 ∧ 0 ≤ (S : Int) ∧ (S : Int) < (M : Int)) (by omega), f65_eq m M S T (by omega) (by omega) (by omega), ord_gcd (by omega) g5 g.oz g.omin]
  simp only [Option.bind_some, Bool.not_true, cond_false]
  rw [decide_eq_false (by omega)]
  simp only [cond_false]
  by_cases h : T > o
  · rw [decide_eq_true h, decide_eq_true (by omega)]; rfl
  · rw [decide_eq_false h, decide_eq_false (by omega)]; rfl

theorem u8_nat {a : Int} (wa : (Lit.int .u8 a).wf = true) : ∃ A : Nat, a = (A : Int) ∧ A ≤ 255 := by
  have ha : 0 ≤ a ∧ a ≤ 255 := by
    have := wa
    simp [Lit.wf, IntKind.min, IntKind.max, IntKind.signed, IntKind.bits] at this
    omega
  exact ⟨a.toNat, by omega, by omega⟩

theorem roll_turns {t : Int} (wt : (Lit.int .u8 t).wf = true) {o : Nat} (h1 : 1 ≤ o) (h2 : o ≤ 100) : ∃ T : Nat, w64 (1 + Int.tmod (w64 t) (o : Int)) = (T : Int) ∧ 1 ≤ T ∧ T ≤ o := by
  obtain ⟨A, rfl, hA⟩ := u8_nat wt
  have l := Nat.mod_lt A (show 0 < o by omega)
  refine ⟨1 + A % o, ?_, by omega, by omega⟩
  rw [natw (n := A) (by omega), tmN, show (1 : Int) + ((A % o : Nat) : Int) = ((1 + A % o : Nat) : Int) by omega, natw (by omega)]

theorem Good.some {M S o T : Nat} (g : Good M S 1 o) (h1 : 1 ≤ T) (h2 : T ≤ o) : Good M S T o := ⟨g.m1, g.m2, g.s, h1, h2, g.om, g.oz, g.omin⟩

/-! The list of marks -/
def mks (M S : Nat) : Nat → Nat → List Int
  | 0, _ => []
  | k + 1, n => (mrk M S n : Int) :: mks M S k (n + 1)

theorem mks_len (M S : Nat) : ∀ k n, (mks M S k n).length = k
  | 0, _ => rfl
  | k + 1, n => by
    unfold mks
    rw [List.length_cons, mks_len M S k (n + 1)]

theorem mks_get (M S : Nat) : ∀ k n i, i < k → (mks M S k n).getD i 0 = (mrk M S (n + i) : Int)
  | 0, _, _, h => by omega
  | k + 1, n, 0, h => rfl
  | k + 1, n, i + 1, h => by
    have := mks_get M S k (n + 1) i (by omega)
    rw [show n + (i + 1) = n + 1 + i by omega]
    exact this

theorem f46_1_eq (m M S T : Nat) (hM : 0 < M) (hM2 : M ≤ 100) (hS : S < M) (hT : T ≤ 100) : ∀ (k n fuel : Nat) (l : List Int), n + k = T → k < fuel → l.length ≤ n →
    f46_1 m fuel M S T (mrk M S n : Int) n l = some (l ++ mks M S k n)
  | k, n, 0, _, _, h, _ => by omega
  | 0, n, fuel + 1, l, hn, _, _ => by
    unfold f46_1
    rw [decide_eq_false (by omega)]
    simp [mks]
  | k + 1, n, fuel + 1, l, hn, hf, hl => by
    have lm := mrk_lt (M := M) (S := S) n hM
    have c1 : ((M : Int) != 0) = true := by simp; omega
    have hfit : fitsB (l.length + 1) 8 = true := by
      simp only [fitsB, Bool.and_eq_true, Nat.ble_eq]; omega
    unfold f46_1
    rw [decide_eq_true (by omega), hfit, c1, w64_succ n (by omega), show (mrk M S n : Int) + (S : Int) = ((mrk M S n + S : Nat) : Int) by omega, natw (by omega), tmN, ← mrk_succ]
    simp only [cond_true]
    rw [f46_1_eq m M S T hM hM2 hS hT k (n + 1) fuel (l ++ [(mrk M S n : Int)]) (by omega) (by omega) (by simp; omega), List.append_assoc]
    rfl

theorem f46_eq (m M S T : Nat) (hm : 1000 < m) (hM : 0 < M) (hM2 : M ≤ 100) (hS : S < M) (hT : T ≤ 100) : f46 m M S T = some (mks M S T 0) := by
  have h := f46_1_eq m M S T hM hM2 hS hT T 0 m [] (by omega) (by omega) (by simp)
  rw [mrk_zero, List.nil_append] at h
  unfold f46
  rw [show ((0 : Int)) = ((0 : Nat) : Int) from rfl, h]
  rfl
end Go.Xm
