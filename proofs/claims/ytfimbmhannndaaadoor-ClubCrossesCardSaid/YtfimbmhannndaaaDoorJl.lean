/- ClubCrosses: it answers true, whatever the input. Plain Lean. Conditions: none. -/
import Derived.Test.YtfimbmhannndaaaDoorJk
import Derived.Test.YtfimbmhannndaaaDoorId
namespace Go.Xm
set_option linter.unusedVariables false
set_option linter.unusedSimpArgs false
set_option maxRecDepth 20000

theorem allP_len (p : Nat → Nat → Bool) {k : Nat} (h8 : k ≤ 8) : ∀ r x, (allP p k r x).length ≤ 8 * r
  | 0, _ => Nat.le_refl _
  | r + 1, x => by
    have ih := allP_len p h8 r (x + 1)
    have := rowP_len p x (k - (x + 1)) (x + 1)
    unfold allP
    rw [List.length_append]
    omega

theorem crossR_len {k : Nat} (h8 : k ≤ 8) (T : List (Int × Int)) (b c : Nat) (t s : Int × Int) (u v : Int) : (crossR k T b c t s u v).2.1.length ≤ 64 := by
  unfold crossR
  have h := allP_len (hasP ((t.1, u) :: (t.2, v) :: rmv b c 0 T)) h8 k 0
  have h6 : (allP (hasP ((t.1, u) :: (t.2, v) :: rmv b c 0 T)) k k 0).length ≤ 64 := by omega
  cases (t.1 == s.1) with
  | true => show 0 ≤ 64; omega
  | false =>
    cases (t.1 == s.2) with
    | true => show 0 ≤ 64; omega
    | false =>
      cases (t.2 == s.1) with
      | true => show 0 ≤ 64; omega
      | false =>
        cases (t.2 == s.2) with
        | true => show 0 ≤ 64; omega
        | false =>
          cases hasB t.1 u T with
          | true => show 0 ≤ 64; omega
          | false =>
            cases hasB t.2 v T with
            | true => show 0 ≤ 64; omega
            | false => exact h6

theorem cross_both (m : Nat) (hm : 1001 ≤ m) (n : Int) (T : List (Int × Int)) (hl : T.length ≤ 60) (b c : Int) (d : Bool) : ∃ X : Int × List (Int × Int) × Int, f30 m n T b c d = some X ∧ f31 m n T b c d = some X ∧ X.2.1.length ≤ 64 := by
  by_cases h : cpR n T = 0
  · by_cases hbc : (0 ≤ b ∧ b ≤ (T.length : Int) - 1) ∧ (0 ≤ c ∧ c ≤ (T.length : Int) - 1)
    · rcases f74_eq m hm n T (by omega) with ⟨w, _⟩ | ⟨_, k, r, hk, k1, k8, R, w⟩
      · exact absurd h w
      · subst hk
        obtain ⟨b', rfl⟩ : ∃ b' : Nat, b = (b' : Int) := ⟨b.toNat, by omega⟩
        obtain ⟨c', rfl⟩ : ∃ c' : Nat, c = (c' : Int) := ⟨c.toNat, by omega⟩
        exact ⟨_, f30_fine m hm k k8 T hl b' c' d h (by omega) (by omega), f31_fine m hm k k8 T hl b' c' d h (by omega) (by omega), crossR_len k8 T b' c' _ _ _ _⟩
    · exact ⟨(0, [], 2), f30_none m hm n T hl b c d h hbc, f31_none m hm n T hl b c d h hbc, by show 0 ≤ 64; omega⟩
  · exact ⟨(0, [], cpR n T), f30_bad m hm n T hl b c d h, f31_bad m hm n T hl b c d h, by show 0 ≤ 64; omega⟩

theorem f5_1_eq (m : Nat) (n : Int) (T L : List (Int × Int)) (hl : L.length ≤ 64) (x y z w : Int) : ∀ (r i fuel : Nat), i + r = L.length → r < fuel → f5_1 m fuel n T (i : Int) L x L y z w = some (.x0 L x L y z w)
  | 0, i, fuel + 1, hi, _ => by
    rw [f5_1, dcF (p := (i : Int) < ((L.length : Nat) : Int)) (by omega)]; rfl
  | r + 1, i, fuel + 1, hi, hf => by
    have ih := f5_1_eq m n T L hl x y z w r (i + 1) fuel (by omega) (by omega)
    rw [f5_1, dcT (p := (i : Int) < ((L.length : Nat) : Int)) (by omega), inR (show i < L.length by omega), nat_succ _ (by omega), ih]
    simp

theorem f5_true (m : Nat) (hm : 1001 ≤ m) (n : Int) (T : List (Int × Int)) (b c : Int) (d : Bool) : f5 m n T b c d = some true := by
  unfold f5
  by_cases hl : T.length > 60
  · rw [dcT (p := ((T.length : Nat) : Int) > 60) (by omega)]; rfl
  · rw [dcF (p := ((T.length : Nat) : Int) > 60) (by omega)]
    obtain ⟨X, h1, h2, h3⟩ := cross_both m hm n T (by omega) b c d
    rw [h1, h2]
    have h := f5_1_eq m n T X.2.1 h3 X.1 X.1 X.1 X.1 X.2.1.length 0 m (by omega) (by omega)
    have h' : f5_1 m m n T 0 X.2.1 X.1 X.2.1 X.1 X.1 X.1 = _ := h
    simp [h']

end Go.Xm
