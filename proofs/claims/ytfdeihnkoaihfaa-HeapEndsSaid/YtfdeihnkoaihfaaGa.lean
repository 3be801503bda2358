/- HeapMore: the number of hands that is returned is the least one; a wider heap, a heap less. Conditions: none. -/
import Derived.Test.YtfdeihnkoaihfaaGp
import Derived.Test.YtfdeihnkoaihfaaCa
namespace Go.Xm
set_option linter.unusedVariables false
set_option linter.unusedSimpArgs false
set_option maxRecDepth 20000

noncomputable def needN (l : List Hp) : Nat → Nat → Nat
  | 0, n => n
  | d + 1, n => cond (fitsB' n l) n (needN l d (n + 1))

theorem fits_len (l : List Hp) : Fits l.length l := fun a b h1 h2 h3 => by
  have h4 := crw_le l a b
  have h5 : (l.length : Int) * 1 ≤ l.length * (b - a + 1) := Int.mul_le_mul_of_nonneg_left (by omega) (by omega)
  omega

theorem fits_zero {l : List Hp} (ho : OkL l) (hf : Fits 0 l) : l = [] := by
  have h := hf 0 23 (by omega) (by omega) (by omega)
  have h1 : crw l 0 23 = l.length := countP_every (fun x hx => by
    have := ho x hx
    simp only [Bool.and_eq_true, decide_eq_true_eq]; omega)
  rw [h1] at h
  have e : (((0 : Nat) : Int)) * (23 - 0 + 1) = 0 := by simp
  rw [e] at h
  exact List.eq_nil_of_length_eq_zero (by omega)

theorem f29_1_eq (m : Nat) (hm : 1001 ≤ m) (l : List Hp) (h10 : l.length ≤ 10) (ho : OkL l) : ∀ (d fuel n : Nat), n + d = l.length → d + 1 < fuel → (1 ≤ n ∨ l = []) → f29_1 m fuel l (n : Int) = some ((needN l d n : Nat) : Int)
  | 0, fuel + 1, n, hd, hfu, h0 => by
    rw [f29_1, f58_eq m hm l _ n rfl (by omega) (by omega) ho h0]
    have hn : n = l.length := by omega
    have : fitsB' n l = true := by rw [hn]; exact fitsB'_iff.2 (fits_len l)
    rw [this]; rfl
  | d + 1, fuel + 1, n, hd, hfu, h0 => by
    rw [f29_1, f58_eq m hm l _ n rfl (by omega) (by omega) ho h0, nat_succ n (by omega)]
    unfold needN
    cases hb : fitsB' n l with
    | true => rfl
    | false => exact f29_1_eq m hm l h10 ho d fuel (n + 1) (by omega) (by omega) (.inl (by omega))


theorem f29_ok1 (m : Nat) (hm : 1001 ≤ m) (l : List Hp) (h10 : l.length ≤ 10) (ho : OkL l) : f29 m l = some (((needN l l.length 0 : Nat) : Int), 0) := by
  unfold f29
  rw [f23_ok0 m (by omega) l ho h10]
  show (f29_1 m m l _).bind _ = _
  cases l with
  | nil =>
    show (f29_1 m m [] ((0 : Nat) : Int)).bind _ = _
    rw [f29_1_eq m hm [] h10 ho 0 m 0 rfl (by omega) (.inr rfl)]
    rfl
  | cons h l0 =>
    have e2 : iMin 1 (((h :: l0).length : Nat) : Int) = ((1 : Nat) : Int) := by
      rw [iMin_eq]; simp only [List.length_cons]; omega
    rw [e2]
    show (f29_1 m m (h :: l0) ((1 : Nat) : Int)).bind _ = _
    rw [f29_1_eq m hm (h :: l0) h10 ho l0.length m 1 (by simp only [List.length_cons]; omega) (by simp only [List.length_cons] at h10; omega) (.inl (by omega))]
    show some _ = some (((needN (h :: l0) (l0.length + 1) 0 : Nat) : Int), (0 : Int))
    unfold needN
    have : fitsB' 0 (h :: l0) = false := by
      cases hb : fitsB' 0 (h :: l0) with
      | false => rfl
      | true => cases fits_zero ho (fitsB'_iff.1 hb)
    rw [this]
    cases l0.length <;> rfl

/-! ### The least number of hands -/
theorem needN_spec (l : List Hp) : ∀ (d n : Nat), n + d = l.length → Fits (needN l d n) l ∧ needN l d n ≤ l.length ∧ ∀ j, n ≤ j → Fits j l → needN l d n ≤ j
  | 0, n, h => ⟨by
      have : n = l.length := by omega
      show Fits n l
      rw [this]; exact fits_len l, by show n ≤ _; omega, fun j hj _ => hj⟩
  | d + 1, n, h => by
    unfold needN
    cases hb : fitsB' n l with
    | true => exact ⟨fitsB'_iff.1 hb, by show n ≤ _; omega, fun j hj _ => hj⟩
    | false =>
      obtain ⟨q1, q2, q3⟩ := needN_spec l d (n + 1) (by omega)
      refine ⟨q1, q2, fun j hj hf => q3 j ?_ hf⟩
      by_cases e : j = n
      · subst e
        rw [fitsB'_iff.2 hf] at hb; cases hb
      · omega

noncomputable def need (l : List Hp) : Nat := needN l l.length 0
theorem need_fits (l : List Hp) : Fits (need l) l := (needN_spec l l.length 0 (by omega)).1
theorem need_le (l : List Hp) : need l ≤ l.length := (needN_spec l l.length 0 (by omega)).2.1
theorem need_least {l : List Hp} {j : Nat} (h : Fits j l) : need l ≤ j := (needN_spec l l.length 0 (by omega)).2.2 j (by omega) h
theorem need_iff {l : List Hp} {j : Nat} : need l ≤ j ↔ Fits j l := ⟨fun h => fits_more h (need_fits l), need_least⟩

theorem fits_wide {n : Nat} {A R : List Hp} {h : Hp} (hf : Fits n (A ++ h :: R)) : Fits n (A ++ (h.1 - 1, h.2 + 1) :: R) := fun a b h1 h2 h3 => by
  have := hf a b h1 h2 h3
  rw [crw_mid] at this ⊢
  by_cases q : a ≤ h.1 - 1 ∧ h.2 + 1 ≤ b
  · rw [if_pos (by omega)] at this
    rw [if_pos q]; exact this
  · rw [if_neg q]
    omega

theorem fits_less {n : Nat} {A R : List Hp} {h : Hp} (hf : Fits n (A ++ h :: R)) : Fits n (A ++ R) := fun a b h1 h2 h3 => by
  have := hf a b h1 h2 h3
  rw [crw_mid] at this
  omega

theorem fits_back {n : Nat} {A R : List Hp} {h : Hp} (hf : Fits n (A ++ R)) : Fits (n + 1) (A ++ h :: R) := fun a b h1 h2 h3 => by
  have := hf a b h1 h2 h3
  rw [crw_mid]
  have e : (((n + 1 : Nat) : Nat) : Int) * (b - a + 1) = n * (b - a + 1) + (b - a + 1) := by rw [Int.natCast_add, Int.add_mul, Int.natCast_one, Int.one_mul]
  rw [e]
  have h5 : 1 ≤ b - a + 1 := by omega
  generalize (n : Int) * (b - a + 1) = X at this ⊢
  split <;> omega

end Go.Xm
