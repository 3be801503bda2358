/- There is a plan of counts of at most five sorters just if it is found so: all plans, and all lists of counts. Conditions: none. -/
import Derived.Test.YtfimbmhannndaaaDoorCd
namespace Go.Xm
set_option linter.unusedVariables false
set_option linter.unusedSimpArgs false

def edgeN (n : Nat) : List (Nat × Nat) := (List.range n).flatMap fun a => ((List.range n).filter fun b => Nat.blt a b).map fun b => (a, b)

/-- The counts of the plan with these tables, as one number. -/
def codeN (n : Nat) : List (Nat × Nat) → Nat → Nat
  | [], _ => 0
  | e :: l, s => (if s % 2 = 1 then n ^ e.1 + n ^ e.2 else 0) + codeN n l (s / 2)

def setB (n : Nat) (l : List (Nat × Nat)) : Nat → Nat → Nat
  | 0, b => b
  | k + 1, b => setB n l k (b ||| (1 <<< codeN n l k))

def digN (n : Nat) : Nat → Nat → List Nat
  | 0, _ => []
  | k + 1, x => x % n :: digN n k (x / n)

def tabG (n : Nat) : Bool := (List.range (n ^ n)).all fun x => (((setB n (edgeN n) (2 ^ (n * (n - 1) / 2)) 0) >>> x) % 2 == 1) == canN 8 (sortN (digN n n x)).reverse

theorem tabG1 : tabG 1 = true := by kernel_rfl
theorem tabG2 : tabG 2 = true := by kernel_rfl
theorem tabG3 : tabG 3 = true := by kernel_rfl
theorem tabG4 : tabG 4 = true := by kernel_rfl
theorem tabG5 : tabG 5 = true := by kernel_rfl

theorem tabG_ok {n : Nat} (h1 : 1 ≤ n) (h2 : n ≤ 5) : tabG n = true := by
  rcases (by omega : n = 1 ∨ n = 2 ∨ n = 3 ∨ n = 4 ∨ n = 5) with rfl | rfl | rfl | rfl | rfl
  · exact tabG1
  · exact tabG2
  · exact tabG3
  · exact tabG4
  · exact tabG5

/-- A list of digits as a number. -/
def numN (n : Nat) : List Nat → Nat
  | [] => 0
  | x :: l => x + n * numN n l

theorem digN_num {n : Nat} : ∀ l : List Nat, (∀ x ∈ l, x < n) → digN n l.length (numN n l) = l
  | [], _ => rfl
  | x :: l, h => by
    have hx := h x List.mem_cons_self
    have ih := digN_num l (fun y hy => h y (List.mem_cons_of_mem _ hy))
    show (x + n * numN n l) % n :: digN n l.length ((x + n * numN n l) / n) = x :: l
    rw [Nat.add_mul_mod_self_left, Nat.mod_eq_of_lt hx, Nat.add_mul_div_left _ _ (by omega), Nat.div_eq_of_lt hx, Nat.zero_add, ih]

theorem num_lt {n : Nat} : ∀ l : List Nat, (∀ x ∈ l, x < n) → numN n l < n ^ l.length
  | [], _ => by show 0 < n ^ 0; rw [Nat.pow_zero]; omega
  | x :: l, h => by
    have hx := h x List.mem_cons_self
    have ih := num_lt l (fun y hy => h y (List.mem_cons_of_mem _ hy))
    show x + n * numN n l < n ^ (l.length + 1)
    rw [Nat.pow_succ, Nat.mul_comm]
    have h2 : (numN n l + 1) * n ≤ n ^ l.length * n := Nat.mul_le_mul_right n ih
    have h3 : (numN n l + 1) * n = numN n l * n + n := Nat.succ_mul _ _
    omega

theorem setB_bit (n : Nat) (l : List (Nat × Nat)) (x : Nat) : ∀ (K b : Nat), (setB n l K b).testBit x = true ↔ b.testBit x = true ∨ ∃ s, s < K ∧ codeN n l s = x
  | 0, b => by
    show b.testBit x = true ↔ _
    constructor
    · exact fun h => Or.inl h
    · rintro (h | ⟨s, h, _⟩)
      · exact h
      · omega
  | K + 1, b => by
    have ih := setB_bit n l x K (b ||| (1 <<< codeN n l K))
    show (setB n l K (b ||| (1 <<< codeN n l K))).testBit x = true ↔ _
    rw [ih, Nat.testBit_or, Bool.or_eq_true, Nat.one_shiftLeft]
    constructor
    · rintro ((h | h) | ⟨s, h1, h2⟩)
      · exact Or.inl h
      · refine Or.inr ⟨K, by omega, ?_⟩
        by_cases e : codeN n l K = x
        · exact e
        · rw [Nat.testBit_two_pow_of_ne e] at h; cases h
      · exact Or.inr ⟨s, by omega, h2⟩
    · rintro (h | ⟨s, h1, h2⟩)
      · exact Or.inl (Or.inl h)
      · by_cases e : s = K
        · subst e
          subst h2
          exact Or.inl (Or.inr Nat.testBit_two_pow_self)
        · exact Or.inr ⟨s, by omega, h2⟩

/-- There is a plan of counts just if it is found so. -/
theorem gallai {n : Nat} (h1 : 1 ≤ n) (h2 : n ≤ 5) {l : List Nat} (hl : l.length = n) (hx : ∀ x ∈ l, x < n) : canN 8 (sortN l).reverse = true ↔ ∃ s, s < 2 ^ (n * (n - 1) / 2) ∧ codeN n (edgeN n) s = numN n l := by
  have ht := List.all_eq_true.1 (tabG_ok h1 h2) (numN n l) (List.mem_range.2 (by have := num_lt l hx; rwa [hl] at this))
  have hd := digN_num l hx
  rw [hl] at hd
  rw [hd] at ht
  have ht := eq_of_beq ht
  rw [← ht]
  have hb := setB_bit n (edgeN n) (numN n l) (2 ^ (n * (n - 1) / 2)) 0
  rw [Nat.zero_testBit] at hb
  rw [beq_iff_eq, Nat.shiftRight_eq_div_pow]
  rw [Nat.testBit_eq_decide_div_mod_eq, decide_eq_true_iff] at hb
  rw [hb]
  constructor
  · rintro (h | h)
    · cases h
    · exact h
  · exact fun h => Or.inr h
end Go.Xm
