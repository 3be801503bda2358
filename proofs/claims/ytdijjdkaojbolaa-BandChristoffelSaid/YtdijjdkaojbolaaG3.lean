/- The sums of a word, and the smallest part: what the loops of 'added' and 'uneven' come to, in plain Lean. Conditions: none. -/
import Derived.Test.YtdijjdkaojbolaaG2
namespace Go.Xm
set_option linter.unusedVariables false
set_option linter.unusedSimpArgs false

/-- The sums of a word. -/
def pl (a : ByteArray) (k : Nat) : List Int := (List.range (k + 1)).map (fun i => cnt (isB a) i)

theorem pl_length (a : ByteArray) (k : Nat) : (pl a k).length = k + 1 := by simp [pl]

theorem pl_get (a : ByteArray) (k i : Nat) (h : i ≤ k) : (pl a k).getD i 0 = cnt (isB a) i := by
  have h1 : i < k + 1 := by omega
  simp [pl, List.getD_eq_getElem?_getD, h1]

theorem pl_succ (a : ByteArray) (k : Nat) : pl a (k + 1) = pl a k ++ [cnt (isB a) (k + 1)] := by
  simp [pl, List.range_succ]

theorem catS_size (a b : ByteArray) : (catS a b).size = a.size + b.size := by
  show (a.data.toList ++ b.data.toList).length = _
  rw [List.length_append]
  rfl

theorem catS_byte (a : ByteArray) (hn : 0 < a.size) (p : Nat) (hp : p < a.size + a.size) : byteAt (catS a a) (p : Int) = byteAt a ((p % a.size : Nat) : Int) := by
  unfold byteAt
  rw [Int.toNat_natCast, Int.toNat_natCast]
  show (((a.data.toList ++ a.data.toList).getD p 0).toNat : Int) = _
  have hl : a.data.toList.length = a.size := rfl
  by_cases h : p < a.size
  · rw [Nat.mod_eq_of_lt h]
    simp [List.getD_eq_getElem?_getD, List.getElem?_append_left (by rw [hl]; exact h)]
  · have e : p % a.size = p - a.size := by
      rw [Nat.mod_eq_sub_mod (by omega), Nat.mod_eq_of_lt (by omega)]
    rw [e]
    simp only [List.getD_eq_getElem?_getD]
    rw [List.getElem?_append_right (by rw [hl]; omega), hl]

/-- Where the letters are a and b: one step of 'added'. -/
theorem added_step {a : ByteArray} (hn : 0 < a.size) (hs : a.size ≤ 16) (hok : ∀ i, i < a.size → byteAt a i = 97 ∨ byteAt a i = 98) (p : Nat) (hp : p < a.size + a.size) :
    Nat.blt p (catS a a).size = true ∧ inRow (w64 ((((pl a p).length : Nat) : Int) - 1)) (pl a p).length = true ∧ fitsB ((pl a p).length + 1) 8 = true ∧
    (pl a p ++ [cond ((Int.ofNat (Utf8.decode (catS a a) p).1) == 98) (w64 ((List.getD (pl a p) (Int.toNat (w64 ((((pl a p).length : Nat) : Int) - 1))) 0) + 1)) (List.getD (pl a p) (Int.toNat (w64 ((((pl a p).length : Nat) : Int) - 1))) 0)]) = pl a (p + 1) ∧
    p + (Utf8.decode (catS a a) p).2 = p + 1 := by
  have hsz := catS_size a a
  have hb := catS_byte a hn p hp
  have hm := hok (p % a.size) (Nat.mod_lt _ hn)
  have hlo : byteAt (catS a a) (p : Int) < 128 := by rw [hb]; omega
  obtain ⟨d1, d2⟩ := decode_lo (catS a a) p (by omega) hlo
  have d1' : (Int.ofNat (Utf8.decode (catS a a) p).1) = byteAt a ((p % a.size : Nat) : Int) := by rw [← hb]; exact d1
  have hl := pl_length a p
  have hw : w64 ((((pl a p).length : Nat) : Int) - 1) = (p : Int) := by rw [hl, w64_id (by omega) (by omega)]; omega
  have hg : List.getD (pl a p) p 0 = cnt (isB a) p := pl_get a p p (Nat.le_refl _)
  have hc := cnt_nonneg (isB a) p
  refine ⟨by rw [Nat.blt_eq]; omega, ?_, ?_, ?_, by rw [d2]⟩
  · rw [hw, hl]; exact inRow_iff.2 ⟨by omega, by omega⟩
  · rw [hl]
    simp only [fitsB, Bool.and_eq_true, Nat.ble_eq]
    omega
  · rw [hw, Int.toNat_natCast, hg, d1', w64_id (by omega) (by omega), pl_succ]
    simp only [cnt, isB]

theorem added_end (a : ByteArray) : Nat.blt (a.size + a.size) (catS a a).size = false := by
  cases h : Nat.blt (a.size + a.size) (catS a a).size with
  | false => rfl
  | true => rw [Nat.blt_eq, catS_size] at h; omega

theorem dbl_ok {a : ByteArray} (hs : a.size ≤ 16) : Nat.ble (a.size + a.size) 9223372036854775807 = true := by rw [Nat.ble_eq]; omega

/-- A part, out of the sums. -/
theorem part_of {a : ByteArray} (hs : a.size ≤ 16) (l i : Nat) (hi : i + l ≤ a.size + a.size) :
    inRow (w64 ((i : Int) + (l : Int))) (pl a (a.size + a.size)).length = true ∧ inRow (i : Int) (pl a (a.size + a.size)).length = true ∧
    w64 ((List.getD (pl a (a.size + a.size)) (Int.toNat (w64 ((i : Int) + (l : Int)))) 0) - (List.getD (pl a (a.size + a.size)) (Int.toNat (i : Int)) 0)) = prt a l i := by
  have hw : w64 ((i : Int) + (l : Int)) = ((i + l : Nat) : Int) := by rw [w64_id (by omega) (by omega)]; rfl
  have hl := pl_length a (a.size + a.size)
  rw [hw, hl]
  refine ⟨inRow_iff.2 ⟨by omega, by omega⟩, inRow_iff.2 ⟨by omega, by omega⟩, ?_⟩
  rw [Int.toNat_natCast, Int.toNat_natCast, pl_get a _ _ hi, pl_get a _ _ (by omega)]
  have := prt_range a l i
  unfold prt at this ⊢
  exact w64_id (by omega) (by omega)

/-- The first smallest one. -/
def amin (V : Nat → Int) : Nat → Nat → Int → Int → Int × Int
  | 0, _, x, f => (x, f)
  | k + 1, i, x, f => amin V k (i + 1) (cond (decide (V i < f)) (i : Int) x) (cond (decide (V i < f)) (V i) f)

theorem amin_ok (V : Nat → Int) : ∀ (k i : Nat) (x f : Int), (amin V k i x f).2 ≤ f ∧ (∀ j, i ≤ j → j < i + k → (amin V k i x f).2 ≤ V j) ∧
    ((amin V k i x f = (x, f)) ∨ ∃ j : Nat, i ≤ j ∧ j < i + k ∧ amin V k i x f = ((j : Int), V j))
  | 0, i, x, f => ⟨Int.le_refl _, fun j h1 h2 => by omega, .inl rfl⟩
  | k + 1, i, x, f => by
    simp only [amin]
    by_cases h : V i < f
    · rw [decide_eq_true h]
      simp only [cond_true]
      obtain ⟨a1, a2, a3⟩ := amin_ok V k (i + 1) (i : Int) (V i)
      refine ⟨by omega, fun j h1 h2 => ?_, .inr ?_⟩
      · by_cases e : j = i
        · subst e; exact a1
        · exact a2 j (by omega) (by omega)
      · rcases a3 with a3 | ⟨j, b1, b2, b3⟩
        · exact ⟨i, Nat.le_refl _, by omega, a3⟩
        · exact ⟨j, by omega, by omega, b3⟩
    · rw [decide_eq_false h]
      simp only [cond_false]
      obtain ⟨a1, a2, a3⟩ := amin_ok V k (i + 1) x f
      refine ⟨a1, fun j h1 h2 => ?_, ?_⟩
      · by_cases e : j = i
        · subst e; omega
        · exact a2 j (by omega) (by omega)
      · rcases a3 with a3 | ⟨j, b1, b2, b3⟩
        · exact .inl a3
        · exact .inr ⟨j, by omega, by omega, b3⟩

/-- What the program asks of the parts of a length, with the first smallest one at hand. -/
def ask (V : Nat → Int) (L f : Int) (x : Nat) : Option Nat := cond (decide (V x < f + 2)) none (fnd (fun y => decide (V y + 2 ≤ V x)) (L + 1).toNat 0)

theorem ask_two (a : ByteArray) (B l : Nat) (hB : 0 < B) (f0 : Int) (hf : ∀ i, prt a l i < f0) :
    fndM (ask (prt a l) (amin (prt a l) B 0 0 f0).1 (amin (prt a l) B 0 0 f0).2) B 0 = two a B l := by
  obtain ⟨a1, a2, a3⟩ := amin_ok (prt a l) B 0 0 f0
  unfold two
  refine fndM_congr B 0 (fun x _ hx => ?_)
  obtain ⟨j, hj, hj1, hj2⟩ : ∃ j : Nat, j < B ∧ (amin (prt a l) B 0 0 f0).1 = (j : Int) ∧ (amin (prt a l) B 0 0 f0).2 = prt a l j := by
    rcases a3 with a3 | ⟨j, b1, b2, b3⟩
    · have := a2 0 (Nat.le_refl _) (by omega)
      rw [a3] at this
      have := hf 0
      omega
    · exact ⟨j, by omega, by rw [b3], by rw [b3]⟩
  unfold ask
  rw [hj1, hj2]
  by_cases h : prt a l x < prt a l j + 2
  · rw [decide_eq_true h]
    refine (fnd_none B 0 (fun y _ hy => decide_eq_false ?_)).symm
    have := a2 y (Nat.zero_le _) (by omega)
    rw [hj2] at this
    omega
  · rw [decide_eq_false h]
    simp only [cond_false, ge_iff_le]
    have e : ((j : Int) + 1).toNat = j + 1 := by omega
    rw [e]
    exact fnd_more (j + 1) B 0 j (Nat.zero_le _) (by omega) (by omega) (decide_eq_true (by omega))

theorem two_zero (a : ByteArray) (B : Nat) : two a B 0 = none := by
  unfold two
  refine fndM_none B 0 (fun x _ _ => fnd_none B 0 (fun y _ _ => decide_eq_false ?_))
  have h1 := prt_range a 0 x
  have h2 := prt_range a 0 y
  omega

/-- All lengths from 0 on: the same as from 1 on. -/
theorem agn_zero (a : ByteArray) (st : Bool) : fndM (fun l => two a (begs a st l) l) (a.size + 1) 0 = agn a st := by
  unfold agn
  simp only [fndM, two_zero]

end Go.Xm
