/- A quick way to ask whether all parts of a length differ by one letter at most; it agrees with the slow one. Conditions: none. -/
import Derived.Test.YtdijjdkaojbolaaGc
namespace Go.Xm
set_option linter.unusedVariables false
set_option linter.unusedSimpArgs false

def lmin : List Nat → Nat
  | [] => 1000
  | [x] => x
  | x :: y :: l => cond (Nat.ble x (lmin (y :: l))) x (lmin (y :: l))

theorem lmin_le : ∀ (S : List Nat) (v : Nat), v ∈ S → lmin S ≤ v
  | [], v, h => by cases h
  | [x], v, h => by simp at h; subst h; exact Nat.le_refl _
  | x :: y :: l, v, h => by
    simp only [lmin]
    cases hb : Nat.ble x (lmin (y :: l)) with
    | true =>
      have hb := Nat.le_of_ble_eq_true hb
      rcases List.mem_cons.1 h with e | e
      · subst e; exact Nat.le_refl _
      · have := lmin_le (y :: l) v e
        simp only [cond_true]; omega
    | false =>
      have hb : ¬ x ≤ lmin (y :: l) := fun q => by
        have q2 : Nat.ble x (lmin (y :: l)) = true := by rw [Nat.ble_eq]; exact q
        rw [q2] at hb; cases hb
      simp only [cond_false]
      rcases List.mem_cons.1 h with e | e
      · omega
      · exact lmin_le (y :: l) v e

theorem lmin_mem : ∀ (S : List Nat), S ≠ [] → lmin S ∈ S
  | [], h => absurd rfl h
  | [x], _ => List.mem_cons_self ..
  | x :: y :: l, _ => by
    simp only [lmin]
    cases Nat.ble x (lmin (y :: l)) with
    | true => exact List.mem_cons_self ..
    | false => exact List.mem_cons_of_mem _ (lmin_mem (y :: l) (by intro h; cases h))

def spOK (S : List Nat) : Bool := S.all (fun s => Nat.ble s (lmin S + 1))

theorem spOK_iff (S : List Nat) : spOK S = true ↔ ∀ u v, u ∈ S → v ∈ S → u < v + 2 := by
  unfold spOK
  rw [List.all_eq_true]
  constructor
  · intro h u v hu hv
    have := Nat.le_of_ble_eq_true (h u hu)
    have := lmin_le S v hv
    omega
  · intro h u hu
    have := h u (lmin S) hu (lmin_mem S (by intro e; subst e; cases hu))
    rw [Nat.ble_eq]; omega

def zadd (S D : List Nat) : List Nat := List.zipWith Nat.add S D

def winOK : Nat → List Nat → List Nat → Bool
  | 0, _, _ => true
  | k + 1, S, D => cond (spOK (zadd S D)) (winOK k (zadd S D) D.tail) false

def b01 (b : Bool) : Nat := cond b 1 0

theorem prt_succ (a : ByteArray) (l x : Nat) : prt a (l + 1) x = prt a l x + (b01 (isB a (x + l)) : Int) := by
  unfold prt b01
  have e : x + (l + 1) = (x + l) + 1 := rfl
  rw [e]
  simp only [cnt]
  cases isB a (x + l) <;> simp only [cond_true, cond_false] <;> omega

theorem getD_lt {l : List Nat} {i : Nat} (h : i < l.length) : l[i]? = some (l.getD i 0) := by
  rw [List.getD_eq_getElem?_getD, List.getElem?_eq_getElem h]; rfl

theorem winOK_eq (a : ByteArray) (B : Nat → Nat) : ∀ (k l : Nat) (S D : List Nat), (∀ x, x < S.length → (S.getD x 0 : Int) = prt a l x) → (∀ x, x < D.length → D.getD x 0 = b01 (isB a (x + l))) →
    (∀ j, l < j → j ≤ l + k → B j = min S.length (D.length - (j - (l + 1)))) → winOK k S D = (fndM (fun l => two a (B l) l) k (l + 1)).isNone
  | 0, _, _, _, _, _, _ => rfl
  | k + 1, l, S, D, hS, hD, hB => by
    have hlen : (zadd S D).length = min S.length D.length := List.length_zipWith
    have hB0 : B (l + 1) = (zadd S D).length := by
      rw [hlen, hB (l + 1) (by omega) (by omega)]
      have : l + 1 - (l + 1) = 0 := by omega
      rw [this, Nat.sub_zero]
    have hS' : ∀ x, x < (zadd S D).length → ((zadd S D).getD x 0 : Int) = prt a (l + 1) x := by
      intro x hx
      have h1 : x < S.length := by omega
      have h2 : x < D.length := by omega
      have : (zadd S D).getD x 0 = S.getD x 0 + D.getD x 0 := by
        unfold zadd
        rw [List.getD_eq_getElem?_getD, List.getElem?_zipWith, getD_lt h1, getD_lt h2]
        rfl
      rw [this, prt_succ, ← hS x h1, hD x h2]
      omega
    have hT : spOK (zadd S D) = (two a (B (l + 1)) (l + 1)).isNone := by
      rw [Bool.eq_iff_iff, spOK_iff, Option.isNone_iff_eq_none, two_none_iff, hB0]
      constructor
      · intro h x y hx hy
        have mx : (zadd S D).getD x 0 ∈ zadd S D := List.mem_of_getElem? (getD_lt hx)
        have my : (zadd S D).getD y 0 ∈ zadd S D := List.mem_of_getElem? (getD_lt hy)
        have := h _ _ mx my
        rw [← hS' x hx, ← hS' y hy]
        omega
      · intro h u v hu hv
        obtain ⟨x, hx, ex⟩ := List.mem_iff_getElem.1 hu
        obtain ⟨y, hy, ey⟩ := List.mem_iff_getElem.1 hv
        have := h x y hx hy
        rw [← hS' x hx, ← hS' y hy] at this
        have e1 : (zadd S D).getD x 0 = u := by rw [List.getD_eq_getElem?_getD, List.getElem?_eq_getElem hx, ex]; rfl
        have e2 : (zadd S D).getD y 0 = v := by rw [List.getD_eq_getElem?_getD, List.getElem?_eq_getElem hy, ey]; rfl
        rw [e1, e2] at this
        omega
    have ih := winOK_eq a B k (l + 1) (zadd S D) D.tail hS' (fun x hx => by
        have hx' : x + 1 < D.length := by rw [List.length_tail] at hx; omega
        have e : D.tail.getD x 0 = D.getD (x + 1) 0 := by cases D <;> rfl
        rw [e, hD (x + 1) hx']
        congr 2
        omega)
      (fun j h1 h2 => by
        rw [hB j (by omega) (by omega), hlen, List.length_tail]
        omega)
    unfold winOK fndM
    rw [hT]
    cases two a (B (l + 1)) (l + 1) with
    | some v => rfl
    | none => exact ih

/-! ### Spelled words -/
def bitN (b i : Nat) : Nat := (b >>> i) % 2

def bitsL (b : Nat) : Nat → List Nat
  | 0 => []
  | k + 1 => bitN b k :: bitsL b k

theorem bitsL_length (b : Nat) : ∀ k, (bitsL b k).length = k
  | 0 => rfl
  | k + 1 => by simp [bitsL, bitsL_length b k]

theorem bitsL_get (b : Nat) : ∀ (k i : Nat), i < k → (bitsL b k).getD i 0 = bitN b (k - 1 - i)
  | 0, i, h => by omega
  | k + 1, 0, _ => by
    have e : k + 1 - 1 - 0 = k := by omega
    rw [e]; rfl
  | k + 1, i + 1, h => by
    have e : k + 1 - 1 - (i + 1) = k - 1 - i := by omega
    rw [e, ← bitsL_get b k i (by omega)]
    rfl

theorem bitV_eq (b i : Nat) (hb : b < 65536) (hi : i ≤ 16) : bitV (b : Int) (i : Int) = (bitN b i : Int) := by
  unfold bitV bitN andV
  have h1 : shV false .u16 (b : Int) (i : Int) = ((b >>> i : Nat) : Int) := by
    unfold shV
    have e : min ((i : Int)).toNat IntKind.u16.bits = i := by
      rw [Int.toNat_natCast]
      show min i 16 = i
      omega
    simp only [e]
    rw [Nat.shiftRight_eq_div_pow]
    have : (2 : Int) ^ i = ((2 ^ i : Nat) : Int) := by simp
    rw [this, Int.fdiv_eq_ediv_of_nonneg _ (Int.natCast_nonneg _)]
    rfl
  rw [h1]
  have h2 : (BitVec.ofInt IntKind.u16.bits 1).toNat = 1 := rfl
  have h3 : (BitVec.ofInt IntKind.u16.bits ((b >>> i : Nat) : Int)).toNat = b >>> i := by
    have hle : b >>> i ≤ b := by rw [Nat.shiftRight_eq_div_pow]; exact Nat.div_le_self _ _
    rw [BitVec.ofInt_natCast, BitVec.toNat_ofNat]
    exact Nat.mod_eq_of_lt (by show b >>> i < 2 ^ 16; omega)
  rw [BitVec.toNat_and, h2, h3, Nat.and_one_is_mod]
  rcases Nat.mod_two_eq_zero_or_one (b >>> i) with h | h <;> rw [h] <;> rfl

theorem spl_isB (n b : Nat) (hb : b < 65536) (h0 : 0 < n) (hn : n ≤ 16) (i : Nat) : b01 (isB (spl n b) i) = bitN b (n - 1 - i % n) := by
  unfold isB
  rw [spl_size, spl_byte n b (i % n) (Nat.mod_lt _ h0)]
  have h := bitV_eq b (n - 1 - i % n) hb (by omega)
  unfold letter
  rw [h]
  have h2 : bitN b (n - 1 - i % n) = 0 ∨ bitN b (n - 1 - i % n) = 1 := Nat.mod_two_eq_zero_or_one _
  rcases h2 with h2 | h2 <;> rw [h2] <;> rfl

/-- The letters of a word, as numbers. -/
def bitsA (a : ByteArray) : List Nat := a.data.toList.map (fun u => cond (u == 98) 1 0)

theorem start_ok (a : ByteArray) (n : Nat) : ∀ x, x < (List.replicate n 0).length → (((List.replicate n 0).getD x 0 : Nat) : Int) = prt a 0 x := by
  intro x hx
  have : (List.replicate n 0).getD x 0 = 0 := by
    rw [List.getD_eq_getElem?_getD, List.getElem?_eq_getElem hx]
    simp
  rw [this]
  unfold prt
  rw [Nat.add_zero]
  omega

theorem stA_eq {a : ByteArray} (h0 : 0 < a.size) : winOK a.size (List.replicate a.size 0) (bitsA a) = (agn a true).isNone := by
  have hl : (bitsA a).length = a.size := by unfold bitsA; rw [List.length_map]; rfl
  have := winOK_eq a (begs a true) a.size 0 (List.replicate a.size 0) (bitsA a) (start_ok _ a.size)
    (fun x hx => by
      rw [Nat.add_zero]
      have hx' : x < a.data.toList.length := by rw [hl] at hx; exact hx
      have e : (bitsA a).getD x 0 = cond (a.data.toList.getD x 0 == 98) 1 0 := by
        unfold bitsA
        rw [List.getD_eq_getElem?_getD, List.getElem?_map, List.getD_eq_getElem?_getD, List.getElem?_eq_getElem hx']
        rfl
      rw [e]
      unfold isB b01
      rw [Nat.mod_eq_of_lt (by rw [hl] at hx; exact hx)]
      unfold byteAt
      rw [Int.toNat_natCast, byte_eq])
    (fun j h1 h2 => by
      rw [hl, List.length_replicate]
      simp only [begs, cond_true]
      omega)
  unfold agn
  exact this

def evW (n b : Nat) : Bool := winOK n (List.replicate n 0) (bitsL b n ++ bitsL b n)
def stW (n b : Nat) : Bool := winOK n (List.replicate n 0) (bitsL b n)

theorem stW_eq (n b : Nat) (hb : b < 65536) (h0 : 0 < n) (hn : n ≤ 16) : stW n b = (agn (spl n b) true).isNone := by
  have hs := spl_size n b
  have hl := bitsL_length b n
  have := winOK_eq (spl n b) (begs (spl n b) true) n 0 (List.replicate n 0) (bitsL b n) (start_ok _ n)
    (fun x hx => by rw [bitsL_get b n x (by omega), Nat.add_zero, spl_isB n b hb h0 hn, Nat.mod_eq_of_lt (by omega)])
    (fun j h1 h2 => by
      rw [hl, List.length_replicate]
      simp only [begs, cond_true, hs]
      omega)
  unfold stW agn
  rw [this, hs]

theorem evW_eq (n b : Nat) (hb : b < 65536) (h0 : 0 < n) (hn : n ≤ 16) : evW n b = (agn (spl n b) false).isNone := by
  have hs := spl_size n b
  have hl := bitsL_length b n
  have := winOK_eq (spl n b) (begs (spl n b) false) n 0 (List.replicate n 0) (bitsL b n ++ bitsL b n) (start_ok _ n)
    (fun x hx => by
      rw [List.length_append, hl] at hx
      rw [Nat.add_zero, spl_isB n b hb h0 hn]
      by_cases h : x < n
      · have e : (bitsL b n ++ bitsL b n).getD x 0 = (bitsL b n).getD x 0 := by
          simp [List.getD_eq_getElem?_getD, List.getElem?_append_left (by rw [hl]; exact h)]
        rw [e, bitsL_get b n x h, Nat.mod_eq_of_lt h]
      · have e : (bitsL b n ++ bitsL b n).getD x 0 = (bitsL b n).getD (x - n) 0 := by
          simp only [List.getD_eq_getElem?_getD]
          rw [List.getElem?_append_right (by rw [hl]; omega), hl]
        have e2 : x % n = x - n := by rw [Nat.mod_eq_sub_mod (by omega), Nat.mod_eq_of_lt (by omega)]
        rw [e, bitsL_get b n (x - n) (by omega), e2])
    (fun j h1 h2 => by
      rw [List.length_append, hl, List.length_replicate]
      simp only [begs, cond_false, hs]
      omega)
  unfold evW agn
  rw [this, hs]

end Go.Xm
