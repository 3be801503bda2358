/- HeapDual: all lists of hours and all choices of heaps that are tried; the walk. Conditions: none. -/
import Derived.Test.YtfdeihnkoaihfaaHb
import Derived.Test.YtfdeihnkoaihfaaCc
import Derived.Test.YtfdeihnkoaihfaaAq
namespace Go.Xm
set_option linter.unusedVariables false
set_option linter.unusedSimpArgs false
set_option maxRecDepth 20000

/-! ### Bits -/
def bitsTab : Bool := (List.range 512).all fun s => (List.range 9).all fun j => (((andV .i64 (shV false .i64 ((s : Nat) : Int) ((j : Nat) : Int)) 1) == 1) == decide (s / 2 ^ j % 2 = 1)) && (((andV .i64 (shV false .i64 ((s : Nat) : Int) ((j : Nat) : Int)) 1) == 0) == !decide (s / 2 ^ j % 2 = 1))
theorem bitsTab_ok : bitsTab = true := by kernel_rfl

theorem bit_both {s j : Nat} (hs : s < 512) (hj : j < 9) : ((andV .i64 (shV false .i64 (s : Int) (j : Int)) 1) == 1) = decide (s / 2 ^ j % 2 = 1) ∧ ((andV .i64 (shV false .i64 (s : Int) (j : Int)) 1) == 0) = !decide (s / 2 ^ j % 2 = 1) := by
  have h := List.all_eq_true.1 (List.all_eq_true.1 bitsTab_ok s (List.mem_range.2 hs)) j (List.mem_range.2 hj)
  simp only [Bool.and_eq_true, beq_iff_eq] at h
  exact h

def powTab : Bool := (List.range 9).all fun n => shV true .i64 1 ((n : Nat) : Int) == ((2 ^ n : Nat) : Int)
theorem powTab_ok : powTab = true := by kernel_rfl
theorem pow_is {n : Nat} (hn : n < 9) : shV true .i64 1 (n : Int) = ((2 ^ n : Nat) : Int) := by
  have h := List.all_eq_true.1 powTab_ok n (List.mem_range.2 hn)
  exact eq_of_beq h

theorem half (s j : Nat) : s / 2 ^ j / 2 = s / 2 ^ (j + 1) := by rw [Nat.div_div_eq_div_mul, ← Nat.pow_succ]

theorem chk_asc : ∀ (X : List Int) (p : Int), X.Pairwise (· < ·) → (∀ x ∈ X, p < x ∧ 0 ≤ x ∧ x ≤ 23) → chkH p X = 0
  | [], p, _, _ => rfl
  | x :: X, p, hp, h => by
    obtain ⟨p1, p2⟩ := List.pairwise_cons.1 hp
    have hx := h x (List.mem_cons_self ..)
    unfold chkH
    rw [if_neg (by omega), if_neg (by omega)]
    exact chk_asc X x p2 (fun y hy => by have := h y (List.mem_cons_of_mem _ hy); have := p1 y hy; omega)

theorem chk_bits (s : Nat) : chkH (-1) (bitsR 9 0 s) = 0 := chk_asc _ _ (bitsR_asc 9 0 s) (fun x hx => by have := bitsR_in 9 0 s x hx; omega)

/-! ### Lists of hours -/
theorem f14_2_eq (m : Nat) (b x8 : Int) (l : List Hp) (H : List Int) (s : Nat) (hs : s < 512) : ∀ (r j fuel : Nat) (acc : List Int), j + r = 9 → r < fuel → acc.length ≤ j → f14_2 m fuel b x8 (s : Int) l H (j : Int) acc = some (acc ++ bitsR r j (s / 2 ^ j))
  | 0, j, fuel + 1, acc, hr, hf, ha => by
    rw [f14_2, dcF (p := (j : Int) < 9) (by omega)]
    show some acc = some (acc ++ [])
    rw [List.append_nil]
  | r + 1, j, fuel + 1, acc, hr, hf, ha => by
    rw [f14_2, dcT (p := (j : Int) < 9) (by omega), dcT (p := 0 ≤ (j : Int)) (by omega), (bit_both hs (show j < 9 by omega)).1, nat_succ j (by omega), fitsI (n := acc.length + 1) (by omega) (by omega)]
    unfold bitsR
    by_cases e : s / 2 ^ j % 2 = 1
    · rw [dcT e, if_pos e, half]
      show f14_2 m fuel b x8 (s : Int) l H ((j + 1 : Nat) : Int) (acc ++ [(j : Int)]) = _
      rw [f14_2_eq m b x8 l H s hs r (j + 1) fuel _ (by omega) (by omega) (by simp; omega)]
      simp
    · rw [dcF e, if_neg e, half]
      exact f14_2_eq m b x8 l H s hs r (j + 1) fuel _ (by omega) (by omega) (by omega)

theorem f14_4_eq (m : Nat) (l : List Hp) (H own : List Int) (ho : own.length ≤ 1000) (h : Hp) : ∀ (r i fuel : Nat), i + r = own.length → r < fuel →
    (anyH (own.drop i) h = true ∧ ∃ k : Nat, f14_4 m fuel l H own ((own.length : Nat) : Int) (i : Int) h.1 h.2 = some (.r (k : Int) h.1 h.2)) ∨ (anyH (own.drop i) h = false ∧ f14_4 m fuel l H own ((own.length : Nat) : Int) (i : Int) h.1 h.2 = some (.x0 h.1 h.2))
  | 0, i, fuel + 1, hr, hf => by
    right
    rw [f14_4, dcF (p := (i : Int) < ((own.length : Nat) : Int)) (by omega), List.drop_eq_nil_of_le (by omega)]
    exact ⟨rfl, rfl⟩
  | r + 1, i, fuel + 1, hr, hf => by
    have hi : i < own.length := by omega
    rw [f14_4, dcT (p := (i : Int) < ((own.length : Nat) : Int)) (by omega), inR hi, getDz own hi, nat_succ i (by omega), List.drop_eq_getElem_cons hi, anyH_cons]
    have ih := f14_4_eq m l H own ho h r (i + 1) fuel (by omega) (by omega)
    unfold hasB
    by_cases e1 : own[i] ≥ h.1
    · by_cases e2 : own[i] ≤ h.2
      · rw [dcT e1, dcT e2, dcT ⟨e1, e2⟩]
        exact .inl ⟨rfl, i, rfl⟩
      · rw [dcT e1, dcF e2, dcF (fun q => e2 q.2)]
        exact ih
    · rw [dcF e1, dcF (fun q => e1 q.1)]
      exact ih

theorem f14_3_eq (m : Nat) (hm : 1001 ≤ m) (b x8 x31 : Int) (l : List Hp) (hl : l.length ≤ 1000) (H own : List Int) (ho : own.length ≤ 1000) : ∀ (r i fuel : Nat) (g : Bool), i + r = l.length → r < fuel → f14_3 m fuel b x8 x31 l H own g ((l.length : Nat) : Int) (i : Int) = some (g && allH (l.drop i) own)
  | 0, i, fuel + 1, g, hr, hf => by
    rw [f14_3, dcF (p := (i : Int) < ((l.length : Nat) : Int)) (by omega), List.drop_eq_nil_of_le (by omega)]
    show some g = some (g && true)
    rw [Bool.and_true]
  | r + 1, i, fuel + 1, g, hr, hf => by
    have hi : i < l.length := by omega
    rw [f14_3, dcT (p := (i : Int) < ((l.length : Nat) : Int)) (by omega), inR hi, getDi l hi, nat_succ i (by omega), List.drop_eq_getElem_cons hi]
    have e : allH (l[i] :: l.drop (i + 1)) own = (anyH own l[i] && allH (l.drop (i + 1)) own) := rfl
    rw [e]
    cases g with
    | false => exact f14_3_eq m hm b x8 x31 l hl H own ho r (i + 1) fuel false (by omega) (by omega)
    | true =>
      show (f14_4 m m l H own ((own.length : Nat) : Int) ((0 : Nat) : Int) (l[i]).1 (l[i]).2).bind _ = _
      rcases f14_4_eq m l H own ho l[i] own.length 0 m (by omega) (by omega) with ⟨q1, k, q2⟩ | ⟨q1, q2⟩
      · rw [List.drop_zero] at q1
        rw [q2, q1]
        show f14_3 m fuel b x8 x31 l H own (decide ((k : Int) ≥ 0)) ((l.length : Nat) : Int) ((i + 1 : Nat) : Int) = _
        rw [dcT (p := (k : Int) ≥ 0) (by omega)]
        exact f14_3_eq m hm b x8 x31 l hl H own ho r (i + 1) fuel true (by omega) (by omega)
      · rw [List.drop_zero] at q1
        rw [q2, q1]
        exact f14_3_eq m hm b x8 x31 l hl H own ho r (i + 1) fuel false (by omega) (by omega)

theorem lex_end (own H : List Int) {i : Nat} (hi : own.length ≤ i) (h2 : i ≤ own.length) (hH : i ≤ H.length) : decide (((own.length : Nat) : Int) < ((H.length : Nat) : Int)) = lexB (own.drop i) (H.drop i) := by
  rw [List.drop_eq_nil_of_le hi]
  by_cases e : i < H.length
  · rw [List.drop_eq_getElem_cons e, dcT (by omega)]; rfl
  · rw [List.drop_eq_nil_of_le (by omega), dcF (by omega)]; rfl

theorem f14_5_eq (m : Nat) (l : List Hp) (H own : List Int) (ho : own.length ≤ 1000) : ∀ (r i fuel : Nat), i + r = own.length → r < fuel → i ≤ H.length →
    (∃ v : Int, f14_5 m fuel l H own ((own.length : Nat) : Int) (i : Int) = some (.r v) ∧ decide (v < 0) = lexB (own.drop i) (H.drop i)) ∨ (f14_5 m fuel l H own ((own.length : Nat) : Int) (i : Int) = some .x0 ∧ decide (((own.length : Nat) : Int) < ((H.length : Nat) : Int)) = lexB (own.drop i) (H.drop i))
  | 0, i, fuel + 1, hr, hf, hH => by
    right
    rw [f14_5, dcF (p := (i : Int) < ((own.length : Nat) : Int)) (by omega)]
    exact ⟨rfl, lex_end own H (by omega) (by omega) hH⟩
  | r + 1, i, fuel + 1, hr, hf, hH => by
    have hi : i < own.length := by omega
    rw [f14_5, dcT (p := (i : Int) < ((own.length : Nat) : Int)) (by omega), inR hi, List.drop_eq_getElem_cons hi]
    by_cases e : i < H.length
    · have n1 : (own[i] != own[i]) = false := by simp
      have n2 : (H[i] != H[i]) = false := by simp
      rw [dcF (p := (i : Int) ≥ ((H.length : Nat) : Int)) (by omega), inR e, getDz own hi, getDz H e, n1, n2, List.drop_eq_getElem_cons e, nat_succ i (by omega)]
      unfold lexB
      by_cases e1 : own[i] < H[i]
      · rw [dcT e1, if_pos e1]
        exact .inl ⟨-1, rfl, rfl⟩
      · rw [dcF e1, if_neg e1]
        by_cases e2 : own[i] > H[i]
        · rw [dcT e2, if_pos e2]
          exact .inl ⟨1, rfl, rfl⟩
        · rw [dcF e2, if_neg e2]
          exact f14_5_eq m l H own ho r (i + 1) fuel (by omega) (by omega) (by omega)
    · have hn : H.drop i = [] := List.drop_eq_nil_of_le (by omega)
      rw [dcT (p := (i : Int) ≥ ((H.length : Nat) : Int)) (by omega), hn]
      exact .inl ⟨1, rfl, rfl⟩

theorem f14_1_eq (m : Nat) (hm : 1001 ≤ m) (b : Int) (l : List Hp) (hok : OkL l) (h10 : l.length ≤ 10) : ∀ (r s fuel : Nat) (F : Int) (H : List Int), s + r = 512 → r < fuel →
    f14_1 m fuel b F (s : Int) l H = some (.x0 (runB false (fun s => allH l (bitsR 9 0 s)) (fun s => bitsR 9 0 s) r s (F, H)).1 l (runB false (fun s => allH l (bitsR 9 0 s)) (fun s => bitsR 9 0 s) r s (F, H)).2)
  | 0, s, fuel + 1, F, H, hr, hf => by
    rw [f14_1, dcF (p := (s : Int) < 512) (by omega)]
    rfl
  | r + 1, s, fuel + 1, F, H, hr, hf => by
    have q2 := f14_2_eq m b F l H s (by omega) 9 0 m [] (by omega) (by omega) (by simp)
    rw [List.nil_append, Nat.pow_zero, Nat.div_one] at q2
    have q2 : f14_2 m m b F (s : Int) l H 0 [] = some (bitsR 9 0 s) := q2
    have hlen := bitsR_len 9 0 s
    have q3 := f14_3_eq m hm b F (s : Int) l (by omega) H (bitsR 9 0 s) (by omega) l.length 0 m true (by omega) (by omega)
    rw [List.drop_zero, Bool.true_and] at q3
    have q3 : f14_3 m m b F (s : Int) l H (bitsR 9 0 s) true ((l.length : Nat) : Int) 0 = some (allH l (bitsR 9 0 s)) := q3
    have q4 := f39_ok1 m hm l hok h10 (bitsR 9 0 s) (by omega) (chk_bits s)
    rw [f14_1, dcT (p := (s : Int) < 512) (by omega), nat_succ s (by omega)]
    simp only [cond_true, Option.bind_some, q2, q3, q4]
    have ih := fun F' H' => f14_1_eq m hm b l hok h10 r (s + 1) fuel F' H' (by omega) (by omega)
    show _ = some (Of14_1.x0 (runB false (fun s => allH l (bitsR 9 0 s)) (fun s => bitsR 9 0 s) r (s + 1) (stepB false (fun s => allH l (bitsR 9 0 s)) (fun s => bitsR 9 0 s) (F, H) s)).1 l (runB false (fun s => allH l (bitsR 9 0 s)) (fun s => bitsR 9 0 s) r (s + 1) (stepB false (fun s => allH l (bitsR 9 0 s)) (fun s => bitsR 9 0 s) (F, H) s)).2)
    simp only [ih]
    unfold stepB
    simp only [btr]
    have z0 : ((0 : Int) != 0) = false := rfl
    have z14 : ((14 : Int) != 14) = false := rfl
    have tl : ∀ (c : Bool) (X : Option Of14_1), cond c X X = X := fun c X => by cases c <;> rfl
    cases hg : allH l (bitsR 9 0 s) with
    | false => simp only [cond_false, z14, tl, Bool.false_and]
    | true =>
      simp only [cond_true, z0, cond_false, tl, Bool.true_and]
      by_cases e1 : (((bitsR 9 0 s).length : Nat) : Int) < F
      · simp only [dcT e1, cond_true, Bool.true_or]
      · simp only [dcF e1, cond_false, Bool.false_or]
        by_cases e2 : (((bitsR 9 0 s).length : Nat) : Int) = F
        · have e3 : ((((bitsR 9 0 s).length : Nat) : Int) == F) = true := by simpa using e2
          simp only [e3, cond_true, dcT e2, Bool.true_and]
          rcases f14_5_eq m l H (bitsR 9 0 s) (by omega) (bitsR 9 0 s).length 0 m (by omega) (by omega) (Nat.zero_le _) with ⟨v, q5, q6⟩ | ⟨q5, q6⟩
          · have q5 : f14_5 m m l H (bitsR 9 0 s) (((bitsR 9 0 s).length : Nat) : Int) 0 = some (.r v) := q5
            rw [List.drop_zero, List.drop_zero] at q6
            simp only [q5, Option.bind_some, q6]
            cases lexB (bitsR 9 0 s) H <;> rfl
          · have q5 : f14_5 m m l H (bitsR 9 0 s) (((bitsR 9 0 s).length : Nat) : Int) 0 = some .x0 := q5
            rw [List.drop_zero, List.drop_zero] at q6
            simp only [q5, Option.bind_some, q6]
            cases lexB (bitsR 9 0 s) H <;> rfl
        · have e3 : ((((bitsR 9 0 s).length : Nat) : Int) == F) = false := by simpa using e2
          simp only [e3, cond_false, dcF e2, Bool.false_and]

/-! ### Choices of heaps -/
def chOf (l : List Hp) (own : List Int) : List Hp := own.map fun x => List.getD l (Int.toNat x) (0, 0)

theorem chOf_len (l : List Hp) (own : List Int) : (chOf l own).length = own.length := by simp [chOf]
theorem chOf_snoc (l : List Hp) (own : List Int) {i : Nat} (hi : i < l.length) : chOf l (own ++ [(i : Int)]) = chOf l own ++ [l[i]] := by
  unfold chOf
  rw [List.map_append]
  simp [hi]

theorem f14_8_eq (m : Nat) (x8 : Int) (l : List Hp) (hl : l.length ≤ 1000) (H : List Int) (x9 x96 x97 : Int) (A : List Int) (x101 : Int) (i : Nat) (hi : i < l.length) (own : List Int) (ho : own.length ≤ 1000) (hin : ∀ x ∈ own, 0 ≤ x ∧ x < (l.length : Int)) : ∀ (r j fuel : Nat) (g : Bool), j + r = own.length → r < fuel →
    f14_8 m fuel x8 l H x9 x96 x97 A x101 (i : Int) own g ((own.length : Nat) : Int) (j : Int) = some (g && cmp ((chOf l own).drop j) l[i])
  | 0, j, fuel + 1, g, hr, hf => by
    rw [f14_8, dcF (p := (j : Int) < ((own.length : Nat) : Int)) (by omega), List.drop_eq_nil_of_le (by rw [chOf_len]; omega)]
    show some g = some (g && true)
    rw [Bool.and_true]
  | r + 1, j, fuel + 1, g, hr, hf => by
    have hj : j < own.length := by omega
    have hj2 : j < (chOf l own).length := by rw [chOf_len]; exact hj
    have hx := hin _ (List.getElem_mem hj)
    have hc : (chOf l own)[j] = List.getD l (Int.toNat own[j]) (0, 0) := by simp [chOf]
    have hcmp : cmp ((chOf l own).drop j) l[i] = (!shrd (chOf l own)[j] l[i] && cmp ((chOf l own).drop (j + 1)) l[i]) := by rw [List.drop_eq_getElem_cons hj2]; rfl
    rw [hcmp, hc, f14_8, dcT (p := (j : Int) < ((own.length : Nat) : Int)) (by omega), inR hj, getDz own hj, nat_succ j (by omega), inRow_iff.2 ⟨hx.1, hx.2⟩, inR hi, getDi l hi]
    cases g with
    | false => exact f14_8_eq m x8 l hl H x9 x96 x97 A x101 i hi own ho hin r (j + 1) fuel false (by omega) (by omega)
    | true =>
      generalize List.getD l (Int.toNat own[j]) (0, 0) = k
      have ih := fun g => f14_8_eq m x8 l hl H x9 x96 x97 A x101 i hi own ho hin r (j + 1) fuel g (by omega) (by omega)
      unfold shrd
      by_cases e1 : k.2 < (l[i]).1
      · rw [dcT e1, dcF (p := k.1 ≤ (l[i]).2 ∧ (l[i]).1 ≤ k.2) (by omega)]
        exact ih true
      · rw [dcF e1]
        show f14_8 m fuel x8 l H x9 x96 x97 A x101 (i : Int) own (decide ((l[i]).2 < k.1)) ((own.length : Nat) : Int) ((j + 1 : Nat) : Int) = _
        rw [ih]
        by_cases e2 : (l[i]).2 < k.1
        · rw [dcT e2, dcF (p := k.1 ≤ (l[i]).2 ∧ (l[i]).1 ≤ k.2) (by omega)]; rfl
        · rw [dcF e2, dcT (p := k.1 ≤ (l[i]).2 ∧ (l[i]).1 ≤ k.2) (by omega)]; rfl

theorem f14_7_eq (m : Nat) (hm : 1001 ≤ m) (x8 : Int) (l : List Hp) (hl : l.length ≤ 9) (H : List Int) (x9 x96 : Int) (A : List Int) (s : Nat) (hs : s < 512) : ∀ (r i fuel : Nat) (g : Bool) (own : List Int), i + r = l.length → r < fuel → own.length ≤ i → (∀ x ∈ own, 0 ≤ x ∧ x < (l.length : Int)) →
    f14_7 m fuel x8 l H x9 x96 (s : Int) A g ((l.length : Nat) : Int) (i : Int) own = some (g && goodS (l.drop i) (s / 2 ^ i) (chOf l own), own ++ bitsR r i (s / 2 ^ i))
  | 0, i, fuel + 1, g, own, hr, hf, ho, hin => by
    rw [f14_7, dcF (p := (i : Int) < ((l.length : Nat) : Int)) (by omega), List.drop_eq_nil_of_le (by omega)]
    show some (g, own) = some (g && true, own ++ [])
    rw [Bool.and_true, List.append_nil]
  | r + 1, i, fuel + 1, g, own, hr, hf, ho, hin => by
    have hi : i < l.length := by omega
    rw [f14_7, dcT (p := (i : Int) < ((l.length : Nat) : Int)) (by omega), dcT (p := 0 ≤ (i : Int)) (by omega), (bit_both hs (show i < 9 by omega)).2, nat_succ i (by omega), List.drop_eq_getElem_cons hi]
    unfold goodS bitsR
    by_cases e : s / 2 ^ i % 2 = 1
    · rw [dcT e, if_pos e, if_pos e, half]
      have q8 := f14_8_eq m x8 l (by omega) H x9 x96 (s : Int) A ((l.length : Nat) : Int) i hi own (by omega) hin own.length 0 m g (by omega) (by omega)
      rw [List.drop_zero] at q8
      have q8 : f14_8 m m x8 l H x9 x96 (s : Int) A ((l.length : Nat) : Int) (i : Int) own g ((own.length : Nat) : Int) 0 = some (g && cmp (chOf l own) l[i]) := q8
      show (f14_8 m m x8 l H x9 x96 (s : Int) A ((l.length : Nat) : Int) (i : Int) own g ((own.length : Nat) : Int) 0).bind _ = _
      rw [q8, fitsI (n := own.length + 1) (by omega) (by omega)]
      show f14_7 m fuel x8 l H x9 x96 (s : Int) A (g && cmp (chOf l own) l[i]) ((l.length : Nat) : Int) ((i + 1 : Nat) : Int) (own ++ [(i : Int)]) = _
      rw [f14_7_eq m hm x8 l hl H x9 x96 A s hs r (i + 1) fuel _ _ (by omega) (by omega) (by simp; omega) (fun x hx => by
        rcases List.mem_append.1 hx with hx | hx
        · exact hin x hx
        · rw [List.mem_singleton.1 hx]; omega), chOf_snoc l own hi, Bool.and_assoc]
      simp
    · rw [dcF e, if_neg e, if_neg e, half]
      exact f14_7_eq m hm x8 l hl H x9 x96 A s hs r (i + 1) fuel _ _ (by omega) (by omega) (by omega) hin

theorem f14_9_eq (m : Nat) (l : List Hp) (K H own : List Int) (ho : own.length ≤ 1000) : ∀ (r i fuel : Nat), i + r = own.length → r < fuel → i ≤ H.length →
    (∃ v : Int, f14_9 m fuel l K H ((own.length : Nat) : Int) (i : Int) own = some (.r v own) ∧ decide (v < 0) = lexB (own.drop i) (H.drop i)) ∨ (f14_9 m fuel l K H ((own.length : Nat) : Int) (i : Int) own = some (.x0 own) ∧ decide (((own.length : Nat) : Int) < ((H.length : Nat) : Int)) = lexB (own.drop i) (H.drop i))
  | 0, i, fuel + 1, hr, hf, hH => by
    right
    rw [f14_9, dcF (p := (i : Int) < ((own.length : Nat) : Int)) (by omega)]
    exact ⟨rfl, lex_end own H (by omega) (by omega) hH⟩
  | r + 1, i, fuel + 1, hr, hf, hH => by
    have hi : i < own.length := by omega
    rw [f14_9, dcT (p := (i : Int) < ((own.length : Nat) : Int)) (by omega), inR hi, List.drop_eq_getElem_cons hi]
    by_cases e : i < H.length
    · have n1 : (own[i] != own[i]) = false := by simp
      have n2 : (H[i] != H[i]) = false := by simp
      rw [dcF (p := (i : Int) ≥ ((H.length : Nat) : Int)) (by omega), inR e, getDz own hi, getDz H e, n1, n2, List.drop_eq_getElem_cons e, nat_succ i (by omega)]
      unfold lexB
      by_cases e1 : own[i] < H[i]
      · rw [dcT e1, if_pos e1]
        exact .inl ⟨-1, rfl, rfl⟩
      · rw [dcF e1, if_neg e1]
        by_cases e2 : own[i] > H[i]
        · rw [dcT e2, if_pos e2]
          exact .inl ⟨1, rfl, rfl⟩
        · rw [dcF e2, if_neg e2]
          exact f14_9_eq m l K H own ho r (i + 1) fuel (by omega) (by omega) (by omega)
    · have hn : H.drop i = [] := List.drop_eq_nil_of_le (by omega)
      rw [dcT (p := (i : Int) ≥ ((H.length : Nat) : Int)) (by omega), hn]
      exact .inl ⟨1, rfl, rfl⟩

theorem f14_6_eq (m : Nat) (hm : 1001 ≤ m) (x8 : Int) (l : List Hp) (hl : l.length ≤ 9) (K : List Int) (N : Nat) (hN : N ≤ 512) : ∀ (r s fuel : Nat) (M : Int) (A : List Int), s + r = N → r < fuel →
    f14_6 m fuel x8 l K M (N : Int) (s : Int) A = some (runB true (fun s => goodS l s []) (fun s => bitsR l.length 0 s) r s (M, A))
  | 0, s, fuel + 1, M, A, hr, hf => by
    rw [f14_6, dcF (p := (s : Int) < (N : Int)) (by omega)]
    rfl
  | r + 1, s, fuel + 1, M, A, hr, hf => by
    have q7 := f14_7_eq m hm x8 l hl K M (N : Int) A s (by omega) l.length 0 m true [] (by omega) (by omega) (by simp) (fun x hx => by cases hx)
    rw [List.nil_append, Nat.pow_zero, Nat.div_one, List.drop_zero, Bool.true_and] at q7
    have q7 : f14_7 m m x8 l K M (N : Int) (s : Int) A true ((l.length : Nat) : Int) 0 [] = some (goodS l s [], bitsR l.length 0 s) := q7
    have hlen := bitsR_len l.length 0 s
    rw [f14_6, dcT (p := (s : Int) < (N : Int)) (by omega), nat_succ s (by omega)]
    simp only [cond_true, Option.bind_some, q7]
    have ih := fun M' A' => f14_6_eq m hm x8 l hl K N hN r (s + 1) fuel M' A' (by omega) (by omega)
    show _ = some (runB true (fun s => goodS l s []) (fun s => bitsR l.length 0 s) r (s + 1) (stepB true (fun s => goodS l s []) (fun s => bitsR l.length 0 s) (M, A) s))
    simp only [ih]
    unfold stepB
    simp only [btr]
    cases hg : goodS l s [] with
    | false => simp only [cond_false, Bool.false_and]
    | true =>
      simp only [cond_true, Bool.true_and]
      by_cases e1 : M < (((bitsR l.length 0 s).length : Nat) : Int)
      · have e1' : (((bitsR l.length 0 s).length : Nat) : Int) > M := e1
        simp only [dcT e1, dcT e1', cond_true, Bool.true_or]
      · have e1' : ¬ (((bitsR l.length 0 s).length : Nat) : Int) > M := e1
        simp only [dcF e1, dcF e1', cond_false, Bool.false_or]
        by_cases e2 : (((bitsR l.length 0 s).length : Nat) : Int) = M
        · have e3 : ((((bitsR l.length 0 s).length : Nat) : Int) == M) = true := by simpa using e2
          simp only [e3, cond_true, dcT e2, Bool.true_and]
          have e4 : decide ((bitsR l.length 0 s).length = (bitsR l.length 0 s).length) = true := dcT rfl
          rcases f14_9_eq m l K A (bitsR l.length 0 s) (by omega) (bitsR l.length 0 s).length 0 m (by omega) (by omega) (Nat.zero_le _) with ⟨v, q5, q6⟩ | ⟨q5, q6⟩
          · have q5 : f14_9 m m l K A (((bitsR l.length 0 s).length : Nat) : Int) 0 (bitsR l.length 0 s) = some (.r v (bitsR l.length 0 s)) := q5
            rw [List.drop_zero, List.drop_zero] at q6
            simp only [q5, Option.bind_some, q6, e4, cond_true]
            cases lexB (bitsR l.length 0 s) A <;> rfl
          · have q5 : f14_9 m m l K A (((bitsR l.length 0 s).length : Nat) : Int) 0 (bitsR l.length 0 s) = some (.x0 (bitsR l.length 0 s)) := q5
            rw [List.drop_zero, List.drop_zero] at q6
            simp only [q5, Option.bind_some, q6, e4, cond_true]
            cases lexB (bitsR l.length 0 s) A <;> rfl
        · have e3 : ((((bitsR l.length 0 s).length : Nat) : Int) == M) = false := by simpa using e2
          simp only [e3, cond_false, dcF e2, Bool.false_and]

theorem f14_true (m : Nat) (hm : 1001 ≤ m) (a0 b0 a1 b1 a2 b2 a3 b3 a4 b4 a5 b5 a6 b6 a7 b7 b : Int) (hy : bytesP [(a0, b0), (a1, b1), (a2, b2), (a3, b3), (a4, b4), (a5, b5), (a6, b6), (a7, b7)]) (hb : 0 ≤ b ∧ b ≤ 255) :
    f14 m a0 b0 a1 b1 a2 b2 a3 b3 a4 b4 a5 b5 a6 b6 a7 b7 b = some true := by
  unfold f14
  rw [w64i (x := b) (by omega) (by omega), f41_eq m (by omega) _ _ _ _ _ _ _ _ _ _ _ _ _ _ _ _ _ _ _ _ hy ⟨by omega, by omega⟩ ⟨by omega, by omega⟩ ⟨by omega, by omega⟩ ⟨by omega, by omega⟩]
  have h8 := heapsOf_len [(a0, b0), (a1, b1), (a2, b2), (a3, b3), (a4, b4), (a5, b5), (a6, b6), (a7, b7)] b 8 9 0
  have ho := heapsOf_ok hy (b := b) (c := 8) (d := 9) (e := 0) (by omega)
  generalize heapsOf [(a0, b0), (a1, b1), (a2, b2), (a3, b3), (a4, b4), (a5, b5), (a6, b6), (a7, b7)] b 8 9 0 = l at h8 ho
  have hok : OkL l := fun h hh => by have := ho h hh; unfold okHeap at this; omega
  have h2 : ∀ x ∈ l, x.2 ≤ 8 := fun h hh => by have := ho h hh; unfold okHeap at this; omega
  have hpow : 2 ^ l.length ≤ 512 := Nat.le_trans (Nat.pow_le_pow_right (by omega) h8) (by decide)
  have q1 := f14_1_eq m hm b l hok (by omega) 512 0 m 100 [] (by omega) (by omega)
  rw [hours_best l hok h2] at q1
  have q1 : f14_1 m m b 100 0 l [] = some (.x0 ((hrL 24 0 l).length : Int) l (hrL 24 0 l)) := q1
  have q6 := f14_6_eq m hm ((hrL 24 0 l).length : Int) l (by omega) (hrL 24 0 l) (2 ^ l.length) hpow (2 ^ l.length) 0 m (-1) [] (by omega) (by omega)
  rw [apart_best l hok] at q6
  have q6 : f14_6 m m ((hrL 24 0 l).length : Int) l (hrL 24 0 l) (-1) ((2 ^ l.length : Nat) : Int) 0 [] = some (((apL l 0 [] []).length : Int), apL l 0 [] []) := q6
  obtain ⟨r1, r2, r3⟩ := hr_ok 24 0 l hok (fun x hx => by have := hok x hx; omega) (by omega)
  have hl1 := hrL_len 24 0 l hok (fun x hx => by have := hok x hx; omega) (by omega)
  have hl2 := ap_len0 l hok
  have hml := mt_len hok
  have q39 := f39_ok1 m hm l hok (by omega) (hrL 24 0 l) (by omega) (chk_asc _ _ r1 (fun x hx => by
    obtain ⟨z1, y, z2, z3⟩ := r2 x hx
    have := h2 y z2
    omega))
  rw [allH_stb.2 r3] at q39
  have e0 : decide (0 ≤ ((l.length : Nat) : Int)) = true := dcT (by omega)
  have e1 : (((hrL 24 0 l).length : Int) == ((apL l 0 [] []).length : Int)) = true := by
    rw [hl1, hl2]; simp
  have z0 : ((0 : Int) == 0) = true := rfl
  simp only [Option.bind_some, q1, e0, cond_true, pow_is (show l.length < 9 by omega), q6, f35_ok1 m hm l hok (by omega), f37_ok1 m hm l hok (by omega), z0, e1, f20_same m hm (hrL 24 0 l) (by omega), f20_same m hm (apL l 0 [] []) (by omega), q39]

end Go.Xm

namespace Go.Proofs.Ytfdeihnkoaihfaa.heapDual
open Go.Xm Go.RowKit

theorem u8b {z : Int} (h : (Lit.int .u8 z).wf = true) : 0 ≤ z ∧ z ≤ 255 := by
  simp [Lit.wf, IntKind.min, IntKind.max, IntKind.signed, IntKind.bits] at h
  omega

theorem walk (z0 : List Int) (a1 : Int) (w : World) (l0 : z0.length = 16) (w0 : ∀ z ∈ z0, (Lit.int .u8 z).wf = true) (w1 : (Lit.int .u8 a1).wf = true) :
    Calls Try.prog 14 #[.agg (z0.map (.int .u8)).toArray, .int .u8 a1] w fun e w' => e = .returned (.bool true) ∧ Below w.heap.size w w' := by
  obtain ⟨a0, b0, a1', b1, a2', b2, a3, b3, a4', b4, a5, b5, a6, b6, a7, b7, rfl⟩ := list16 l0
  have hy : bytesP [(a0, b0), (a1', b1), (a2', b2), (a3, b3), (a4', b4), (a5, b5), (a6, b6), (a7, b7)] := by
    intro p hp
    have hb : ∀ z, z ∈ [a0, b0, a1', b1, a2', b2, a3, b3, a4', b4, a5, b5, a6, b6, a7, b7] → 0 ≤ z ∧ z ≤ 255 := fun z hz => u8b (w0 z hz)
    simp only [List.mem_cons, List.not_mem_nil, or_false] at hp
    rcases hp with rfl | rfl | rfl | rfl | rfl | rfl | rfl | rfl <;> (refine ⟨(hb _ ?_).1, (hb _ ?_).2, (hb _ ?_).1, (hb _ ?_).2⟩ <;> simp)
  exact f14_ok 1001 _ _ _ _ _ _ _ _ _ _ _ _ _ _ _ _ _ true (f14_true 1001 (by omega) _ _ _ _ _ _ _ _ _ _ _ _ _ _ _ _ _ hy (u8b w1)) w trivial

end Go.Proofs.Ytfdeihnkoaihfaa.heapDual
