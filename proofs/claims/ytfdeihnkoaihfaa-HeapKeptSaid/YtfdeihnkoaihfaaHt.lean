/- HeapKept: all choices of heaps that are tried; the walk. Conditions: none. -/
import Derived.Test.YtfdeihnkoaihfaaHs
import Derived.Test.YtfdeihnkoaihfaaHe
import Derived.Test.YtfdeihnkoaihfaaCi
import Derived.Test.YtfdeihnkoaihfaaAq
namespace Go.Xm
set_option linter.unusedVariables false
set_option linter.unusedSimpArgs false
set_option maxRecDepth 20000

theorem getDz (l : List Int) {i : Nat} (hi : i < l.length) : List.getD l (Int.toNat (i : Int)) 0 = l[i] := by simp [hi]

/-! ### The same list -/
theorem f20_1_eq (m : Nat) (l : List Int) (h10 : l.length ≤ 1000) : ∀ (r i fuel : Nat), i + r = l.length → r < fuel → f20_1 m fuel l l (i : Int) = some .x0
  | 0, i, fuel + 1, hr, hf => by
    rw [f20_1, dcF (p := (i : Int) < ((l.length : Nat) : Int)) (by omega)]
    rfl
  | r + 1, i, fuel + 1, hr, hf => by
    have hi : i < l.length := by omega
    rw [f20_1, dcT (p := (i : Int) < ((l.length : Nat) : Int)) (by omega), inR hi, nat_succ i (by omega)]
    have : (List.getD l (Int.toNat (i : Int)) 0 != List.getD l (Int.toNat (i : Int)) 0) = false := by simp
    rw [this]
    exact f20_1_eq m l h10 r (i + 1) fuel (by omega) (by omega)

theorem f20_same (m : Nat) (hm : 1001 ≤ m) (l : List Int) (hl : l.length ≤ 1000) : f20 m l l = some true := by
  unfold f20
  have : ((((l.length : Nat) : Int)) != ((l.length : Nat) : Int)) = false := by simp
  rw [this]
  show (f20_1 m m l l ((0 : Nat) : Int)).bind _ = _
  rw [f20_1_eq m l hl l.length 0 m (by omega) (by omega)]
  rfl

/-! ### Keep -/
noncomputable def keepL (k : Nat) : List Hp → Nat → List Int → List Hp → List Int
  | [], _, acc, _ => acc
  | h :: l, i, acc, kept => cond (fitsB' k (kept ++ [h])) (keepL k l (i + 1) (acc ++ [(i : Int)]) (kept ++ [h])) (keepL k l (i + 1) acc kept)

theorem keepL_kpL (k : Nat) : ∀ (l : List Hp) (i : Nat) (acc : List Int) (kept : List Hp), keepL k l i acc kept = acc ++ kpL k l i kept
  | [], i, acc, kept => (List.append_nil acc).symm
  | h :: l, i, acc, kept => by
    unfold keepL kpL
    cases hb : fitsB' k (kept ++ [h]) with
    | true =>
      rw [if_pos rfl]
      show keepL k l (i + 1) (acc ++ [(i : Int)]) (kept ++ [h]) = _
      rw [keepL_kpL k l]
      simp
    | false =>
      rw [if_neg (by decide)]
      exact keepL_kpL k l _ _ _

theorem OkL.snoc {l : List Hp} {h : Hp} (ho : OkL l) (h1 : 0 ≤ h.1 ∧ h.1 ≤ h.2 ∧ h.2 ≤ 23) : OkL (l ++ [h]) := by
  intro x hx
  rcases List.mem_append.1 hx with hx | hx
  · exact ho x hx
  · rw [List.mem_singleton.1 hx]; exact h1

theorem f33_2_eq (m : Nat) (hm : 1001 ≤ m) (a : List Hp) (h10 : a.length ≤ 10) (ho : OkL a) (b : Int) (k : Nat) (hk : b = (k : Int)) (hk1 : 1 ≤ k) (hk2 : k ≤ 1000) : ∀ (r i fuel : Nat) (acc : List Int) (kept : List Hp), i + r = a.length → r < fuel → acc.length ≤ i → kept.length ≤ i → 1 ≤ acc.length → 1 ≤ kept.length → OkL kept →
    f33_2 m fuel a b ((a.length : Nat) : Int) (i : Int) acc kept = some (keepL k (a.drop i) i acc kept)
  | 0, i, fuel + 1, acc, kept, hr, hf, h1, h2, h3, h4, hok => by
    rw [f33_2, dcF (p := (i : Int) < ((a.length : Nat) : Int)) (by omega), List.drop_eq_nil_of_le (by omega)]
    rfl
  | r + 1, i, fuel + 1, acc, kept, hr, hf, h1, h2, h3, h4, hok => by
    have hi : i < a.length := by omega
    rw [f33_2, dcT (p := (i : Int) < ((a.length : Nat) : Int)) (by omega), inR hi, dcT (p := 1 ≤ kept.length) h4, fitsI (n := kept.length + 1) (by omega) (by omega), getDi a hi, nat_succ i (by omega), dcT (p := 1 ≤ acc.length) h3, fitsI (n := acc.length + 1) (by omega) (by omega), List.drop_eq_getElem_cons hi]
    show (f58 m (kept ++ [a[i]]) b).bind _ = _
    have hok2 := hok.snoc (ho _ (List.getElem_mem hi))
    rw [f58_eq m hm _ b k hk hk2 (by simp; omega) hok2 (.inl hk1)]
    unfold keepL
    cases hb : fitsB' k (kept ++ [a[i]]) with
    | true => exact f33_2_eq m hm a h10 ho b k hk hk1 hk2 r (i + 1) fuel _ _ (by omega) (by omega) (by simp; omega) (by simp; omega) (by simp) (by simp) hok2
    | false => exact f33_2_eq m hm a h10 ho b k hk hk1 hk2 r (i + 1) fuel _ _ (by omega) (by omega) (by omega) (by omega) h3 h4 hok

theorem f33_1_eq (m : Nat) (hm : 1001 ≤ m) (a : List Hp) (h10 : a.length ≤ 10) (ho : OkL a) (b : Int) (k : Nat) (hk : b = (k : Int)) (hk1 : 1 ≤ k) (hk2 : k ≤ 1000) : ∀ (r i fuel : Nat), i + r = a.length → r < fuel →
    f33_1 m fuel a b ((a.length : Nat) : Int) (i : Int) = some (keepL k (a.drop i) i [] [])
  | 0, i, fuel + 1, hr, hf => by
    rw [f33_1, dcF (p := (i : Int) < ((a.length : Nat) : Int)) (by omega), List.drop_eq_nil_of_le (by omega)]
    rfl
  | r + 1, i, fuel + 1, hr, hf => by
    have hi : i < a.length := by omega
    have h1 := ho _ (List.getElem_mem hi)
    have hok : OkL [a[i]] := fun x hx => by rw [List.mem_singleton.1 hx]; exact h1
    rw [f33_1, dcT (p := (i : Int) < ((a.length : Nat) : Int)) (by omega), inR hi, getDi a hi, nat_succ i (by omega), List.drop_eq_getElem_cons hi]
    show (f58 m [a[i]] b).bind _ = _
    rw [f58_eq m hm _ b k hk hk2 (by simp) hok (.inl hk1)]
    unfold keepL
    show (cond (fitsB' k [a[i]]) _ _) = some (cond (fitsB' k [a[i]]) _ _)
    cases hb : fitsB' k [a[i]] with
    | true =>
      show (f33_2 m fuel a b ((a.length : Nat) : Int) ((i + 1 : Nat) : Int) [(i : Int)] [a[i]]).bind _ = _
      cases r with
      | zero =>
        obtain ⟨f, rfl⟩ : ∃ f, fuel = f + 1 := ⟨fuel - 1, by omega⟩
        rw [f33_2_eq m hm a h10 ho b k hk hk1 hk2 0 (i + 1) (f + 1) _ _ (by omega) (by omega) (by simp) (by simp) (by simp) (by simp) hok]
        rfl
      | succ r =>
        rw [f33_2_eq m hm a h10 ho b k hk hk1 hk2 (r + 1) (i + 1) fuel _ _ (by omega) (by omega) (by simp) (by simp) (by simp) (by simp) hok]
        rfl
    | false => exact f33_1_eq m hm a h10 ho b k hk hk1 hk2 r (i + 1) fuel (by omega) (by omega)

theorem f33_ok1 (m : Nat) (hm : 1001 ≤ m) (l : List Hp) (h10 : l.length ≤ 10) (ho : OkL l) (k : Nat) (hk1 : 1 ≤ k) (hk2 : k ≤ 10) : f33 m l (k : Int) = some (kpL k l 0 [], 0) := by
  unfold f33
  rw [f57_ok0 m (by omega) l ho h10 _ ⟨by omega, by omega⟩]
  show (f33_1 m m l (k : Int) _ ((0 : Nat) : Int)).bind _ = _
  rw [f33_1_eq m hm l h10 ho _ k rfl hk1 (by omega) l.length 0 m (by omega) (by omega), List.drop_zero, keepL_kpL]
  rfl

/-! ### Bits -/
def bitsTab : Bool := (List.range 256).all fun s => (List.range 8).all fun j => (((andV .i64 (shV false .i64 ((s : Nat) : Int) ((j : Nat) : Int)) 1) == 1) == decide (s / 2 ^ j % 2 = 1))
theorem bitsTab_ok : bitsTab = true := by kernel_rfl

theorem bit_is {s j : Nat} (hs : s < 256) (hj : j < 8) : ((andV .i64 (shV false .i64 (s : Int) (j : Int)) 1) == 1) = decide (s / 2 ^ j % 2 = 1) := by
  have h := List.all_eq_true.1 (List.all_eq_true.1 bitsTab_ok s (List.mem_range.2 hs)) j (List.mem_range.2 hj)
  simp only [beq_iff_eq] at h
  exact h

def powTab : Bool := (List.range 9).all fun n => shV true .i64 1 ((n : Nat) : Int) == ((2 ^ n : Nat) : Int)
theorem powTab_ok : powTab = true := by kernel_rfl
theorem pow_is {n : Nat} (hn : n < 9) : shV true .i64 1 (n : Int) = ((2 ^ n : Nat) : Int) := by
  have h := List.all_eq_true.1 powTab_ok n (List.mem_range.2 hn)
  exact eq_of_beq h

def orTab : Bool := (List.range 9).all fun n => (List.range (2 ^ n)).all fun s => (List.range n).all fun i => decide (s / 2 ^ i % 2 = 1) || (decide (orV .i64 ((s : Nat) : Int) (shV true .i64 1 ((i : Nat) : Int)) = ((s + 2 ^ i : Nat) : Int)) && decide (s + 2 ^ i < 2 ^ n))
theorem orTab_ok : orTab = true := by kernel_rfl
theorem or_is {n s i : Nat} (hn : n < 9) (hs : s < 2 ^ n) (hi : i < n) (h : s / 2 ^ i % 2 ≠ 1) : orV .i64 (s : Int) (shV true .i64 1 (i : Int)) = ((s + 2 ^ i : Nat) : Int) ∧ s + 2 ^ i < 2 ^ n := by
  have h1 := List.all_eq_true.1 (List.all_eq_true.1 (List.all_eq_true.1 orTab_ok n (List.mem_range.2 hn)) s (List.mem_range.2 hs)) i (List.mem_range.2 hi)
  rw [dcF h, Bool.false_or] at h1
  simp only [Bool.and_eq_true, decide_eq_true_eq] at h1
  exact h1

theorem half (s j : Nat) : s / 2 ^ j / 2 = s / 2 ^ (j + 1) := by rw [Nat.div_div_eq_div_mul, ← Nat.pow_succ]

/-! ### All choices -/
theorem f13_2_eq (m : Nat) (x8 x10 x39 : Int) (l : List Hp) (hl : l.length ≤ 8) (can : List Bool) (s : Nat) (hs : s < 256) : ∀ (r i fuel : Nat) (acc : List Hp), i + r = l.length → r < fuel → acc.length ≤ i →
    f13_2 m fuel x8 x10 x39 (s : Int) l can ((l.length : Nat) : Int) (i : Int) acc = some (acc ++ selS (l.drop i) (s / 2 ^ i))
  | 0, i, fuel + 1, acc, hr, hf, ha => by
    rw [f13_2, dcF (p := (i : Int) < ((l.length : Nat) : Int)) (by omega), List.drop_eq_nil_of_le (by omega)]
    show some acc = some (acc ++ [])
    rw [List.append_nil]
  | r + 1, i, fuel + 1, acc, hr, hf, ha => by
    have hi : i < l.length := by omega
    rw [f13_2, dcT (p := (i : Int) < ((l.length : Nat) : Int)) (by omega), inR hi, dcT (p := 0 ≤ (i : Int)) (by omega), bit_is hs (show i < 8 by omega), nat_succ i (by omega), fitsI (n := acc.length + 1) (by omega) (by omega), getDi l hi, List.drop_eq_getElem_cons hi]
    unfold selS
    by_cases e : s / 2 ^ i % 2 = 1
    · rw [dcT e, if_pos e, half]
      show f13_2 m fuel x8 x10 x39 (s : Int) l can ((l.length : Nat) : Int) ((i + 1 : Nat) : Int) (acc ++ [l[i]]) = _
      rw [f13_2_eq m x8 x10 x39 l hl can s hs r (i + 1) fuel _ (by omega) (by omega) (by simp; omega)]
      simp
    · rw [dcF e, if_neg e, half]
      exact f13_2_eq m x8 x10 x39 l hl can s hs r (i + 1) fuel _ (by omega) (by omega) (by omega)

theorem iMax_nat (a b : Nat) : iMax (a : Int) (b : Int) = ((max a b : Nat) : Int) := by unfold iMax; split <;> omega

noncomputable def goodB (k : Nat) (l : List Hp) (s : Nat) : Bool := fitsB' k (selS l s)

theorem selS_ok {l : List Hp} (ho : OkL l) (s : Nat) : OkL (selS l s) := fun x hx => ho x (selS_mem hx)
theorem selS_le (l : List Hp) (s : Nat) : (selS l s).length ≤ l.length := by rw [selS_len l 0 s]; exact bitsR_len l.length 0 s

theorem getD_set_b {l : List Bool} {i : Nat} (hi : i < l.length) (v : Bool) (j : Nat) : List.getD (List.set l i v) j false = if i = j then v else List.getD l j false := by
  by_cases e : i = j
  · subst e; simp [hi]
  · rw [if_neg e]
    simp only [List.getD_eq_getElem?_getD, List.getElem?_set_ne e]

theorem f13_1_eq (m : Nat) (hm : 1001 ≤ m) (l : List Hp) (hl : l.length ≤ 8) (ho : OkL l) (k : Nat) (hk2 : k ≤ 10) (N : Nat) (hN : N ≤ 256) : ∀ (r s fuel M : Nat) (can : List Bool), s + r = N → r < fuel → can.length = N → (∀ j, s ≤ j → List.getD can j false = false) →
    ∃ M' can', f13_1 m fuel (k : Int) (M : Int) (N : Int) (s : Int) l can = some ((k : Int), ((M' : Nat) : Int), l, can') ∧ can'.length = N ∧ (∀ j, j < s → List.getD can' j false = List.getD can j false) ∧ (∀ j, s ≤ j → j < N → List.getD can' j false = goodB k l j) ∧
      M ≤ M' ∧ (∀ j, s ≤ j → j < N → goodB k l j = true → (selS l j).length ≤ M') ∧ (M' = M ∨ ∃ j, goodB k l j = true ∧ M' = (selS l j).length)
  | 0, s, fuel + 1, M, can, hr, hf, hc, hz => by
    refine ⟨M, can, ?_, hc, fun _ _ => rfl, fun j h1 h2 => by omega, Nat.le_refl _, fun j h1 h2 => by omega, .inl rfl⟩
    rw [f13_1, dcF (p := (s : Int) < (N : Int)) (by omega)]
    rfl
  | r + 1, s, fuel + 1, M, can, hr, hf, hc, hz => by
    have q2 := f13_2_eq m (k : Int) (M : Int) (N : Int) l hl can s (by omega) l.length 0 m [] (by omega) (by omega) (by simp)
    rw [List.nil_append, List.drop_zero, Nat.pow_zero, Nat.div_one] at q2
    have q2 : f13_2 m m (k : Int) (M : Int) (N : Int) (s : Int) l can ((l.length : Nat) : Int) 0 [] = some (selS l s) := q2
    have hlen := selS_le l s
    have q42 := f42_eq m hm (selS l s) k hk2 (by omega) (selS_ok ho s)
    rw [f13_1, dcT (p := (s : Int) < (N : Int)) (by omega), nat_succ s (by omega), inR (show s < can.length by omega), Int.toNat_natCast]
    simp only [cond_true, Option.bind_some, q2, q42, iMax_nat]
    cases hg : fitsB' k (selS l s) with
    | true =>
      simp only [cond_true]
      obtain ⟨M', can', e1, e2, e3, e4, e5, e6, e7⟩ := f13_1_eq m hm l hl ho k hk2 N hN r (s + 1) fuel (max M (selS l s).length) (List.set can s true) (by omega) (by omega) (by rw [List.length_set]; exact hc) (fun j hj => by
        rw [getD_set_b (by omega), if_neg (by omega)]
        exact hz j (by omega))
      refine ⟨M', can', e1, e2, fun j hj => ?_, fun j h1 h2 => ?_, by omega, fun j h1 h2 h3 => ?_, ?_⟩
      · rw [e3 j (by omega), getD_set_b (by omega), if_neg (by omega)]
      · by_cases e : s = j
        · subst e
          rw [e3 s (by omega), getD_set_b (by omega), if_pos rfl]
          exact hg.symm
        · exact e4 j (by omega) h2
      · by_cases e : s = j
        · subst e; omega
        · exact e6 j (by omega) h2 h3
      · rcases e7 with e7 | e7
        · by_cases q : (selS l s).length ≤ M
          · left; omega
          · exact .inr ⟨s, hg, by omega⟩
        · exact .inr e7
    | false =>
      simp only [cond_false]
      obtain ⟨M', can', e1, e2, e3, e4, e5, e6, e7⟩ := f13_1_eq m hm l hl ho k hk2 N hN r (s + 1) fuel M can (by omega) (by omega) hc (fun j hj => hz j (by omega))
      refine ⟨M', can', e1, e2, fun j hj => e3 j (by omega), fun j h1 h2 => ?_, e5, fun j h1 h2 h3 => ?_, e7⟩
      · by_cases e : s = j
        · subst e
          rw [e3 s (by omega), hz s (Nat.le_refl _)]
          exact hg.symm
        · exact e4 j (by omega) h2
      · by_cases e : s = j
        · subst e
          unfold goodB at h3
          rw [hg] at h3; cases h3
        · exact e6 j (by omega) h2 h3

/-- Whether nothing can be added. -/
def fullR (can : List Bool) (s : Nat) : Nat → Nat → Bool
  | 0, _ => true
  | r + 1, i => (decide (s / 2 ^ i % 2 = 1) || !List.getD can (s + 2 ^ i) false) && fullR can s r (i + 1)

theorem fullR_all {can : List Bool} {s : Nat} : ∀ {r i : Nat}, fullR can s r i = true → ∀ j, i ≤ j → j < i + r → s / 2 ^ j % 2 ≠ 1 → List.getD can (s + 2 ^ j) false = false
  | 0, i, _, j, h1, h2, _ => by omega
  | r + 1, i, h, j, h1, h2, h3 => by
    unfold fullR at h
    rw [Bool.and_eq_true] at h
    by_cases e : i = j
    · subst e
      rw [dcF h3, Bool.false_or] at h
      simpa using h.1
    · exact fullR_all h.2 j (by omega) (by omega) h3

theorem f13_4_eq (m : Nat) (x8 x10 : Int) (f : Bool) (l : List Hp) (hl : l.length ≤ 8) (can : List Bool) (hc : can.length = 2 ^ l.length) (K : List Int) (x76 : Int) (s : Nat) (hs : s < 2 ^ l.length) (hs2 : s < 256) : ∀ (r i fuel : Nat) (b : Bool) (acc : List Int), i + r = l.length → r < fuel → acc.length ≤ i →
    f13_4 m fuel x8 x10 f x76 (s : Int) l can K b ((l.length : Nat) : Int) (i : Int) acc = some (b && fullR can s r i, acc ++ bitsR r i (s / 2 ^ i))
  | 0, i, fuel + 1, b, acc, hr, hf, ha => by
    rw [f13_4, dcF (p := (i : Int) < ((l.length : Nat) : Int)) (by omega)]
    show some (b, acc) = some (b && true, acc ++ [])
    rw [List.append_nil, Bool.and_true]
  | r + 1, i, fuel + 1, b, acc, hr, hf, ha => by
    have hi : i < l.length := by omega
    rw [f13_4, dcT (p := (i : Int) < ((l.length : Nat) : Int)) (by omega), dcT (p := 0 ≤ (i : Int)) (by omega), bit_is hs2 (show i < 8 by omega), nat_succ i (by omega), fitsI (n := acc.length + 1) (by omega) (by omega)]
    unfold fullR bitsR
    by_cases e : s / 2 ^ i % 2 = 1
    · rw [dcT e, if_pos e, half, Bool.true_or, Bool.true_and]
      show f13_4 m fuel x8 x10 f x76 (s : Int) l can K b ((l.length : Nat) : Int) ((i + 1 : Nat) : Int) (acc ++ [(i : Int)]) = _
      rw [f13_4_eq m x8 x10 f l hl can hc K x76 s hs hs2 r (i + 1) fuel _ _ (by omega) (by omega) (by simp; omega)]
      simp
    · obtain ⟨o1, o2⟩ := or_is (show l.length < 9 by omega) hs hi e
      rw [dcF e, if_neg e, half, o1, inR (show s + 2 ^ i < can.length by omega), Int.toNat_natCast, Bool.false_or]
      show f13_4 m fuel x8 x10 f x76 (s : Int) l can K (cond (List.getD can (s + 2 ^ i) false) false b) ((l.length : Nat) : Int) ((i + 1 : Nat) : Int) acc = _
      rw [f13_4_eq m x8 x10 f l hl can hc K x76 s hs hs2 r (i + 1) fuel _ _ (by omega) (by omega) (by omega)]
      cases List.getD can (s + 2 ^ i) false <;> cases b <;> rfl

theorem lex_end (own H : List Int) {i : Nat} (hi : own.length ≤ i) (h2 : i ≤ own.length) (hH : i ≤ H.length) : decide (((own.length : Nat) : Int) < ((H.length : Nat) : Int)) = lexB (own.drop i) (H.drop i) := by
  rw [List.drop_eq_nil_of_le hi]
  by_cases e : i < H.length
  · rw [List.drop_eq_getElem_cons e, dcT (by omega)]; rfl
  · rw [List.drop_eq_nil_of_le (by omega), dcF (by omega)]; rfl

theorem f13_5_eq (m : Nat) (l : List Hp) (K : List Bool) (H own : List Int) (ho : own.length ≤ 1000) : ∀ (r i fuel : Nat), i + r = own.length → r < fuel → i ≤ H.length →
    (∃ v : Int, f13_5 m fuel l K H ((own.length : Nat) : Int) (i : Int) own = some (.r v own) ∧ decide (v < 0) = lexB (own.drop i) (H.drop i)) ∨ (f13_5 m fuel l K H ((own.length : Nat) : Int) (i : Int) own = some (.x0 own) ∧ decide (((own.length : Nat) : Int) < ((H.length : Nat) : Int)) = lexB (own.drop i) (H.drop i))
  | 0, i, fuel + 1, hr, hf, hH => by
    right
    rw [f13_5, dcF (p := (i : Int) < ((own.length : Nat) : Int)) (by omega)]
    exact ⟨rfl, lex_end own H (by omega) (by omega) hH⟩
  | r + 1, i, fuel + 1, hr, hf, hH => by
    have hi : i < own.length := by omega
    rw [f13_5, dcT (p := (i : Int) < ((own.length : Nat) : Int)) (by omega), inR hi, List.drop_eq_getElem_cons hi]
    by_cases e : i < H.length
    · have n1 : (own[i] != own[i]) = false := by simp
      have n2 : (H[i] != H[i]) = false := by simp
      rw [dcF (p := (i : Int) ≥ ((H.length : Nat) : Int)) (by omega), inR e, getDz own hi, getDz H e, n1, n2, List.drop_eq_getElem_cons e, nat_succ i (by omega)]
      unfold lexB
      by_cases e1 : own[i] < H[i]
      · rw [dcT e1, if_pos e1]
        exact .inl ⟨-1, rfl, rfl⟩
      · rw [dcF e1, if_neg e1]
        by_cases e2 : own[i] > H[i]
        · rw [dcT e2, if_pos e2]
          exact .inl ⟨1, rfl, rfl⟩
        · rw [dcF e2, if_neg e2]
          exact f13_5_eq m l K H own ho r (i + 1) fuel (by omega) (by omega) (by omega)
    · have hn : H.drop i = [] := List.drop_eq_nil_of_le (by omega)
      rw [dcT (p := (i : Int) ≥ ((H.length : Nat) : Int)) (by omega), hn]
      exact .inl ⟨1, rfl, rfl⟩

theorem f13_6_eq (m : Nat) (l : List Hp) (K : List Bool) (H own : List Int) (ho : own.length ≤ 1000) : ∀ (r i fuel : Nat), i + r = own.length → r < fuel → i ≤ H.length →
    (∃ v : Int, f13_6 m fuel l K H ((own.length : Nat) : Int) (i : Int) own = some (.r v own) ∧ decide (v < 0) = lexB (own.drop i) (H.drop i)) ∨ (f13_6 m fuel l K H ((own.length : Nat) : Int) (i : Int) own = some (.x0 own) ∧ decide (((own.length : Nat) : Int) < ((H.length : Nat) : Int)) = lexB (own.drop i) (H.drop i))
  | 0, i, fuel + 1, hr, hf, hH => by
    right
    rw [f13_6, dcF (p := (i : Int) < ((own.length : Nat) : Int)) (by omega)]
    exact ⟨rfl, lex_end own H (by omega) (by omega) hH⟩
  | r + 1, i, fuel + 1, hr, hf, hH => by
    have hi : i < own.length := by omega
    rw [f13_6, dcT (p := (i : Int) < ((own.length : Nat) : Int)) (by omega), inR hi, List.drop_eq_getElem_cons hi]
    by_cases e : i < H.length
    · have n1 : (own[i] != own[i]) = false := by simp
      have n2 : (H[i] != H[i]) = false := by simp
      rw [dcF (p := (i : Int) ≥ ((H.length : Nat) : Int)) (by omega), inR e, getDz own hi, getDz H e, n1, n2, List.drop_eq_getElem_cons e, nat_succ i (by omega)]
      unfold lexB
      by_cases e1 : own[i] < H[i]
      · rw [dcT e1, if_pos e1]
        exact .inl ⟨-1, rfl, rfl⟩
      · rw [dcF e1, if_neg e1]
        by_cases e2 : own[i] > H[i]
        · rw [dcT e2, if_pos e2]
          exact .inl ⟨1, rfl, rfl⟩
        · rw [dcF e2, if_neg e2]
          exact f13_6_eq m l K H own ho r (i + 1) fuel (by omega) (by omega) (by omega)
    · have hn : H.drop i = [] := List.drop_eq_nil_of_le (by omega)
      rw [dcT (p := (i : Int) ≥ ((H.length : Nat) : Int)) (by omega), hn]
      exact .inl ⟨1, rfl, rfl⟩

theorem f13_3_eq (m : Nat) (hm : 1001 ≤ m) (l : List Hp) (hl : l.length ≤ 8) (k : Nat) (T : Nat) (can : List Bool) (hc : can.length = 2 ^ l.length) (hN : 2 ^ l.length ≤ 256) (good : Nat → Bool) (hcan : ∀ j, j < 2 ^ l.length → List.getD can j false = good j)
    (hfull : ∀ s, s < 2 ^ l.length → good s = true → fullR can s l.length 0 = true → (bitsR l.length 0 s).length = T) : ∀ (r s fuel : Nat) (f : Bool) (H : List Int), s + r = 2 ^ l.length → r < fuel →
    f13_3 m fuel (k : Int) (T : Int) f ((can.length : Nat) : Int) (s : Int) l can H = some (.x4 (k : Int) l (runK good (fun s => bitsR l.length 0 s) T r s (f, H)).2)
  | 0, s, fuel + 1, f, H, hr, hf => by
    rw [f13_3, dcF (p := (s : Int) < ((can.length : Nat) : Int)) (by omega)]
    rfl
  | r + 1, s, fuel + 1, f, H, hr, hf => by
    have q4 := f13_4_eq m (k : Int) (T : Int) f l hl can hc H ((can.length : Nat) : Int) s (by omega) (by omega) l.length 0 m true [] (by omega) (by omega) (by simp)
    rw [List.nil_append, Nat.pow_zero, Nat.div_one, Bool.true_and] at q4
    have q4 : f13_4 m m (k : Int) (T : Int) f ((can.length : Nat) : Int) (s : Int) l can H true ((l.length : Nat) : Int) 0 [] = some (fullR can s l.length 0, bitsR l.length 0 s) := q4
    have hlen := bitsR_len l.length 0 s
    have ih := fun f' H' => f13_3_eq m hm l hl k T can hc hN good hcan hfull r (s + 1) fuel f' H' (by omega) (by omega)
    rw [f13_3, dcT (p := (s : Int) < ((can.length : Nat) : Int)) (by omega), nat_succ s (by omega), inR (show s < can.length by omega), Int.toNat_natCast, hcan s (by omega)]
    show _ = some (Of13_3.x4 (k : Int) l (runK good (fun s => bitsR l.length 0 s) T r (s + 1) (stepK good (fun s => bitsR l.length 0 s) T (f, H) s)).2)
    simp only [cond_true, Option.bind_some, q4, ih]
    unfold stepK
    cases hg : good s with
    | false => rfl
    | true =>
      simp only [Bool.not_true, cond_false, Bool.true_and]
      have tl : ∀ (c : Bool) (X : Option Of13_3), cond c X X = X := fun c X => by cases c <;> rfl
      have e4 : decide ((bitsR l.length 0 s).length = (bitsR l.length 0 s).length) = true := dcT rfl
      by_cases e2 : (bitsR l.length 0 s).length = T
      · have e3 : ((((bitsR l.length 0 s).length : Nat) : Int) == (T : Int)) = true := by rw [e2]; simp
        have e5 : ((((bitsR l.length 0 s).length : Nat) : Int) != (T : Int)) = false := by rw [e2]; simp
        simp only [e3, e5, cond_true, cond_false, dcT e2, Bool.true_and]
        cases f with
        | false => simp only [Bool.not_false, cond_true, tl, Bool.true_or]
        | true =>
          simp only [Bool.not_true, cond_false, Bool.false_or]
          have q5 := f13_5_eq m l can H (bitsR l.length 0 s) (by omega) (bitsR l.length 0 s).length 0 m (by omega) (by omega) (Nat.zero_le _)
          have q6 := f13_6_eq m l can H (bitsR l.length 0 s) (by omega) (bitsR l.length 0 s).length 0 m (by omega) (by omega) (Nat.zero_le _)
          rw [List.drop_zero, List.drop_zero] at q5 q6
          cases fullR can s l.length 0 with
          | true =>
            simp only [cond_true]
            rcases q5 with ⟨v, a1, a2⟩ | ⟨a1, a2⟩
            · have a1 : f13_5 m m l can H (((bitsR l.length 0 s).length : Nat) : Int) 0 (bitsR l.length 0 s) = some (.r v (bitsR l.length 0 s)) := a1
              simp only [a1, Option.bind_some, a2, e4, cond_true]
              cases lexB (bitsR l.length 0 s) H <;> rfl
            · have a1 : f13_5 m m l can H (((bitsR l.length 0 s).length : Nat) : Int) 0 (bitsR l.length 0 s) = some (.x0 (bitsR l.length 0 s)) := a1
              simp only [a1, Option.bind_some, a2, e4, cond_true]
              cases lexB (bitsR l.length 0 s) H <;> rfl
          | false =>
            simp only [cond_false]
            rcases q6 with ⟨v, a1, a2⟩ | ⟨a1, a2⟩
            · have a1 : f13_6 m m l can H (((bitsR l.length 0 s).length : Nat) : Int) 0 (bitsR l.length 0 s) = some (.r v (bitsR l.length 0 s)) := a1
              simp only [a1, Option.bind_some, a2, e4, cond_true]
              cases lexB (bitsR l.length 0 s) H <;> rfl
            · have a1 : f13_6 m m l can H (((bitsR l.length 0 s).length : Nat) : Int) 0 (bitsR l.length 0 s) = some (.x0 (bitsR l.length 0 s)) := a1
              simp only [a1, Option.bind_some, a2, e4, cond_true]
              cases lexB (bitsR l.length 0 s) H <;> rfl
      · have e3 : ((((bitsR l.length 0 s).length : Nat) : Int) == (T : Int)) = false := by simpa using fun q : (((bitsR l.length 0 s).length : Nat) : Int) = (T : Int) => e2 (by omega)
        have hnf : fullR can s l.length 0 = false := by
          cases hb : fullR can s l.length 0 with
          | false => rfl
          | true => exact absurd (hfull s (by omega) hg hb) e2
        simp only [hnf, e3, cond_false, dcF e2, Bool.false_and]

theorem f13_true (m : Nat) (hm : 1001 ≤ m) (a0 b0 a1 b1 a2 b2 a3 b3 a4 b4 a5 b5 a6 b6 a7 b7 b c : Int) (hy : bytesP [(a0, b0), (a1, b1), (a2, b2), (a3, b3), (a4, b4), (a5, b5), (a6, b6), (a7, b7)]) (hb : 0 ≤ b ∧ b ≤ 255) (hc : 0 ≤ c ∧ c ≤ 255) :
    f13 m a0 b0 a1 b1 a2 b2 a3 b3 a4 b4 a5 b5 a6 b6 a7 b7 b c = some true := by
  unfold f13
  rw [w64i (x := b) (by omega) (by omega), w64i (x := c) (by omega) (by omega), tme (show 0 ≤ c by omega), w64i (x := 1 + c % 2) (by omega) (by omega), f41_eq m (by omega) _ _ _ _ _ _ _ _ _ _ _ _ _ _ _ _ _ _ _ _ hy ⟨by omega, by omega⟩ ⟨by omega, by omega⟩ ⟨by omega, by omega⟩ ⟨by omega, by omega⟩]
  have h8 := heapsOf_len [(a0, b0), (a1, b1), (a2, b2), (a3, b3), (a4, b4), (a5, b5), (a6, b6), (a7, b7)] b 7 6 0
  have ho := heapsOf_ok hy (b := b) (c := 7) (d := 6) (e := 0) (by omega)
  generalize heapsOf [(a0, b0), (a1, b1), (a2, b2), (a3, b3), (a4, b4), (a5, b5), (a6, b6), (a7, b7)] b 7 6 0 = l at h8 ho
  have hok : OkL l := fun h hh => by have := ho h hh; unfold okHeap at this; omega
  have hpow : 2 ^ l.length ≤ 256 := Nat.le_trans (Nat.pow_le_pow_right (by omega) h8) (by decide)
  obtain ⟨k, hk⟩ : ∃ k : Nat, 1 + c % 2 = (k : Int) := ⟨(1 + c % 2).toNat, by omega⟩
  have hk1 : 1 ≤ k := by omega
  have hk2 : k ≤ 10 := by omega
  rw [hk]
  have e0 : decide (0 ≤ ((l.length : Nat) : Int)) = true := dcT (by omega)
  have hmk : mkOK ((2 ^ l.length : Nat) : Int) ((2 ^ l.length : Nat) : Int) 1 = true := by
    unfold mkOK
    generalize 2 ^ l.length = N at hpow
    simp
    omega
  obtain ⟨p1, p2, p3, p4⟩ := kept_all (k := k) hok
  have hz : ∀ j, List.getD (List.replicate (2 ^ l.length) false) j false = false := fun j => by
    rw [List.getD_eq_getElem?_getD, List.getElem?_replicate]
    split <;> rfl
  obtain ⟨M', can', e1, e2, e3, e4, e5, e6, e7⟩ := f13_1_eq m hm l h8 hok k hk2 (2 ^ l.length) hpow (2 ^ l.length) 0 m 0 (List.replicate (2 ^ l.length) false) (by omega) (by omega) (by simp) (fun j _ => hz j)
  have hM : M' = (kpL k l 0 []).length := by
    obtain ⟨s, s1, s2, s3⟩ := p1
    have h1 := e6 s (by omega) s1 (fitsB'_iff.2 s2)
    rw [selS_len l 0 s, s3] at h1
    rcases e7 with e7 | ⟨j, j1, j2⟩
    · omega
    · have h2 := p2 j (fitsB'_iff.1 j1)
      rw [← selS_len l 0 j] at h2
      omega
  have hlenT : (kpL k l 0 []).length ≤ 8 := by
    obtain ⟨s, s1, s2, s3⟩ := p1
    have := bitsR_len l.length 0 s
    rw [s3] at this; omega
  rw [hM] at e1
  have e1 : f13_1 m m (k : Int) 0 ((2 ^ l.length : Nat) : Int) 0 l (List.replicate (2 ^ l.length) false) = some ((k : Int), (((kpL k l 0 []).length : Nat) : Int), l, can') := e1
  have q3 := f13_3_eq m hm l h8 k (kpL k l 0 []).length can' e2 hpow (goodB k l) (fun j hj => e4 j (Nat.zero_le _) hj) (fun s hs hg hfu => p4 s (fitsB'_iff.1 hg) (fun i hi hbit hfit => by
    have h1 := fullR_all hfu i (Nat.zero_le _) (by omega) hbit
    have h2 := (or_is (show l.length < 9 by omega) hs hi hbit).2
    rw [e4 _ (Nat.zero_le _) h2] at h1
    unfold goodB at h1
    rw [fitsB'_iff.2 hfit] at h1
    cases h1)) (2 ^ l.length) 0 m false [] (by omega) (by omega)
  have hbest : runK (goodB k l) (fun s => bitsR l.length 0 s) (kpL k l 0 []).length (2 ^ l.length) 0 (false, []) = (true, kpL k l 0 []) := by
    obtain ⟨s, s1, s2, s3⟩ := p1
    exact bestK (goodB k l) (fun s => bitsR l.length 0 s) (2 ^ l.length) (kpL k l 0 []) s s1 (fitsB'_iff.2 s2) s3 (fun j j1 j2 => by
      rcases p3 j (fitsB'_iff.1 j1) j2 with h | h
      · exact .inl h.symm
      · exact .inr h)
  rw [hbest] at q3
  have q3 : f13_3 m m (k : Int) (((kpL k l 0 []).length : Nat) : Int) false ((can'.length : Nat) : Int) 0 l can' [] = some (.x4 (k : Int) l (kpL k l 0 [])) := q3
  have z0 : ((0 : Int) == 0) = true := rfl
  simp only [Option.bind_some, e0, cond_true, pow_is (show l.length < 9 by omega), hmk, Int.toNat_natCast, e1, q3, f33_ok1 m hm l (by omega) hok k hk1 hk2, z0, f20_same m hm (kpL k l 0 []) (by omega)]

end Go.Xm

namespace Go.Proofs.Ytfdeihnkoaihfaa.heapKept
open Go.Xm Go.RowKit

theorem u8b {z : Int} (h : (Lit.int .u8 z).wf = true) : 0 ≤ z ∧ z ≤ 255 := by
  simp [Lit.wf, IntKind.min, IntKind.max, IntKind.signed, IntKind.bits] at h
  omega

theorem walk (z0 : List Int) (a1 a2 : Int) (w : World) (l0 : z0.length = 16) (w0 : ∀ z ∈ z0, (Lit.int .u8 z).wf = true) (w1 : (Lit.int .u8 a1).wf = true) (w2 : (Lit.int .u8 a2).wf = true) :
    Calls Try.prog 13 #[.agg (z0.map (.int .u8)).toArray, .int .u8 a1, .int .u8 a2] w fun e w' => e = .returned (.bool true) ∧ Below w.heap.size w w' := by
  obtain ⟨a0, b0, a1', b1, a2', b2, a3, b3, a4', b4, a5, b5, a6, b6, a7, b7, rfl⟩ := list16 l0
  have hy : bytesP [(a0, b0), (a1', b1), (a2', b2), (a3, b3), (a4', b4), (a5, b5), (a6, b6), (a7, b7)] := by
    intro p hp
    have hb : ∀ z, z ∈ [a0, b0, a1', b1, a2', b2, a3, b3, a4', b4, a5, b5, a6, b6, a7, b7] → 0 ≤ z ∧ z ≤ 255 := fun z hz => u8b (w0 z hz)
    simp only [List.mem_cons, List.not_mem_nil, or_false] at hp
    rcases hp with rfl | rfl | rfl | rfl | rfl | rfl | rfl | rfl <;> (refine ⟨(hb _ ?_).1, (hb _ ?_).2, (hb _ ?_).1, (hb _ ?_).2⟩ <;> simp)
  exact f13_ok 1001 _ _ _ _ _ _ _ _ _ _ _ _ _ _ _ _ _ _ true (f13_true 1001 (by omega) _ _ _ _ _ _ _ _ _ _ _ _ _ _ _ _ _ _ hy (u8b w1) (u8b w2)) w trivial

end Go.Proofs.Ytfdeihnkoaihfaa.heapKept
