/- The statements' own words: parts counted, 'even' and 'straight' as the statements ask them; spelled words. Conditions: none. -/
import Derived.Test.YtdijjdkaojbolaaG3
import Derived.Test.YtdijjdkaojbolaaDp
namespace Go.Xm
set_option linter.unusedVariables false
set_option linter.unusedSimpArgs false

/-! ### Letters of a part -/
theorem count_cnt (l : List UInt8) (f : Nat → Bool) : ∀ (k : Nat), k ≤ l.length → (∀ j, j < k → f j = (l.getD j 0 == 98)) → ((l.take k).count 98 : Int) = cnt f k
  | 0, _, _ => by simp [cnt]
  | k + 1, hk, h => by
    have ih := count_cnt l f k (by omega) (fun j hj => h j (by omega))
    have hl : k < l.length := by omega
    rw [List.take_succ_eq_append_getElem hl, List.count_append, List.count_singleton]
    have e : l.getD k 0 = l[k] := by rw [List.getD_eq_getElem?_getD, List.getElem?_eq_getElem hl]; rfl
    simp only [cnt]
    rw [h k (by omega), e]
    cases hb : (l[k] == 98) with
    | true => simp only [cond_true, if_true]; omega
    | false => simp only [cond_false]; simp; omega

theorem byte_eq (u : UInt8) : ((u.toNat : Int) == 98) = (u == 98) := by
  rw [Bool.eq_iff_iff, beq_iff_eq, beq_iff_eq]
  constructor
  · intro h
    apply UInt8.toNat_inj.1
    have : u.toNat = 98 := by omega
    exact this
  · intro h
    rw [h]; rfl

theorem catS_len (a b : ByteArray) : (catS a b).size = a.size + b.size := by
  show (a.data.toList ++ b.data.toList).length = _
  rw [List.length_append]; rfl

theorem count_part {a : ByteArray} (hn : 0 < a.size) (l i : Nat) (h : i + l ≤ a.size + a.size) (hs : a.size ≤ 1000) :
    cutOk (i : Int) (w64 ((i : Int) + (l : Int))) (catS a a).size = true ∧ ((Lib.countByte (cutT (catS a a) (i : Int) (w64 ((i : Int) + (l : Int)))).data.toList 98 : Nat) : Int) = prt a l i := by
  have hw : w64 ((i : Int) + (l : Int)) = ((i + l : Nat) : Int) := by rw [w64_id (by omega) (by omega)]; rfl
  rw [hw]
  have hsz := catS_len a a
  refine ⟨by simp only [cutOk, Bool.and_eq_true, decide_eq_true_eq]; omega, ?_⟩
  show ((((((catS a a).data.toList.drop (i : Int).toNat).take ((((i + l : Nat) : Int)).toNat - (i : Int).toNat)).count 98) : Nat) : Int) = _
  rw [Int.toNat_natCast, Int.toNat_natCast]
  have e : i + l - i = l := by omega
  rw [e]
  have hlen : (catS a a).data.toList.length = a.size + a.size := hsz
  have key := count_cnt ((catS a a).data.toList.drop i) (fun j => isB a (i + j)) l (by rw [List.length_drop]; omega) (fun j hj => by
    have hb := catS_byte a hn (i + j) (by omega)
    have : ((catS a a).data.toList.drop i).getD j 0 = (catS a a).data.toList.getD (i + j) 0 := by
      simp [List.getD_eq_getElem?_getD]
    rw [this]
    unfold isB
    rw [← hb]
    unfold byteAt
    rw [Int.toNat_natCast, byte_eq])
  rw [key]
  unfold prt
  rw [cnt_add]
  omega

/-! ### How much parts differ -/
theorem iMin_eq (x y : Int) : iMin x y = min x y := by unfold iMin; rw [Int.min_def]; split <;> split <;> omega
theorem iMax_eq (x y : Int) : iMax x y = max x y := by unfold iMax; rw [Int.max_def]; split <;> split <;> omega

theorem f64_1_eq (m : Nat) {a : ByteArray} (hn : 0 < a.size) (hs : a.size ≤ 1000) (l B : Nat) (hB : B + l ≤ a.size + a.size + 1) : ∀ (k i fuel : Nat) (x y : Int), i + k = B → k < fuel →
    ∃ u v, f64_1 m fuel l B x y (catS a a) i = some (u, v) ∧ u ≤ x ∧ y ≤ v ∧ (∀ j, i ≤ j → j < B → u ≤ prt a l j ∧ prt a l j ≤ v) ∧ (u = x ∨ ∃ j, j < B ∧ u = prt a l j) ∧ (v = y ∨ ∃ j, j < B ∧ v = prt a l j)
  | 0, i, fuel + 1, x, y, h1, _ => by
    have : ¬ ((i : Int) < (B : Int)) := by omega
    refine ⟨x, y, ?_, Int.le_refl _, Int.le_refl _, fun j h2 h3 => by omega, .inl rfl, .inl rfl⟩
    simp only [f64_1, decide_eq_false this, cond_false]
  | k + 1, i, fuel + 1, x, y, h1, h2 => by
    have q1 : ((i : Int) < (B : Int)) := by omega
    obtain ⟨p1, p2⟩ := count_part hn l i (by omega) hs
    have q6 : w64 ((i : Int) + 1) = ((i + 1 : Nat) : Int) := by rw [w64_id (by omega) (by omega)]; rfl
    obtain ⟨u, v, e, h3, h4, h5, h6, h7⟩ := f64_1_eq m hn hs l B hB k (i + 1) fuel (iMin x (prt a l i)) (iMax y (prt a l i)) (by omega) (by omega)
    rw [iMin_eq] at h3 h6
    rw [iMax_eq] at h4 h7
    refine ⟨u, v, ?_, by clear h6 h7; omega, by clear h6 h7; omega, fun j h8 h9 => ?_, ?_, ?_⟩
    · simp only [f64_1, decide_eq_true q1, p1, p2, q6, cond_true]
      exact e
    · clear h6 h7
      by_cases ej : j = i
      · subst ej; omega
      · exact h5 j (by omega) h9
    · rcases h6 with h6 | h6
      · rw [Int.min_def] at h6
        split at h6
        · exact .inl h6
        · exact .inr ⟨i, by omega, h6⟩
      · exact .inr h6
    · rcases h7 with h7 | h7
      · rw [Int.max_def] at h7
        split at h7
        · exact .inr ⟨i, by omega, h7⟩
        · exact .inl h7
      · exact .inr h7
  | _, _, 0, _, _, _, h => by omega

theorem two_none_iff (a : ByteArray) (B l : Nat) : two a B l = none ↔ ∀ x y, x < B → y < B → prt a l x < prt a l y + 2 := by
  constructor
  · intro h x y hx hy
    have key : ∀ k i, fndM (fun x => fnd (fun y => decide (prt a l x ≥ prt a l y + 2)) B 0) k i = none → ∀ j, i ≤ j → j < i + k → fnd (fun y => decide (prt a l j ≥ prt a l y + 2)) B 0 = none := by
      intro k
      induction k with
      | zero => intro i _ j h1 h2; omega
      | succ k ih =>
        intro i hk j h1 h2
        simp only [fndM] at hk
        cases hf : fnd (fun y => decide (prt a l i ≥ prt a l y + 2)) B 0 with
        | some v => rw [hf] at hk; cases hk
        | none =>
          rw [hf] at hk
          by_cases e : j = i
          · subst e; exact hf
          · exact ih (i + 1) hk j (by omega) (by omega)
    have := fnd_none_iff B 0 (key B 0 h x (Nat.zero_le _) (by omega)) y (Nat.zero_le _) (by omega)
    have := of_decide_eq_false this
    omega
  · intro h
    exact fndM_none B 0 (fun x _ hx => fnd_none B 0 (fun y _ hy => decide_eq_false (by have := h x y (by omega) (by omega); omega)))

theorem f64_eq (m : Nat) {a : ByteArray} (hn : 0 < a.size) (hs : a.size ≤ 1000) (l B : Nat) (hB : B + l ≤ a.size + a.size + 1) (hB0 : 0 < B) (hl : l ≤ a.size) (hm : B < m) :
    ∃ r, f64 m a l B = some r ∧ (decide (r > 1) = (two a B l).isSome) := by
  obtain ⟨u, v, e, h3, h4, h5, h6, h7⟩ := f64_1_eq m hn hs l B hB B 0 m ((a.size : Nat) : Int) 0 (by omega) hm
  have e0 : ((0 : Nat) : Int) = 0 := rfl
  rw [e0] at e
  have hb : Nat.ble (a.size + a.size) 9223372036854775807 = true := by rw [Nat.ble_eq]; omega
  have h50 := h5 0 (Nat.le_refl _) hB0
  have hr0 := prt_range a l 0
  have hu : ∃ j, j < B ∧ u = prt a l j := by
    rcases h6 with h6 | h6
    · exact ⟨0, hB0, by clear h7; omega⟩
    · exact h6
  have hv : ∃ j, j < B ∧ v = prt a l j := by
    rcases h7 with h7 | h7
    · exact ⟨0, hB0, by clear h6; omega⟩
    · exact h7
  obtain ⟨j1, g1, g2⟩ := hu
  obtain ⟨j2, g3, g4⟩ := hv
  have r1 := prt_range a l j1
  have r2 := prt_range a l j2
  clear h6 h7
  have hw : w64 (v - u) = v - u := w64_id (by omega) (by omega)
  refine ⟨v - u, ?_, ?_⟩
  · simp only [f64, hb, e, cond_true, Option.bind_some, hw]
  · rw [Bool.eq_iff_iff, decide_eq_true_eq]
    constructor
    · intro h
      cases ht : two a B l with
      | some w => rfl
      | none =>
        have := (two_none_iff a B l).1 ht j2 j1 g3 g1
        omega
    · intro h
      by_cases hc : v - u > 1
      · exact hc
      · have : two a B l = none := (two_none_iff a B l).2 (fun x y hx hy => by
          have a1 := h5 x (Nat.zero_le _) hx
          have a2 := h5 y (Nat.zero_le _) hy
          omega)
        rw [this] at h
        cases h

/-- The whole word's part: everywhere the same. -/
theorem prt_full (a : ByteArray) (hn : 0 < a.size) (i : Nat) : prt a a.size i = cnt (isB a) a.size := by
  have h : ∀ i, cnt (isB a) (i + a.size) = cnt (isB a) i + cnt (isB a) a.size := by
    intro i
    induction i with
    | zero => simp [cnt]
    | succ i ih =>
      have e : i + 1 + a.size = (i + a.size) + 1 := by omega
      rw [e]
      simp only [cnt]
      have hb : isB a (i + a.size) = isB a i := by unfold isB; rw [Nat.add_mod_right]
      rw [hb, ih]
      cases isB a i <;> simp only [cond_true, cond_false] <;> omega
  unfold prt
  rw [h i]
  omega

theorem fndM_last {β : Type} (g : Nat → Option β) : ∀ (k i : Nat), g (i + k) = none → (fndM g (k + 1) i).isSome = (fndM g k i).isSome
  | 0, i, h => by
    have h : g i = none := h
    simp only [fndM, h]
  | k + 1, i, h => by
    simp only [fndM]
    cases g i with
    | some v => rfl
    | none =>
      have := fndM_last g k (i + 1) (by rw [Nat.add_right_comm]; exact h)
      simp only [fndM] at this
      exact this

theorem agn_short (a : ByteArray) (hn : 0 < a.size) (st : Bool) : (fndM (fun l => two a (begs a st l) l) (a.size - 1) 1).isSome = (agn a st).isSome := by
  unfold agn
  obtain ⟨k, hk⟩ : ∃ k, a.size = k + 1 := ⟨a.size - 1, by omega⟩
  have h0 : two a (begs a st a.size) a.size = none := (two_none_iff _ _ _).2 (fun x y _ _ => by rw [prt_full a hn, prt_full a hn]; omega)
  rw [hk] at h0 ⊢
  have e : k + 1 - 1 = k := rfl
  rw [e]
  exact (fndM_last _ k 1 (by rw [Nat.add_comm]; exact h0)).symm

theorem f39_1_eq (m : Nat) {a : ByteArray} (hn : 0 < a.size) (hs : a.size ≤ 16) (hm : 100 < m) : ∀ (k l fuel : Nat), 1 ≤ l → l + k = a.size → k < fuel →
    f39_1 m fuel a l = some (cond (fndM (fun l => two a (begs a false l) l) k l).isSome .r .x0)
  | 0, l, fuel + 1, h0, h1, _ => by
    have : ¬ ((l : Int) < ((a.size : Nat) : Int)) := by omega
    simp only [f39_1, decide_eq_false this, cond_false, fndM]
    rfl
  | k + 1, l, fuel + 1, h0, h1, h2 => by
    have q1 : ((l : Int) < ((a.size : Nat) : Int)) := by omega
    have ih := f39_1_eq m hn hs hm k (l + 1) fuel (by omega) (by omega) (by omega)
    obtain ⟨r, e1, e2⟩ := f64_eq m hn (by omega) l a.size (by omega) hn (by omega) (by omega)
    have q6 : w64 ((l : Int) + 1) = ((l + 1 : Nat) : Int) := by rw [w64_id (by omega) (by omega)]; rfl
    have hb : begs a false l = a.size := rfl
    simp only [f39_1, decide_eq_true q1, e1, e2, q6, cond_true, Option.bind_some, fndM, hb]
    cases two a a.size l with
    | some v => rfl
    | none => exact ih
  | _, _, 0, _, _, h => by omega

theorem f42_1_eq (m : Nat) {a : ByteArray} (hn : 0 < a.size) (hs : a.size ≤ 16) (hm : 100 < m) : ∀ (k l fuel : Nat), 1 ≤ l → l + k = a.size → k < fuel →
    f42_1 m fuel a l = some (cond (fndM (fun l => two a (begs a true l) l) k l).isSome .r .x0)
  | 0, l, fuel + 1, h0, h1, _ => by
    have : ¬ ((l : Int) < ((a.size : Nat) : Int)) := by omega
    simp only [f42_1, decide_eq_false this, cond_false, fndM]
    rfl
  | k + 1, l, fuel + 1, h0, h1, h2 => by
    have q1 : ((l : Int) < ((a.size : Nat) : Int)) := by omega
    have ih := f42_1_eq m hn hs hm k (l + 1) fuel (by omega) (by omega) (by omega)
    obtain ⟨r, e1, e2⟩ := f64_eq m hn (by omega) l (begs a true l) (by simp only [begs, cond_true]; omega) (by simp only [begs, cond_true]; omega) (by omega) (by simp only [begs, cond_true]; omega)
    have q6 : w64 ((l : Int) + 1) = ((l + 1 : Nat) : Int) := by rw [w64_id (by omega) (by omega)]; rfl
    have hb : w64 ((w64 (((a.size : Nat) : Int) - (l : Int))) + 1) = ((begs a true l : Nat) : Int) := by
      rw [w64_id (x := ((a.size : Nat) : Int) - (l : Int)) (by omega) (by omega), w64_id (by omega) (by omega)]
      simp only [begs, cond_true]
      omega
    simp only [f42_1, decide_eq_true q1, hb, e1, e2, q6, cond_true, Option.bind_some, fndM]
    cases two a (begs a true l) l with
    | some v => rfl
    | none => exact ih
  | _, _, 0, _, _, h => by omega

theorem f39_eq (m : Nat) {a : ByteArray} (hn : 0 < a.size) (hs : a.size ≤ 16) (hm : 100 < m) : f39 m a = some (agn a false).isNone := by
  have r := f39_1_eq m hn hs hm (a.size - 1) 1 m (by omega) (by omega) (by omega)
  have e1 : ((1 : Nat) : Int) = 1 := rfl
  rw [e1, agn_short a hn] at r
  unfold f39
  rw [r]
  cases agn a false <;> rfl

theorem f42_eq (m : Nat) {a : ByteArray} (hn : 0 < a.size) (hs : a.size ≤ 16) (hm : 100 < m) : f42 m a = some (agn a true).isNone := by
  have r := f42_1_eq m hn hs hm (a.size - 1) 1 m (by omega) (by omega) (by omega)
  have e1 : ((1 : Nat) : Int) = 1 := rfl
  rw [e1, agn_short a hn] at r
  unfold f42
  rw [r]
  cases agn a true <;> rfl

end Go.Xm
