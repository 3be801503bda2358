/- HeapPlans: plans, and what Verify says, on both sides. Conditions: none. -/
import Derived.Test.YtfdeihnkoaihfaaBf
import Derived.Test.YtfdeihnkoaihfaaBg
import Derived.Test.YtfdeihnkoaihfaaEc
namespace Go.Xm
set_option linter.unusedVariables false
set_option linter.unusedSimpArgs false
set_option maxRecDepth 20000

/-! ### The same heaps for the reference -/
theorem f17_1_eq (m : Nat) (l : List Hp) (h10 : l.length ≤ 900) : ∀ (r i fuel : Nat), i + r = l.length → r < fuel → f17_1 m fuel l (i : Int) (l.take i) = some l
  | 0, i, fuel + 1, hr, hf => by
    rw [f17_1, dcF (p := (i : Int) < ((l.length : Nat) : Int)) (by omega), List.take_of_length_le (by omega)]
    rfl
  | r + 1, i, fuel + 1, hr, hf => by
    have hi : i < l.length := by omega
    rw [f17_1, dcT (p := (i : Int) < ((l.length : Nat) : Int)) (by omega), inR hi, getDi l hi, nat_succ i (by omega), fitsI (n := (l.take i).length + 1) (by rw [List.length_take]; omega) (by omega)]
    have : l.take i ++ [((l[i]).1, (l[i]).2)] = l.take (i + 1) := by rw [List.take_succ_eq_append_getElem hi]
    show f17_1 m fuel l ((i + 1 : Nat) : Int) (l.take i ++ [((l[i]).1, (l[i]).2)]) = _
    rw [this]
    exact f17_1_eq m l h10 r (i + 1) fuel (by omega) (by omega)

theorem f17_eq (m : Nat) (hm : 1001 ≤ m) (l : List Hp) (hl : l.length ≤ 900) : f17 m l = some l := by
  unfold f17
  show (f17_1 m m l ((0 : Nat) : Int) (l.take 0)).bind _ = _
  rw [f17_1_eq m l hl l.length 0 m (by omega) (by omega)]
  rfl

theorem f20_1_eq (m : Nat) (l : List Int) (h10 : l.length ≤ 1000) : ∀ (r i fuel : Nat), i + r = l.length → r < fuel → f20_1 m fuel l l (i : Int) = some .x0
  | 0, i, fuel + 1, hr, hf => by
    rw [f20_1, dcF (p := (i : Int) < ((l.length : Nat) : Int)) (by omega)]
    rfl
  | r + 1, i, fuel + 1, hr, hf => by
    have hi : i < l.length := by omega
    rw [f20_1, dcT (p := (i : Int) < ((l.length : Nat) : Int)) (by omega), inR hi, nat_succ i (by omega)]
    have : (List.getD l (Int.toNat (i : Int)) 0 != List.getD l (Int.toNat (i : Int)) 0) = false := by simp
    rw [this]
    exact f20_1_eq m l h10 r (i + 1) fuel (by omega) (by omega)

theorem f20_same (m : Nat) (hm : 1001 ≤ m) (l : List Int) (hl : l.length ≤ 1000) : f20 m l l = some true := by
  unfold f20
  have : ((((l.length : Nat) : Int)) != ((l.length : Nat) : Int)) = false := by simp
  rw [this]
  show (f20_1 m m l l ((0 : Nat) : Int)).bind _ = _
  rw [f20_1_eq m l hl l.length 0 m (by omega) (by omega)]
  rfl

/-! ### The first plan, heap by heap -/
/-- The first hour from x on that does for heap i. -/
noncomputable def firstH (k : Nat) (l : List Hp) (i : Nat) : Nat → Int → Int
  | 0, x => x
  | d + 1, x => cond (fitsB' k (l.set i (x, x))) x (firstH k l i d (x + 1))

theorem firstH_spec {k : Nat} {l : List Hp} {i : Nat} : ∀ {d : Nat} {x y : Int}, x ≤ y → y < x + d → Fits k (l.set i (y, y)) → x ≤ firstH k l i d x ∧ firstH k l i d x ≤ y ∧ Fits k (l.set i (firstH k l i d x, firstH k l i d x)) ∧ ∀ z, x ≤ z → z < firstH k l i d x → ¬ Fits k (l.set i (z, z))
  | 0, x, y, h1, h2, _ => by omega
  | d + 1, x, y, h1, h2, hy => by
    unfold firstH
    cases hb : fitsB' k (l.set i (x, x)) with
    | true => exact ⟨by simp, by simpa using h1, by simpa using fitsB'_iff.1 hb, fun z z1 z2 => by simp at z2; omega⟩
    | false =>
      have hne : ¬ Fits k (l.set i (x, x)) := fun q => by rw [fitsB'_iff.2 q] at hb; cases hb
      have hxy : x ≠ y := fun q => hne (by rw [q]; exact hy)
      obtain ⟨q1, q2, q3, q4⟩ := firstH_spec (d := d) (x := x + 1) (y := y) (by omega) (by omega) hy
      refine ⟨by simp; omega, by simpa using q2, by simpa using q3, fun z z1 z2 => ?_⟩
      by_cases ez : z = x
      · rw [ez]; exact hne
      · exact q4 z (by omega) (by simpa using z2)

/-- Hours, heap by heap. -/
noncomputable def planL (k : Nat) : Nat → Nat → List Hp → List Int → List Int
  | 0, _, _, acc => acc
  | r + 1, i, l, acc => planL k r (i + 1) (l.set i (firstH k l i 24 (List.getD l i (0, 0)).1, firstH k l i 24 (List.getD l i (0, 0)).1)) (acc ++ [firstH k l i 24 (List.getD l i (0, 0)).1])

theorem planL_succ (k r i : Nat) (l : List Hp) (acc : List Int) : planL k (r + 1) i l acc = planL k r (i + 1) (l.set i (firstH k l i 24 (List.getD l i (0, 0)).1, firstH k l i 24 (List.getD l i (0, 0)).1)) (acc ++ [firstH k l i 24 (List.getD l i (0, 0)).1]) := rfl

theorem OkL.set {l : List Hp} (h : OkL l) {i : Nat} {x : Int} (h1 : 0 ≤ x) (h2 : x ≤ 23) : OkL (l.set i (x, x)) := by
  intro y hy
  rcases List.mem_or_eq_of_mem_set hy with q | q
  · exact h y q
  · subst q; exact ⟨h1, by simp, h2⟩

theorem firstH_in {k : Nat} {l : List Hp} (ho : OkL l) (hf : Fits k l) {i : Nat} (hi : i < l.length) :
    (l[i]).1 ≤ firstH k l i 24 (l[i]).1 ∧ firstH k l i 24 (l[i]).1 ≤ (l[i]).2 ∧ Fits k (l.set i (firstH k l i 24 (l[i]).1, firstH k l i 24 (l[i]).1)) ∧ ∀ z, (l[i]).1 ≤ z → z < firstH k l i 24 (l[i]).1 → ¬ Fits k (l.set i (z, z)) := by
  obtain ⟨y, y1, y2, y3⟩ := fits_some ho hf hi
  have hh := ho _ (List.getElem_mem hi)
  obtain ⟨q1, q2, q3, q4⟩ := firstH_spec (d := 24) y1 (by omega) y3
  exact ⟨q1, by omega, q3, q4⟩

theorem f18_2_eq (m : Nat) (hm : 1001 ≤ m) (a : List Hp) (b : Int) (k : Nat) (hk : b = (k : Int)) (hk1 : 1 ≤ k) (hk2 : k ≤ 10) (l : List Hp) (h10 : l.length ≤ 10) (ho : OkL l) (i : Nat) (hi : i < l.length) (x27 : Int) (acc : List Int) (ha : acc.length ≤ 900) (lo hi' : Int) (hh : hi' ≤ 23) :
    ∀ (d fuel : Nat) (x y : Int) (l' : List Hp), (l' = l ∨ ∃ u, l' = l.set i (u, u)) → 0 ≤ x → x ≤ y → y < x + d → y ≤ hi' → Fits k (l.set i (y, y)) → d < fuel →
    f18_2 m fuel a b x27 (i : Int) acc x l' lo hi' = some (l.set i (firstH k l i d x, firstH k l i d x), acc ++ [firstH k l i d x])
  | 0, fuel, x, y, l', _, _, h1, h2, _, _, _ => by omega
  | d + 1, fuel + 1, x, y, l', hl', h0, h1, h2, hy, hF, hfu => by
    have hset : List.set l' i (x, x) = l.set i (x, x) := by
      rcases hl' with rfl | ⟨u, rfl⟩
      · rfl
      · rw [List.set_set]
    have hlen : l'.length = l.length := by
      rcases hl' with rfl | ⟨u, rfl⟩ <;> simp
    rw [f18_2, dcT (p := x ≤ hi') (by omega), inR (show i < l'.length by omega), Int.toNat_natCast, hset, f58_eq m hm (l.set i (x, x)) b k hk (by omega) (by rw [List.length_set]; omega) (ho.set h0 (by omega)) (.inl hk1), fitsI (n := acc.length + 1) (by omega) (by omega), w64i (x := x + 1) (by omega) (by omega)]
    unfold firstH
    cases hb : fitsB' k (l.set i (x, x)) with
    | true => rfl
    | false =>
      have hxy : x ≠ y := fun q => by
        subst q
        rw [fitsB'_iff.2 hF] at hb; cases hb
      exact f18_2_eq m hm a b k hk hk1 hk2 l h10 ho i hi x27 acc ha lo hi' hh d fuel (x + 1) y _ (.inr ⟨x, rfl⟩) (by omega) (by omega) (by omega) hy hF (by omega)

theorem f18_1_eq (m : Nat) (hm : 1001 ≤ m) (a : List Hp) (b : Int) (k : Nat) (hk : b = (k : Int)) (hk1 : 1 ≤ k) (hk2 : k ≤ 10) (h10 : a.length ≤ 10) : ∀ (r i fuel : Nat) (l : List Hp) (acc : List Int), i + r = a.length → r < fuel → l.length = a.length → l.drop i = a.drop i → OkL l → Fits k l → acc.length = i →
    f18_1 m fuel a b ((a.length : Nat) : Int) (i : Int) l acc = some (planL k r i l acc)
  | 0, i, fuel + 1, l, acc, hr, hf, hl, hd, ho, hF, hacc => by
    rw [f18_1, dcF (p := (i : Int) < ((a.length : Nat) : Int)) (by omega)]
    rfl
  | r + 1, i, fuel + 1, l, acc, hr, hf, hl, hd, ho, hF, hacc => by
    have hi : i < a.length := by omega
    have hil : i < l.length := by omega
    have he : l[i] = a[i] := by
      rw [List.drop_eq_getElem_cons hi, List.drop_eq_getElem_cons hil] at hd
      exact (List.cons.inj hd).1
    obtain ⟨q1, q2, q3, q4⟩ := firstH_in ho hF hil
    have hh := ho _ (List.getElem_mem hil)
    have hg : List.getD l i (0, 0) = l[i] := by simp [hil]
    rw [f18_1, dcT (p := (i : Int) < ((a.length : Nat) : Int)) (by omega), inR hi, getDi a hi, ← he, nat_succ i (by omega)]
    show (f18_2 m m a b ((a.length : Nat) : Int) (i : Int) acc (l[i]).1 l (l[i]).1 (l[i]).2).bind (fun o2 => f18_1 m fuel a b ((a.length : Nat) : Int) ((i + 1 : Nat) : Int) o2.1 o2.2) = _
    rw [f18_2_eq m hm a b k hk hk1 hk2 l (by omega) ho i hil _ acc (by omega) _ _ (by omega) 24 m _ (firstH k l i 24 (l[i]).1) l (.inl rfl) (by omega) q1 (by omega) q2 q3 (by omega)]
    show f18_1 m fuel a b ((a.length : Nat) : Int) ((i + 1 : Nat) : Int) _ _ = _
    rw [f18_1_eq m hm a b k hk hk1 hk2 h10 r (i + 1) fuel _ _ (by omega) (by omega) (by rw [List.length_set]; exact hl) ?_ (ho.set (by omega) (by omega)) q3 (by simp [hacc])]
    · rw [planL_succ, hg]
    · rw [List.drop_set_of_lt (by omega)]
      have e1 : l.drop (i + 1) = (l.drop i).drop 1 := by rw [List.drop_drop]
      have e2 : a.drop (i + 1) = (a.drop i).drop 1 := by rw [List.drop_drop]
      rw [e1, e2, hd]

/-- Plan, as both sides answer. -/
noncomputable def planR (l : List Hp) (b : Int) : List Int × Int :=
  if hnd l b ≠ 0 then ([], hnd l b) else cond (fitsB' b.toNat l) (planL b.toNat l.length 0 l [], 0) ([], 12)

theorem f18_eq (m : Nat) (hm : 1001 ≤ m) (l : List Hp) (hl : l.length ≤ 1000) (b : Int) : f18 m l b = some (planR l b) := by
  unfold f18 planR
  rw [f57_eq m hm l hl]
  show cond (hnd l b != 0) _ _ = _
  by_cases e : hnd l b = 0
  · rw [if_neg (fun q => q e)]
    have : (hnd l b != 0) = false := by simp [e]
    rw [this]
    obtain ⟨ho, h10, b1, b2⟩ := hnd_ok e
    obtain ⟨k, rfl⟩ : ∃ k : Nat, b = (k : Int) := ⟨b.toNat, by omega⟩
    rw [f58_eq m hm l _ k rfl (by omega) (by omega) ho (.inl (by omega)), Int.toNat_natCast, fitsI (by omega) (by omega)]
    cases hb : fitsB' k l with
    | false => rfl
    | true =>
      show (f18_1 m m l (k : Int) ((l.length : Nat) : Int) ((0 : Nat) : Int) l []).bind _ = _
      rw [f18_1_eq m hm l _ k rfl (by omega) (by omega) h10 l.length 0 m l [] (by omega) (by omega) rfl rfl ho (fitsB'_iff.1 hb) rfl]
      rfl
  · rw [if_pos e]
    have : (hnd l b != 0) = true := by simp [e]
    rw [this]
    rfl

theorem f61_eq (m : Nat) (l : List Hp) (hl : l.length ≤ 1000) (i : Nat) (hi : i < l.length) (x : Int) : f61 m l (i : Int) x = some (l.set i (x, x)) := by
  unfold f61
  rw [fitsI (n := 0 + l.length) (by omega) (by omega), inR hi, Int.toNat_natCast]
  rfl

theorem f19_1_eq (m : Nat) (hm : 1001 ≤ m) (b : Int) (k : Nat) (hk : b = (k : Int)) (hk2 : k ≤ 1000) (l : List Hp) (h10 : l.length ≤ 1000) (h0 : 0 < l.length) :
    ∀ (d fuel : Nat) (x y : Int), -1000 ≤ x → x ≤ 1000 → x ≤ y → y < x + d → y ≤ 1000 → Fits k (l.set 0 (y, y)) → d < fuel → f19_1 m fuel l b x = some (firstH k l 0 d x)
  | 0, fuel, x, y, _, _, h1, h2, _, _, _ => by omega
  | d + 1, fuel + 1, x, y, hx1, hx2, h1, h2, hy, hF, hfu => by
    rw [f19_1, show (0 : Int) = ((0 : Nat) : Int) from rfl, f61_eq m l h10 0 h0, w64i (x := x + 1) (by omega) (by omega)]
    show (f60 m (l.set 0 (x, x)) b).bind _ = _
    rw [f60_eq m hm _ (by rw [List.length_set]; omega) b k hk hk2]
    unfold firstH
    cases hb : fitsB' k (l.set 0 (x, x)) with
    | true => rfl
    | false =>
      have hxy : x ≠ y := fun q => by
        subst q
        rw [fitsB'_iff.2 hF] at hb; cases hb
      exact f19_1_eq m hm b k hk hk2 l h10 h0 d fuel (x + 1) y (by omega) (by omega) (by omega) (by omega) hy hF (by omega)

theorem f19_3_eq (m : Nat) (hm : 1001 ≤ m) (a : List Hp) (b : Int) (k : Nat) (hk : b = (k : Int)) (hk2 : k ≤ 1000) (l : List Hp) (h10 : l.length ≤ 1000) (i : Nat) (hi : i < l.length) (acc : List Int) :
    ∀ (d fuel : Nat) (x y : Int), -1000 ≤ x → x ≤ 1000 → x ≤ y → y < x + d → y ≤ 1000 → Fits k (l.set i (y, y)) → d < fuel → f19_3 m fuel a b (i : Int) l acc x = some (firstH k l i d x)
  | 0, fuel, x, y, _, _, h1, h2, _, _, _ => by omega
  | d + 1, fuel + 1, x, y, hx1, hx2, h1, h2, hy, hF, hfu => by
    rw [f19_3, f61_eq m l h10 i hi, w64i (x := x + 1) (by omega) (by omega)]
    show (f60 m (l.set i (x, x)) b).bind _ = _
    rw [f60_eq m hm _ (by rw [List.length_set]; omega) b k hk hk2]
    unfold firstH
    cases hb : fitsB' k (l.set i (x, x)) with
    | true => rfl
    | false =>
      have hxy : x ≠ y := fun q => by
        subst q
        rw [fitsB'_iff.2 hF] at hb; cases hb
      exact f19_3_eq m hm a b k hk hk2 l h10 i hi acc d fuel (x + 1) y (by omega) (by omega) (by omega) (by omega) hy hF (by omega)

theorem f19_2_eq (m : Nat) (hm : 1001 ≤ m) (a : List Hp) (b : Int) (k : Nat) (hk : b = (k : Int)) (hk2 : k ≤ 10) : ∀ (r i fuel : Nat) (l : List Hp) (acc : List Int), i + r = l.length → l.length ≤ 10 → r < fuel → OkL l → Fits k l → acc.length = i →
    f19_2 m fuel a b (i : Int) l acc = some (planL k r i l acc)
  | 0, i, fuel + 1, l, acc, hr, h10, hf, ho, hF, hacc => by
    rw [f19_2, dcF (p := (i : Int) < ((l.length : Nat) : Int)) (by omega)]
    rfl
  | r + 1, i, fuel + 1, l, acc, hr, h10, hf, ho, hF, hacc => by
    have hil : i < l.length := by omega
    obtain ⟨q1, q2, q3, q4⟩ := firstH_in ho hF hil
    have hh := ho _ (List.getElem_mem hil)
    have hg : List.getD l i (0, 0) = l[i] := by simp [hil]
    rw [f19_2, dcT (p := (i : Int) < ((l.length : Nat) : Int)) (by omega), inR hil, getDi l hil, nat_succ i (by omega), fitsI (n := acc.length + 1) (by omega) (by omega),
      f19_3_eq m hm a b k hk (by omega) l (by omega) i hil acc 24 m _ (firstH k l i 24 (l[i]).1) (by omega) (by omega) q1 (by omega) (by omega) q3 (by omega)]
    show (f61 m l (i : Int) (firstH k l i 24 (l[i]).1)).bind _ = _
    rw [f61_eq m l (by omega) i hil]
    show f19_2 m fuel a b ((i + 1 : Nat) : Int) _ _ = _
    rw [f19_2_eq m hm a b k hk hk2 r (i + 1) fuel _ _ (by rw [List.length_set]; omega) (by rw [List.length_set]; omega) (by omega) (ho.set (by omega) (by omega)) q3 (by simp [hacc])]
    rw [planL_succ, hg]

theorem f19_eq (m : Nat) (hm : 1001 ≤ m) (l : List Hp) (hl : l.length ≤ 1000) (b : Int) : f19 m l b = some (planR l b) := by
  unfold f19 planR
  rw [f59_eq m hm l hl]
  show cond (hnd l b == 0) _ (cond (hnd l b != 0) (some ([], hnd l b)) _) = _
  by_cases e : hnd l b = 0
  · rw [if_neg (fun q => q e), e]
    obtain ⟨ho, h10, b1, b2⟩ := hnd_ok e
    obtain ⟨k, rfl⟩ : ∃ k : Nat, b = (k : Int) := ⟨b.toNat, by omega⟩
    rw [f60_eq m hm l hl _ k rfl (by omega), Int.toNat_natCast]
    cases hb : fitsB' k l with
    | false => rfl
    | true =>
      have hF := fitsB'_iff.1 hb
      show cond (decide ((0 : Int) < ((l.length : Nat) : Int))) (cond (inRow ((0 : Nat) : Int) l.length) _ none) (some ([], 0)) = _
      cases l with
      | nil => rfl
      | cons h l0 =>
        have hil : 0 < (h :: l0).length := by simp
        obtain ⟨q1, q2, q3, q4⟩ := firstH_in ho hF hil
        have hh := ho _ (List.getElem_mem hil)
        rw [dcT (p := (0 : Int) < (((h :: l0).length : Nat) : Int)) (by simp only [List.length_cons]; omega), inR hil]
        show (f19_1 m m (h :: l0) (k : Int) h.1).bind _ = _
        rw [f19_1_eq m hm _ k rfl (by omega) (h :: l0) hl hil 24 m h.1 (firstH k (h :: l0) 0 24 h.1) (by simp at hh; omega) (by simp at hh; omega) q1 (by simp at q2 hh ⊢; omega) (by simp at q2 hh ⊢; omega) q3 (by omega)]
        show (f61 m (h :: l0) ((0 : Nat) : Int) (firstH k (h :: l0) 0 24 h.1)).bind _ = _
        rw [f61_eq m (h :: l0) hl 0 hil]
        show (f19_2 m m (h :: l0) (k : Int) ((1 : Nat) : Int) ((h :: l0).set 0 (firstH k (h :: l0) 0 24 h.1, firstH k (h :: l0) 0 24 h.1)) [firstH k (h :: l0) 0 24 h.1]).bind _ = _
        have hh' : 0 ≤ h.1 ∧ h.1 ≤ h.2 ∧ h.2 ≤ 23 := hh
        have q1' : h.1 ≤ firstH k (h :: l0) 0 24 h.1 := q1
        have q3' : Fits k ((h :: l0).set 0 (firstH k (h :: l0) 0 24 h.1, firstH k (h :: l0) 0 24 h.1)) := q3
        have q2' : firstH k (h :: l0) 0 24 h.1 ≤ h.2 := q2
        rw [f19_2_eq m hm _ _ k rfl (by omega) l0.length 1 m _ [firstH k (h :: l0) 0 24 h.1] (by rw [List.length_set, List.length_cons]; omega) (by rw [List.length_set]; exact h10) (by simp only [List.length_cons] at h10; omega) (ho.set (by omega) (by omega)) q3' rfl]
        rfl
  · rw [if_pos e]
    have e1 : (hnd l b != 0) = true := by simp [e]
    have e2 : (hnd l b == 0) = false := by simp [e]
    rw [e1, e2]
    rfl

/-! ### Verify -/
theorem f22_2_eq (m : Nat) (a : List Hp) (b : Int) (c : List Int) (h10 : c.length ≤ 1000) (i : Nat) (hi : i < c.length) : ∀ (r j fuel n : Nat), j + r = i → r < fuel → n ≤ j → f22_2 m fuel a b c (i : Int) (n : Int) (j : Int) = some (((n + ((c.take i).drop j).count c[i] : Nat) : Int))
  | 0, j, fuel + 1, n, hr, hf, hn => by
    rw [f22_2, dcF (p := (j : Int) < (i : Int)) (by omega), List.drop_eq_nil_of_le (by rw [List.length_take]; omega)]
    rfl
  | r + 1, j, fuel + 1, n, hr, hf, hn => by
    have hj : j < c.length := by omega
    have hjt : j < (c.take i).length := by rw [List.length_take]; omega
    rw [f22_2, dcT (p := (j : Int) < (i : Int)) (by omega), inR hj, inR hi, getDz c hj, getDz c hi, nat_succ j (by omega), nat_succ n (by omega), List.drop_eq_getElem_cons hjt, List.count_cons, List.getElem_take]
    cases hb : (c[j] == c[i]) with
    | true =>
      show f22_2 m fuel a b c (i : Int) ((n + 1 : Nat) : Int) ((j + 1 : Nat) : Int) = _
      rw [f22_2_eq m a b c h10 i hi r (j + 1) fuel (n + 1) (by omega) (by omega) (by omega)]
      congr 2
      simp only [if_true]; omega
    | false =>
      show f22_2 m fuel a b c (i : Int) (n : Int) ((j + 1 : Nat) : Int) = _
      rw [f22_2_eq m a b c h10 i hi r (j + 1) fuel n (by omega) (by omega) (by omega)]
      simp

def verR2 (v : Int) : Of22_1 := if v = 0 then .x0 else .r v

theorem f22_1_eq (m : Nat) (hm : 1001 ≤ m) (a : List Hp) (b : Int) (c : List Int) (hc : c.length = a.length) (h10 : c.length ≤ 1000) :
    ∀ (r i fuel : Nat), i + r = c.length → r < fuel → f22_1 m fuel a b c (i : Int) = some (verR2 (ver b (a.drop i) (c.drop i) (c.take i)))
  | 0, i, fuel + 1, hr, hf => by
    rw [f22_1, dcF (p := (i : Int) < ((c.length : Nat) : Int)) (by omega)]
    rw [List.drop_eq_nil_of_le (show c.length ≤ i by omega)]
    cases a.drop i <;> rfl
  | r + 1, i, fuel + 1, hr, hf => by
    have hi : i < c.length := by omega
    have hia : i < a.length := by omega
    rw [f22_1, dcT (p := (i : Int) < ((c.length : Nat) : Int)) (by omega), inR hi, inR hia, getDi a hia, getDz c hi, f63_eq, List.drop_eq_getElem_cons hi, List.drop_eq_getElem_cons hia, nat_succ i (by omega)]
    simp only [ver]
    by_cases hin : (a[i]).1 ≤ c[i] ∧ c[i] ≤ (a[i]).2
    · rw [dcT hin, if_pos hin]
      show (f22_2 m m a b c (i : Int) ((0 : Nat) : Int) ((0 : Nat) : Int)).bind _ = _
      rw [f22_2_eq m a b c h10 i hi i 0 m 0 (by omega) (by omega) (by omega), List.drop_zero, Nat.zero_add]
      show cond (decide ((((c.take i).count c[i] : Nat) : Int) ≥ b)) _ _ = _
      by_cases e : (((c.take i).count c[i] : Nat) : Int) ≥ b
      · rw [dcT e, if_pos e]; rfl
      · rw [dcF e, if_neg e]
        show f22_1 m fuel a b c ((i + 1 : Nat) : Int) = _
        rw [f22_1_eq m hm a b c hc h10 r (i + 1) fuel (by omega) (by omega), List.take_succ_eq_append_getElem hi]
    · rw [dcF hin, if_neg hin]; rfl

/-- Verify, as both sides answer. -/
def verA (a : List Hp) (b : Int) (c : List Int) : Int := if hnd a b ≠ 0 then hnd a b else if c.length = a.length then ver b a c [] else 5

theorem f21_all (m : Nat) (hm : 1001 ≤ m) (a : List Hp) (hl : a.length ≤ 1000) (b : Int) (c : List Int) : f21 m a b c = some (verA a b c) := by
  unfold verA
  by_cases e : hnd a b = 0
  · rw [if_neg (fun q => q e)]
    obtain ⟨ho, h10, b1, b2⟩ := hnd_ok e
    exact f21_eq m (by omega) a b c (fun p hp => ho p hp) h10 ⟨b1, b2⟩
  · rw [if_pos e]
    unfold f21
    rw [f57_eq m hm a hl]
    show cond (hnd a b != 0) _ _ = _
    have e1 : (hnd a b != 0) = true := by simp [e]
    rw [e1]
    rfl

theorem f22_all (m : Nat) (hm : 1001 ≤ m) (a : List Hp) (hl : a.length ≤ 1000) (b : Int) (c : List Int) : f22 m a b c = some (verA a b c) := by
  unfold f22 verA
  rw [f59_eq m hm a hl]
  show cond (hnd a b == 0) _ (cond (hnd a b != 0) (some (hnd a b)) _) = _
  by_cases e : hnd a b = 0
  · rw [if_neg (fun q => q e), e]
    obtain ⟨ho, h10, b1, b2⟩ := hnd_ok e
    by_cases hc : c.length = a.length
    · rw [if_pos hc]
      have e1 : ((((c.length : Nat) : Int)) != ((a.length : Nat) : Int)) = false := by simp; omega
      rw [e1]
      show (f22_1 m m a b c ((0 : Nat) : Int)).bind _ = _
      rw [f22_1_eq m hm a b c hc (by omega) c.length 0 m (by omega) (by omega)]
      simp only [List.drop_zero, List.take_zero]
      unfold verR2
      split
      · rename_i h; rw [h]; rfl
      · rfl
    · rw [if_neg hc]
      have e1 : ((((c.length : Nat) : Int)) != ((a.length : Nat) : Int)) = true := by simp; omega
      rw [e1]
      rfl
  · rw [if_pos e]
    have e1 : (hnd a b != 0) = true := by simp [e]
    have e2 : (hnd a b == 0) = false := by simp [e]
    rw [e1, e2]
    rfl

theorem planL_len (k : Nat) : ∀ (r i : Nat) (l : List Hp) (acc : List Int), (planL k r i l acc).length = acc.length + r
  | 0, i, l, acc => rfl
  | r + 1, i, l, acc => by unfold planL; rw [planL_len k r]; simp; omega

theorem planR_len (l : List Hp) (b : Int) : (planR l b).1.length ≤ l.length := by
  unfold planR
  split
  · simp
  · cases fitsB' b.toNat l
    · simp
    · show (planL _ _ _ _ _).length ≤ _
      rw [planL_len]; simp
end Go.Xm
