/- What is asked of counts that may be, in natural numbers: Can, Why, Proves, against, total. Plain Lean. Conditions: none. -/
import Derived.Test.YtfimbmhannndaaaDoorCg
import Derived.Test.YtfimbmhannndaaaDoorEc
import Derived.Test.YtfimbmhannndaaaDoorGb
namespace Go.Xm
set_option linter.unusedVariables false
set_option linter.unusedSimpArgs false
set_option maxRecDepth 20000

theorem toI_inj : ∀ {a b : List Nat}, toI a = toI b → a = b
  | [], [], _ => rfl
  | [], y :: b, h => by cases h
  | x :: a, [], h => by cases h
  | x :: a, y :: b, h => by
    have h : (x : Int) :: toI a = (y : Int) :: toI b := h
    obtain ⟨h1, h2⟩ := List.cons.inj h
    have h1 : x = y := by omega
    rw [h1, toI_inj h2]

theorem dsc_toI (l : List Nat) : dsc (toI l) = toI (sortN l).reverse := by
  unfold dsc; rw [toI_reverse, sortN_eq]

theorem f34_1_eq (m : Nat) (a : List Int) : ∀ (fuel : Nat) (i j : Int) (l : List Int), f34_1 m fuel a i j l = f61_1 m fuel a i j l
  | 0, _, _, _ => rfl
  | fuel + 1, i, j, l => by
    rw [f34_1, f61_1]
    simp only [f34_1_eq m a fuel]

theorem f34_2_eq (m : Nat) (a : List Int) (k : Nat) (hk : k ≤ 8) : ∀ (t P : List Nat) (fuel p q : Nat), t.length < fuel → P.length + t.length ≤ 8 → (∀ x ∈ t, x ≤ 7) → p ≤ 100 + 10 * P.length → q ≤ 100 + 10 * P.length →
    f34_2 m fuel a (k : Int) (toI (P ++ t)) (p : Int) (q : Int) ((P.length + t.length : Nat) : Int) (P.length : Int) = some (((p + smN (t.take (k - P.length)) : Nat) : Int), ((q + mnN k (t.drop (k - P.length)) : Nat) : Int))
  | [], P, fuel + 1, p, q, _, _, _, _, _ => by
    rw [f34_2, dcF (p := ((P.length : Nat) : Int) < ((P.length + ([] : List Nat).length : Nat) : Int)) (by simp)]
    simp [smN, mnN]
  | x :: t, P, fuel + 1, p, q, hf, h8, hx, hp, hq => by
    have hx7 := hx x List.mem_cons_self
    simp only [List.length_cons] at hf h8
    have hl : (toI (P ++ x :: t)).length = P.length + t.length + 1 := by rw [toI_len]; simp; omega
    have g : List.getD (toI (P ++ x :: t)) (Int.toNat ((P.length : Nat) : Int)) 0 = (x : Int) := by
      rw [toI_append, toI_cons]; exact getD_mid _ _ _ _ (by rw [toI_len]; rfl)
    have e0 : P ++ x :: t = (P ++ [x]) ++ t := by simp
    have e1 : (P ++ [x]).length = P.length + 1 := by simp
    have ec : ((P.length + (x :: t).length : Nat) : Int) = (((P ++ [x]).length + t.length : Nat) : Int) := by simp; omega
    have ih := fun p' q' hp' hq' => f34_2_eq m a k hk t (P ++ [x]) fuel p' q' (by omega) (by rw [e1]; omega) (fun y hy => hx y (List.mem_cons_of_mem _ hy)) hp' hq'
    rw [f34_2, dcT (p := ((P.length : Nat) : Int) < ((P.length + (x :: t).length : Nat) : Int)) (by simp; omega), hl, inR (show P.length < P.length + t.length + 1 by omega), g, nat_succ _ (by omega)]
    show f34_2 m fuel a (k : Int) (toI (P ++ x :: t)) _ _ _ _ = _
    by_cases hi : P.length < k
    · rw [dcT (p := ((P.length : Nat) : Int) < (k : Int)) (by omega), w64i (by omega) (by omega)]
      show f34_2 m fuel a (k : Int) (toI (P ++ x :: t)) ((p : Int) + (x : Int)) (q : Int) _ _ = _
      have h := ih (p + x) q (by rw [e1]; omega) (by rw [e1]; omega)
      have t1 : k - P.length = (k - (P ++ [x]).length) + 1 := by rw [e1]; omega
      rw [ec, t1]
      rw [← e0] at h
      have e2 : ((p : Int) + (x : Int)) = ((p + x : Nat) : Int) := by omega
      have e3 : (((P.length + 1 : Nat)) : Int) = (((P ++ [x]).length : Nat) : Int) := by rw [e1]
      rw [e2, e3, h, List.take_succ_cons, List.drop_succ_cons]
      show some (((p + x + smN _ : Nat) : Int), _) = some (((p + (x + smN _) : Nat) : Int), _)
      rw [Nat.add_assoc]
    · rw [dcF (p := ((P.length : Nat) : Int) < (k : Int)) (by omega)]
      have emin : iMin (x : Int) (k : Int) = (((match Nat.ble x k with | true => x | false => k : Nat)) : Int) := by
        rw [iMin_eq]
        cases hb : Nat.ble x k with
        | true => have := Nat.le_of_ble_eq_true hb; show min (x : Int) (k : Int) = (x : Int); omega
        | false =>
          have : ¬ x ≤ k := fun q => by rw [Nat.ble_eq_true_of_le q] at hb; cases hb
          show min (x : Int) (k : Int) = (k : Int); omega
      have em7 : (match Nat.ble x k with | true => x | false => k : Nat) ≤ 8 := by
        cases Nat.ble x k with
        | true => show x ≤ 8; omega
        | false => exact hk
      rw [emin]
      generalize hz : (match Nat.ble x k with | true => x | false => k : Nat) = z at em7
      have ew : w64 ((q : Int) + (z : Int)) = (q : Int) + (z : Int) := w64i (by omega) (by omega)
      rw [ew]
      show f34_2 m fuel a (k : Int) (toI (P ++ x :: t)) (p : Int) ((q : Int) + (z : Int)) _ _ = _
      have h := ih p (q + z) (by rw [e1]; omega) (by rw [e1]; omega)
      have t1 : k - P.length = 0 := by omega
      have t2 : k - (P ++ [x]).length = 0 := by rw [e1]; omega
      rw [t2] at h
      rw [ec, t1]
      rw [← e0] at h
      have e2 : ((q : Int) + (z : Int)) = ((q + z : Nat) : Int) := by omega
      have e3 : (((P.length + 1 : Nat)) : Int) = (((P ++ [x]).length : Nat) : Int) := by rw [e1]
      rw [e2, e3, h, List.drop_zero, List.drop_zero, List.take_zero, List.take_zero]
      show some (_, ((q + z + mnN k t : Nat) : Int)) = some (_, ((q + ((match Nat.ble x k with | true => x | false => k) + mnN k t) : Nat) : Int))
      rw [hz, Nat.add_assoc]

theorem f34_eq (m : Nat) (hm : 1001 ≤ m) (a : List Int) (d : List Nat) (hd : dsc a = toI d) (hl : d.length ≤ 8) (hx : ∀ x ∈ d, x ≤ 7) (k : Nat) (h1 : 1 ≤ k) (hk : k ≤ 8) : f34 m a (k : Int) = some (stN k d) := by
  have hal : a.length ≤ 8 := by rw [← dsc_len, hd, toI_len]; exact hl
  have h := f61_eq m hm a (by omega)
  unfold f61 at h
  unfold f34
  rw [Nat.ble_eq_true_of_le (show a.length ≤ 1000000 by omega)] at h ⊢
  simp only [cond_true] at h ⊢
  rw [f34_1_eq]
  cases e : f61_1 m m a 0 (w64 ((((sortI a).length : Nat) : Int) - 1)) (sortI a) with
  | none => rw [e] at h; cases h
  | some o =>
    rw [e] at h
    simp only [Option.bind_some] at h ⊢
    by_cases hlo : (sortI a).length = o.length
    · rw [dcT hlo] at h ⊢
      simp only [cond_true] at h ⊢
      cases h
      rw [hd, toI_len]
      have e1 : (k : Int) * (w64 ((k : Int) - 1)) = ((k * (k - 1) : Nat) : Int) := by
        rw [w64i (by omega) (by omega)]
        cases k with
        | zero => rfl
        | succ n => simp
      have e2 : k * (k - 1) ≤ 64 := Nat.le_trans (Nat.mul_le_mul hk (show k - 1 ≤ 8 by omega)) (by omega)
      rw [e1, w64i (by omega) (by omega)]
      have h2 := f34_2_eq m a k hk d [] m 0 (k * (k - 1)) (by omega) (by simp; omega) hx (by omega) (by simp; omega)
      simp only [List.nil_append, List.length_nil, Nat.zero_add, Nat.sub_zero] at h2
      have h2' : f34_2 m m a (k : Int) (toI d) 0 ((k * (k - 1) : Nat) : Int) ((d.length : Nat) : Int) 0 = _ := h2
      rw [h2']
      show some (decide (((smN (d.take k) : Nat) : Int) > ((k * (k - 1) + mnN k (d.drop k) : Nat) : Int))) = some (stN k d)
      unfold stN
      congr 1
      cases hb : Nat.blt (k * (k - 1) + mnN k (d.drop k)) (smN (d.take k)) with
      | true => have : k * (k - 1) + mnN k (d.drop k) < smN (d.take k) := by simpa [Nat.blt_eq] using hb
                exact dcT (by omega)
      | false =>
        have : ¬ k * (k - 1) + mnN k (d.drop k) < smN (d.take k) := fun q => by
          have : Nat.blt (k * (k - 1) + mnN k (d.drop k)) (smN (d.take k)) = true := by simpa [Nat.blt_eq] using q
          rw [hb] at this; cases this
        exact dcF (by omega)
    · rw [dcF hlo] at h
      cases h

theorem f35_1_eq (m : Nat) (a : List Int) (n : Int) : ∀ (fuel : Nat) (x i : Int), f35_1 m fuel a x n i = f17_1 m fuel a x n i
  | 0, _, _ => rfl
  | fuel + 1, x, i => by
    rw [f35_1, f17_1]
    simp only [f35_1_eq m a n fuel]

theorem f35_eq (m : Nat) (hm : 1001 ≤ m) (a : List Int) (ha : Cts a) : f35 m a = some (dsc a).sum := by
  unfold f35
  rw [f35_1_eq, f17_1_eq]
  have h := f63_eq m hm a ha
  unfold f63 at h
  exact h

/-- What is answered to 'why': nothing where there is a plan. -/
def whyN (d : List Nat) : Int × Int := match canN 8 d with
  | true => (0, 13)
  | false => cond ((((smN d % 2 : Nat) : Int)) == 1) (0, 17) (((fstN d d.length 1 0 : Nat) : Int), 0)

theorem f17_eq (m : Nat) (hm : 1001 ≤ m) {a : List Int} {l : List Nat} (g : Good m a l) (h : ckR a = 0) (hl : a.length ≤ 1000) : f17 m a = some (whyN l) := by
  unfold f17 whyN
  rw [f21_eq m hm a hl]
  have ha8 := g.cts.1
  have hs : f17_1 m m a 0 ((a.length : Nat) : Int) 0 = some (((smN l : Nat)) : Int) := by
    rw [← f35_1_eq]
    have h1 := f35_eq m hm a g.cts
    unfold f35 at h1
    cases h2 : f35_1 m m a 0 ((a.length : Nat) : Int) 0 with
    | none => rw [h2] at h1; cases h1
    | some x =>
      rw [h2] at h1
      have h1' : some x = some (dsc a).sum := h1
      rw [h1', g.dsc, smN_eq]
  have hdl : (dsc a).length = l.length := by rw [g.dsc, toI_len]
  have hll : l.length = a.length := by rw [← hdl, dsc_len]
  have hq : f17_2 m m a 1 (dsc a) = some (((fstN l (l.length - 1) 1 l.length : Nat)) : Int) := by
    have h1 := f17_2_eq m hm a (dsc a) g.cts.dsc ((dsc a).length - 1) 1 m (by have := g.len; omega) (by omega)
    have h2 := fstN_eq l l.length (l.length - 1) 1
    rw [g.dsc, toI_len] at h1
    rw [g.dsc]
    exact h1.trans (congrArg some h2)
  rw [h, g.can, hs, f61_eq m hm a hl]
  have hc := g.chk
  unfold Xm.chk at hc
  cases hcan : canN 8 l with
  | true => rfl
  | false =>
    rw [hcan] at hc
    by_cases ho : smN l % 2 = 1
    · show cond ((Int.tmod ((smN l : Nat) : Int) 2) == 1) _ _ = _
      rw [tmod2, ho]; rfl
    · have h0 : smN l % 2 = 0 := by omega
      have hfin : fstN l (l.length - 1) 1 l.length = fstN l l.length 1 0 := by
        rw [h0] at hc
        cases hb : Nat.beq (fstN l l.length 1 0) 0 with
        | true => rw [hb] at hc; cases hc
        | false =>
          rw [hb] at hc
          have hc' : (!false && (Nat.beq 0 1 || Nat.beq (fstN l (l.length - 1) 1 l.length) (fstN l l.length 1 0))) = true := hc
          simp only [Bool.not_false, Bool.true_and] at hc'
          have hc2 : Nat.beq (fstN l (l.length - 1) 1 l.length) (fstN l l.length 1 0) = true := hc'
          exact Nat.eq_of_beq_eq_true hc2
      show cond ((Int.tmod ((smN l : Nat) : Int) 2) == 1) _ _ = _
      rw [tmod2, h0]
      show ((f17_2 m m a 1 (dsc a)).bind _) = _
      rw [hq, hfin]; rfl

theorem f19_eq (m : Nat) (hm : 1001 ≤ m) {a : List Int} {l : List Nat} (g : Good m a l) (h : ckR a = 0) (k : Nat) (h1 : 1 ≤ k) (hk : k ≤ a.length) : f19 m a (k : Int) = some (cond (!stN k l) 14 0) := by
  have ha8 := g.cts.1
  unfold f19
  rw [f21_eq m hm a (by omega), h, f61_eq m hm a (by omega)]
  show ((f65 m (k : Int) 1 ((a.length : Nat) : Int)).bind _) = _
  rw [f65_eq, dcT (show (1 : Int) ≤ (k : Int) ∧ (k : Int) ≤ ((a.length : Nat) : Int) by omega)]
  show ((f62 m (dsc a) (k : Int)).bind _) = _
  rw [f62_eq m hm (dsc a) g.cts.dsc (k : Int) (by omega), g.dsc, stN_eq]
  cases stN k l <;> rfl

/-- All of it. -/
structure Vals (m n : Nat) (l d : List Nat) : Prop where
  len : d.length = n
  chk : Xm.chk d = true
  dsc : d = (sortN l).reverse
  can : f15 m (toI l) = some (canN 8 d, 0)
  why : f17 m (toI l) = some (whyN d)
  tot : f35 m (toI l) = some ((smN d : Nat) : Int)
  ag : ∀ k : Nat, 1 ≤ k → k ≤ n → f34 m (toI l) (k : Int) = some (stN k d) ∧ f19 m (toI l) (k : Int) = some (cond (!stN k d) 14 0)

theorem fit_of {n : Nat} : ∀ {l : List Nat}, (∀ x ∈ l, x < n) → fit (n : Int) (toI l) = true
  | [], _ => rfl
  | x :: l, h => by
    have := h x List.mem_cons_self
    show (decide ((0 : Int) ≤ (x : Int) ∧ (x : Int) ≤ (n : Int) - 1) && fit (n : Int) (toI l)) = true
    rw [dcT (by omega), fit_of (fun y hy => h y (List.mem_cons_of_mem _ hy))]; rfl

theorem vals (m : Nat) (hm : 1001 ≤ m) {n : Nat} {l : List Nat} (h1 : 1 ≤ n) (h5 : n ≤ 8) (hl : l.length = n) (hx : ∀ x ∈ l, x < n) : Vals m n l (sortN l).reverse := by
  have hal : (toI l).length = n := by rw [toI_len, hl]
  have hck : ckR (toI l) = 0 := by
    unfold ckR
    rw [hal, if_neg (by omega), if_neg (by omega), if_pos (fit_of hx)]
  obtain ⟨d, g⟩ := good_of m hm hck
  have hdd : d = (sortN l).reverse := by
    apply toI_inj
    rw [← g.dsc, dsc_toI]
  have hdl : d.length = n := by rw [hdd, List.length_reverse, sortN_len, hl]
  have hc7 : ∀ x ∈ d, x ≤ 7 := fun x hx' => by
    have h1 : (x : Int) ∈ Xm.dsc (toI l) := by rw [g.dsc]; exact List.mem_map.2 ⟨x, hx', rfl⟩
    have := g.cts.dsc.2 _ h1
    omega
  rw [← hdd]
  refine ⟨hdl, g.chk, hdd, ?_, f17_eq m hm g hck (by omega), ?_, ?_⟩
  · rw [f15_eq m hm _ (by omega)]
    unfold canR
    rw [if_pos hck, g.can]; rfl
  · rw [f35_eq m hm _ g.cts, g.dsc, smN_eq]
  · intro k q1 q2
    exact ⟨f34_eq m hm _ d g.dsc (by omega) hc7 k q1 (by omega), f19_eq m hm g hck k q1 (by omega)⟩

end Go.Xm
namespace Go.Xm
set_option linter.unusedVariables false
set_option linter.unusedSimpArgs false
set_option maxRecDepth 20000

def pad (l : List Int) : List Int := l ++ List.drop l.length [0, 0, 0, 0, 0]
theorem pad_len {l : List Int} (h : l.length ≤ 5) : (pad l).length = 5 := by unfold pad; rw [List.length_append, List.length_drop]; simp; omega
theorem pad_inj {a b : List Int} (hab : a.length = b.length) (h : pad a = pad b) : a = b := (List.append_inj h hab).1

def EN (n : Nat) : Nat := 2 ^ (n * (n - 1) / 2)
theorem five {n : Nat} (h1 : 1 ≤ n) (h2 : n ≤ 5) : n = 1 ∨ n = 2 ∨ n = 3 ∨ n = 4 ∨ n = 5 := by omega
theorem EN_le {n : Nat} (h1 : 1 ≤ n) (h2 : n ≤ 5) : EN n ≤ 1024 := by
  rcases five h1 h2 with rfl | rfl | rfl | rfl | rfl <;> decide
theorem NN_le {n : Nat} (h1 : 1 ≤ n) (h2 : n ≤ 5) : n ^ n ≤ 3125 := by
  rcases five h1 h2 with rfl | rfl | rfl | rfl | rfl <;> decide

theorem okS_ok {n s : Nat} (h1 : 1 ≤ n) (h2 : n ≤ 5) (hs : s < EN n) : ∃ r l, f33 5000 (n : Int) (s : Int) = some r ∧ f32 5000 r.1 r.2 = some (toI l) ∧ l.length = n ∧ (∀ x ∈ l, x < n) ∧ numN n l = codeN n (edgeN n) s := by
  have ht : tabS n = true := by
    rcases five h1 h2 with rfl | rfl | rfl | rfl | rfl
    · exact tabS1
    · exact tabS2
    · exact tabS3
    · exact tabS4
    · exact tabS5
  have h := List.all_eq_true.1 ht s (List.mem_range.2 hs)
  unfold okS at h
  cases e1 : f33 5000 (n : Int) (s : Int) with
  | none => rw [e1] at h; cases h
  | some r =>
    rw [e1] at h
    cases e2 : f32 5000 r.1 r.2 with
    | none => simp only [e2] at h; cases h
    | some l =>
      simp only [e2, Bool.and_eq_true] at h
      obtain ⟨⟨p1, p2⟩, p3⟩ := h
      have p1 := Nat.eq_of_beq_eq_true p1
      have p3 := Nat.eq_of_beq_eq_true p3
      have hx : ∀ x ∈ l, 0 ≤ x ∧ x < (n : Int) := fun x hx => by have := List.all_eq_true.1 p2 x hx; simpa using this
      have el : toI (l.map Int.toNat) = l := by
        unfold toI
        rw [List.map_map]
        conv => rhs; rw [← List.map_id l]
        refine List.map_congr_left (fun x hx' => ?_)
        have := hx x hx'
        show ((x.toNat : Nat) : Int) = x
        omega
      refine ⟨r, l.map Int.toNat, rfl, by rw [el, ← e2], by rw [List.length_map]; exact p1, fun x hx' => ?_, p3⟩
      obtain ⟨y, hy, rfl⟩ := List.mem_map.1 hx'
      have := hx y hy
      omega

theorem num_inj {n : Nat} {a b : List Nat} (ha : a.length = n) (hb : b.length = n) (h1 : ∀ x ∈ a, x < n) (h2 : ∀ x ∈ b, x < n) (h : numN n a = numN n b) : a = b := by
  have e1 := digN_num a h1
  have e2 := digN_num b h2
  rw [ha] at e1
  rw [hb] at e2
  rw [← e1, ← e2, h]

theorem f6_1_eq {n : Nat} (h1 : 1 ≤ n) (h2 : n ≤ 5) : ∀ (r s fuel : Nat) (M : List (List Int × Bool)), s + r = EN n → r < fuel → lensA 5 M = true →
    ∃ M', f6_1 5000 fuel (n : Int) ((EN n : Nat) : Int) (s : Int) M = some ((n : Int), M') ∧ lensA 5 M' = true ∧
      ∀ l : List Nat, l.length = n → (∀ x ∈ l, x < n) → (getA false M' (pad (toI l)) = true ↔ getA false M (pad (toI l)) = true ∨ ∃ s', s ≤ s' ∧ s' < EN n ∧ codeN n (edgeN n) s' = numN n l)
  | 0, s, fuel + 1, M, hs, _, hM => by
    refine ⟨M, ?_, hM, fun l _ _ => ⟨fun h => Or.inl h, ?_⟩⟩
    · rw [f6_1, dcF (p := (s : Int) < ((EN n : Nat) : Int)) (by omega)]; rfl
    · rintro (h | ⟨s', q1, q2, _⟩)
      · exact h
      · omega
  | r + 1, s, fuel + 1, M, hs, hf, hM => by
    have hE := EN_le h1 h2
    obtain ⟨t, l0, q1, q2, q3, q4, q5⟩ := okS_ok (s := s) h1 h2 (by omega)
    have hl0 : (toI l0).length ≤ 5 := by rw [toI_len]; omega
    have hk : Nat.beq (pad (toI l0)).length 5 = true := by rw [pad_len hl0]; rfl
    have step : f6_1 5000 (fuel + 1) (n : Int) ((EN n : Nat) : Int) (s : Int) M = f6_1 5000 fuel (n : Int) ((EN n : Nat) : Int) ((s + 1 : Nat) : Int) (putA M (pad (toI l0)) true) := by
      rw [f6_1, dcT (p := (s : Int) < ((EN n : Nat) : Int)) (by omega), q1]
      show ((f32 5000 t.1 t.2).bind _) = _
      rw [q2]
      show cond (Nat.ble (toI l0).length 5 && Nat.ble (toI l0).length 5) _ _ = _
      have hb : Nat.ble (toI l0).length 5 = true := Nat.ble_eq_true_of_le hl0
      rw [hb]
      show cond (decide ((pad (toI l0)).length = 5)) _ _ = _
      rw [dcT (pad_len hl0)]
      show cond (Nat.beq (pad (toI l0)).length 5 && lensA 5 M) _ _ = _
      rw [hk, hM]
      show f6_1 5000 fuel (n : Int) ((EN n : Nat) : Int) (IntKind.wrap .u32 ((s : Int) + 1)) (putA M (pad (toI l0)) true) = _
      rw [IntWalk.u32_in _ (by omega)]
      rfl
    obtain ⟨M', p1, p2, p3⟩ := f6_1_eq h1 h2 r (s + 1) fuel (putA M (pad (toI l0)) true) (by omega) (by omega) (lensA_put hk hM)
    refine ⟨M', by rw [step]; exact p1, p2, fun l hl hx => ?_⟩
    rw [p3 l hl hx, getA_putA]
    by_cases e : pad (toI l) = pad (toI l0)
    · rw [if_pos e]
      have e1 : toI l = toI l0 := pad_inj (by rw [toI_len, toI_len, hl, q3]) e
      have e2 := toI_inj e1
      subst e2
      exact ⟨fun _ => Or.inr ⟨s, Nat.le_refl _, by omega, q5.symm⟩, fun _ => Or.inl rfl⟩
    · rw [if_neg e]
      constructor
      · rintro (h | ⟨s', a1, a2, a3⟩)
        · exact Or.inl h
        · exact Or.inr ⟨s', by omega, a2, a3⟩
      · rintro (h | ⟨s', a1, a2, a3⟩)
        · exact Or.inl h
        · by_cases es : s' = s
          · subst es
            exact absurd (by rw [num_inj hl q3 hx q4 (by rw [q5, a3])]) e
          · exact Or.inr ⟨s', by omega, a2, a3⟩

theorem f6_2_eq {n : Nat} (h1 : 1 ≤ n) (h2 : n ≤ 5) (M : List (List Int × Bool)) : f6_2 5000 5000 (n : Int) 1 (n : Int) 0 M = some ((n : Int), ((n ^ n : Nat) : Int), M) := by
  rcases five h1 h2 with rfl | rfl | rfl | rfl | rfl
  · rfl
  · rfl
  · rfl
  · rfl
  · rfl

theorem f6_4_eq (m n : Nat) (h1 : 1 ≤ n) (h8 : n ≤ 8) (A B : Int) (M : List (List Int × Bool)) : ∀ (r : Nat) (P : List Nat) (fuel y : Nat), r < fuel → P.length + r = n → y ≤ 1000000 →
    f6_4 m fuel (n : Int) A B M (y : Int) ((n : Nat) : Int) ((P.length : Nat) : Int) (toI (P ++ List.replicate r 0)) = some (toI (P ++ digN n r y))
  | 0, P, fuel + 1, y, _, hP, _ => by
    rw [f6_4, dcF (p := ((P.length : Nat) : Int) < ((n : Nat) : Int)) (by omega)]
    rfl
  | r + 1, P, fuel + 1, y, hf, hP, hy => by
    have e1 : toI (P ++ List.replicate (r + 1) 0) = toI P ++ (0 : Int) :: toI (List.replicate r 0) := by rw [toI_append]; rfl
    have hl : (toI (P ++ List.replicate (r + 1) 0)).length = n := by rw [toI_len]; simp; omega
    have hn0 : ((n : Int) != 0) = true := by rw [bne_iff_ne]; omega
    have hyn : y / n ≤ y := Nat.div_le_self _ _
    rw [f6_4, dcT (p := ((P.length : Nat) : Int) < ((n : Nat) : Int)) (by omega), hn0, hl, inR (show P.length < n by omega), nat_succ _ (by omega), e1]
    have ed : Int.tdiv (y : Int) (n : Int) = ((y / n : Nat) : Int) := rfl
    have em : Int.tmod (y : Int) (n : Int) = ((y % n : Nat) : Int) := rfl
    have et : Int.toNat ((P.length : Nat) : Int) = P.length := rfl
    have ew : w64 ((y / n : Nat) : Int) = ((y / n : Nat) : Int) := by
      generalize y / n = q at hyn
      exact w64i (by omega) (by omega)
    rw [ed, em, et, set_mid _ _ _ _ (show P.length = (toI P).length by rw [toI_len]), ew]
    have ih := f6_4_eq m n h1 h8 A B M r (P ++ [y % n]) fuel (y / n) (by omega) (by simp; omega) (Nat.le_trans hyn hy)
    have e2 : toI P ++ ((y % n : Nat) : Int) :: toI (List.replicate r 0) = toI ((P ++ [y % n]) ++ List.replicate r 0) := by rw [toI_append, toI_append]; simp [toI]
    have e3 : ((P.length + 1 : Nat) : Int) = (((P ++ [y % n]).length : Nat) : Int) := by simp
    rw [e2, e3]
    show f6_4 m fuel (n : Int) A B M ((y / n : Nat) : Int) ((n : Nat) : Int) _ _ = _
    rw [ih]
    simp [digN]

def lowN (d : List Nat) : Nat → Nat → Nat
  | 0, z => z
  | k + 1, z => lowN d k (match stN (k + 1) d with | true => k + 1 | false => z)

theorem fst_last (d : List Nat) (z : Nat) : ∀ (r j : Nat), fstN d (r + 1) j z = fstN d r j (match stN (j + r) d with | true => j + r | false => z)
  | 0, j => rfl
  | r + 1, j => by
    have ih := fst_last d z r (j + 1)
    have e : j + 1 + r = j + (r + 1) := by omega
    rw [e] at ih
    show (match stN j d with | true => j | false => fstN d (r + 1) (j + 1) z) = (match stN j d with | true => j | false => fstN d r (j + 1) _)
    rw [ih]

theorem low_fst (d : List Nat) : ∀ (k z : Nat), lowN d k z = fstN d k 1 z
  | 0, z => rfl
  | k + 1, z => by
    rw [fst_last d z k 1, show 1 + k = k + 1 by omega]
    exact low_fst d k _

theorem f6_5_eq (m n : Nat) (h8 : n ≤ 8) {l d : List Nat} (v : Vals m n l d) (A B : Int) (M : List (List Int × Bool)) (L : List Int) : ∀ (k fuel z : Nat), k < fuel → k ≤ n →
    f6_5 m fuel (n : Int) A B M (toI l) (z : Int) (k : Int) L = some (.x8 ((lowN d k z : Nat) : Int) L)
  | 0, fuel + 1, z, _, _ => by
    rw [f6_5, dcF (p := ((0 : Nat) : Int) > 0) (by omega)]
    rfl
  | k + 1, fuel + 1, z, hf, hk => by
    obtain ⟨q1, q2⟩ := v.ag (k + 1) (by omega) hk
    have ih := fun z' => f6_5_eq m n h8 v A B M L k fuel z' (by omega) (by omega)
    rw [f6_5, dcT (p := ((k + 1 : Nat) : Int) > 0) (by omega), q1, q2]
    have e : w64 (((k + 1 : Nat) : Int) - 1) = (k : Int) := by rw [w64i (by omega) (by omega)]; omega
    rw [e]
    unfold lowN
    cases hs : stN (k + 1) d with
    | true => exact ih (k + 1)
    | false => exact ih z

theorem dig_len (n : Nat) : ∀ (k x : Nat), (digN n k x).length = k
  | 0, _ => rfl
  | k + 1, x => by
    show (digN n k (x / n)).length + 1 = k + 1
    rw [dig_len n k]
theorem dig_lt {n : Nat} (h : 1 ≤ n) : ∀ (k x : Nat), ∀ y ∈ digN n k x, y < n
  | k + 1, x, y, hy => by
    rcases List.mem_cons.1 hy with rfl | hy
    · exact Nat.mod_lt _ (by omega)
    · exact dig_lt h k _ y hy

end Go.Xm
namespace Go.Xm
set_option linter.unusedVariables false
set_option linter.unusedSimpArgs false
set_option maxRecDepth 20000

theorem mk5 {n : Nat} (h1 : 1 ≤ n) (h2 : n ≤ 5) : mkOK (n : Int) (n : Int) 8 = true := by
  rcases five h1 h2 with rfl | rfl | rfl | rfl | rfl <;> rfl

theorem f6_3_eq {n : Nat} (h1 : 1 ≤ n) (h2 : n ≤ 5) {M : List (List Int × Bool)} (hM : lensA 5 M = true)
    (hg : ∀ l : List Nat, l.length = n → (∀ x ∈ l, x < n) → getA false M (pad (toI l)) = canN 8 (sortN l).reverse) (X : Nat) (hX : X ≤ 3125) : ∀ (r x fuel : Nat), x + r = X → r < fuel →
    f6_3 5000 fuel (n : Int) (X : Int) (x : Int) M = some .x4
  | 0, x, fuel + 1, hx, _ => by
    rw [f6_3, dcF (p := (x : Int) < (X : Int)) (by omega)]; rfl
  | r + 1, x, fuel + 1, hx, hf => by
    have ih := f6_3_eq h1 h2 hM hg X hX r (x + 1) fuel (by omega) (by omega)
    have hll := dig_len n n x
    have hlx := dig_lt h1 n x
    have h4 : f6_4 5000 5000 (n : Int) (X : Int) (x : Int) M (x : Int) (((Int.toNat (n : Int)) : Nat) : Int) 0 (List.replicate (Int.toNat (n : Int)) 0) = some (toI (digN n n x)) := by
      have h := f6_4_eq 5000 n h1 (by omega) (X : Int) (x : Int) M n [] 5000 x (by omega) (by simp) (by omega)
      simp only [List.nil_append, List.length_nil] at h
      have e : toI (List.replicate n 0) = List.replicate (Int.toNat (n : Int)) (0 : Int) := by
        unfold toI; rw [List.map_replicate]; rfl
      rw [e] at h
      exact h
    generalize digN n n x = l at hll hlx h4
    have v := vals 5000 (by omega) h1 (by omega) hll hlx
    have hget := hg l hll hlx
    generalize (sortN l).reverse = d at v hget
    have hl5 : (toI l).length ≤ 5 := by rw [toI_len]; omega
    have hble : (Nat.ble (toI l).length 5 && Nat.ble (toI l).length [0, 0, 0, 0, 0].length) = true := by
      have hb : Nat.ble (toI l).length 5 = true := Nat.ble_eq_true_of_le hl5
      show (Nat.ble (toI l).length 5 && Nat.ble (toI l).length 5) = true
      rw [hb]; rfl
    have h5 : f6_5 5000 5000 (n : Int) (X : Int) (x : Int) M (toI l) 0 (n : Int) (toI l ++ List.drop (toI l).length [0, 0, 0, 0, 0]) = some (.x8 ((fstN d d.length 1 0 : Nat) : Int) (pad (toI l))) := by
      have h := f6_5_eq 5000 n (by omega) v (X : Int) (x : Int) M (pad (toI l)) n 5000 0 (by omega) (by omega)
      rw [low_fst] at h
      rw [v.len]
      exact h
    have hcut : cutOK 0 ((5 : Nat) : Int) ((5 : Nat) : Int) 5 = true := rfl
    have hkey : (Nat.beq (pad (toI l)).length 5 && lensA 5 M) = true := by rw [pad_len hl5, hM]; rfl
    have hpl := pad_len hl5
    have hw : w64 ((x : Int) + 1) = ((x + 1 : Nat) : Int) := nat_succ _ (by omega)
    have hmod : Int.tmod ((smN d : Nat) : Int) 2 = ((smN d % 2 : Nat) : Int) := tmod2 _
    rw [f6_3, dcT (p := (x : Int) < (X : Int)) (by omega), mk5 h1 h2]
    simp only [cond_true, h4, Option.bind_some, hcut, hble, h5, v.can, v.why, v.tot, bne_self_eq_false, cond_false, dcT hpl, hkey, hget, beq_self_eq_true, Bool.not_true, hmod, hw, ih]
    have hc := v.chk
    unfold chk at hc
    unfold whyN
    rcases (show smN d % 2 = 0 ∨ smN d % 2 = 1 by omega) with h0 | h0
    · rw [h0] at hc ⊢
      by_cases hz : fstN d d.length 1 0 = 0
      · rw [hz] at hc ⊢
        have hc' : canN 8 d = true := hc
        rw [hc']
        rfl
      · have e : Nat.beq (fstN d d.length 1 0) 0 = false := by
          cases hb : Nat.beq (fstN d d.length 1 0) 0 with
          | false => rfl
          | true => exact absurd (Nat.eq_of_beq_eq_true hb) hz
        rw [e] at hc
        have hc' : (!canN 8 d && _) = true := hc
        rw [Bool.and_eq_true, Bool.not_eq_true'] at hc'
        rw [hc'.1]
        generalize hf0 : ((fstN d d.length 1 0 : Nat) : Int) = f
        have hf1 : (f == 0) = false := beq_eq_false_iff_ne.2 (by omega)
        have hf2 : (f != f) = false := bne_self_eq_false f
        simp [hf1, hf2]
    · rw [h0] at hc ⊢
      have hc' : (!canN 8 d && _) = true := hc
      rw [Bool.and_eq_true, Bool.not_eq_true'] at hc'
      rw [hc'.1]
      rfl

theorem f6_n {n : Nat} (h1 : 1 ≤ n) (h2 : n ≤ 5) (a : Int) (ha : w64 (1 + (Int.tmod (w64 a) 5)) = (n : Int)) : f6 5000 a = some true := by
  have e1 : decide (0 ≤ w64 (Int.tdiv (w64 ((n : Int) * (w64 ((n : Int) - 1)))) 2)) = true := by
    rcases five h1 h2 with rfl | rfl | rfl | rfl | rfl <;> decide
  have e2 : shV true .u32 1 (w64 (Int.tdiv (w64 ((n : Int) * (w64 ((n : Int) - 1)))) 2)) = ((EN n : Nat) : Int) := by
    rcases five h1 h2 with rfl | rfl | rfl | rfl | rfl <;> decide
  have hE := EN_le h1 h2
  obtain ⟨M, q1, q2, q3⟩ := f6_1_eq h1 h2 (EN n) 0 5000 [] (by omega) (by omega) rfl
  have q1' : f6_1 5000 5000 (n : Int) ((EN n : Nat) : Int) 0 [] = some ((n : Int), M) := q1
  have hg : ∀ l : List Nat, l.length = n → (∀ x ∈ l, x < n) → getA false M (pad (toI l)) = canN 8 (sortN l).reverse := by
    intro l hl hx
    have h := q3 l hl hx
    rw [Bool.eq_iff_iff, h, gallai h1 h2 hl hx]
    constructor
    · rintro (h | ⟨s, _, p1, p2⟩)
      · cases h
      · exact ⟨s, p1, p2⟩
    · rintro ⟨s, p1, p2⟩
      exact Or.inr ⟨s, Nat.zero_le _, p1, p2⟩
  have h3 := f6_3_eq h1 h2 q2 hg (n ^ n) (NN_le h1 h2) (n ^ n) 0 5000 (by omega) (by have := NN_le h1 h2; omega)
  have h3' : f6_3 5000 5000 (n : Int) ((n ^ n : Nat) : Int) 0 M = some .x4 := h3
  unfold f6
  rw [ha, e1, e2]
  simp only [cond_true, q1', Option.bind_some, f6_2_eq h1 h2 M, h3']

theorem f6_true (a : Int) (ha : 0 ≤ a ∧ a ≤ 255) : f6 5000 a = some true := by
  have e0 : w64 a = a := w64i (by omega) (by omega)
  have e1 : Int.tmod a 5 = a % 5 := Int.tmod_eq_emod_of_nonneg ha.1
  refine f6_n (n := 1 + (a % 5).toNat) (by omega) (by omega) a ?_
  rw [e0, e1, w64i (by omega) (by omega)]
  omega

end Go.Xm
namespace Go.Proofs.YtfimbmhannndaaaDoor.clubGallai
open Go.Xm Go.RowKit

theorem walk (a0 : Int) (w : World) (hI : seatInv w) (_w0 : (Lit.int .u8 a0).wf = true) :
    Calls Tryd.prog 6 #[.int .u8 a0] w fun e w' => e = .returned (.bool true) ∧ Below w.heap.size w w' := by
  have h : 0 ≤ a0 ∧ a0 ≤ 255 := by
    have := _w0
    simp [Lit.wf, IntKind.min, IntKind.max, IntKind.signed, IntKind.bits] at this
    omega
  exact f6_ok 5000 a0 true (f6_true a0 h) w hI

end Go.Proofs.YtfimbmhannndaaaDoor.clubGallai
