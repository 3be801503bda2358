/- ClubHavel's loops: counts by numbers, one of them deleted, the others in descending order, the greatest ones made less. Plain Lean. Conditions: those that each theorem names. -/
import Derived.Test.YtfimbmhannndaaaDoorCb
import Derived.Test.YtfimbmhannndaaaDoorHb
import Derived.Test.YtfimbmhannndaaaDoorHa
namespace Go.Xm
set_option linter.unusedVariables false
set_option linter.unusedSimpArgs false
set_option maxRecDepth 20000

/-! ### Counts by numbers -/
theorem f13_1_eq (m : Nat) (c : Int) (n : Nat) (h0 : 0 < n) (h8 : n ≤ 8) (av : List Int) (hl : av.length = 8) : ∀ (r i fuel : Nat) (P : List Int), i + r = n → r < fuel → P.length = i →
    f13_1 m fuel c (n : Int) (n : Int) (i : Int) av (P ++ List.replicate r 0) = some ((n : Int), P ++ ((av.drop i).take r).map fun x => Int.tmod (w64 x) (n : Int))
  | 0, i, fuel + 1, P, hi, _, _ => by
    rw [f13_1, dcF (p := (i : Int) < (n : Int)) (by omega)]
    simp
  | r + 1, i, fuel + 1, P, hi, hf, hP => by
    have hil : i < av.length := by omega
    have t : Int.toNat (i : Int) = i := rfl
    have hn : ((n : Int) != 0) = true := by simp; omega
    have e0 : P ++ List.replicate (r + 1) 0 = P ++ (0 : Int) :: List.replicate r 0 := by rw [List.replicate_succ]
    rw [f13_1, dcT (p := (i : Int) < (n : Int)) (by omega), inR (show i < 8 by omega), t, dcT hil, hn, inR (show i < (P ++ List.replicate (r + 1) (0 : Int)).length by simp; omega), e0, set_mid _ _ _ _ hP.symm, nat_succ _ (by omega)]
    have e1 : P ++ Int.tmod (w64 (av.getD i 0)) (n : Int) :: List.replicate r 0 = (P ++ [Int.tmod (w64 (av.getD i 0)) (n : Int)]) ++ List.replicate r 0 := by simp
    rw [e1]
    show f13_1 m fuel c (n : Int) (n : Int) ((i + 1 : Nat) : Int) av _ = _
    rw [f13_1_eq m c n h0 h8 av hl r (i + 1) fuel _ (by omega) (by omega) (by simp; omega), drop_getD hil, List.take_succ_cons, List.map_cons]
    simp

/-! ### One deleted -/
theorem f13_2_eq (m : Nat) (A : List Int) (v : Int) (B : List Int) (h : A.length + B.length ≤ 100) : f13_2 m (A.length : Int) (w64 ((A.length : Int) + 1)) (A ++ v :: B) (A ++ v :: B) = some (A ++ B) := by
  have hl : (A ++ v :: B).length = A.length + 1 + B.length := by simp; omega
  have e1 : w64 ((A.length : Int) + 1) = ((A.length + 1 : Nat) : Int) := nat_succ _ (by omega)
  have t1 : Int.toNat ((A.length : Nat) : Int) = A.length := rfl
  have t2 : Int.toNat ((A.length + 1 : Nat) : Int) = A.length + 1 := rfl
  have s1 : A.length + 1 + B.length - (A.length + 1) = B.length := by omega
  unfold f13_2
  rw [e1, hl, t1, t2, s1]
  rw [cutOK_iff.2 (show (0 : Int) ≤ (A.length : Int) ∧ (A.length : Int) ≤ ((A.length + 1 : Nat) : Int) ∧ ((A.length + 1 : Nat) : Int) ≤ ((A.length + 1 + B.length : Nat) : Int) ∧ ((A.length + 1 + B.length : Nat) : Int) ≤ ((A.length + 1 + B.length : Nat) : Int) by omega)]
  have t3 : Int.toNat ((A.length + 1 + B.length : Nat) : Int) = A.length + 1 + B.length := rfl
  have e2 : ((A.length : Int) == ((A.length + 1 : Nat) : Int)) = false := by simp; omega
  rw [t3, dcT (show 0 < A.length + 1 + B.length - A.length by omega), e2]
  rw [cutOK_iff.2 (show (0 : Int) ≤ 0 ∧ (0 : Int) ≤ (A.length : Int) ∧ (A.length : Int) ≤ ((A.length + 1 + B.length : Nat) : Int) ∧ ((A.length + 1 + B.length : Nat) : Int) ≤ ((A.length + 1 + B.length : Nat) : Int) by omega)]
  rw [cutOK_iff.2 (show (0 : Int) ≤ ((A.length + 1 : Nat) : Int) ∧ ((A.length + 1 : Nat) : Int) ≤ ((A.length + 1 + B.length : Nat) : Int) ∧ ((A.length + 1 + B.length : Nat) : Int) ≤ ((A.length + 1 + B.length : Nat) : Int) ∧ ((A.length + 1 + B.length : Nat) : Int) ≤ ((A.length + 1 + B.length : Nat) : Int) by omega)]
  have t4 : Int.toNat ((A.length + B.length : Nat) : Int) = A.length + B.length := rfl
  have x1 : List.take A.length (A ++ v :: B) = A := by simp
  have x2 : List.take B.length (List.drop (A.length + 1) (A ++ v :: B)) = B := by
    have : List.drop (A.length + 1) (A ++ v :: B) = B := by rw [List.drop_append]; simp
    rw [this]; simp
  have x3 : (List.drop (A.length + B.length) (A ++ v :: B)).length = 1 := by rw [List.length_drop, hl]; omega
  obtain ⟨z, hz⟩ : ∃ z, List.drop (A.length + B.length) (A ++ v :: B) = [z] := by
    match hq : List.drop (A.length + B.length) (A ++ v :: B), x3 with
    | [z], _ => exact ⟨z, rfl⟩
  rw [dcT (show 1 ≤ A.length + 1 + B.length by omega), dcT (show A.length + B.length ≤ A.length + 1 + B.length by omega), dcT (Nat.le_refl B.length), dcT (show A.length + 1 + B.length ≤ A.length + 1 + B.length by omega)]
  rw [cutOK_iff.2 (show (0 : Int) ≤ ((A.length + B.length : Nat) : Int) ∧ ((A.length + B.length : Nat) : Int) ≤ ((A.length + 1 + B.length : Nat) : Int) ∧ ((A.length + 1 + B.length : Nat) : Int) ≤ ((A.length + 1 + B.length : Nat) : Int) ∧ ((A.length + 1 + B.length : Nat) : Int) ≤ ((A.length + 1 + B.length : Nat) : Int) by omega)]
  rw [t4, x1, x2, hz]
  have c1 : A.length + 1 + B.length - (A.length + B.length) = 1 := by omega
  rw [c1]
  have c2 : (A ++ B ++ [z]).length = A.length + B.length + 1 := by simp only [List.length_append, List.length_cons, List.length_nil]
  rw [c2, dcT (show A.length + B.length + 1 ≤ A.length + B.length + 1 from Nat.le_refl _)]
  have c3 : clearL 0 (A ++ B ++ [z]) (A.length + B.length) 1 = A ++ B ++ [0] := by
    unfold clearL
    have q : A.length + B.length = (A ++ B).length := (List.length_append ..).symm
    rw [q, List.take_left, List.drop_eq_nil_of_le (by simp only [List.length_append, List.length_cons, List.length_nil]; omega), List.append_nil]
    rfl
  rw [c3]
  have c4 : (A ++ B ++ [(0 : Int)]).length = A.length + B.length + 1 := by simp only [List.length_append, List.length_cons, List.length_nil]
  rw [c4, dcT (show A.length + B.length ≤ A.length + B.length + 1 by omega)]
  have c5 : List.take (A.length + B.length) (A ++ B ++ [(0 : Int)]) = A ++ B := by
    have q : A.length + B.length = (A ++ B).length := (List.length_append ..).symm
    rw [q, List.take_left]
  rw [c5]
  rfl

/-! ### In descending order -/
theorem f91_ok' (m n : Nat) (h : n ≤ 8) : ∃ r, f91 m (IntKind.wrap .u64 ((n : Nat) : Int)) = some r := by
  have : n = 0 ∨ n = 1 ∨ n = 2 ∨ n = 3 ∨ n = 4 ∨ n = 5 ∨ n = 6 ∨ n = 7 ∨ n = 8 := by omega
  rcases this with rfl | rfl | rfl | rfl | rfl | rfl | rfl | rfl | rfl
  · exact ⟨0, by kernel_rfl⟩
  · exact ⟨1, by kernel_rfl⟩
  · exact ⟨2, by kernel_rfl⟩
  · exact ⟨2, by kernel_rfl⟩
  · exact ⟨3, by kernel_rfl⟩
  · exact ⟨3, by kernel_rfl⟩
  · exact ⟨3, by kernel_rfl⟩
  · exact ⟨3, by kernel_rfl⟩
  · exact ⟨4, by kernel_rfl⟩

theorem f57_eq (m : Nat) (a b : Int) : f57 m a b = some (w64 (b - a)) := rfl

theorem f13_5_eq (m : Nat) (a : List Int) (c1 c2 : Int) : ∀ (Q : List Int) (x : Int) (R : List Int) (fuel : Nat), Q.length < fuel → Q.length + 1 + R.length ≤ 1000 → (∀ z ∈ Q.reverse ++ x :: R, 0 ≤ z ∧ z ≤ 1000) →
    f13_5 m fuel c1 a c2 (Q.length : Int) (Q.reverse ++ x :: R) = some (gd Q x ++ R)
  | [], x, R, fuel + 1, _, _, _ => by
    rw [f13_5, dcF (p := ((([] : List Int).length : Nat) : Int) > 0) (by simp)]
    rfl
  | y :: Q, x, R, fuel + 1, hf, hl, hs => by
    have e1 : (y :: Q).reverse ++ x :: R = Q.reverse ++ y :: x :: R := by simp
    have e2 : (y :: Q).reverse ++ x :: R = (Q.reverse ++ [y]) ++ x :: R := by simp
    have hw : w64 ((((y :: Q).length : Nat) : Int) - 1) = ((Q.length : Nat) : Int) := by
      simp only [List.length_cons] at hl ⊢
      rw [w64i (by omega) (by omega)]; omega
    have hx := hs x (by simp)
    have hy := hs y (by simp)
    rw [f13_5, dcT (p := (((y :: Q).length : Nat) : Int) > 0) (by simp only [List.length_cons]; omega)]
    rw [inR (show (y :: Q).length < ((y :: Q).reverse ++ x :: R).length by simp), hw, inR (show Q.length < ((y :: Q).reverse ++ x :: R).length by simp)]
    have g1 : List.getD ((y :: Q).reverse ++ x :: R) (Int.toNat (((y :: Q).length : Nat) : Int)) 0 = x := by rw [e2]; exact getD_mid _ _ _ _ (by simp)
    have g2 : List.getD ((y :: Q).reverse ++ x :: R) (Int.toNat ((Q.length : Nat) : Int)) 0 = y := by rw [e1]; exact getD_mid _ _ _ _ (by simp)
    rw [g1, g2, f57_eq]
    show cond (decide (w64 (y - x) < 0)) _ _ = _
    rw [w64i (by omega) (by omega)]
    unfold gd
    by_cases e : x > y
    · rw [dcT (p := y - x < 0) (by omega), if_pos e]
      have s1 : List.set (List.set ((y :: Q).reverse ++ x :: R) (Int.toNat (((y :: Q).length : Nat) : Int)) y) (Int.toNat ((Q.length : Nat) : Int)) x = Q.reverse ++ x :: y :: R := by
        rw [e2, set_mid _ _ _ _ (by simp), List.append_assoc]
        exact set_mid _ _ _ _ (by simp)
      show f13_5 m fuel c1 a c2 _ _ = _
      rw [s1, f13_5_eq m a c1 c2 Q x (y :: R) fuel (by simp only [List.length_cons] at hf; omega) (by simp only [List.length_cons] at hl ⊢; omega) (fun z hz => hs z (by simp only [List.mem_append, List.mem_reverse, List.mem_cons] at hz ⊢; rcases hz with hz | hz | hz | hz <;> simp [hz]))]
      simp
    · rw [dcF (p := y - x < 0) (by omega), if_neg e]
      simp

theorem f13_4_eq (m : Nat) (a : List Int) : ∀ (R S : List Int) (fuel n : Nat), R.length < fuel → S.length + R.length = n → n ≤ 1000 → n < m → (∀ z ∈ S ++ R, 0 ≤ z ∧ z ≤ 1000) →
    f13_4 m fuel (n : Int) a (S.length : Int) (S ++ R) = some (dsort S R)
  | [], S, fuel + 1, n, _, hn, _, _, _ => by
    rw [f13_4, dcF (p := ((S.length : Nat) : Int) < (n : Int)) (by simp at hn; omega)]
    simp [dsort]
  | x :: R, S, fuel + 1, n, hf, hn, h1, hm, hs => by
    simp only [List.length_cons] at hf hn
    rw [f13_4, dcT (p := ((S.length : Nat) : Int) < (n : Int)) (by omega)]
    have e : S ++ x :: R = S.reverse.reverse ++ x :: R := by rw [List.reverse_reverse]
    have h3 := f13_5_eq m a (n : Int) (S.length : Int) S.reverse x R m (by rw [List.length_reverse]; omega) (by rw [List.length_reverse]; omega) (by rw [← e]; exact hs)
    rw [← e, List.length_reverse] at h3
    show ((f13_5 m m (n : Int) a (S.length : Int) (S.length : Int) (S ++ x :: R)).bind fun o3 => f13_4 m fuel (n : Int) a (w64 ((S.length : Int) + 1)) o3) = _
    rw [h3]
    have hl : (gd S.reverse x).length = S.length + 1 := by
      have := (gd_perm S.reverse x).length_eq
      simpa using this
    show f13_4 m fuel (n : Int) a (w64 ((S.length : Int) + 1)) (gd S.reverse x ++ R) = _
    rw [nat_succ _ (by omega), ← hl]
    rw [f13_4_eq m a R (gd S.reverse x) fuel n (by omega) (by omega) h1 hm (fun z hz => ?_)]
    · rfl
    · refine hs z ?_
      rcases List.mem_append.1 hz with hz | hz
      · rcases gd_mem hz with rfl | hz
        · simp
        · simp [List.mem_reverse.1 hz]
      · simp [hz]

theorem f13_3_eq (m : Nat) (hm : 1001 ≤ m) (a : List Int) (x : Int) (T : List Int) (r : Int) (h8 : (x :: T).length ≤ 8) (hs : ∀ z ∈ x :: T, 0 ≤ z ∧ z ≤ 1000) : f13_3 m m (x :: T) (((x :: T).length : Nat) : Int) r a = some (a, dsc (x :: T)) := by
  obtain ⟨k, rfl⟩ : ∃ k, m = k + 1 := ⟨m - 1, by omega⟩
  rw [f13_3, w64i (by omega) (by omega), dcT (p := (((x :: T).length : Nat) : Int) - 0 ≤ 12) (by omega)]
  have h := f13_4_eq (k + 1) a T [x] (k + 1) (x :: T).length (by simp only [List.length_cons] at h8; omega) (by simp; omega) (by omega) (by omega) hs
  have h' : f13_4 (k + 1) (k + 1) (((x :: T).length : Nat) : Int) a 1 (x :: T) = some (dsort [x] T) := h
  show ((f13_4 (k + 1) (k + 1) (((x :: T).length : Nat) : Int) a 1 (x :: T)).bind _) = _
  rw [h']
  exact congrArg (fun q => some (a, q)) (dsc_uniq (dsort_perm T [x]) (dsort_sorted T [x] (List.pairwise_singleton _ _)))

/-! ### The greatest ones are made less -/
theorem f13_6_eq (m : Nat) (n : Int) (b : Bool) : ∀ (c i fuel : Nat) (P t t' : List Nat), P.length = i → c ≤ t.length → i + t.length ≤ 100 → c < fuel → (∀ x ∈ t, x ≤ 7) → decN c t = some t' →
    f13_6 m fuel n b ((i + c : Nat) : Int) (i : Int) (toI (P ++ t)) = some (n, b, toI (P ++ t'))
  | 0, i, fuel + 1, P, t, t', _, _, _, _, _, h => by
    cases h
    rw [f13_6, dcF (p := (i : Int) < ((i + 0 : Nat) : Int)) (by omega)]
    rfl
  | c + 1, i, fuel + 1, P, [], t', _, h, _, _, _, _ => by simp at h
  | c + 1, i, fuel + 1, P, 0 :: t, t', _, _, _, _, _, h => by cases h
  | c + 1, i, fuel + 1, P, (z + 1) :: t, t', hP, hc, hn, hf, hs, h => by
    have hy := hs (z + 1) (List.mem_cons_self ..)
    simp only [List.length_cons] at hc hn
    have e1 : toI (P ++ (z + 1) :: t) = toI P ++ ((z + 1 : Nat) : Int) :: toI t := toI_append ..
    have t1 : Int.toNat (i : Int) = (toI P).length := by rw [toI_len, hP]; rfl
    rw [decN_succ] at h
    rw [f13_6, dcT (p := (i : Int) < ((i + (c + 1) : Nat) : Int)) (by omega), inR (show i < (toI (P ++ (z + 1) :: t)).length by rw [toI_len]; simp; omega), e1, getD_mid _ _ _ _ t1, set_mid _ _ _ _ t1, w64i (x := ((z + 1 : Nat) : Int) - 1) (by omega) (by omega), nat_succ _ (by omega)]
    have e2 : ((z + 1 : Nat) : Int) - 1 = (z : Int) := by omega
    have e3 : toI P ++ (z : Int) :: toI t = toI ((P ++ [z]) ++ t) := by rw [toI_append, toI_append]; simp [toI]
    rw [e2, e3]
    cases hd : decN c t with
    | none => rw [hd] at h; cases h
    | some l =>
      rw [hd] at h
      cases h
      have e4 : ((i + (c + 1) : Nat) : Int) = ((i + 1 + c : Nat) : Int) := by omega
      show f13_6 m fuel n b ((i + (c + 1) : Nat) : Int) ((i + 1 : Nat) : Int) _ = _
      rw [e4, f13_6_eq m n b c (i + 1) fuel (P ++ [z]) t l (by simp; omega) (by omega) (by omega) (by omega) (fun x hx => hs x (List.mem_cons_of_mem _ hx)) hd]
      simp

theorem f13_8_eq (m : Nat) : ∀ (fuel : Nat) (n : Int) (b : Bool) (x i : Int) (l : List Int), f13_8 m fuel n b x i l = f13_6 m fuel n b x i l
  | 0, _, _, _, _, _ => rfl
  | fuel + 1, n, b, x, i, l => by
    rw [f13_8, f13_6]
    simp only [f13_8_eq m fuel]

theorem mxN_cons (x : Nat) (l : List Nat) : mxN (x :: l) = max x (mxN l) := by
  show (match Nat.ble x (mxN l) with | true => mxN l | false => x) = _
  cases h : Nat.ble x (mxN l) with
  | true => have := Nat.le_of_ble_eq_true h; show mxN l = _; omega
  | false =>
    have : ¬ x ≤ mxN l := fun q => by rw [Nat.ble_eq_true_of_le q] at h; cases h
    show x = _; omega

theorem mxN_le : ∀ {l : List Nat} {x : Nat}, x ∈ l → x ≤ mxN l
  | y :: l, x, h => by
    rw [mxN_cons]
    rcases List.mem_cons.1 h with rfl | h
    · omega
    · have := mxN_le h; omega

theorem f13_7_eq (m : Nat) (l : List Nat) (hl : l.length ≤ 100) : ∀ (r i fuel : Nat) (x : Nat), i + r = l.length → r < fuel → f13_7 m fuel (x : Int) (i : Int) (toI l) = some (((max x (mxN (l.drop i)) : Nat) : Int), toI l)
  | 0, i, fuel + 1, x, hi, _ => by
    rw [f13_7, dcF (p := (i : Int) < (((toI l).length : Nat) : Int)) (by rw [toI_len]; omega), List.drop_eq_nil_of_le (by omega)]
    have : max x (mxN []) = x := by show max x 0 = x; omega
    rw [this]
    rfl
  | r + 1, i, fuel + 1, x, hi, hf => by
    have hil : i < l.length := by omega
    rw [f13_7, dcT (p := (i : Int) < (((toI l).length : Nat) : Int)) (by rw [toI_len]; omega), inR (show i < (toI l).length by rw [toI_len]; exact hil), nat_succ _ (by omega)]
    have t : Int.toNat (i : Int) = i := rfl
    have g : List.getD (toI l) i 0 = ((l[i] : Nat) : Int) := by
      unfold toI
      rw [List.getD_eq_getElem?_getD, List.getElem?_map, List.getElem?_eq_getElem hil]; rfl
    rw [t, g]
    have e : iMax (x : Int) ((l[i] : Nat) : Int) = ((max x l[i] : Nat) : Int) := by unfold iMax; split <;> omega
    rw [e]
    show f13_7 m fuel _ ((i + 1 : Nat) : Int) _ = _
    rw [f13_7_eq m l hl r (i + 1) fuel _ (by omega) (by omega), List.drop_eq_getElem_cons hil, mxN_cons]
    have : max (max x l[i]) (mxN (l.drop (i + 1))) = max x (max l[i] (mxN (l.drop (i + 1)))) := by omega
    rw [this]

theorem f13_9_eq (m : Nat) : ∀ (fuel : Nat) (x i : Int) (l : List Int), f13_9 m fuel x i l = f13_7 m fuel x i l
  | 0, _, _, _ => rfl
  | fuel + 1, x, i, l => by
    rw [f13_9, f13_7]
    simp only [f13_9_eq m fuel]

end Go.Xm
