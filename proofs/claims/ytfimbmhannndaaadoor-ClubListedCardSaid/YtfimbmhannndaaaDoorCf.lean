/- Small words for plain laws about decompiled functions. Conditions: none. -/
import Derived.Test.YtfimbmhannndaaaDoorTe
import Derived.Test.YtfimbmhannndaaaDoorMy
import Derived.Test.YtfimbmhannndaaaDoorDd
namespace Go.Xm
set_option linter.unusedVariables false
set_option linter.unusedSimpArgs false
set_option maxRecDepth 20000
theorem w64_id {x : Int} (h1 : -9223372036854775808 ≤ x) (h2 : x ≤ 9223372036854775807) : w64 x = x := IntWalk.i64_in _ ⟨h1, h2⟩
theorem w64i {x : Int} (h1 : -1000000000000 ≤ x) (h2 : x ≤ 1000000000000) : w64 x = x := w64_id (by omega) (by omega)
theorem inR {i n : Nat} (h : i < n) : inRow (i : Int) n = true := inRow_iff.2 ⟨by omega, by omega⟩
theorem fitsI {n b : Nat} (h : n ≤ 1000) (hb : b ≤ 1000) : fitsB n b = true := by
  have : n * b ≤ 1000 * 1000 := Nat.mul_le_mul h hb
  simp only [fitsB, Bool.and_eq_true, Nat.ble_eq]; omega
theorem nat_succ (i : Nat) (h : i ≤ 1000000) : w64 ((i : Int) + 1) = ((i + 1 : Nat) : Int) := by rw [w64i (by omega) (by omega)]; omega
theorem dcT {p : Prop} [Decidable p] (h : p) : decide p = true := decide_eq_true h
theorem dcF {p : Prop} [Decidable p] (h : ¬ p) : decide p = false := decide_eq_false h
theorem iMin_eq (x y : Int) : iMin x y = min x y := by unfold iMin; split <;> omega
theorem getD_mid {α : Type} (A : List α) (x : α) (R : List α) (d : α) {n : Nat} (h : n = A.length) : List.getD (A ++ x :: R) n d = x := by
  subst h
  simp [List.getD_eq_getElem?_getD]
theorem set_mid {α : Type} (A : List α) (x y : α) (R : List α) {n : Nat} (h : n = A.length) : List.set (A ++ x :: R) n y = A ++ y :: R := by
  subst h
  simp
theorem drop_getD {l : List Int} {i : Nat} (h : i < l.length) : l.drop i = l.getD i 0 :: l.drop (i + 1) := by
  rw [List.drop_eq_getElem_cons h]; simp [List.getD_eq_getElem?_getD, h]
def dsc (a : List Int) : List Int := (sortI a).reverse
theorem dsc_len (a : List Int) : (dsc a).length = a.length := by unfold dsc; rw [List.length_reverse, sortI_len]
theorem dsc_perm (a : List Int) : (dsc a).Perm a := (List.reverse_perm _).trans (sortI_perm a)
theorem dsc_pw (a : List Int) : (dsc a).Pairwise (· ≥ ·) := List.pairwise_reverse.2 ((sortI_asc a).imp fun h => h)
end Go.Xm
namespace Go.Xm
set_option linter.unusedVariables false
set_option linter.unusedSimpArgs false
set_option maxRecDepth 20000
theorem split_ends : ∀ {l : List Int} {n : Nat}, l.length = n + 2 → ∃ x M y, l = x :: (M ++ [y]) ∧ M.length = n
  | x :: l, n, h => by
    simp only [List.length_cons] at h
    have hne : l ≠ [] := by intro q; subst q; simp at h
    refine ⟨x, l.dropLast, l.getLast hne, by rw [List.dropLast_concat_getLast hne], by rw [List.length_dropLast]; omega⟩
theorem f61_1_eq (m : Nat) (a : List Int) : ∀ (fuel n : Nat) (A M B : List Int), n < fuel → M.length ≤ n → A.length + M.length + B.length ≤ 1000 →
    f61_1 m fuel a (A.length : Int) (((A.length + M.length : Nat) : Int) - 1) (A ++ M ++ B) = some (A ++ M.reverse ++ B)
  | 0, _, _, _, _, h, _, _ => by omega
  | fuel + 1, n, A, M, B, hf, hn, hl => by
    by_cases hs : M.length ≤ 1
    · rw [f61_1, dcF (p := ((A.length : Nat) : Int) < ((A.length + M.length : Nat) : Int) - 1) (by omega)]
      match M, hs with
      | [], _ => rfl
      | [x], _ => rfl
    · obtain ⟨k, hk⟩ : ∃ k, M.length = k + 2 := ⟨M.length - 2, by omega⟩
      obtain ⟨x, M', y, rfl, hM'⟩ := split_ends hk
      have e1 : A ++ x :: (M' ++ [y]) ++ B = A ++ x :: (M' ++ y :: B) := by simp
      have e2 : A ++ x :: (M' ++ [y]) ++ B = (A ++ x :: M') ++ y :: B := by simp
      have i2 : ((A.length + (x :: (M' ++ [y])).length : Nat) : Int) - 1 = ((A.length + 1 + M'.length : Nat) : Int) := by simp only [List.length_cons, List.length_append, List.length_nil]; omega
      simp only [List.length_cons, List.length_append, List.length_nil] at hl hn
      rw [i2, f61_1, dcT (p := ((A.length : Nat) : Int) < ((A.length + 1 + M'.length : Nat) : Int)) (by omega)]
      rw [inR (show A.length + 1 + M'.length < (A ++ x :: (M' ++ [y]) ++ B).length by simp; omega), inR (show A.length < (A ++ x :: (M' ++ [y]) ++ B).length by simp)]
      have t1 : Int.toNat ((A.length + 1 + M'.length : Nat) : Int) = (A ++ x :: M').length := by simp; omega
      have t2 : Int.toNat ((A.length : Nat) : Int) = A.length := rfl
      have g1 : List.getD (A ++ x :: (M' ++ [y]) ++ B) (Int.toNat ((A.length + 1 + M'.length : Nat) : Int)) 0 = y := by rw [e2]; exact getD_mid _ _ _ _ t1
      have g2 : List.getD (A ++ x :: (M' ++ [y]) ++ B) (Int.toNat ((A.length : Nat) : Int)) 0 = x := by rw [e1]; exact getD_mid _ _ _ _ t2
      have s1 : List.set (List.set (A ++ x :: (M' ++ [y]) ++ B) (Int.toNat ((A.length : Nat) : Int)) y) (Int.toNat ((A.length + 1 + M'.length : Nat) : Int)) x = (A ++ [y]) ++ M' ++ (x :: B) := by
        rw [e1, set_mid _ _ _ _ t2]
        have e3 : A ++ y :: (M' ++ y :: B) = (A ++ y :: M') ++ y :: B := by simp
        rw [e3, set_mid _ _ _ _ (by rw [t1]; simp)]
        simp
      rw [g1, g2]
      show f61_1 m fuel a _ _ _ = _
      rw [s1, nat_succ _ (by omega), w64i (by omega) (by omega)]
      have j1 : ((A.length + 1 : Nat) : Int) = (((A ++ [y]).length : Nat) : Int) := by simp
      have j2 : ((A.length + 1 + M'.length : Nat) : Int) - 1 = (((A ++ [y]).length + M'.length : Nat) : Int) - 1 := by simp
      rw [j1, j2, f61_1_eq m a fuel (n - 2) (A ++ [y]) M' (x :: B) (by omega) (by omega) (by simp only [List.length_append, List.length_cons, List.length_nil]; omega)]
      simp
theorem f61_eq (m : Nat) (hm : 1001 ≤ m) (a : List Int) (hl : a.length ≤ 1000) : f61 m a = some (dsc a) := by
  unfold f61
  have h1 : Nat.ble a.length 1000000 = true := Nat.ble_eq_true_of_le (by omega)
  rw [h1]
  have h := f61_1_eq m a m a.length [] (sortI a) [] (by omega) (by rw [sortI_len]; exact Nat.le_refl _) (by rw [sortI_len]; simpa using hl)
  simp only [List.length_nil, Nat.zero_add, List.nil_append, List.append_nil] at h
  have e0 : w64 ((((sortI a).length : Nat) : Int) - 1) = (((sortI a).length : Nat) : Int) - 1 := w64i (by omega) (by rw [sortI_len]; omega)
  show ((f61_1 m m a 0 (w64 ((((sortI a).length : Nat) : Int) - 1)) (sortI a)).bind _) = _
  rw [e0]
  have h' : f61_1 m m a 0 ((((sortI a).length : Nat) : Int) - 1) (sortI a) = some (dsc a) := h
  rw [h']
  show cond (decide ((sortI a).length = (dsc a).length)) _ _ = _
  rw [dcT (by rw [dsc_len, sortI_len])]
  rfl
theorem f59_3_eq (m : Nat) (a b : List Int) (n c : Nat) (l' : List Int) : ∀ (fuel : Nat) (i j : Int) (l : List Int), f59_3 m fuel a n c l' i j l = f61_1 m fuel b i j l
  | 0, _, _, _ => rfl
  | fuel + 1, i, j, l => by
    rw [f59_3, f61_1]
    simp only [f59_3_eq m a b n c l' fuel]
end Go.Xm
namespace Go.Xm
set_option linter.unusedVariables false
set_option linter.unusedSimpArgs false
set_option maxRecDepth 20000
end Go.Xm
namespace Go.Xm
set_option linter.unusedVariables false
set_option linter.unusedSimpArgs false
set_option maxRecDepth 20000
def Cts (l : List Int) : Prop := l.length ≤ 8 ∧ ∀ x ∈ l, 0 ≤ x ∧ x ≤ 7
theorem Cts.dsc {l : List Int} (h : Cts l) : Cts (dsc l) := ⟨by rw [dsc_len]; exact h.1, fun x hx => h.2 x ((dsc_perm l).mem_iff.1 hx)⟩
theorem Cts.get {l : List Int} (h : Cts l) (i : Nat) : 0 ≤ l.getD i 0 ∧ l.getD i 0 ≤ 7 := by
  by_cases hi : i < l.length
  · have e : l.getD i 0 = l[i] := by simp [List.getD_eq_getElem?_getD, hi]
    rw [e]; exact h.2 _ (List.getElem_mem hi)
  · have e : l.getD i 0 = 0 := by simp [List.getD_eq_getElem?_getD, List.getElem?_eq_none (Nat.le_of_not_lt hi)]
    rw [e]; omega
end Go.Xm
namespace Go.Xm
set_option linter.unusedVariables false
set_option linter.unusedSimpArgs false
set_option maxRecDepth 100000
def dls : Nat → Nat → List (List Nat)
  | 0, _ => [[]]
  | k + 1, b => (List.range b).flatMap fun x => (dls k (x + 1)).map fun l => x :: l
theorem mem_dls : ∀ {k b : Nat} {d : List Nat}, d.length = k → d.Pairwise (· ≥ ·) → (∀ x ∈ d, x < b) → d ∈ dls k b
  | 0, b, [], _, _, _ => List.mem_singleton.2 rfl
  | k + 1, b, x :: d, h, hp, hx => by
    have h1 := hx x (List.mem_cons_self ..)
    obtain ⟨p1, p2⟩ := List.pairwise_cons.1 hp
    exact List.mem_flatMap.2 ⟨x, List.mem_range.2 h1, List.mem_map.2 ⟨d, mem_dls (by simpa using h) p2 (fun y hy => by have := p1 y hy; omega), rfl⟩⟩
def toI (l : List Nat) : List Int := l.map Int.ofNat
theorem toI_len (l : List Nat) : (toI l).length = l.length := List.length_map ..
theorem toI_append (a b : List Nat) : toI (a ++ b) = toI a ++ toI b := List.map_append ..
theorem toI_cons (a : Nat) (b : List Nat) : toI (a :: b) = (a : Int) :: toI b := rfl
theorem toI_reverse (a : List Nat) : toI a.reverse = (toI a).reverse := List.map_reverse ..
def insN (x : Nat) : List Nat → List Nat
  | [] => [x]
  | y :: l => match Nat.ble x y with
    | true => x :: y :: l
    | false => y :: insN x l
def sortN : List Nat → List Nat
  | [] => []
  | x :: l => insN x (sortN l)
theorem insN_eq (x : Nat) : ∀ l : List Nat, toI (insN x l) = insI (x : Int) (toI l)
  | [] => rfl
  | y :: l => by
    unfold insN
    rw [toI_cons, insI]
    cases h : Nat.ble x y with
    | true => rw [if_pos (by have := Nat.le_of_ble_eq_true h; omega)]; rfl
    | false => rw [if_neg (by intro q; have := Nat.ble_eq_true_of_le (show x ≤ y by omega); rw [h] at this; cases this), toI_cons, insN_eq x l]
theorem sortN_eq : ∀ l : List Nat, toI (sortN l) = sortI (toI l)
  | [] => rfl
  | x :: l => by
    show toI (insN x (sortN l)) = insI (x : Int) (sortI (toI l))
    rw [insN_eq, sortN_eq l]
theorem sortN_len (l : List Nat) : (sortN l).length = l.length := by
  have := congrArg List.length (sortN_eq l)
  rwa [toI_len, sortI_len, toI_len] at this
def decN : Nat → List Nat → Option (List Nat)
  | 0, t => some t
  | _ + 1, [] => none
  | c + 1, y :: t => match y with
    | 0 => none
    | z + 1 => match decN c t with
      | some l => some (z :: l)
      | none => none
theorem decN_len : ∀ {c : Nat} {t l : List Nat}, decN c t = some l → l.length = t.length
  | 0, t, l, h => by cases h; rfl
  | c + 1, [], l, h => by cases h
  | c + 1, 0 :: t, l, h => by cases h
  | c + 1, (z + 1) :: t, l, h => by
    unfold decN at h
    cases h1 : decN c t with
    | none => simp only [h1] at h; cases h
    | some l1 =>
      simp only [h1] at h
      cases h
      have := decN_len h1
      simp [this]
theorem decN_small : ∀ {c : Nat} {t l : List Nat}, decN c t = some l → (∀ x ∈ t, x ≤ 7) → ∀ x ∈ l, x ≤ 7
  | 0, t, l, h, hx => by cases h; exact hx
  | c + 1, [], l, h, _ => by cases h
  | c + 1, 0 :: t, l, h, _ => by cases h
  | c + 1, (z + 1) :: t, l, h, hx => by
    unfold decN at h
    cases h1 : decN c t with
    | none => simp only [h1] at h; cases h
    | some l1 =>
      simp only [h1] at h
      cases h
      intro x hm
      rcases List.mem_cons.1 hm with rfl | hm
      · have := hx (x + 1) (List.mem_cons_self ..); omega
      · exact decN_small h1 (fun y hy => hx y (List.mem_cons_of_mem _ hy)) x hm
theorem decN_succ (c z : Nat) (t : List Nat) : decN (c + 1) ((z + 1) :: t) = (match decN c t with | some l => some (z :: l) | none => none) := rfl
theorem f59_2_eq (m : Nat) (a : List Int) (n cap : Nat) : ∀ (c i fuel : Nat) (P t : List Nat), P.length = 1 + i → c ≤ t.length → i + c ≤ n → n ≤ 100 → c < fuel → (∀ x ∈ t, x ≤ 7) →
    f59_2 m fuel a n cap ((i + c : Nat) : Int) (i : Int) (toI (P ++ t)) = some (match decN c t with | none => .r | some t' => .x2 n cap (toI (P ++ t')))
  | 0, i, fuel + 1, P, t, _, _, _, _, _, _ => by
    rw [f59_2, dcF (p := (i : Int) < ((i + 0 : Nat) : Int)) (by omega)]
    rfl
  | c + 1, i, fuel + 1, P, [], _, h, _, _, _, _ => by simp at h
  | c + 1, i, fuel + 1, P, y :: t, hP, hc, hn, h100, hf, hs => by
    have hy := hs y (List.mem_cons_self ..)
    simp only [List.length_cons] at hc
    have e1 : toI (P ++ y :: t) = toI P ++ (y : Int) :: toI t := toI_append ..
    have t1 : 1 + Int.toNat (i : Int) = (toI P).length := by rw [toI_len]; omega
    have hl : 1 + Int.toNat (i : Int) < (toI (P ++ y :: t)).length := by rw [t1, toI_len, toI_len]; simp
    rw [f59_2, dcT (p := (i : Int) < ((i + (c + 1) : Nat) : Int)) (by omega), inR (show i < n by omega), dcT hl, e1, getD_mid _ _ _ _ t1, set_mid _ _ _ _ t1, getD_mid _ _ _ _ t1, w64i (by omega) (by omega), nat_succ _ (by omega)]
    show cond (decide ((y : Int) - 1 < 0)) _ _ = _
    cases y with
    | zero => rfl
    | succ z =>
      rw [dcF (p := ((z + 1 : Nat) : Int) - 1 < 0) (by omega)]
      have e2 : ((z + 1 : Nat) : Int) - 1 = (z : Int) := by omega
      have e3 : toI P ++ (z : Int) :: toI t = toI ((P ++ [z]) ++ t) := by rw [toI_append, toI_append]; simp [toI]
      rw [e2, e3]
      show f59_2 m fuel a n cap ((i + (c + 1) : Nat) : Int) ((i + 1 : Nat) : Int) _ = _
      have e4 : ((i + (c + 1) : Nat) : Int) = ((i + 1 + c : Nat) : Int) := by omega
      rw [e4, f59_2_eq m a n cap c (i + 1) fuel (P ++ [z]) t (by simp; omega) (by omega) (by omega) h100 (by omega) (fun x hx => hs x (List.mem_cons_of_mem _ hx))]
      rw [decN_succ]
      cases decN c t with
      | none => rfl
      | some l => simp
def canN : Nat → List Nat → Bool
  | 0, _ => true
  | _ + 1, [] => true
  | n + 1, x :: t => match Nat.ble x t.length with
    | false => false
    | true => match decN x t with
      | none => false
      | some l => canN n (sortN l).reverse
theorem sortN_small {l : List Nat} (h : ∀ x ∈ l, x ≤ 7) : ∀ x ∈ (sortN l).reverse, x ≤ 7 := fun x hx => by
  have h1 : (x : Int) ∈ toI (sortN l) := List.mem_map.2 ⟨x, List.mem_reverse.1 hx, rfl⟩
  rw [sortN_eq] at h1
  obtain ⟨y, hy, e⟩ := List.mem_map.1 ((sortI_perm _).mem_iff.1 h1)
  have := h y hy
  have e : (y : Int) = (x : Int) := e
  omega
theorem f59_1_eq (m : Nat) (hm : 1001 ≤ m) (a : List Int) : ∀ (n fuel : Nat) (d : List Nat), d.length ≤ n → n < fuel → d.length ≤ 50 → (∀ x ∈ d, x ≤ 7) → f59_1 m fuel a (toI d) = some (match canN n d with | true => .x0 | false => .r)
  | 0, fuel + 1, [], _, _, _, _ => rfl
  | 0, fuel + 1, x :: t, h, _, _, _ => by simp at h
  | n + 1, fuel + 1, [], _, _, _, _ => rfl
  | n + 1, fuel + 1, x :: t, h, hf, h50, hs => by
    simp only [List.length_cons] at h h50
    have hx := hs x (List.mem_cons_self ..)
    have hl : (toI (x :: t)).length = t.length + 1 := by rw [toI_len]; rfl
    have g0 : List.getD (toI (x :: t)) 0 0 = (x : Int) := rfl
    rw [f59_1, hl, g0, dcT (p := (((t.length + 1 : Nat)) : Int) > 0) (by omega), inRow_iff.2 (show (0 : Int) ≤ 0 ∧ (0 : Int) < ((t.length + 1 : Nat) : Int) by omega), cutOK_iff.2 (show (0 : Int) ≤ 1 ∧ (1 : Int) ≤ ((t.length + 1 : Nat) : Int) ∧ ((t.length + 1 : Nat) : Int) ≤ ((t.length + 1 : Nat) : Int) ∧ ((t.length + 1 : Nat) : Int) ≤ ((t.length + 1 : Nat) : Int) by omega)]
    have l1 : t.length + 1 - 1 = t.length := rfl
    rw [l1]
    show cond (decide ((x : Int) > ((t.length : Nat) : Int))) _ _ = _
    unfold canN
    cases hb : Nat.ble x t.length with
    | false =>
      rw [dcT (p := (x : Int) > ((t.length : Nat) : Int)) (by
        have : ¬ x ≤ t.length := fun q => by rw [Nat.ble_eq_true_of_le q] at hb; cases hb
        omega)]
      rfl
    | true =>
      have hxt := Nat.le_of_ble_eq_true hb
      rw [dcF (p := (x : Int) > ((t.length : Nat) : Int)) (by omega), cutOK_iff.2 (show (0 : Int) ≤ 0 ∧ (0 : Int) ≤ (x : Int) ∧ (x : Int) ≤ ((t.length : Nat) : Int) ∧ ((t.length : Nat) : Int) ≤ ((t.length : Nat) : Int) by omega)]
      have h2 := f59_2_eq m a t.length t.length x 0 m [x] t rfl hxt (by omega) (by omega) (by omega) (fun y hy => hs y (List.mem_cons_of_mem _ hy))
      have h2' : f59_2 m m a t.length t.length ((Int.toNat (x : Int) : Nat) : Int) 0 (toI (x :: t)) = some (match decN x t with | none => .r | some t' => .x2 t.length t.length (toI ([x] ++ t'))) := by
        have e : ((Int.toNat (x : Int) : Nat) : Int) = ((0 + x : Nat) : Int) := by omega
        rw [e]; exact h2
      show ((f59_2 m m a t.length t.length ((Int.toNat (x : Int) : Nat) : Int) 0 (toI (x :: t))).bind _) = _
      rw [h2']
      cases hd : decN x t with
      | none => rfl
      | some l =>
        have hll := decN_len hd
        have hls := decN_small hd (fun y hy => hs y (List.mem_cons_of_mem _ hy))
        have e5 : List.take t.length (List.drop 1 (toI ([x] ++ l))) = toI l := by
          show List.take t.length (toI l) = toI l
          exact List.take_of_length_le (by rw [toI_len]; omega)
        show cond (decide (t.length ≤ t.length)) _ _ = _
        rw [dcT (Nat.le_refl _)]
        show cond (decide (1 + t.length ≤ (toI ([x] ++ l)).length)) _ _ = _
        rw [dcT (by rw [toI_len]; simp; omega), e5]
        show cond (Nat.ble (toI l).length 1000000) _ _ = _
        rw [Nat.ble_eq_true_of_le (by rw [toI_len]; omega)]
        show ((f59_3 m m a t.length t.length (toI ([x] ++ l)) 0 (w64 ((((sortI (toI l)).length : Nat) : Int) - 1)) (sortI (toI l))).bind _) = _
        have h3 := f61_1_eq m a m l.length [] (sortI (toI l)) [] (by omega) (by rw [sortI_len, toI_len]; exact Nat.le_refl _) (by rw [sortI_len, toI_len]; simp; omega)
        simp only [List.length_nil, Nat.zero_add, List.nil_append, List.append_nil] at h3
        rw [f59_3_eq m a a, w64i (by omega) (by rw [sortI_len, toI_len]; omega)]
        have h3' : f61_1 m m a 0 ((((sortI (toI l)).length : Nat) : Int) - 1) (sortI (toI l)) = some (toI (sortN l).reverse) := by
          rw [toI_reverse, sortN_eq]; exact h3
        rw [h3']
        show cond (decide ((sortI (toI l)).length = (toI (sortN l).reverse).length)) _ _ = _
        rw [dcT (by rw [sortI_len, toI_len, toI_len, List.length_reverse, sortN_len])]
        exact f59_1_eq m hm a n fuel (sortN l).reverse (by rw [List.length_reverse, sortN_len]; omega) (by omega) (by rw [List.length_reverse, sortN_len]; omega) (sortN_small hls)
theorem nats_of {d : List Int} (h : ∀ x ∈ d, 0 ≤ x) : ∃ l : List Nat, d = toI l := by
  refine ⟨d.map Int.toNat, ?_⟩
  unfold toI
  rw [List.map_map]
  conv => lhs; rw [← List.map_id d]
  refine List.map_congr_left (fun x hx => ?_)
  have := h x hx
  show x = ((x.toNat : Nat) : Int)
  omega
theorem f59_eq (m : Nat) (hm : 1001 ≤ m) (a : List Int) (l : List Nat) (hl : dsc a = toI l) (h8 : l.length ≤ 8) (hs : ∀ x ∈ l, x ≤ 7) : f59 m a = some (canN 8 l) := by
  have hal : a.length ≤ 8 := by rw [← dsc_len, hl, toI_len]; exact h8
  unfold f59
  rw [f61_eq m hm a (by omega), hl]
  show ((f59_1 m m a (toI l)).bind _) = _
  rw [f59_1_eq m hm a 8 m l h8 (by omega) (by omega) hs]
  cases canN 8 l <;> rfl
def mnN (k : Nat) : List Nat → Nat
  | [] => 0
  | x :: l => (match Nat.ble x k with | true => x | false => k) + mnN k l
def smN : List Nat → Nat
  | [] => 0
  | x :: l => x + smN l
def stN (k : Nat) (l : List Nat) : Bool := Nat.blt (k * (k - 1) + mnN k (l.drop k)) (smN (l.take k))
def fstN (l : List Nat) : Nat → Nat → Nat → Nat
  | 0, _, z => z
  | n + 1, k, z => match stN k l with
    | true => k
    | false => fstN l n (k + 1) z
def chk (l : List Nat) : Bool :=
  match (Nat.beq (smN l % 2) 0 && Nat.beq (fstN l l.length 1 0) 0) with
  | true => canN 8 l
  | false => !canN 8 l && (Nat.beq (smN l % 2) 1 || Nat.beq (fstN l (l.length - 1) 1 l.length) (fstN l l.length 1 0))
end Go.Xm
namespace Go.Xm
set_option maxRecDepth 100000
theorem tab1 : (dls 1 1).all chk = true := by kernel_rfl
theorem tab2 : (dls 2 2).all chk = true := by kernel_rfl
theorem tab3 : (dls 3 3).all chk = true := by kernel_rfl
theorem tab4 : (dls 4 4).all chk = true := by kernel_rfl
theorem tab5 : (dls 5 5).all chk = true := by kernel_rfl
theorem tab6 : (dls 6 6).all chk = true := by kernel_rfl
theorem tab7 : (dls 7 7).all chk = true := by kernel_rfl
end Go.Xm
namespace Go.Xm
set_option maxRecDepth 100000
theorem tab8a : (((List.range 7).flatMap fun x => (dls 7 (x + 1)).map fun l => x :: l).all chk) = true := by kernel_rfl
theorem tab8b : (((dls 7 8).map fun l => 7 :: l).all chk) = true := by kernel_rfl
theorem tab8 : (dls 8 8).all chk = true := by
  refine List.all_eq_true.2 (fun l hl => ?_)
  obtain ⟨x, hx, hm⟩ := List.mem_flatMap.1 hl
  have hx8 := List.mem_range.1 hx
  by_cases e : x = 7
  · subst e
    exact List.all_eq_true.1 tab8b l hm
  · exact List.all_eq_true.1 tab8a l (List.mem_flatMap.2 ⟨x, List.mem_range.2 (by omega), hm⟩)
end Go.Xm
