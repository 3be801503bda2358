/- Plans of counts, counted: the number does not depend on the counts' order; there is a plan just if the first one can sit with those of the greatest counts. Plain Lean. Conditions: at most 8 counts. -/
import Derived.Test.YtfimbmhannndaaaDoorCf
import Derived.Test.YtfimbmhannndaaaDoorUf
import Derived.Test.YtfimbmhannndaaaDoorUe
import Derived.Test.YtfimbmhannndaaaDoorAr
namespace Go.Xm.Mk
set_option linter.unusedVariables false
set_option linter.unusedSimpArgs false
set_option maxRecDepth 20000
def G : List Nat → Nat → (List Nat → Nat) → Nat
  | [], 0, f => f []
  | [], _ + 1, _ => 0
  | x :: l, k, f => G l k (fun r => f (x :: r)) + (match k, x with
    | k' + 1, x' + 1 => G l k' (fun r => f (x' :: r))
    | _, _ => 0)
theorem G_cons (x : Nat) (l : List Nat) (k : Nat) (f : List Nat → Nat) : G (x :: l) k f = G l k (fun r => f (x :: r)) + (match k, x with
    | k' + 1, x' + 1 => G l k' (fun r => f (x' :: r))
    | _, _ => 0) := by cases k <;> rfl
theorem G_0 (x : Nat) (l : List Nat) (f : List Nat → Nat) : G (x :: l) 0 f = G l 0 (fun r => f (x :: r)) := by rw [G_cons]; rfl
theorem G_z (l : List Nat) (k : Nat) (f : List Nat → Nat) : G (0 :: l) k f = G l k (fun r => f (0 :: r)) := by rw [G_cons]; cases k <;> rfl
theorem G_s (x : Nat) (l : List Nat) (k : Nat) (f : List Nat → Nat) : G ((x + 1) :: l) (k + 1) f = G l (k + 1) (fun r => f ((x + 1) :: r)) + G l k (fun r => f (x :: r)) := by rw [G_cons]
theorem G_congr : ∀ (l : List Nat) (k : Nat) {f g : List Nat → Nat}, (∀ r, r.length = l.length → f r = g r) → G l k f = G l k g
  | [], 0, f, g, h => h [] rfl
  | [], k + 1, f, g, h => rfl
  | x :: l, k, f, g, h => by
    rw [G_cons, G_cons, G_congr l k (fun r hr => h (x :: r) (by simp [hr]))]
    congr 1
    cases k with
    | zero => rfl
    | succ k => cases x with
      | zero => rfl
      | succ x => exact G_congr l k (fun r hr => h (x :: r) (by simp [hr]))
theorem G_add : ∀ (l : List Nat) (k : Nat) (f g : List Nat → Nat), G l k (fun r => f r + g r) = G l k f + G l k g
  | [], 0, f, g => rfl
  | [], k + 1, f, g => rfl
  | x :: l, 0, f, g => by rw [G_0, G_0, G_0, G_add l 0]
  | 0 :: l, k + 1, f, g => by rw [G_z, G_z, G_z, G_add l (k + 1)]
  | (x + 1) :: l, k + 1, f, g => by rw [G_s, G_s, G_s, G_add l (k + 1), G_add l k]; omega
theorem G_comm : ∀ (l : List Nat) (x y : Nat) (f : List Nat → Nat), G l x (fun r => G r y f) = G l y (fun r => G r x f)
  | [], 0, 0, f => rfl
  | [], 0, y + 1, f => rfl
  | [], x + 1, 0, f => rfl
  | [], x + 1, y + 1, f => rfl
  | z :: l, 0, 0, f => rfl
  | 0 :: l, x, y, f => by
    rw [G_z, G_z]
    simp only [G_z]
    exact G_comm l x y _
  | (z + 1) :: l, 0, y + 1, f => by
    rw [G_0, G_s]
    simp only [G_0, G_s]
    rw [G_add, G_comm l 0 (y + 1), G_comm l 0 y]
  | (z + 1) :: l, x + 1, 0, f => by
    rw [G_0, G_s]
    simp only [G_0, G_s]
    rw [G_add, G_comm l (x + 1) 0, G_comm l x 0]
  | 1 :: l, x + 1, y + 1, f => by
    rw [G_s, G_s]
    simp only [G_s, G_z]
    rw [G_add, G_add, G_comm l (x + 1) (y + 1), G_comm l (x + 1) y, G_comm l x (y + 1)]
    omega
  | (z + 2) :: l, x + 1, y + 1, f => by
    rw [G_s, G_s]
    simp only [G_s]
    rw [G_add, G_add, G_add, G_add, G_comm l (x + 1) (y + 1), G_comm l (x + 1) y, G_comm l x (y + 1), G_comm l x y]
    omega
theorem G_swap (x y : Nat) (l : List Nat) (k : Nat) (f : List Nat → Nat) (hf : ∀ a b r, r.length = l.length → f (a :: b :: r) = f (b :: a :: r)) : G (x :: y :: l) k f = G (y :: x :: l) k f := by
  have c : ∀ (k a b : Nat), G l k (fun r => f (a :: b :: r)) = G l k (fun r => f (b :: a :: r)) := fun k a b => G_congr l k (fun r hr => hf a b r hr)
  cases k with
  | zero => simp only [G_0]; exact c 0 x y
  | succ k => cases x with
    | zero => cases y with
      | zero => rfl
      | succ y => simp only [G_z, G_s]; rw [c (k + 1) 0 (y + 1), c k 0 y]
    | succ x => cases y with
      | zero => simp only [G_z, G_s]; rw [c (k + 1) (x + 1) 0, c k x 0]
      | succ y => cases k with
        | zero => simp only [G_s, G_0]; rw [c (0 + 1) (x + 1) (y + 1), c 0 (x + 1) y, c 0 x (y + 1)]; omega
        | succ k => simp only [G_s]; rw [c (k + 1 + 1) (x + 1) (y + 1), c (k + 1) (x + 1) y, c (k + 1) x (y + 1), c k x y]; omega
theorem G_perm {l l' : List Nat} (h : l.Perm l') : ∀ (k : Nat) (f : List Nat → Nat), (∀ r r' : List Nat, r.length = l.length → r.Perm r' → f r = f r') → G l k f = G l' k f := by
  induction h with
  | nil => intro k f _; rfl
  | @cons x l l' h ih =>
    intro k f hf
    rw [G_cons, G_cons, ih k (fun r => f (x :: r)) (fun r r' hr hp => hf _ _ (by simp [hr]) (hp.cons x))]
    congr 1
    cases k with
    | zero => rfl
    | succ k => cases x with
      | zero => rfl
      | succ x => exact ih k (fun r => f (x :: r)) (fun r r' hr hp => hf _ _ (by simp [hr]) (hp.cons x))
  | swap x y l =>
    intro k f hf
    exact G_swap y x l k f (fun a b r hr => hf _ _ (by simp [hr]) (List.Perm.swap b a r))
  | trans h1 h2 ih1 ih2 =>
    intro k f hf
    rw [ih1 k f hf, ih2 k f (fun r r' hr hp => hf r r' (by rw [hr, h1.length_eq]) hp)]
def cntN : Nat → List Nat → Nat
  | _, [] => 1
  | 0, _ :: _ => 0
  | n + 1, x :: l => G l x (cntN n)
def cnt (l : List Nat) : Nat := cntN l.length l
theorem cnt_nil : cnt [] = 1 := rfl
theorem cnt_cons (x : Nat) (l : List Nat) : cnt (x :: l) = G l x cnt := by
  show G l x (cntN l.length) = _
  exact G_congr l x (fun r hr => by rw [← hr]; rfl)
theorem cnt_perm : ∀ (n : Nat) {l l' : List Nat}, l.length ≤ n → l.Perm l' → cnt l = cnt l' := by
  intro n
  induction n with
  | zero =>
    intro l l' hn h
    have e : l = [] := List.eq_nil_of_length_eq_zero (by omega)
    subst e
    rw [List.nil_perm.1 h]
  | succ n ih =>
    intro l l' hn h
    induction h with
    | nil => rfl
    | @cons x l l' h _ =>
      simp only [List.length_cons] at hn
      rw [cnt_cons, cnt_cons]
      exact G_perm h x cnt (fun r r' hr hp => ih (by omega) hp)
    | swap x y l =>
      rw [cnt_cons, cnt_cons]
      have e : ∀ (a b k : Nat), G (a :: l) b cnt = G l b (fun r => G r a cnt) + (match b, a with
          | b' + 1, a' + 1 => G l b' (fun r => G r a' cnt)
          | _, _ => 0) := fun a b _ => by
        rw [G_cons]
        congr 1
        · exact G_congr l b (fun r _ => cnt_cons a r)
        · cases b with
          | zero => rfl
          | succ b => cases a with
            | zero => rfl
            | succ a => exact G_congr l b (fun r _ => cnt_cons a r)
      rw [e x y 0, e y x 0, G_comm l y x]
      congr 1
      cases y with
      | zero => cases x <;> rfl
      | succ y => cases x with
        | zero => rfl
        | succ x => exact G_comm l y x cnt
    | trans h1 h2 ih1 ih2 => rw [ih1 hn, ih2 (by rw [← h1.length_eq]; exact hn)]
inductive Ch : List Nat → Nat → List Nat → Prop
  | nil : Ch [] 0 []
  | keep {l : List Nat} {k : Nat} {r : List Nat} (x : Nat) (h : Ch l k r) : Ch (x :: l) k (x :: r)
  | take {l : List Nat} {k : Nat} {r : List Nat} (x : Nat) (h : Ch l k r) : Ch ((x + 1) :: l) (k + 1) (x :: r)
theorem Ch.len {l : List Nat} {k : Nat} {r : List Nat} (h : Ch l k r) : r.length = l.length := by
  induction h with
  | nil => rfl
  | keep x _ ih => simp [ih]
  | take x _ ih => simp [ih]
theorem G_pos : ∀ {l : List Nat} {k : Nat} {f : List Nat → Nat}, 0 < G l k f → ∃ r, Ch l k r ∧ 0 < f r
  | [], 0, f, h => ⟨[], .nil, h⟩
  | [], k + 1, f, h => by simp [G] at h
  | x :: l, 0, f, h => by
    rw [G_0] at h
    obtain ⟨r, h1, h2⟩ := G_pos h
    exact ⟨x :: r, .keep x h1, h2⟩
  | 0 :: l, k + 1, f, h => by
    rw [G_z] at h
    obtain ⟨r, h1, h2⟩ := G_pos h
    exact ⟨0 :: r, .keep 0 h1, h2⟩
  | (x + 1) :: l, k + 1, f, h => by
    rw [G_s] at h
    by_cases h0 : 0 < G l (k + 1) (fun r => f ((x + 1) :: r))
    · obtain ⟨r, h1, h2⟩ := G_pos h0
      exact ⟨_, .keep _ h1, h2⟩
    · have h3 : 0 < G l k (fun r => f (x :: r)) := by omega
      obtain ⟨r, h1, h2⟩ := G_pos h3
      exact ⟨_, .take _ h1, h2⟩
theorem G_ge {l : List Nat} {k : Nat} {r : List Nat} (h : Ch l k r) : ∀ f : List Nat → Nat, f r ≤ G l k f := by
  induction h with
  | nil => intro f; exact Nat.le_refl _
  | keep x _ ih => intro f; rw [G_cons]; have := ih (fun r => f (x :: r)); omega
  | take x _ ih => intro f; rw [G_s]; have := ih (fun r => f (x :: r)); omega
def cT : List Bool → Nat
  | [] => 0
  | true :: M => cT M + 1
  | false :: M => cT M
def sel : List Bool → List Nat → Nat
  | true :: M, x :: l => x + sel M l
  | false :: M, _ :: l => sel M l
  | _, _ => 0
def nsel (k : Nat) : List Bool → List Nat → Nat
  | true :: M, _ :: l => nsel k M l
  | false :: M, x :: l => min x k + nsel k M l
  | _, _ => 0
theorem Ch.sums {l : List Nat} {c : Nat} {r : List Nat} (h : Ch l c r) : ∀ (M : List Bool) (k : Nat), M.length = l.length →
    ∃ t1 t2, c = t1 + t2 ∧ sel M l = sel M r + t1 ∧ t1 ≤ cT M ∧ nsel k M r + t2 ≤ nsel (k + 1) M l ∧ nsel k M r ≤ nsel k M l := by
  induction h with
  | nil =>
    intro M k hM
    have e : M = [] := List.eq_nil_of_length_eq_zero hM
    subst e
    exact ⟨0, 0, rfl, rfl, Nat.le_refl _, Nat.le_refl _, Nat.le_refl _⟩
  | @keep l c r x _ ih =>
    intro M k hM
    match M, hM with
    | true :: M, hM =>
      obtain ⟨t1, t2, h1, h2, h3, h4, h5⟩ := ih M k (by simpa using hM)
      exact ⟨t1, t2, h1, by show x + sel M l = x + sel M r + t1; omega, by show t1 ≤ cT M + 1; omega, h4, h5⟩
    | false :: M, hM =>
      obtain ⟨t1, t2, h1, h2, h3, h4, h5⟩ := ih M k (by simpa using hM)
      refine ⟨t1, t2, h1, h2, h3, ?_, ?_⟩
      · show min x k + nsel k M r + t2 ≤ min x (k + 1) + nsel (k + 1) M l; omega
      · show min x k + nsel k M r ≤ min x k + nsel k M l; omega
  | @take l c r x _ ih =>
    intro M k hM
    match M, hM with
    | true :: M, hM =>
      obtain ⟨t1, t2, h1, h2, h3, h4, h5⟩ := ih M k (by simpa using hM)
      exact ⟨t1 + 1, t2, by omega, by show x + 1 + sel M l = x + sel M r + (t1 + 1); omega, by show t1 + 1 ≤ cT M + 1; omega, h4, h5⟩
    | false :: M, hM =>
      obtain ⟨t1, t2, h1, h2, h3, h4, h5⟩ := ih M k (by simpa using hM)
      refine ⟨t1, t2 + 1, by omega, h2, h3, ?_, ?_⟩
      · show min x k + nsel k M r + (t2 + 1) ≤ min (x + 1) (k + 1) + nsel (k + 1) M l; omega
      · show min x k + nsel k M r ≤ min (x + 1) k + nsel k M l; omega
theorem sq_next (k : Nat) : (k + 1) * (k + 1 - 1) = k * (k - 1) + 2 * k := by
  cases k with
  | zero => rfl
  | succ j =>
    show (j + 1 + 1) * (j + 1) = (j + 1) * j + 2 * (j + 1)
    rw [Nat.succ_mul, Nat.mul_succ (j + 1) j]; omega
theorem eg_all : ∀ (n : Nat) (l : List Nat), l.length = n → 0 < cnt l → ∀ M : List Bool, M.length = n → sel M l ≤ cT M * (cT M - 1) + nsel (cT M) M l
  | 0, [], _, _, M, hM => by
    have e : M = [] := List.eq_nil_of_length_eq_zero hM
    subst e; exact Nat.le_refl _
  | n + 1, c :: l, hl, hc, M, hM => by
    rw [cnt_cons] at hc
    obtain ⟨r, hr, hp⟩ := G_pos hc
    simp only [List.length_cons] at hl
    match M, hM with
    | true :: M, hM =>
      have ih := eg_all n r (by rw [hr.len]; omega) hp M (by simpa using hM)
      obtain ⟨t1, t2, h1, h2, h3, h4, _⟩ := hr.sums M (cT M) (by simp at hM; omega)
      show c + sel M l ≤ (cT M + 1) * (cT M + 1 - 1) + nsel (cT M + 1) M l
      rw [sq_next]; omega
    | false :: M, hM =>
      have ih := eg_all n r (by rw [hr.len]; omega) hp M (by simpa using hM)
      obtain ⟨t1, t2, h1, h2, h3, _, h5⟩ := hr.sums M (cT M) (by simp at hM; omega)
      show sel M l ≤ cT M * (cT M - 1) + (min c (cT M) + nsel (cT M) M l)
      omega
theorem Ch.sum {l : List Nat} {c : Nat} {r : List Nat} (h : Ch l c r) : smN l = smN r + c := by
  induction h with
  | nil => rfl
  | keep x _ ih => show x + _ = x + _ + _; omega
  | take x _ ih => show x + 1 + _ = x + _ + _; omega
theorem even_all : ∀ (n : Nat) (l : List Nat), l.length = n → 0 < cnt l → smN l % 2 = 0
  | 0, [], _, _ => rfl
  | n + 1, c :: l, hl, hc => by
    rw [cnt_cons] at hc
    obtain ⟨r, hr, hp⟩ := G_pos hc
    simp only [List.length_cons] at hl
    have ih := even_all n r (by rw [hr.len]; omega) hp
    have h1 := hr.sum
    show (c + smN l) % 2 = 0
    omega
def firstM (k n : Nat) : List Bool := List.replicate k true ++ List.replicate n false
theorem firstM_len (k n : Nat) : (firstM k n).length = k + n := by simp [firstM]
theorem cT_first : ∀ (k n : Nat), cT (firstM k n) = k
  | 0, 0 => rfl
  | 0, n + 1 => by
    have := cT_first 0 n
    show cT (List.replicate n false) = 0
    simpa [firstM] using this
  | k + 1, n => by
    have := cT_first k n
    show cT (List.replicate k true ++ List.replicate n false) + 1 = k + 1
    exact congrArg (· + 1) this
theorem sel_first : ∀ (k : Nat) (l : List Nat), k ≤ l.length → sel (firstM k (l.length - k)) l = smN (l.take k)
  | 0, [], _ => rfl
  | 0, x :: l, _ => by
    have := sel_first 0 l (Nat.zero_le _)
    simpa [firstM, sel, List.replicate_succ, smN] using this
  | k + 1, x :: l, h => by
    have := sel_first k l (by simpa using h)
    have e : (x :: l).length - (k + 1) = l.length - k := by simp
    rw [e]
    show x + sel (firstM k (l.length - k)) l = x + smN (l.take k)
    rw [this]
theorem nsel_first (z : Nat) : ∀ (k : Nat) (l : List Nat), k ≤ l.length → nsel z (firstM k (l.length - k)) l = mnN z (l.drop k)
  | 0, [], _ => rfl
  | 0, x :: l, _ => by
    have := nsel_first z 0 l (Nat.zero_le _)
    have e : firstM 0 ((x :: l).length - 0) = false :: firstM 0 (l.length - 0) := rfl
    rw [e]
    show min x z + nsel z (firstM 0 (l.length - 0)) l = _ + mnN z l
    rw [this]
    cases hb : Nat.ble x z with
    | true => have := Nat.le_of_ble_eq_true hb; show min x z + _ = x + _; simp only [List.drop_zero]; omega
    | false =>
      have : ¬ x ≤ z := fun q => by rw [Nat.ble_eq_true_of_le q] at hb; cases hb
      show min x z + _ = z + _; simp only [List.drop_zero]; omega
  | k + 1, x :: l, h => by
    have := nsel_first z k l (by simpa using h)
    have e : (x :: l).length - (k + 1) = l.length - k := by simp
    rw [e]
    exact this
theorem stN_false {l : List Nat} (hc : 0 < cnt l) {k : Nat} (hk : k ≤ l.length) : stN k l = false := by
  have h := eg_all l.length l rfl hc (firstM k (l.length - k)) (by rw [firstM_len]; omega)
  rw [cT_first, sel_first k l hk, nsel_first k k l hk] at h
  unfold stN
  cases hb : Nat.blt (k * (k - 1) + mnN k (l.drop k)) (smN (l.take k)) with
  | false => rfl
  | true => rw [Nat.blt_eq] at hb; omega
theorem fstN_zero (l : List Nat) : ∀ (n k : Nat), (∀ j, k ≤ j → j < k + n → stN j l = false) → fstN l n k 0 = 0
  | 0, _, _ => rfl
  | n + 1, k, h => by
    unfold fstN
    rw [h k (Nat.le_refl _) (by omega)]
    exact fstN_zero l n (k + 1) (fun j h1 h2 => h j (by omega) (by omega))
theorem mnN_le (k : Nat) : ∀ l : List Nat, mnN k l ≤ k * l.length
  | [] => Nat.zero_le _
  | x :: l => by
    have := mnN_le k l
    rw [List.length_cons, Nat.mul_succ]
    unfold mnN
    cases hb : Nat.ble x k with
    | true => have := Nat.le_of_ble_eq_true hb; simp only; omega
    | false => simp only; omega
theorem first_small {x : Nat} {t : List Nat} (h : stN 1 (x :: t) = false) : x < (x :: t).length := by
  unfold stN at h
  have h1 := mnN_le 1 t
  have h2 : ¬ (1 * (1 - 1) + mnN 1 t < x + 0) := fun q => by
    have : Nat.blt (1 * (1 - 1) + mnN 1 ((x :: t).drop 1)) (smN ((x :: t).take 1)) = true := by rw [Nat.blt_eq]; exact q
    rw [h] at this; cases this
  simp only [List.length_cons]
  omega
theorem tabs {l : List Nat} (h1 : 1 ≤ l.length) (h8 : l.length ≤ 8) (hp : l.Pairwise (· ≥ ·)) (hx : ∀ x ∈ l, x < l.length) : chk l = true := by
  have key : ∀ n, n = l.length → l ∈ dls n n := fun n hn => mem_dls hn.symm hp (fun x hx' => by have := hx x hx'; omega)
  rcases (show l.length = 1 ∨ l.length = 2 ∨ l.length = 3 ∨ l.length = 4 ∨ l.length = 5 ∨ l.length = 6 ∨ l.length = 7 ∨ l.length = 8 by omega) with h | h | h | h | h | h | h | h
  · exact List.all_eq_true.1 tab1 l (key 1 h.symm)
  · exact List.all_eq_true.1 tab2 l (key 2 h.symm)
  · exact List.all_eq_true.1 tab3 l (key 3 h.symm)
  · exact List.all_eq_true.1 tab4 l (key 4 h.symm)
  · exact List.all_eq_true.1 tab5 l (key 5 h.symm)
  · exact List.all_eq_true.1 tab6 l (key 6 h.symm)
  · exact List.all_eq_true.1 tab7 l (key 7 h.symm)
  · exact List.all_eq_true.1 tab8 l (key 8 h.symm)
def egB (l : List Nat) : Bool := Nat.beq (smN l % 2) 0 && Nat.beq (fstN l l.length 1 0) 0
theorem decN_ch : ∀ {c : Nat} {t l : List Nat}, decN c t = some l → Ch t c l
  | 0, t, l, h => by
    cases h
    induction t with
    | nil => exact .nil
    | cons x t ih => exact .keep x ih
  | c + 1, [], l, h => by cases h
  | c + 1, 0 :: t, l, h => by cases h
  | c + 1, (z + 1) :: t, l, h => by
    unfold decN at h
    cases h1 : decN c t with
    | none => simp only [h1] at h; cases h
    | some l1 => simp only [h1] at h; cases h; exact .take z (decN_ch h1)
theorem sortN_perm (l : List Nat) : (sortN l).Perm l := by
  have h : (toI (sortN l)).Perm (toI l) := by rw [sortN_eq]; exact sortI_perm _
  have h2 := h.map Int.toNat
  have e : ∀ l : List Nat, (toI l).map Int.toNat = l := fun l => by
    unfold toI
    rw [List.map_map]
    conv => rhs; rw [← List.map_id l]
    exact List.map_congr_left (fun x _ => rfl)
  rwa [e, e] at h2
theorem can_cnt : ∀ (n : Nat) (l : List Nat), l.length ≤ n → canN n l = true → 0 < cnt l
  | 0, [], _, _ => by rw [cnt_nil]; omega
  | n + 1, [], _, _ => by rw [cnt_nil]; omega
  | n + 1, x :: t, hl, h => by
    simp only [List.length_cons] at hl
    unfold canN at h
    cases hb : Nat.ble x t.length with
    | false => rw [hb] at h; cases h
    | true =>
      rw [hb] at h
      simp only at h
      cases hd : decN x t with
      | none => rw [hd] at h; cases h
      | some r =>
        rw [hd] at h
        simp only at h
        have hch := decN_ch hd
        have hp : (sortN r).reverse.Perm r := (List.reverse_perm _).trans (sortN_perm r)
        have ih := can_cnt n (sortN r).reverse (by rw [hp.length_eq, hch.len]; omega) h
        rw [cnt_perm _ (Nat.le_refl _) hp] at ih
        rw [cnt_cons]
        have := G_ge hch cnt
        omega
theorem beqF {a b : Nat} (h : a ≠ b) : Nat.beq a b = false := by
  cases hb : Nat.beq a b with
  | false => rfl
  | true => exact absurd (Nat.eq_of_beq_eq_true hb) h
theorem real_iff {l : List Nat} (h8 : l.length ≤ 8) (hp : l.Pairwise (· ≥ ·)) : (canN 8 l = true ↔ 0 < cnt l) ∧ (egB l = true ↔ 0 < cnt l) := by
  cases l with
  | nil => exact ⟨⟨fun _ => by rw [cnt_nil]; omega, fun _ => rfl⟩, ⟨fun _ => by rw [cnt_nil]; omega, fun _ => rfl⟩⟩
  | cons x t =>
    have hsm : x < (x :: t).length → ∀ y ∈ x :: t, y < (x :: t).length := fun hx y hy => by
      rcases List.mem_cons.1 hy with rfl | hy
      · exact hx
      · have := (List.pairwise_cons.1 hp).1 y hy; omega
    have hck : x < (x :: t).length → chk (x :: t) = true := fun hx => tabs (by simp) h8 hp (hsm hx)
    have egc : 0 < cnt (x :: t) → egB (x :: t) = true := fun hc => by
      have h1 := even_all _ _ rfl hc
      have h2 := fstN_zero (x :: t) (x :: t).length 1 (fun j _ h2 => stN_false hc (by omega))
      unfold egB
      rw [h1, h2]; rfl
    have ecan : egB (x :: t) = true → canN 8 (x :: t) = true := fun he => by
      have hst : stN 1 (x :: t) = false := by
        unfold egB at he
        rw [Bool.and_eq_true] at he
        have h0 := Nat.eq_of_beq_eq_true he.2
        have e : fstN (x :: t) (x :: t).length 1 0 = (match stN 1 (x :: t) with | true => 1 | false => fstN (x :: t) t.length 2 0) := rfl
        rw [e] at h0
        cases hb : stN 1 (x :: t) with
        | false => rfl
        | true => rw [hb] at h0; cases h0
      have h3 := hck (first_small hst)
      unfold chk at h3
      unfold egB at he
      rw [he] at h3
      exact h3
    exact ⟨⟨fun h => can_cnt 8 _ h8 h, fun h => ecan (egc h)⟩, ⟨fun h => can_cnt 8 _ h8 (ecan h), egc⟩⟩
end Go.Xm.Mk
namespace Go.Xm.Mk
set_option linter.unusedVariables false
set_option linter.unusedSimpArgs false
set_option maxRecDepth 20000
def pop : Nat → Nat → Nat
  | 0, _ => 0
  | n + 1, s => s % 2 + pop n (s / 2)
def les : List Nat → Nat → Option (List Nat)
  | [], _ => some []
  | x :: l, s => if s % 2 ≤ x then (les l (s / 2)).map (fun r => (x - s % 2) :: r) else none
theorem les_cons (x : Nat) (l : List Nat) (s : Nat) : les (x :: l) s = if s % 2 ≤ x then (les l (s / 2)).map (fun r => (x - s % 2) :: r) else none := rfl
def opt (f : List Nat → Nat) : Option (List Nat) → Nat
  | none => 0
  | some r => f r
def Sr (f : Nat → Nat) : Nat → Nat → Nat
  | 0, _ => 0
  | r + 1, s => f s + Sr f r (s + 1)
theorem Sr_congr {f g : Nat → Nat} : ∀ (r s : Nat), (∀ j, s ≤ j → j < s + r → f j = g j) → Sr f r s = Sr g r s
  | 0, _, _ => rfl
  | r + 1, s, h => by
    show f s + _ = g s + _
    rw [h s (Nat.le_refl _) (by omega), Sr_congr r (s + 1) (fun j h1 h2 => h j (by omega) (by omega))]
theorem Sr_add (f g : Nat → Nat) : ∀ (r s : Nat), Sr (fun j => f j + g j) r s = Sr f r s + Sr g r s
  | 0, _ => rfl
  | r + 1, s => by
    show f s + g s + Sr (fun j => f j + g j) r (s + 1) = f s + Sr f r (s + 1) + (g s + Sr g r (s + 1))
    rw [Sr_add f g r (s + 1)]; omega
theorem Sr_double (f : Nat → Nat) : ∀ (r s : Nat), Sr f (2 * r) (2 * s) = Sr (fun j => f (2 * j) + f (2 * j + 1)) r s
  | 0, _ => rfl
  | r + 1, s => by
    have e : 2 * (r + 1) = 2 * r + 1 + 1 := by omega
    have ih := Sr_double f r (s + 1)
    have e2 : 2 * (s + 1) = 2 * s + 1 + 1 := by omega
    rw [e2] at ih
    rw [e]
    show f (2 * s) + (f (2 * s + 1) + Sr f (2 * r) (2 * s + 1 + 1)) = f (2 * s) + f (2 * s + 1) + Sr (fun j => f (2 * j) + f (2 * j + 1)) r (s + 1)
    rw [ih]; omega
theorem opt_map (f : List Nat → Nat) (x : Nat) (o : Option (List Nat)) : opt f (o.map (fun r => x :: r)) = opt (fun r => f (x :: r)) o := by cases o <;> rfl
theorem even2 (j : Nat) : 2 * j % 2 = 0 ∧ 2 * j / 2 = j := by omega
theorem odd2 (j : Nat) : (2 * j + 1) % 2 = 1 ∧ (2 * j + 1) / 2 = j := by omega
theorem sum_sets : ∀ (l : List Nat) (k : Nat) (f : List Nat → Nat), Sr (fun s => if pop l.length s = k then opt f (les l s) else 0) (2 ^ l.length) 0 = G l k f
  | [], 0, f => rfl
  | [], k + 1, f => rfl
  | x :: l, k, f => by
    have e1 : 2 ^ (x :: l).length = 2 * 2 ^ l.length := by rw [List.length_cons, Nat.pow_succ]; omega
    have h2 := Sr_double (fun s => if pop (x :: l).length s = k then opt f (les (x :: l) s) else 0) (2 ^ l.length) 0
    rw [Nat.mul_zero] at h2
    rw [e1, h2, Sr_add, G_cons]
    congr 1
    · rw [← sum_sets l k]
      refine Sr_congr _ _ (fun j _ _ => ?_)
      have hp : pop (x :: l).length (2 * j) = pop l.length j := by
        show (2 * j) % 2 + pop l.length (2 * j / 2) = _
        rw [(even2 j).1, (even2 j).2]; omega
      have hl : les (x :: l) (2 * j) = (les l j).map (fun r => x :: r) := by
        rw [les_cons, (even2 j).1, (even2 j).2, if_pos (Nat.zero_le _)]; rfl
      rw [hp, hl, opt_map]
    · have hp : ∀ j, pop (x :: l).length (2 * j + 1) = pop l.length j + 1 := fun j => by
        show (2 * j + 1) % 2 + pop l.length ((2 * j + 1) / 2) = _
        rw [(odd2 j).1, (odd2 j).2]; omega
      cases k with
      | zero =>
        show _ = 0
        rw [Sr_congr (g := fun _ => 0) _ _ (fun j _ _ => by rw [hp, if_neg (by omega)])]
        generalize 2 ^ l.length = n
        have : ∀ (n s : Nat), Sr (fun _ => 0) n s = 0 := by
          intro n
          induction n with
          | zero => intro _; rfl
          | succ n ih => intro s; show 0 + _ = 0; rw [ih]
        exact this n 0
      | succ k =>
        cases x with
        | zero =>
          show _ = 0
          rw [Sr_congr (g := fun _ => 0) _ _ (fun j _ _ => by
            have hl : les (0 :: l) (2 * j + 1) = none := by
              unfold les
              rw [(odd2 j).1, if_neg (by omega)]
            rw [hl]; show (if _ then 0 else 0) = 0; split <;> rfl)]
          have : ∀ (n s : Nat), Sr (fun _ => 0) n s = 0 := by
            intro n
            induction n with
            | zero => intro _; rfl
            | succ n ih => intro s; show 0 + _ = 0; rw [ih]
          exact this _ 0
        | succ x =>
          show _ = G l k (fun r => f (x :: r))
          rw [← sum_sets l k]
          refine Sr_congr _ _ (fun j _ _ => ?_)
          have hl : les ((x + 1) :: l) (2 * j + 1) = (les l j).map (fun r => x :: r) := by
            rw [les_cons, (odd2 j).1, (odd2 j).2, if_pos (by omega)]; rfl
          rw [hp, hl, opt_map]
          by_cases e : pop l.length j = k
          · rw [if_pos e, if_pos (by omega)]
          · rw [if_neg e, if_neg (by omega)]
theorem les_len : ∀ {l : List Nat} {s : Nat} {r : List Nat}, les l s = some r → r.length = l.length
  | [], s, r, h => by cases h; rfl
  | x :: l, s, r, h => by
    unfold les at h
    split at h
    · cases h1 : les l (s / 2) with
      | none => rw [h1] at h; cases h
      | some r1 => rw [h1] at h; cases h; simp [les_len h1]
    · cases h
theorem les_small {b : Nat} : ∀ {l : List Nat} {s : Nat} {r : List Nat}, les l s = some r → (∀ x ∈ l, x ≤ b) → ∀ x ∈ r, x ≤ b
  | [], s, r, h, _ => by cases h; intro x hx; cases hx
  | x :: l, s, r, h, hb => by
    unfold les at h
    split at h
    · cases h1 : les l (s / 2) with
      | none => rw [h1] at h; cases h
      | some r1 =>
        rw [h1] at h; cases h
        intro y hy
        rcases List.mem_cons.1 hy with rfl | hy
        · have := hb x (List.mem_cons_self ..); omega
        · exact les_small h1 (fun z hz => hb z (List.mem_cons_of_mem _ hz)) y hy
    · cases h
def Bd : Nat → Nat
  | 0 => 1
  | n + 1 => 2 ^ n * Bd n
theorem G_le (B : Nat) : ∀ (l : List Nat) (k : Nat) (f : List Nat → Nat), (∀ r, r.length = l.length → f r ≤ B) → G l k f ≤ 2 ^ l.length * B
  | [], 0, f, h => by have := h [] rfl; show f [] ≤ 1 * B; omega
  | [], k + 1, f, h => Nat.zero_le _
  | x :: l, k, f, h => by
    have e1 : 2 ^ (x :: l).length * B = 2 ^ l.length * B + 2 ^ l.length * B := by rw [List.length_cons, Nat.pow_succ, Nat.mul_assoc, Nat.mul_comm 2 B, ← Nat.mul_assoc]; omega
    have h1 := G_le B l k (fun r => f (x :: r)) (fun r hr => h _ (by simp [hr]))
    rw [G_cons, e1]
    cases k with
    | zero => show _ + 0 ≤ _; omega
    | succ k => cases x with
      | zero => show _ + 0 ≤ _; omega
      | succ x =>
        have h2 := G_le B l k (fun r => f (x :: r)) (fun r hr => h _ (by simp [hr]))
        show _ + G l k (fun r => f (x :: r)) ≤ _
        omega
theorem cnt_le : ∀ (n : Nat) (l : List Nat), l.length = n → cnt l ≤ Bd n
  | 0, [], _ => Nat.le_refl _
  | n + 1, x :: l, h => by
    simp only [List.length_cons] at h
    rw [cnt_cons]
    have := G_le (Bd n) l x cnt (fun r hr => cnt_le n r (by omega))
    have e : l.length = n := by omega
    rw [e] at this
    exact this
theorem Bd8 {n : Nat} (h : n ≤ 8) : Bd n ≤ 268435456 := by
  have : ∀ k : Fin 9, Bd k.val ≤ 268435456 := by decide
  exact this ⟨n, by omega⟩
theorem tab99 : (List.range 256).all (fun s => f99 1001 (s : Int) == some ((pop 8 s : Nat) : Int)) = true := by kernel_rfl
theorem size_eq {s : Nat} (h : s < 256) : f99 1001 (s : Int) = some ((pop 8 s : Nat) : Int) := eq_of_beq (List.all_eq_true.1 tab99 s (List.mem_range.2 h))
theorem pop_more : ∀ (n j s : Nat), s < 2 ^ n → pop (n + j) s = pop n s
  | 0, j, s, h => by
    have e : s = 0 := by omega
    subst e
    have : ∀ j, pop j 0 = 0 := by
      intro j
      induction j with
      | zero => rfl
      | succ j ih => show 0 % 2 + pop j (0 / 2) = 0; rw [Nat.zero_div, ih]
    rw [this, this]
  | n + 1, j, s, h => by
    have e : n + 1 + j = (n + j) + 1 := by omega
    rw [e]
    show s % 2 + pop (n + j) (s / 2) = s % 2 + pop n (s / 2)
    rw [pop_more n j (s / 2) (by rw [Nat.pow_succ] at h; omega)]
theorem size_n {n s : Nat} (hn : n ≤ 8) (h : s < 2 ^ n) : f99 1001 (s : Int) = some ((pop n s : Nat) : Int) := by
  have h1 : 2 ^ n ≤ 2 ^ 8 := Nat.pow_le_pow_right (by omega) hn
  rw [size_eq (by omega)]
  have := pop_more n (8 - n) s h
  rw [show n + (8 - n) = 8 by omega] at this
  rw [this]
theorem shl1 {n : Nat} (h : n ≤ 8) : shV true .i64 1 ((n : Nat) : Int) = ((2 ^ n : Nat) : Int) := by
  have : ∀ k : Fin 9, shV true .i64 1 ((k.val : Nat) : Int) = ((2 ^ k.val : Nat) : Int) := by decide
  exact this ⟨n, by omega⟩
theorem shl1u {n : Nat} (h : n ≤ 8) : shV true .u64 1 ((n : Nat) : Int) = ((2 ^ n : Nat) : Int) := by
  have : ∀ k : Fin 9, shV true .u64 1 ((k.val : Nat) : Int) = ((2 ^ k.val : Nat) : Int) := by decide
  exact this ⟨n, by omega⟩
theorem shr_eq (b i : Nat) (h : i ≤ 60) : shV false .i64 ((b : Nat) : Int) ((i : Nat) : Int) = ((b / 2 ^ i : Nat) : Int) := by
  have e : min ((i : Int).toNat) (IntKind.bits .i64) = i := by
    show min i 64 = i
    omega
  show ((b : Int)).fdiv (2 ^ (min ((i : Int).toNat) (IntKind.bits .i64))) = _
  rw [e]
  have : ((2 : Int) ^ i) = ((2 ^ i : Nat) : Int) := by simp
  rw [this, Int.fdiv_eq_ediv_of_nonneg _ (Int.natCast_nonneg _)]
  rfl
theorem f98_1_eq (a : List Nat) (c : Nat) (b : Nat) (h8 : a.length ≤ 8) (hs : ∀ x ∈ a, x ≤ 7) : ∀ (r i fuel : Nat) (A : List Nat), i + r = a.length → r < fuel → A.length = i →
    f98_1 1001 fuel (toI (c :: a)) (b : Int) ((i + 1 : Nat) : Int) (toI A) = some (match les (a.drop i) (b / 2 ^ i) with | none => .r | some q => .x0 (toI (A ++ q)))
  | 0, i, fuel + 1, A, hi, _, hA => by
    have hl : (toI (c :: a)).length = a.length + 1 := by rw [toI_len]; rfl
    rw [f98_1, hl, dcF (p := ((i + 1 : Nat) : Int) < ((a.length + 1 : Nat) : Int)) (by omega), List.drop_eq_nil_of_le (by omega)]
    show some (Of98_1.x0 (toI A)) = some (Of98_1.x0 (toI (A ++ [])))
    rw [List.append_nil]
  | r + 1, i, fuel + 1, A, hi, hf, hA => by
    have hl : (toI (c :: a)).length = a.length + 1 := by rw [toI_len]; rfl
    have hil : i < a.length := by omega
    have e1 : w64 (((i + 1 : Nat) : Int) - 1) = (i : Int) := by rw [w64i (by omega) (by omega)]; omega
    have e2 : a.drop i = a[i] :: a.drop (i + 1) := List.drop_eq_getElem_cons hil
    have hx := hs _ (List.getElem_mem hil)
    have e3 : List.getD (toI (c :: a)) (Int.toNat ((i + 1 : Nat) : Int)) 0 = ((a[i] : Nat) : Int) := by
      have t : Int.toNat ((i + 1 : Nat) : Int) = i + 1 := rfl
      rw [t, toI_cons]
      show List.getD (toI a) i 0 = _
      unfold toI
      rw [List.getD_eq_getElem?_getD, List.getElem?_map, List.getElem?_eq_getElem hil]; rfl
    have e4 : Int.tmod ((b / 2 ^ i : Nat) : Int) 2 = ((b / 2 ^ i % 2 : Nat) : Int) := rfl
    have e5 : b / 2 ^ i / 2 = b / 2 ^ (i + 1) := by rw [Nat.pow_succ, Nat.div_div_eq_div_mul]
    rw [f98_1, hl, dcT (p := ((i + 1 : Nat) : Int) < ((a.length + 1 : Nat) : Int)) (by omega), inR (show i + 1 < a.length + 1 by omega), e1, dcT (p := (0 : Int) ≤ (i : Int)) (by omega), e3, shr_eq b i (by omega), e4, w64i (x := ((a[i] : Nat) : Int) - ((b / 2 ^ i % 2 : Nat) : Int)) (by omega) (by omega), toI_len, fitsI (show A.length + 1 ≤ 1000 by omega) (by omega), nat_succ _ (by omega), e2]
    unfold les
    rw [e5]
    by_cases hb : b / 2 ^ i % 2 ≤ a[i]
    · rw [if_pos hb, dcF (p := ((a[i] : Nat) : Int) - ((b / 2 ^ i % 2 : Nat) : Int) < 0) (by omega)]
      have e6 : toI A ++ [((a[i] : Nat) : Int) - ((b / 2 ^ i % 2 : Nat) : Int)] = toI (A ++ [a[i] - b / 2 ^ i % 2]) := by
        rw [toI_append]
        show _ = toI A ++ [((a[i] - b / 2 ^ i % 2 : Nat) : Int)]
        congr 2; omega
      show f98_1 1001 fuel (toI (c :: a)) (b : Int) ((i + 1 + 1 : Nat) : Int) (toI A ++ [((a[i] : Nat) : Int) - ((b / 2 ^ i % 2 : Nat) : Int)]) = _
      rw [e6, f98_1_eq a c b h8 hs r (i + 1) fuel (A ++ [a[i] - b / 2 ^ i % 2]) (by omega) (by omega) (by simp; omega)]
      cases les (a.drop (i + 1)) (b / 2 ^ (i + 1)) with
      | none => rfl
      | some q => show some (Of98_1.x0 (toI (A ++ [a[i] - b / 2 ^ i % 2] ++ q))) = some (Of98_1.x0 (toI (A ++ (a[i] - b / 2 ^ i % 2) :: q))); rw [List.append_assoc]; rfl
    · rw [if_neg hb, dcT (p := ((a[i] : Nat) : Int) - ((b / 2 ^ i % 2 : Nat) : Int) < 0) (by omega)]
      rfl
theorem f98_eq (a : List Nat) (c b : Nat) (h8 : a.length ≤ 8) (hs : ∀ x ∈ a, x ≤ 7) : f98 1001 (toI (c :: a)) (b : Int) = some (match les a b with | none => ([], false) | some q => (toI q, true)) := by
  have h := f98_1_eq a c b h8 hs a.length 0 1001 [] (by omega) (by omega) rfl
  have h' : f98_1 1001 1001 (toI (c :: a)) (b : Int) 1 [] = some (match les a b with | none => .r | some q => .x0 (toI q)) := by
    have e : les (a.drop 0) (b / 2 ^ 0) = les a b := by rw [List.drop_zero, Nat.pow_zero, Nat.div_one]
    rw [e] at h
    exact h
  unfold f98
  rw [h']
  cases les a b <;> rfl
def Tm (c : Nat) (l : List Nat) (s : Nat) : Nat := if pop l.length s = c then opt cnt (les l s) else 0
theorem f73_1_eq (F : List Int → Option Int) (c : Nat) (l : List Nat) (h8 : l.length ≤ 7) (hs : ∀ x ∈ l, x ≤ 7) (hF : ∀ r : List Nat, r.length = l.length → (∀ x ∈ r, x ≤ 7) → F (toI r) = some ((cnt r : Nat) : Int)) : ∀ (r s fuel x : Nat), s + r = 2 ^ l.length → r < fuel → x + Sr (Tm c l) r s ≤ 1000000000 →
    f73_1 1001 F fuel (toI (c :: l)) (x : Int) (s : Int) = some ((x + Sr (Tm c l) r s : Nat) : Int)
  | 0, s, fuel + 1, x, hi, _, _ => by
    have hl : (toI (c :: l)).length = l.length + 1 := by rw [toI_len]; rfl
    have e1 : w64 (((l.length + 1 : Nat) : Int) - 1) = ((l.length : Nat) : Int) := by rw [w64i (by omega) (by omega)]; omega
    rw [f73_1, hl, e1, dcT (p := (0 : Int) ≤ ((l.length : Nat) : Int)) (by omega), shl1 (by omega), dcF (p := (s : Int) < ((2 ^ l.length : Nat) : Int)) (by omega)]
    rfl
  | r + 1, s, fuel + 1, x, hi, hf, hb => by
    have hl : (toI (c :: l)).length = l.length + 1 := by rw [toI_len]; rfl
    have e1 : w64 (((l.length + 1 : Nat) : Int) - 1) = ((l.length : Nat) : Int) := by rw [w64i (by omega) (by omega)]; omega
    have h27 : 2 ^ l.length ≤ 2 ^ 7 := Nat.pow_le_pow_right (by omega) h8
    have e2 : List.getD (toI (c :: l)) 0 0 = ((c : Nat) : Int) := rfl
    have hSr : Sr (Tm c l) (r + 1) s = Tm c l s + Sr (Tm c l) r (s + 1) := rfl
    rw [hSr] at hb ⊢
    have step : ∀ y : Nat, y = x + Tm c l s → f73_1 1001 F fuel (toI (c :: l)) (y : Int) (((s + 1 : Nat)) : Int) = some ((x + (Tm c l s + Sr (Tm c l) r (s + 1)) : Nat) : Int) := fun y hy => by
      rw [f73_1_eq F c l h8 hs hF r (s + 1) fuel y (by omega) (by omega) (by omega)]
      congr 2; omega
    rw [f73_1, hl, e1, dcT (p := (0 : Int) ≤ ((l.length : Nat) : Int)) (by omega), shl1 (by omega), dcT (p := (s : Int) < ((2 ^ l.length : Nat) : Int)) (by omega), size_n (n := l.length) (by omega) (by omega), nat_succ _ (by omega), e2, f98_eq l c s (by omega) hs]
    have hin : inRow 0 (l.length + 1) = true := inRow_iff.2 ⟨by omega, by omega⟩
    rw [hin]
    show cond (((pop l.length s : Nat) : Int) == ((c : Nat) : Int)) _ _ = _
    by_cases hp : pop l.length s = c
    · rw [hp, beq_self_eq_true]
      have hT : Tm c l s = opt cnt (les l s) := by unfold Tm; rw [if_pos hp]
      cases hq : les l s with
      | none =>
        show f73_1 1001 F fuel (toI (c :: l)) (x : Int) ((s + 1 : Nat) : Int) = _
        exact step x (by rw [hT, hq]; rfl)
      | some q =>
        have e3 := hF q (les_len hq) (les_small hq hs)
        show ((F (toI q)).bind fun r21 => f73_1 1001 F fuel (toI (c :: l)) (w64 ((x : Int) + r21)) ((s + 1 : Nat) : Int)) = _
        rw [e3]
        have hT2 : Tm c l s = cnt q := by rw [hT, hq]; rfl
        show f73_1 1001 F fuel (toI (c :: l)) (w64 ((x : Int) + ((cnt q : Nat) : Int))) ((s + 1 : Nat) : Int) = _
        rw [w64i (by omega) (by omega)]
        have := step (x + cnt q) (by rw [hT2])
        have e4 : ((x + cnt q : Nat) : Int) = (x : Int) + ((cnt q : Nat) : Int) := by omega
        rw [e4] at this
        exact this
    · have e5 : (((pop l.length s : Nat) : Int) == ((c : Nat) : Int)) = false := beq_eq_false_iff_ne.2 (by omega)
      rw [e5]
      show f73_1 1001 F fuel (toI (c :: l)) (x : Int) ((s + 1 : Nat) : Int) = _
      exact step x (by unfold Tm; rw [if_neg hp]; rfl)
theorem f73_eq : ∀ (n fuel : Nat) (l : List Nat), l.length = n → n ≤ 8 → n < fuel → (∀ x ∈ l, x ≤ 7) → f73 1001 fuel (toI l) = some ((cnt l : Nat) : Int)
  | 0, fuel + 1, [], _, _, _, _ => rfl
  | n + 1, fuel + 1, c :: l, hl, h8, hf, hs => by
    simp only [List.length_cons] at hl
    have hl0 : ((((toI (c :: l)).length : Nat) : Int) == 0) = false := beq_eq_false_iff_ne.2 (by rw [toI_len, List.length_cons]; omega)
    have hs' : ∀ x ∈ l, x ≤ 7 := fun x hx => hs x (List.mem_cons_of_mem _ hx)
    have hT : Sr (Tm c l) (2 ^ l.length) 0 = cnt (c :: l) := by rw [cnt_cons]; exact sum_sets l c cnt
    have hle := cnt_le (n + 1) (c :: l) (by simp; omega)
    have hB := Bd8 h8
    have h27 : 2 ^ l.length ≤ 2 ^ 7 := Nat.pow_le_pow_right (by omega) (by omega)
    have h := f73_1_eq (f73 1001 fuel) c l (by omega) hs' (fun r hr hx => f73_eq n fuel r (by omega) (by omega) (by omega) hx) (2 ^ l.length) 0 1001 0 (by omega) (by omega) (by rw [hT]; omega)
    rw [hT, Nat.zero_add] at h
    unfold f73
    rw [hl0]
    show ((f73_1 1001 (f73 1001 fuel) 1001 (toI (c :: l)) 0 0).bind fun o1 => some o1) = _
    have h' : f73_1 1001 (f73 1001 fuel) 1001 (toI (c :: l)) 0 0 = some ((cnt (c :: l) : Nat) : Int) := h
    rw [h']
    rfl
theorem desc_of (l : List Nat) : ∃ d : List Nat, dsc (toI l) = toI d ∧ d.Perm l ∧ d.Pairwise (· ≥ ·) := by
  obtain ⟨d, hd⟩ := nats_of (d := dsc (toI l)) (fun x hx => by
    have := (dsc_perm (toI l)).mem_iff.1 hx
    obtain ⟨y, _, rfl⟩ := List.mem_map.1 this
    exact Int.natCast_nonneg y)
  refine ⟨d, hd, ?_, ?_⟩
  · have h1 := dsc_perm (toI l)
    rw [hd] at h1
    have h2 := h1.map Int.toNat
    have e : ∀ l : List Nat, (toI l).map Int.toNat = l := fun l => by
      unfold toI
      rw [List.map_map]
      conv => rhs; rw [← List.map_id l]
      exact List.map_congr_left (fun x _ => rfl)
    rwa [e, e] at h2
  · have h1 := dsc_pw (toI l)
    rw [hd] at h1
    have h2 := List.pairwise_map.1 h1
    exact h2.imp (fun {x y} q => by have q : (x : Int) ≥ (y : Int) := q; omega)
def real (l : List Nat) : Bool := decide (0 < cnt l)
theorem real_perm {l l' : List Nat} (h : l.Perm l') : real l = real l' := by unfold real; rw [cnt_perm _ (Nat.le_refl _) h]
theorem can59 (l : List Nat) (h8 : l.length ≤ 8) (hs : ∀ x ∈ l, x ≤ 7) : f59 1001 (toI l) = some (real l) := by
  obtain ⟨d, h1, h2, h3⟩ := desc_of l
  have hdl : d.length ≤ 8 := by rw [h2.length_eq]; exact h8
  rw [f59_eq 1001 (by omega) (toI l) d h1 hdl (fun x hx => hs x (h2.mem_iff.1 hx)), ← real_perm h2]
  have := (real_iff hdl h3).1
  unfold real
  by_cases hc : 0 < cnt d
  · rw [dcT hc, this.2 hc]
  · rw [dcF hc]
    cases hb : canN 8 d with
    | false => rfl
    | true => exact absurd (this.1 hb) hc
theorem can60 (l : List Nat) (h8 : l.length ≤ 8) (hs : ∀ x ∈ l, x ≤ 7) : f60 1001 (toI l) = some (real l) := by
  obtain ⟨d, h1, h2, h3⟩ := desc_of l
  have hdl : d.length ≤ 8 := by rw [h2.length_eq]; exact h8
  have hc : Cts (toI l) := ⟨by rw [toI_len]; exact h8, fun x hx => by
    obtain ⟨y, hy, rfl⟩ := List.mem_map.1 hx
    have := hs y hy
    show 0 ≤ ((y : Nat) : Int) ∧ ((y : Nat) : Int) ≤ 7
    omega⟩
  have hw : whyD (dsc (toI l)) = ((fstN d d.length 1 0 : Nat) : Int) := by
    unfold whyD
    rw [h1, toI_len]
    exact fstN_eq d 0 d.length 1
  unfold f60
  rw [f63_eq 1001 (by omega) (toI l) hc, f64_eq 1001 (by omega) (toI l) hc, hw, h1, smN_eq, ← real_perm h2]
  have he := (real_iff hdl h3).2
  have e2 : Int.tmod ((smN d : Nat) : Int) 2 = ((smN d % 2 : Nat) : Int) := rfl
  show cond (Int.tmod ((smN d : Nat) : Int) 2 == 0) (some (((fstN d d.length 1 0 : Nat) : Int) == 0)) (some false) = _
  rw [e2]
  have e3 : ∀ n : Nat, (((n : Nat) : Int) == 0) = Nat.beq n 0 := fun n => by
    cases n with
    | zero => rfl
    | succ n => exact beq_eq_false_iff_ne.2 (by omega)
  rw [e3, e3]
  have e4 : cond (Nat.beq (smN d % 2) 0) (some (Nat.beq (fstN d d.length 1 0) 0)) (some false) = some (egB d) := by
    unfold egB
    cases Nat.beq (smN d % 2) 0 <;> rfl
  have e5 : real d = egB d := by
    unfold real
    by_cases hc : 0 < cnt d
    · rw [dcT hc, he.2 hc]
    · rw [dcF hc]
      cases hb : egB d with
      | false => rfl
      | true => exact absurd (he.1 hb) hc
  rw [e5]
  exact e4
end Go.Xm.Mk
namespace Go.Xm.Mk
set_option linter.unusedVariables false
set_option linter.unusedSimpArgs false
set_option maxRecDepth 20000
def wl (b : Nat) : Nat → Nat → Nat → List (Int × Int)
  | 0, _, _ => []
  | n + 1, i, s => match Nat.beq (s % 2) 1 with
    | true => ((b : Int), ((b + 1 + i : Nat) : Int)) :: wl b n (i + 1) (s / 2)
    | false => wl b n (i + 1) (s / 2)
def llt : Nat → Nat → Nat → Bool
  | 0, _, _ => false
  | n + 1, s, t => match Nat.beq (s % 2) (t % 2) with
    | true => llt n (s / 2) (t / 2)
    | false => Nat.beq (s % 2) 1
theorem tab101 : (List.range 8).all (fun b => (List.range (8 - b)).all fun n => (List.range (2 ^ n)).all fun s => f101 1001 (b : Int) (s : Int) == some (wl b n 0 s)) = true := by kernel_rfl
theorem with_eq {b n s : Nat} (h : b + n ≤ 7) (hs : s < 2 ^ n) : f101 1001 (b : Int) (s : Int) = some (wl b n 0 s) := by
  have h1 := List.all_eq_true.1 tab101 b (List.mem_range.2 (by omega))
  have h2 := List.all_eq_true.1 h1 n (List.mem_range.2 (by omega))
  exact eq_of_beq (List.all_eq_true.1 h2 s (List.mem_range.2 hs))
theorem wl_len (b : Nat) : ∀ (n i s : Nat), (wl b n i s).length = pop n s
  | 0, _, _ => rfl
  | n + 1, i, s => by
    unfold wl pop
    cases h : Nat.beq (s % 2) 1 with
    | true => have := Nat.eq_of_beq_eq_true h; rw [List.length_cons, wl_len b n]; omega
    | false =>
      have : s % 2 ≠ 1 := fun q => by rw [q] at h; cases h
      show (wl b n (i + 1) (s / 2)).length = _
      rw [wl_len b n]; omega
theorem wl_get {b : Nat} : ∀ {n i s : Nat} {t : Int × Int} {R : List (Int × Int)}, wl b n i s = t :: R → t.1 = (b : Int) ∧ ((b + 1 + i : Nat) : Int) ≤ t.2
  | 0, _, _, _, _, h => by cases h
  | n + 1, i, s, t, R, h => by
    unfold wl at h
    split at h
    · cases h; exact ⟨rfl, Int.le_refl _⟩
    · have := wl_get h
      exact ⟨this.1, by have := this.2; omega⟩
theorem f100_1_eq (b : Nat) : ∀ (n i s t fuel : Nat) (A B C D : List (Int × Int)), b + 1 + i + n ≤ 100 → pop n s = pop n t → A.length = B.length → A.length + n ≤ 100 → n < fuel → C = A ++ wl b n i s → D = B ++ wl b n i t →
    f100_1 1001 fuel C D ((A.length : Nat) : Int) = some (match llt n s t, llt n t s with | false, false => .x0 | r, _ => .r r)
  | 0, i, s, t, fuel + 1, A, B, C, D, _, _, hAB, _, _, hC, hD => by
    have e : C.length = A.length := by rw [hC]; simp [wl]
    rw [f100_1, e, dcF (p := ((A.length : Nat) : Int) < ((A.length : Nat) : Int)) (by omega)]
    rfl
  | n + 1, i, s, t, fuel + 1, A, B, C, D, hb, hp, hAB, h100, hf, hC, hD => by
    have hs2 : s % 2 = 0 ∨ s % 2 = 1 := by omega
    have ht2 : t % 2 = 0 ∨ t % 2 = 1 := by omega
    have hp' : s % 2 + pop n (s / 2) = t % 2 + pop n (t / 2) := hp
    have w1 : ∀ u, u % 2 = 1 → wl b (n + 1) i u = ((b : Int), ((b + 1 + i : Nat) : Int)) :: wl b n (i + 1) (u / 2) := fun u hu => by
      show (match Nat.beq (u % 2) 1 with | true => _ | false => _) = _
      rw [hu]
    have w0 : ∀ u, u % 2 = 0 → wl b (n + 1) i u = wl b n (i + 1) (u / 2) := fun u hu => by
      show (match Nat.beq (u % 2) 1 with | true => _ | false => _) = _
      rw [hu]
    have l1 : llt (n + 1) s t = (match Nat.beq (s % 2) (t % 2) with | true => llt n (s / 2) (t / 2) | false => Nat.beq (s % 2) 1) := rfl
    have l2 : llt (n + 1) t s = (match Nat.beq (t % 2) (s % 2) with | true => llt n (t / 2) (s / 2) | false => Nat.beq (t % 2) 1) := rfl
    rcases hs2 with hs | hs <;> rcases ht2 with ht | ht
    · rw [w0 s hs] at hC
      rw [w0 t ht] at hD
      rw [l1, l2, hs, ht]
      exact f100_1_eq b n (i + 1) (s / 2) (t / 2) (fuel + 1) A B C D (by omega) (by omega) hAB (by omega) (by omega) hC hD
    · -- the other one has this table
      rw [w0 s hs] at hC
      rw [w1 t ht] at hD
      rw [l1, l2, hs, ht]
      show _ = some (Of100_1.r false)
      have hne : 0 < (wl b n (i + 1) (s / 2)).length := by rw [wl_len]; omega
      cases hw : wl b n (i + 1) (s / 2) with
      | nil => rw [hw] at hne; simp at hne
      | cons u R =>
        rw [hw] at hC
        obtain ⟨u1, u2⟩ := wl_get hw
        have e1 : C.getD A.length (0, 0) = u := by rw [hC]; exact getD_mid _ _ _ _ rfl
        have e2 : D.getD A.length (0, 0) = ((b : Int), ((b + 1 + i : Nat) : Int)) := by rw [hD]; exact getD_mid _ _ _ _ hAB
        have c1 : A.length < C.length := by rw [hC]; simp
        have c2 : A.length < D.length := by rw [hD]; simp; omega
        have t0 : Int.toNat ((A.length : Nat) : Int) = A.length := rfl
        rw [f100_1, dcT (p := ((A.length : Nat) : Int) < ((C.length : Nat) : Int)) (by omega), inR c1, inR c2, t0, e1, e2, u1]
        have q1 : ((b : Int) != (b : Int)) = false := by simp
        have q2 : (u.2 != ((b + 1 + i : Nat) : Int)) = true := bne_iff_ne.2 (by omega)
        show cond ((b : Int) != (b : Int)) _ (cond (u.2 != ((b + 1 + i : Nat) : Int)) (some (Of100_1.r (decide (u.2 < ((b + 1 + i : Nat) : Int))))) _) = _
        rw [q1, q2, dcF (p := u.2 < ((b + 1 + i : Nat) : Int)) (by omega)]
        rfl
    · rw [w1 s hs] at hC
      rw [w0 t ht] at hD
      rw [l1, l2, hs, ht]
      show _ = some (Of100_1.r true)
      have hne : 0 < (wl b n (i + 1) (t / 2)).length := by rw [wl_len]; omega
      cases hw : wl b n (i + 1) (t / 2) with
      | nil => rw [hw] at hne; simp at hne
      | cons u R =>
        rw [hw] at hD
        obtain ⟨u1, u2⟩ := wl_get hw
        have e1 : C.getD A.length (0, 0) = ((b : Int), ((b + 1 + i : Nat) : Int)) := by rw [hC]; exact getD_mid _ _ _ _ rfl
        have e2 : D.getD A.length (0, 0) = u := by rw [hD]; exact getD_mid _ _ _ _ hAB
        have c1 : A.length < C.length := by rw [hC]; simp
        have c2 : A.length < D.length := by rw [hD]; simp; omega
        have t0 : Int.toNat ((A.length : Nat) : Int) = A.length := rfl
        rw [f100_1, dcT (p := ((A.length : Nat) : Int) < ((C.length : Nat) : Int)) (by omega), inR c1, inR c2, t0, e1, e2, u1]
        have q1 : ((b : Int) != (b : Int)) = false := by simp
        have q2 : (((b + 1 + i : Nat) : Int) != u.2) = true := bne_iff_ne.2 (by omega)
        show cond ((b : Int) != (b : Int)) _ (cond (((b + 1 + i : Nat) : Int) != u.2) (some (Of100_1.r (decide (((b + 1 + i : Nat) : Int) < u.2)))) _) = _
        rw [q1, q2, dcT (p := ((b + 1 + i : Nat) : Int) < u.2) (by omega)]
        rfl
    · rw [w1 s hs] at hC
      rw [w1 t ht] at hD
      rw [l1, l2, hs, ht]
      have e1 : C.getD A.length (0, 0) = ((b : Int), ((b + 1 + i : Nat) : Int)) := by rw [hC]; exact getD_mid _ _ _ _ rfl
      have e2 : D.getD A.length (0, 0) = ((b : Int), ((b + 1 + i : Nat) : Int)) := by rw [hD]; exact getD_mid _ _ _ _ hAB
      have c1 : A.length < C.length := by rw [hC]; simp
      have c2 : A.length < D.length := by rw [hD]; simp; omega
      have t0 : Int.toNat ((A.length : Nat) : Int) = A.length := rfl
      have ih := f100_1_eq b n (i + 1) (s / 2) (t / 2) fuel (A ++ [((b : Int), ((b + 1 + i : Nat) : Int))]) (B ++ [((b : Int), ((b + 1 + i : Nat) : Int))]) C D (by omega) (by omega) (by simp [hAB]) (by simp; omega) (by omega) (by rw [hC]; simp) (by rw [hD]; simp)
      have e3 : (((A ++ [((b : Int), ((b + 1 + i : Nat) : Int))]).length : Nat) : Int) = ((A.length + 1 : Nat) : Int) := by simp
      rw [e3] at ih
      rw [f100_1, dcT (p := ((A.length : Nat) : Int) < ((C.length : Nat) : Int)) (by omega), inR c1, inR c2, t0, e1, e2, nat_succ _ (by omega)]
      have q1 : ((b : Int) != (b : Int)) = false := by simp
      have q2 : (((b + 1 + i : Nat) : Int) != ((b + 1 + i : Nat) : Int)) = false := by simp
      show cond ((b : Int) != (b : Int)) _ (cond (((b + 1 + i : Nat) : Int) != ((b + 1 + i : Nat) : Int)) _ (f100_1 1001 fuel C D ((A.length + 1 : Nat) : Int))) = _
      rw [q1, q2]
      exact ih
theorem f100_eq {b n s t : Nat} (h : b + n ≤ 7) (hp : pop n s = pop n t) : f100 1001 (wl b n 0 s) (wl b n 0 t) = some (llt n s t) := by
  have h1 := f100_1_eq b n 0 s t 1001 [] [] _ _ (by omega) hp rfl (by simp; omega) (by omega) rfl rfl
  have h1' : f100_1 1001 1001 (wl b n 0 s) (wl b n 0 t) 0 = _ := h1
  unfold f100
  rw [h1']
  cases llt n s t <;> cases llt n t s <;> rfl
theorem llt_asymm : ∀ (n s t : Nat), llt n s t = true → llt n t s = false
  | 0, _, _, h => by cases h
  | n + 1, s, t, h => by
    have l1 : llt (n + 1) s t = (match Nat.beq (s % 2) (t % 2) with | true => llt n (s / 2) (t / 2) | false => Nat.beq (s % 2) 1) := rfl
    have l2 : llt (n + 1) t s = (match Nat.beq (t % 2) (s % 2) with | true => llt n (t / 2) (s / 2) | false => Nat.beq (t % 2) 1) := rfl
    have hs2 : s % 2 = 0 ∨ s % 2 = 1 := by omega
    have ht2 : t % 2 = 0 ∨ t % 2 = 1 := by omega
    rcases hs2 with hs | hs <;> rcases ht2 with ht | ht
    · rw [l1, hs, ht] at h; rw [l2, hs, ht]; exact llt_asymm n _ _ h
    · rw [l1, hs, ht] at h; cases h
    · rw [l2, hs, ht]; rfl
    · rw [l1, hs, ht] at h; rw [l2, hs, ht]; exact llt_asymm n _ _ h
def vld (c : Nat) (l : List Nat) (s : Nat) : Bool := Nat.beq (pop l.length s) c && (match les l s with | some q => real q | none => false)
def Min (c : Nat) (l : List Nat) (s : Nat) : Prop := s < 2 ^ l.length ∧ vld c l s = true ∧ ∀ t, t < 2 ^ l.length → vld c l t = true → t ≠ s → llt l.length s t = true
def enc : Option Nat → Int
  | none => -1
  | some s => (s : Int)
def nx (c : Nat) (l : List Nat) (s : Nat) (o : Option Nat) : Option Nat := match vld c l s, o with
  | true, none => some s
  | true, some t => (match llt l.length s t with | true => some s | false => some t)
  | false, o => o
def bs (c : Nat) (l : List Nat) : Nat → Nat → Option Nat → Option Nat
  | 0, _, o => o
  | r + 1, s, o => bs c l r (s + 1) (nx c l s o)
theorem bs_min {c : Nat} {l : List Nat} {z : Nat} (hm : Min c l z) : ∀ (r s : Nat) (o : Option Nat), s + r = 2 ^ l.length → ((s ≤ z ∧ ∀ t, o = some t → vld c l t = true ∧ t ≠ z ∧ t < 2 ^ l.length) ∨ (z < s ∧ o = some z)) → bs c l r s o = some z
  | 0, s, o, hs, h => by
    rcases h with ⟨h, _⟩ | ⟨_, h⟩
    · have := hm.1; omega
    · rw [h]; rfl
  | r + 1, s, o, hs, h => by
    unfold bs nx
    refine bs_min hm r (s + 1) _ (by omega) ?_
    rcases h with ⟨h1, h2⟩ | ⟨h1, h2⟩
    · by_cases e : s = z
      · subst e
        right
        rw [hm.2.1]
        refine ⟨by omega, ?_⟩
        cases o with
        | none => rfl
        | some t =>
          obtain ⟨g1, g2, g3⟩ := h2 t rfl
          show (match llt l.length s t with | true => some s | false => some t) = some s
          rw [hm.2.2 t g3 g1 g2]
      · left
        refine ⟨by omega, ?_⟩
        intro t ht
        cases hv : vld c l s with
        | false => rw [hv] at ht; exact h2 t ht
        | true =>
          rw [hv] at ht
          cases o with
          | none => cases ht; exact ⟨hv, e, by omega⟩
          | some u =>
            have ht : (match llt l.length s u with | true => some s | false => some u) = some t := ht
            cases hl : llt l.length s u with
            | true => rw [hl] at ht; cases ht; exact ⟨hv, e, by omega⟩
            | false => rw [hl] at ht; cases ht; exact h2 t rfl
    · right
      refine ⟨by omega, ?_⟩
      subst h2
      cases hv : vld c l s with
      | false => rfl
      | true =>
        have h3 := llt_asymm _ _ _ (hm.2.2 s (by omega) hv (by omega))
        show (match llt l.length s z with | true => some s | false => some z) = some z
        rw [h3]
inductive First : Nat → List Nat → List (Int × Int) → Prop
  | nil (b : Nat) : First b [] []
  | cons {b c : Nat} {l q : List Nat} {s : Nat} {T : List (Int × Int)} (hm : Min c l s) (hq : les l s = some q) (h : First (b + 1) q T) : First b (c :: l) (wl b l.length 0 s ++ T)
theorem f71_1_eq (b c : Nat) (l : List Nat) (h8 : b + l.length ≤ 7) (hs : ∀ x ∈ l, x ≤ 7) : ∀ (r s fuel : Nat) (o : Option Nat), s + r = 2 ^ l.length → r < fuel → (∀ t, o = some t → t < 2 ^ l.length ∧ pop l.length t = c) →
    f71_1 1001 fuel (toI (c :: l)) (b : Int) (enc o) (s : Int) = some (enc (bs c l r s o))
  | 0, s, fuel + 1, o, hi, _, _ => by
    have hl : (toI (c :: l)).length = l.length + 1 := by rw [toI_len]; rfl
    have e1 : w64 (((l.length + 1 : Nat) : Int) - 1) = ((l.length : Nat) : Int) := by rw [w64i (by omega) (by omega)]; omega
    rw [f71_1, hl, e1, dcT (p := (0 : Int) ≤ ((l.length : Nat) : Int)) (by omega), shl1 (by omega), dcF (p := (s : Int) < ((2 ^ l.length : Nat) : Int)) (by omega)]
    rfl
  | r + 1, s, fuel + 1, o, hi, hf, ho => by
    have hl : (toI (c :: l)).length = l.length + 1 := by rw [toI_len]; rfl
    have e1 : w64 (((l.length + 1 : Nat) : Int) - 1) = ((l.length : Nat) : Int) := by rw [w64i (by omega) (by omega)]; omega
    have h27 : 2 ^ l.length ≤ 2 ^ 7 := Nat.pow_le_pow_right (by omega) (by omega)
    have e2 : List.getD (toI (c :: l)) 0 0 = ((c : Nat) : Int) := rfl
    have hin : inRow 0 (l.length + 1) = true := inRow_iff.2 ⟨by omega, by omega⟩
    have step : ∀ o', (∀ t, o' = some t → t < 2 ^ l.length ∧ pop l.length t = c) → f71_1 1001 fuel (toI (c :: l)) (b : Int) (enc o') ((s + 1 : Nat) : Int) = some (enc (bs c l r (s + 1) o')) := fun o' h => f71_1_eq b c l h8 hs r (s + 1) fuel o' (by omega) (by omega) h
    have hbs : ∀ o', nx c l s o = o' → bs c l (r + 1) s o = bs c l r (s + 1) o' := fun o' h => by rw [← h]; rfl
    rw [f71_1, hl, e1, dcT (p := (0 : Int) ≤ ((l.length : Nat) : Int)) (by omega), shl1 (by omega), dcT (p := (s : Int) < ((2 ^ l.length : Nat) : Int)) (by omega), f98_eq l c s (by omega) hs, size_n (n := l.length) (by omega) (by omega), nat_succ _ (by omega), e2, hin]
    cases hq : les l s with
    | none =>
      have hv : vld c l s = false := by unfold vld; rw [hq]; simp
      rw [hbs o (by unfold nx; rw [hv])]
      exact step o ho
    | some q =>
      have hql := les_len hq
      have hqs := les_small hq hs
      show cond (((pop l.length s : Nat) : Int) == ((c : Nat) : Int)) _ _ = _
      by_cases hp : pop l.length s = c
      · rw [hp, beq_self_eq_true]
        -- whether it is taken, where it may be
        have take : vld c l s = true → cond (decide (enc o < 0)) (f71_1 1001 fuel (toI (c :: l)) (b : Int) (s : Int) ((s + 1 : Nat) : Int)) ((f101 1001 (b : Int) (s : Int)).bind fun r41 => (f101 1001 (b : Int) (enc o)).bind fun r42 => (f100 1001 r41 r42).bind fun r43 => f71_1 1001 fuel (toI (c :: l)) (b : Int) (cond r43 (s : Int) (enc o)) ((s + 1 : Nat) : Int)) = some (enc (bs c l (r + 1) s o)) := fun hv => by
          cases o with
          | none =>
            rw [dcT (p := enc none < 0) (by show (-1 : Int) < 0; omega), hbs (some s) (by unfold nx; rw [hv])]
            exact step (some s) (fun t ht => by cases ht; exact ⟨by omega, hp⟩)
          | some t =>
            obtain ⟨t1, t2⟩ := ho t rfl
            rw [dcF (p := enc (some t) < 0) (by show ¬ ((t : Int) < 0); omega)]
            have e5 : enc (some t) = (t : Int) := rfl
            rw [e5, with_eq (n := l.length) h8 (by omega), with_eq (n := l.length) h8 t1]
            show ((f100 1001 (wl b l.length 0 s) (wl b l.length 0 t)).bind _) = _
            rw [f100_eq h8 (by rw [hp, t2])]
            cases hll : llt l.length s t with
            | true =>
              rw [hbs (some s) (by unfold nx; rw [hv]; show (match llt l.length s t with | true => some s | false => some t) = _; rw [hll])]
              exact step (some s) (fun t ht => by cases ht; exact ⟨by omega, hp⟩)
            | false =>
              rw [hbs (some t) (by unfold nx; rw [hv]; show (match llt l.length s t with | true => some s | false => some t) = _; rw [hll])]
              exact step (some t) ho
        have hv0 : vld c l s = real q := by
          unfold vld
          rw [hp, hq, Nat.beq_refl]; rfl
        show cond ((((toI q).length : Nat) : Int) == 0) _ _ = _
        by_cases hz : q = []
        · subst hz
          exact take (by rw [hv0]; rfl)
        · have e6 : ((((toI q).length : Nat) : Int) == 0) = false := beq_eq_false_iff_ne.2 (by
            rw [toI_len]
            have : q.length ≠ 0 := fun h => hz (List.eq_nil_of_length_eq_zero h)
            omega)
          rw [e6]
          show ((f60 1001 (toI q)).bind _) = _
          rw [can60 q (by omega) hqs]
          cases hr : real q with
          | true => exact take (by rw [hv0, hr])
          | false =>
            rw [hbs o (by unfold nx; rw [hv0, hr])]
            exact step o ho
      · have e5 : (((pop l.length s : Nat) : Int) == ((c : Nat) : Int)) = false := beq_eq_false_iff_ne.2 (by omega)
        have hv : vld c l s = false := by
          unfold vld
          rw [beqF hp]; rfl
        rw [e5, hbs o (by unfold nx; rw [hv])]
        exact step o ho
theorem f71_eq {b : Nat} {l : List Nat} {T : List (Int × Int)} (h : First b l T) : ∀ (fuel : Nat), l.length < fuel → b + l.length ≤ 8 → (∀ x ∈ l, x ≤ 7) → T.length ≤ 8 * l.length ∧ f71 1001 fuel (toI l) (b : Int) = some T := by
  induction h with
  | nil b => intro fuel hf _ _; cases fuel with
    | zero => simp at hf
    | succ fuel => exact ⟨by simp, rfl⟩
  | @cons b c l q s T hm hq h ih =>
    intro fuel hf h8 hs
    cases fuel with
    | zero => simp at hf
    | succ fuel =>
      simp only [List.length_cons] at hf h8
      have hs' : ∀ x ∈ l, x ≤ 7 := fun x hx => hs x (List.mem_cons_of_mem _ hx)
      have hql := les_len hq
      have hqs := les_small hq hs'
      obtain ⟨i1, i2⟩ := ih fuel (by omega) (by omega) hqs
      have hl : (toI (c :: l)).length = l.length + 1 := by rw [toI_len]; rfl
      have hz : ((((toI (c :: l)).length : Nat) : Int) == 0) = false := beq_eq_false_iff_ne.2 (by rw [hl]; omega)
      have h27 : 2 ^ l.length ≤ 2 ^ 7 := Nat.pow_le_pow_right (by omega) (by omega)
      have h1 := f71_1_eq b c l (by omega) hs' (2 ^ l.length) 0 1001 none (by omega) (by omega) (fun t ht => by cases ht)
      rw [bs_min hm (2 ^ l.length) 0 none (by omega) (.inl ⟨by omega, fun t ht => by cases ht⟩)] at h1
      have h1' : f71_1 1001 1001 (toI (c :: l)) (b : Int) (-1) 0 = some (s : Int) := h1
      have hwl : (wl b l.length 0 s).length ≤ l.length := by
        rw [wl_len]
        have : ∀ n s, pop n s ≤ n := by
          intro n
          induction n with
          | zero => intro s; exact Nat.le_refl _
          | succ n ih => intro s; have := ih (s / 2); show s % 2 + pop n (s / 2) ≤ n + 1; omega
        exact this _ _
      refine ⟨by rw [List.length_append, List.length_cons]; omega, ?_⟩
      unfold f71
      rw [hz]
      show ((f71_1 1001 1001 (toI (c :: l)) (b : Int) (-1) 0).bind _) = _
      rw [h1']
      show ((f98 1001 (toI (c :: l)) (s : Int)).bind fun r68 => (f101 1001 (b : Int) (s : Int)).bind fun r69 => (f71 1001 fuel r68.1 (w64 ((b : Int) + 1))).bind fun r70 => cond (fitsB (r69.length + r70.length) 16) (some (r69 ++ r70)) none) = _
      rw [f98_eq l c s (by omega) hs', hq, with_eq (n := l.length) (by omega) hm.1, nat_succ _ (by omega)]
      show ((f71 1001 fuel (toI q) ((b + 1 : Nat) : Int)).bind fun r70 => cond (fitsB ((wl b l.length 0 s).length + r70.length) 16) (some (wl b l.length 0 s ++ r70)) none) = _
      rw [i2]
      show cond (fitsB ((wl b l.length 0 s).length + T.length) 16) _ _ = _
      rw [fitsI (by omega) (by omega)]
      rfl
end Go.Xm.Mk
namespace Go.Xm.Mk
set_option linter.unusedVariables false
set_option linter.unusedSimpArgs false
set_option maxRecDepth 20000
def lowb : Nat → Nat → Nat
  | 0, _ => 0
  | n + 1, s => match Nat.beq (s % 2) 1 with
    | true => 0
    | false => lowb n (s / 2) + 1
def clr : Nat → Nat → Nat
  | 0, _ => 0
  | n + 1, s => match Nat.beq (s % 2) 1 with
    | true => s - 1
    | false => 2 * clr n (s / 2)
theorem lowb_s (n s : Nat) : lowb (n + 1) s = (match Nat.beq (s % 2) 1 with | true => 0 | false => lowb n (s / 2) + 1) := rfl
theorem clr_s (n s : Nat) : clr (n + 1) s = (match Nat.beq (s % 2) 1 with | true => s - 1 | false => 2 * clr n (s / 2)) := rfl
theorem lowb_odd {n s : Nat} (h : s % 2 = 1) : lowb (n + 1) s = 0 ∧ clr (n + 1) s = s - 1 := by rw [lowb_s, clr_s, h]; exact ⟨rfl, rfl⟩
theorem lowb_even {n s : Nat} (h : s % 2 = 0) : lowb (n + 1) s = lowb n (s / 2) + 1 ∧ clr (n + 1) s = 2 * clr n (s / 2) := by rw [lowb_s, clr_s, h]; exact ⟨rfl, rfl⟩
theorem tab94 : (List.range 128).all (fun s => f94 1001 (s : Int) == some ((pop 7 s : Nat) : Int)) = true := by kernel_rfl
theorem ones_n {n s : Nat} (hn : n ≤ 7) (h : s < 2 ^ n) : f94 1001 (s : Int) = some ((pop n s : Nat) : Int) := by
  have h1 : 2 ^ n ≤ 2 ^ 7 := Nat.pow_le_pow_right (by omega) hn
  rw [eq_of_beq (List.all_eq_true.1 tab94 s (List.mem_range.2 (by omega)))]
  have := pop_more n (7 - n) s h
  rw [show n + (7 - n) = 7 by omega] at this
  rw [this]
theorem tabtz : (List.range 128).all (fun s => Nat.beq s 0 || (tzC (s : Int) && (tzF (s : Int) == ((lowb 7 s : Nat) : Int)) && (andV .u64 (s : Int) (IntKind.wrap .u64 ((s : Int) - 1)) == ((clr 7 s : Nat) : Int)))) = true := by kernel_rfl
theorem bits_more : ∀ (n j s : Nat), s < 2 ^ n → s ≠ 0 → lowb (n + j) s = lowb n s ∧ clr (n + j) s = clr n s
  | 0, j, s, h, h0 => by omega
  | n + 1, j, s, h, h0 => by
    have e : n + 1 + j = (n + j) + 1 := by omega
    rw [e]
    rcases (show s % 2 = 0 ∨ s % 2 = 1 by omega) with h2 | h2
    · have ih := bits_more n j (s / 2) (by rw [Nat.pow_succ] at h; omega) (by omega)
      rw [(lowb_even h2).1, (lowb_even h2).2, (lowb_even h2).1, (lowb_even h2).2, ih.1, ih.2]
      exact ⟨rfl, rfl⟩
    · rw [(lowb_odd h2).1, (lowb_odd h2).2, (lowb_odd h2).1, (lowb_odd h2).2]
      exact ⟨rfl, rfl⟩
theorem tz_n {n s : Nat} (hn : n ≤ 7) (h : s < 2 ^ n) (h0 : s ≠ 0) : tzC (s : Int) = true ∧ tzF (s : Int) = ((lowb n s : Nat) : Int) ∧ andV .u64 (s : Int) (IntKind.wrap .u64 ((s : Int) - 1)) = ((clr n s : Nat) : Int) := by
  have h1 : 2 ^ n ≤ 2 ^ 7 := Nat.pow_le_pow_right (by omega) hn
  have h2 := List.all_eq_true.1 tabtz s (List.mem_range.2 (by omega))
  rw [beqF h0, Bool.false_or, Bool.and_eq_true, Bool.and_eq_true] at h2
  have h3 := bits_more n (7 - n) s h h0
  rw [show n + (7 - n) = 7 by omega] at h3
  rw [← h3.1, ← h3.2]
  exact ⟨h2.1.1, eq_of_beq h2.1.2, eq_of_beq h2.2⟩
def decZ : List Int → Nat → List Int
  | [], _ => []
  | x :: l, s => (x - ((s % 2 : Nat) : Int)) :: decZ l (s / 2)
theorem decZ_0 : ∀ l : List Int, decZ l 0 = l
  | [] => rfl
  | x :: l => by
    show (x - ((0 % 2 : Nat) : Int)) :: decZ l (0 / 2) = x :: l
    rw [Nat.zero_div, decZ_0 l]
    congr 1
    show x - 0 = x
    omega
theorem decZ_len : ∀ (l : List Int) (s : Nat), (decZ l s).length = l.length
  | [], _ => rfl
  | x :: l, s => by show (decZ l (s / 2)).length + 1 = _; rw [decZ_len l]; rfl
theorem decZ_clr : ∀ (l : List Int) (s : Nat), s < 2 ^ l.length → s ≠ 0 → lowb l.length s < l.length ∧ clr l.length s < s ∧ decZ (l.set (lowb l.length s) (l.getD (lowb l.length s) 0 - 1)) (clr l.length s) = decZ l s
  | [], s, h, h0 => by simp at h; omega
  | x :: l, s, h, h0 => by
    have e : (x :: l).length = l.length + 1 := rfl
    rw [e] at h ⊢
    rcases (show s % 2 = 0 ∨ s % 2 = 1 by omega) with h2 | h2
    · obtain ⟨i1, i2, i3⟩ := decZ_clr l (s / 2) (by rw [Nat.pow_succ] at h; omega) (by omega)
      rw [(lowb_even h2).1, (lowb_even h2).2]
      refine ⟨by omega, by omega, ?_⟩
      show decZ (x :: l.set (lowb l.length (s / 2)) (l.getD (lowb l.length (s / 2)) 0 - 1)) (2 * clr l.length (s / 2)) = _
      show (x - ((2 * clr l.length (s / 2) % 2 : Nat) : Int)) :: decZ (l.set (lowb l.length (s / 2)) (l.getD (lowb l.length (s / 2)) 0 - 1)) (2 * clr l.length (s / 2) / 2) = (x - ((s % 2 : Nat) : Int)) :: decZ l (s / 2)
      rw [(even2 _).1, (even2 _).2, i3, h2]
    · rw [(lowb_odd h2).1, (lowb_odd h2).2]
      refine ⟨by omega, by omega, ?_⟩
      show (x - 1 - (((s - 1) % 2 : Nat) : Int)) :: decZ l ((s - 1) / 2) = (x - ((s % 2 : Nat) : Int)) :: decZ l (s / 2)
      have e1 : (s - 1) % 2 = 0 := by omega
      have e2 : (s - 1) / 2 = s / 2 := by omega
      rw [e1, e2, h2]
      congr 1
      show x - 1 - 0 = x - 1
      omega
theorem les_decZ : ∀ (l : List Nat) (s : Nat), match les l s with | some q => decZ (toI l) s = toI q | none => ∃ x ∈ decZ (toI l) s, x < 0
  | [], s => rfl
  | x :: l, s => by
    have ih := les_decZ l (s / 2)
    rw [les_cons]
    have e : decZ (toI (x :: l)) s = ((x : Int) - ((s % 2 : Nat) : Int)) :: decZ (toI l) (s / 2) := rfl
    by_cases h : s % 2 ≤ x
    · rw [if_pos h]
      cases hq : les l (s / 2) with
      | none =>
        rw [hq] at ih
        obtain ⟨y, hy, h0⟩ := ih
        exact ⟨y, by rw [e]; exact List.mem_cons_of_mem _ hy, h0⟩
      | some q =>
        rw [hq] at ih
        show decZ (toI (x :: l)) s = ((x - s % 2 : Nat) : Int) :: toI q
        rw [e]
        have ih : decZ (toI l) (s / 2) = toI q := ih
        rw [ih]
        congr 1
        omega
    · rw [if_neg h]
      exact ⟨_, by rw [e]; exact List.mem_cons_self .., by omega⟩
theorem f97_1_eq (a : List Int) (ha : a.length ≤ 1000) : ∀ (r i fuel : Nat) (x : Int), i + r = a.length → r < fuel → ∃ v, f97_1 1001 fuel a x (i : Int) = some v ∧ (0 ≤ v ↔ 0 ≤ x ∧ ∀ y ∈ a.drop i, 0 ≤ y)
  | 0, i, fuel + 1, x, hi, _ => by
    rw [f97_1, dcF (p := (i : Int) < ((a.length : Nat) : Int)) (by omega), List.drop_eq_nil_of_le (by omega)]
    exact ⟨x, rfl, by simp⟩
  | r + 1, i, fuel + 1, x, hi, hf => by
    have hil : i < a.length := by omega
    obtain ⟨v, h1, h2⟩ := f97_1_eq a ha r (i + 1) fuel (iMin x (a.getD i 0)) (by omega) (by omega)
    have t : Int.toNat (i : Int) = i := rfl
    rw [f97_1, dcT (p := (i : Int) < ((a.length : Nat) : Int)) (by omega), inR hil, t, nat_succ _ (by omega)]
    refine ⟨v, h1, ?_⟩
    rw [h2, iMin_eq, drop_getD hil]
    constructor
    · rintro ⟨q1, q2⟩
      refine ⟨by omega, fun y hy => ?_⟩
      rcases List.mem_cons.1 hy with rfl | hy
      · omega
      · exact q2 y hy
    · rintro ⟨q1, q2⟩
      have := q2 _ (List.mem_cons_self ..)
      exact ⟨by omega, fun y hy => q2 y (List.mem_cons_of_mem _ hy)⟩
theorem f97_eq (a : List Int) (ha : a.length ≤ 900) : ∃ v, f97 1001 (a ++ [0]) = some v ∧ (0 ≤ v ↔ ∀ y ∈ a, 0 ≤ y) := by
  have hl : (a ++ [(0 : Int)]).length = a.length + 1 := by simp
  obtain ⟨v, h1, h2⟩ := f97_1_eq (a ++ [0]) (by omega) a.length 1 1001 ((a ++ [0]).getD 0 0) (by omega) (by omega)
  have h1' : f97_1 1001 1001 (a ++ [0]) ((a ++ [0]).getD 0 0) 1 = some v := h1
  refine ⟨v, ?_, ?_⟩
  · unfold f97
    rw [hl, dcF (p := ((a.length + 1 : Nat) : Int) < 1) (by omega), inRow_iff.2 (show (0 : Int) ≤ 0 ∧ (0 : Int) < ((a.length + 1 : Nat) : Int) by omega), h1']
    rfl
  · rw [h2]
    cases a with
    | nil => simp
    | cons x a =>
      show 0 ≤ x ∧ (∀ y ∈ (a ++ [(0 : Int)]), 0 ≤ y) ↔ ∀ y ∈ x :: a, 0 ≤ y
      constructor
      · rintro ⟨q1, q2⟩ y hy
        rcases List.mem_cons.1 hy with rfl | hy
        · exact q1
        · exact q2 y (List.mem_append.2 (.inl hy))
      · intro q
        refine ⟨q x (List.mem_cons_self ..), fun y hy => ?_⟩
        rcases List.mem_append.1 hy with hy | hy
        · exact q y (List.mem_cons_of_mem _ hy)
        · rw [List.mem_singleton.1 hy]; omega
theorem f70_2_eq (c : Int) (i1 k1 : Nat) (b : List Int) (i2 n2 k2 : Nat) (x16 x17 : Int) (D : List Int) (hD : D.length ≤ 100) : ∀ (s fuel : Nat) (L : List Int), s < fuel → s < 2 ^ L.length → L.length ≤ 7 → (∀ x ∈ L, (s : Int) - 1000 ≤ x ∧ x ≤ 100) →
    f70_2 1001 fuel c i1 D.length k1 b i2 n2 k2 x16 x17 (s : Int) (D ++ L) = some (D ++ decZ L s) := by
  intro s
  induction s using Nat.strongRecOn with
  | _ s ih =>
    intro fuel L hf hs hl hx
    obtain ⟨fuel, rfl⟩ : ∃ n, fuel = n + 1 := ⟨fuel - 1, by omega⟩
    by_cases h0 : s = 0
    · subst h0
      rw [decZ_0]
      rfl
    · obtain ⟨t1, t2, t3⟩ := tz_n hl hs h0
      obtain ⟨d1, d2, d3⟩ := decZ_clr L s hs h0
      have e1 : (((s : Nat) : Int) != 0) = true := bne_iff_ne.2 (by omega)
      have e2 : w64 (((D.length : Nat) : Int) + ((lowb L.length s : Nat) : Int)) = ((D.length + lowb L.length s : Nat) : Int) := by rw [w64i (by omega) (by omega)]; omega
      have e3 : (D ++ L).length = D.length + L.length := List.length_append ..
      have e4 : Int.toNat ((D.length + lowb L.length s : Nat) : Int) = D.length + lowb L.length s := rfl
      have e5 : List.getD (D ++ L) (D.length + lowb L.length s) 0 = L.getD (lowb L.length s) 0 := by
        rw [List.getD_eq_getElem?_getD, List.getD_eq_getElem?_getD, List.getElem?_append_right (by omega)]
        congr 2; omega
      have e6 : ∀ v, List.set (D ++ L) (D.length + lowb L.length s) v = D ++ L.set (lowb L.length s) v := fun v => by
        rw [List.set_append_right _ _ (by omega)]
        congr 2; omega
      have hg := hx _ (show L.getD (lowb L.length s) 0 ∈ L by
        rw [List.getD_eq_getElem?_getD, List.getElem?_eq_getElem d1]; exact List.getElem_mem _)
      rw [f70_2, e1, t1, t2, t3, e2, e3, inR (show D.length + lowb L.length s < D.length + L.length by omega), e4, e5, w64i (by omega) (by omega), e6]
      have hl2 : (L.set (lowb L.length s) (L.getD (lowb L.length s) 0 - 1)).length = L.length := List.length_set ..
      have h2 := ih (clr L.length s) d2 fuel (L.set (lowb L.length s) (L.getD (lowb L.length s) 0 - 1)) (by omega) (by rw [hl2]; omega) (by rw [hl2]; exact hl) (fun x hm => by
        rcases List.mem_or_eq_of_mem_set hm with h | h
        · have := hx x h; omega
        · omega)
      rw [d3] at h2
      exact h2
def pd (c : Nat) (d l : List Nat) (s : Nat) : Bool := Nat.beq (pop l.length s) c && (match les l s with | some q => real (d ++ q) | none => false)
def exi (c : Nat) (d l : List Nat) : Nat → Nat → Bool
  | 0, _ => false
  | r + 1, s => pd c d l s || exi c d l r (s + 1)
def ex (c : Nat) (d l : List Nat) : Bool := exi c d l (2 ^ l.length) 0
theorem exi_iff (c : Nat) (d l : List Nat) : ∀ r s, exi c d l r s = true ↔ ∃ t, s ≤ t ∧ t < s + r ∧ pd c d l t = true
  | 0, s => by simp [exi]; omega
  | r + 1, s => by
    unfold exi
    rw [Bool.or_eq_true, exi_iff c d l r (s + 1)]
    constructor
    · rintro (h | ⟨t, h1, h2, h3⟩)
      · exact ⟨s, Nat.le_refl _, by omega, h⟩
      · exact ⟨t, by omega, by omega, h3⟩
    · rintro ⟨t, h1, h2, h3⟩
      by_cases e : t = s
      · subst e; exact .inl h3
      · exact .inr ⟨t, by omega, by omega, h3⟩
theorem ex_iff {c : Nat} {d l : List Nat} : ex c d l = true ↔ ∃ t, t < 2 ^ l.length ∧ pd c d l t = true := by
  unfold ex
  rw [exi_iff]
  constructor
  · rintro ⟨t, _, h2, h3⟩; exact ⟨t, by omega, h3⟩
  · rintro ⟨t, h2, h3⟩; exact ⟨t, by omega, by omega, h3⟩
theorem f95_eq (i1 n1 k1 i2 n2 k2 : Nat) (b : List Int) (h1 : 1 ≤ n1) (h2 : n1 ≤ k1) (h3 : i1 + n1 ≤ b.length) (h4 : n2 ≤ k2) (h5 : i2 + n2 ≤ b.length) (hb : b.length ≤ 100) :
    f95 1001 i1 n1 k1 i2 n2 k2 b = some (List.take n1 (List.drop i1 b) ++ List.take n2 (List.drop i2 b)) := by
  have e1 : w64 (0 + ((n1 : Nat) : Int)) = ((n1 : Nat) : Int) := by rw [w64i (by omega) (by omega)]; omega
  have e2 : w64 (((n1 : Nat) : Int) + ((n2 : Nat) : Int)) = ((n1 + n2 : Nat) : Int) := by rw [w64i (by omega) (by omega)]; omega
  have e3 : w64 (((n1 + n2 : Nat) : Int) - 0) = ((n1 + n2 : Nat) : Int) := by rw [w64i (by omega) (by omega)]; omega
  have l1 : (List.take n1 (List.drop i1 b)).length = n1 := by rw [List.length_take, List.length_drop]; omega
  have t : Int.toNat ((n1 + n2 : Nat) : Int) = n1 + n2 := rfl
  unfold f95
  rw [e1, e2, dcF (p := ((n1 : Nat) : Int) < 0) (by omega), dcF (p := ((n1 + n2 : Nat) : Int) < 0) (by omega)]
  have h1_ : f95_1 1001 1001 i1 n1 k1 i2 n2 k2 b ((n1 + n2 : Nat) : Int) = some ((n1 + n2 : Nat) : Int) := rfl
  rw [h1_]
  simp only [cond_false, Option.bind_some]
  rw [dcF (p := ((n1 + n2 : Nat) : Int) < 0) (by omega), e3, dcT (p := ((n1 + n2 : Nat) : Int) > 0) (by omega), t, Nat.ble_eq_true_of_le (show (n1 + n2) * 8 ≤ 1000000000 by omega), Nat.ble_eq_true_of_le (show n1 + n2 ≤ 1000000000 by omega)]
  rw [cutOK_iff.2 (show (0 : Int) ≤ 0 ∧ (0 : Int) ≤ 0 ∧ (0 : Int) ≤ ((n1 + n2 : Nat) : Int) ∧ ((n1 + n2 : Nat) : Int) ≤ ((n1 + n2 : Nat) : Int) by omega), dcT h2, dcT h3, l1, dcT (p := 1 ≤ n1) h1, fitsI (show n1 ≤ 1000 by omega) (by omega), dcT h4, dcT h5, fitsI (show n1 + n2 ≤ 1000 by omega) (by omega)]
  rfl
theorem f70_1_eq (c : Nat) (d l : List Nat) (i1 k1 : Nat) (b : List Int) (i2 k2 : Nat) (h1 : 1 ≤ d.length) (h2 : d.length ≤ k1) (h3 : i1 + d.length ≤ b.length) (h4 : l.length ≤ k2) (h5 : i2 + l.length ≤ b.length) (hb : b.length ≤ 100)
    (hd : List.take d.length (List.drop i1 b) = toI d) (hl : List.take l.length (List.drop i2 b) = toI l) (h7 : d.length + l.length ≤ 8) (hsd : ∀ x ∈ d, x ≤ 7) (hsl : ∀ x ∈ l, x ≤ 7) : ∀ (r s fuel : Nat), s + r = 2 ^ l.length → r < fuel →
    f70_1 1001 fuel (c : Int) i1 d.length k1 b i2 l.length k2 ((2 ^ l.length : Nat) : Int) (s : Int) = some (match exi c d l r s with | true => .r | false => .x0)
  | 0, s, fuel + 1, hi, _ => by
    rw [f70_1, dcF (p := (s : Int) < ((2 ^ l.length : Nat) : Int)) (by omega)]
    rfl
  | r + 1, s, fuel + 1, hi, hf => by
    have h27 : 2 ^ l.length ≤ 2 ^ 7 := Nat.pow_le_pow_right (by omega) (by omega)
    have ih := f70_1_eq c d l i1 k1 b i2 k2 h1 h2 h3 h4 h5 hb hd hl h7 hsd hsl r (s + 1) fuel (by omega) (by omega)
    have e1 : IntKind.wrap .u64 ((s : Int) + 1) = ((s + 1 : Nat) : Int) := by
      have : ∀ k : Fin 128, IntKind.wrap .u64 ((k.val : Int) + 1) = ((k.val + 1 : Nat) : Int) := by decide
      exact this ⟨s, by omega⟩
    rw [f70_1, dcT (p := (s : Int) < ((2 ^ l.length : Nat) : Int)) (by omega), ones_n (n := l.length) (by omega) (by omega), e1]
    have hex : exi c d l (r + 1) s = (pd c d l s || exi c d l r (s + 1)) := rfl
    rw [hex]
    show cond (((pop l.length s : Nat) : Int) != (c : Int)) _ _ = _
    by_cases hp : pop l.length s = c
    · have e2 : (((pop l.length s : Nat) : Int) != (c : Int)) = false := by rw [hp]; simp
      have hpd : pd c d l s = (match les l s with | some q => real (d ++ q) | none => false) := by unfold pd; rw [hp, Nat.beq_refl]; rfl
      rw [e2, f95_eq i1 d.length k1 i2 l.length k2 b h1 h2 h3 h4 h5 hb, hd, hl]
      have h70 := f70_2_eq (c : Int) i1 k1 b i2 l.length k2 ((2 ^ l.length : Nat) : Int) (s : Int) (toI d) (by rw [toI_len]; omega) s 1001 (toI l) (by omega) (by rw [toI_len]; omega) (by rw [toI_len]; omega) (fun x hx => by
        obtain ⟨y, hy, rfl⟩ := List.mem_map.1 hx
        have := hsl y hy
        show (s : Int) - 1000 ≤ ((y : Nat) : Int) ∧ ((y : Nat) : Int) ≤ 100
        omega)
      rw [toI_len] at h70
      show ((f70_2 1001 1001 (c : Int) i1 d.length k1 b i2 l.length k2 ((2 ^ l.length : Nat) : Int) (s : Int) (s : Int) (toI d ++ toI l)).bind _) = _
      rw [h70]
      have hlen : (toI d ++ decZ (toI l) s).length = d.length + l.length := by rw [List.length_append, decZ_len, toI_len, toI_len]
      show cond (decide (1 ≤ (toI d ++ decZ (toI l) s).length)) _ _ = _
      rw [hlen, dcT (show 1 ≤ d.length + l.length by omega), fitsI (show d.length + l.length + 1 ≤ 1000 by omega) (by omega)]
      obtain ⟨v, v1, v2⟩ := f97_eq (toI d ++ decZ (toI l) s) (by omega)
      show ((f97 1001 (toI d ++ decZ (toI l) s ++ [0])).bind _) = _
      rw [v1]
      have hld := les_decZ l s
      cases hq : les l s with
      | none =>
        rw [hq] at hld hpd
        obtain ⟨x, hx, hx0⟩ := hld
        have hv : ¬ (v ≥ 0) := fun q => by
          have := v2.1 q x (List.mem_append.2 (.inr hx)); omega
        show cond (decide (v ≥ 0)) _ _ = _
        rw [dcF hv, hpd]
        exact ih
      | some q =>
        rw [hq] at hld hpd
        have hld : decZ (toI l) s = toI q := hld
        have hall : ∀ x ∈ toI d ++ toI q, 0 ≤ x := fun x hx => by
          rw [← toI_append] at hx
          obtain ⟨y, _, rfl⟩ := List.mem_map.1 hx
          exact Int.natCast_nonneg y
        rw [hld] at v2 ⊢
        have hql := les_len hq
        show cond (decide (v ≥ 0)) ((f59 1001 (toI d ++ toI q)).bind _) _ = _
        rw [dcT (v2.2 hall), ← toI_append, can59 (d ++ q) (by rw [List.length_append]; omega) (fun x hx => by
          rcases List.mem_append.1 hx with hx | hx
          · exact hsd x hx
          · exact les_small hq hsl x hx), hpd]
        show cond (real (d ++ q)) _ _ = some (match real (d ++ q) || exi c d l r (s + 1) with | true => Of70_1.r | false => .x0)
        cases real (d ++ q) with
        | true => rfl
        | false => exact ih
    · have e2 : (((pop l.length s : Nat) : Int) != (c : Int)) = true := bne_iff_ne.2 (by omega)
      have hpd : pd c d l s = false := by unfold pd; rw [beqF hp]; rfl
      rw [e2, hpd]
      exact ih
theorem pop_le : ∀ n s, pop n s ≤ n
  | 0, s => Nat.le_refl _
  | n + 1, s => by have := pop_le n (s / 2); show s % 2 + pop n (s / 2) ≤ n + 1; omega
theorem f70_eq (c : Nat) (d l : List Nat) (i1 k1 : Nat) (b : List Int) (i2 k2 : Nat) (h1 : 1 ≤ d.length) (h2 : d.length ≤ k1) (h3 : i1 + d.length ≤ b.length) (h4 : l.length ≤ k2) (h5 : i2 + l.length ≤ b.length) (hb : b.length ≤ 100)
    (hd : List.take d.length (List.drop i1 b) = toI d) (hl : List.take l.length (List.drop i2 b) = toI l) (h7 : d.length + l.length ≤ 8) (hsd : ∀ x ∈ d, x ≤ 7) (hsl : ∀ x ∈ l, x ≤ 7) :
    f70 1001 (c : Int) i1 d.length k1 b i2 l.length k2 = some (ex c d l) := by
  unfold f70
  have h27 : 2 ^ l.length ≤ 2 ^ 7 := Nat.pow_le_pow_right (by omega) (by omega)
  by_cases hc : c > l.length
  · rw [dcT (p := (c : Int) > ((l.length : Nat) : Int)) (by omega)]
    have : ex c d l = false := by
      cases hb : ex c d l with
      | false => rfl
      | true =>
        obtain ⟨t, _, h⟩ := ex_iff.1 hb
        unfold pd at h
        rw [Bool.and_eq_true] at h
        have := Nat.eq_of_beq_eq_true h.1
        have := pop_le l.length t
        omega
    rw [this]; rfl
  · rw [dcF (p := (c : Int) > ((l.length : Nat) : Int)) (by omega), dcT (p := (0 : Int) ≤ ((l.length : Nat) : Int)) (by omega), shl1u (by omega)]
    have h := f70_1_eq c d l i1 k1 b i2 k2 h1 h2 h3 h4 h5 hb hd hl h7 hsd hsl (2 ^ l.length) 0 1001 (by omega) (by omega)
    have h' : f70_1 1001 1001 (c : Int) i1 d.length k1 b i2 l.length k2 ((2 ^ l.length : Nat) : Int) 0 = _ := h
    show ((f70_1 1001 1001 (c : Int) i1 d.length k1 b i2 l.length k2 ((2 ^ l.length : Nat) : Int) 0).bind _) = _
    rw [h']
    unfold ex
    cases exi c d l (2 ^ l.length) 0 <;> rfl
end Go.Xm.Mk
namespace Go.Xm.Mk
set_option linter.unusedVariables false
set_option linter.unusedSimpArgs false
set_option maxRecDepth 20000
def gr : Nat → List Nat → List Nat → Nat
  | _, _, [] => 0
  | c, d, y :: l => match c, y with
    | c' + 1, y' + 1 => (match ex c' (d ++ [y']) l with
      | true => 2 * gr c' (d ++ [y']) l + 1
      | false => 2 * gr (c' + 1) (d ++ [y' + 1]) l)
    | c, y => 2 * gr c (d ++ [y]) l
theorem gr_0 (d : List Nat) (y : Nat) (l : List Nat) : gr 0 d (y :: l) = 2 * gr 0 (d ++ [y]) l := rfl
theorem gr_z (c : Nat) (d : List Nat) (l : List Nat) : gr c d (0 :: l) = 2 * gr c (d ++ [0]) l := by cases c <;> rfl
theorem gr_s (c : Nat) (d : List Nat) (y : Nat) (l : List Nat) : gr (c + 1) d ((y + 1) :: l) = (match ex c (d ++ [y]) l with | true => 2 * gr c (d ++ [y]) l + 1 | false => 2 * gr (c + 1) (d ++ [y + 1]) l) := rfl
theorem pd_even (c : Nat) (d : List Nat) (y : Nat) (l : List Nat) (t : Nat) : pd c d (y :: l) (2 * t) = pd c (d ++ [y]) l t := by
  have hp : pop (y :: l).length (2 * t) = pop l.length t := by
    show (2 * t) % 2 + pop l.length (2 * t / 2) = _
    rw [(even2 t).1, (even2 t).2]; omega
  have hl : les (y :: l) (2 * t) = (les l t).map (fun r => y :: r) := by
    rw [les_cons, (even2 t).1, (even2 t).2, if_pos (Nat.zero_le _)]; rfl
  unfold pd
  rw [hp, hl]
  congr 1
  cases les l t with
  | none => rfl
  | some q => show real (d ++ y :: q) = real (d ++ [y] ++ q); rw [List.append_assoc]; rfl
theorem pd_odd (c : Nat) (d : List Nat) (y : Nat) (l : List Nat) (t : Nat) : pd (c + 1) d ((y + 1) :: l) (2 * t + 1) = pd c (d ++ [y]) l t := by
  have hp : pop ((y + 1) :: l).length (2 * t + 1) = pop l.length t + 1 := by
    show (2 * t + 1) % 2 + pop l.length ((2 * t + 1) / 2) = _
    rw [(odd2 t).1, (odd2 t).2]; omega
  have hl : les ((y + 1) :: l) (2 * t + 1) = (les l t).map (fun r => y :: r) := by
    rw [les_cons, (odd2 t).1, (odd2 t).2, if_pos (by omega)]; rfl
  have hb : Nat.beq (pop l.length t + 1) (c + 1) = Nat.beq (pop l.length t) c := rfl
  unfold pd
  rw [hp, hl, hb]
  congr 1
  cases les l t with
  | none => rfl
  | some q => show real (d ++ y :: q) = real (d ++ [y] ++ q); rw [List.append_assoc]; rfl
theorem pd_odd0 (d : List Nat) (y : Nat) (l : List Nat) (t : Nat) : pd 0 d (y :: l) (2 * t + 1) = false := by
  have hp : pop (y :: l).length (2 * t + 1) = pop l.length t + 1 := by
    show (2 * t + 1) % 2 + pop l.length ((2 * t + 1) / 2) = _
    rw [(odd2 t).1, (odd2 t).2]; omega
  unfold pd
  rw [hp]; rfl
theorem pd_oddz (c : Nat) (d : List Nat) (l : List Nat) (t : Nat) : pd c d (0 :: l) (2 * t + 1) = false := by
  have hl : les (0 :: l) (2 * t + 1) = none := by rw [les_cons, (odd2 t).1, if_neg (by omega)]
  unfold pd
  rw [hl]
  cases Nat.beq (pop (0 :: l).length (2 * t + 1)) c <;> rfl
theorem llt_even {n s t : Nat} : llt (n + 1) (2 * s) (2 * t) = llt n s t := by
  show (match Nat.beq (2 * s % 2) (2 * t % 2) with | true => llt n (2 * s / 2) (2 * t / 2) | false => _) = _
  rw [(even2 s).1, (even2 t).1, (even2 s).2, (even2 t).2]
theorem llt_odd {n s t : Nat} : llt (n + 1) (2 * s + 1) (2 * t + 1) = llt n s t := by
  show (match Nat.beq ((2 * s + 1) % 2) ((2 * t + 1) % 2) with | true => llt n ((2 * s + 1) / 2) ((2 * t + 1) / 2) | false => _) = _
  rw [(odd2 s).1, (odd2 t).1, (odd2 s).2, (odd2 t).2]
theorem llt_first {n s t : Nat} : llt (n + 1) (2 * s + 1) (2 * t) = true := by
  show (match Nat.beq ((2 * s + 1) % 2) (2 * t % 2) with | true => llt n ((2 * s + 1) / 2) (2 * t / 2) | false => Nat.beq ((2 * s + 1) % 2) 1) = _
  rw [(odd2 s).1, (even2 t).1]; rfl
def MinD (c : Nat) (d l : List Nat) (s : Nat) : Prop := s < 2 ^ l.length ∧ pd c d l s = true ∧ ∀ t, t < 2 ^ l.length → pd c d l t = true → t ≠ s → llt l.length s t = true
theorem halves (t : Nat) : t = 2 * (t / 2) ∨ t = 2 * (t / 2) + 1 := by omega
theorem min_even {c : Nat} {d : List Nat} {y : Nat} {l : List Nat} {s : Nat} (h : MinD c (d ++ [y]) l s) (hn : ∀ t, t < 2 ^ l.length → pd c d (y :: l) (2 * t + 1) = false) : MinD c d (y :: l) (2 * s) := by
  have e : 2 ^ (y :: l).length = 2 * 2 ^ l.length := by rw [List.length_cons, Nat.pow_succ]; omega
  refine ⟨by rw [e]; have := h.1; omega, by rw [pd_even]; exact h.2.1, fun t ht hp hne => ?_⟩
  rw [e] at ht
  rcases halves t with ht2 | ht2
  · rw [ht2] at hp hne ⊢
    rw [pd_even] at hp
    show llt (l.length + 1) _ _ = true
    rw [llt_even]
    exact h.2.2 _ (by omega) hp (fun q => hne (by rw [q]))
  · rw [ht2, hn _ (by omega)] at hp
    cases hp
theorem gr_min : ∀ (l : List Nat) (c : Nat) (d : List Nat), ex c d l = true → MinD c d l (gr c d l)
  | [], c, d, h => by
    obtain ⟨t, ht, hp⟩ := ex_iff.1 h
    have e : t = 0 := by simp at ht; omega
    subst e
    exact ⟨by show 0 < 2 ^ 0; omega, hp, fun t ht _ hne => absurd (show t = 0 by simp at ht; omega) hne⟩
  | y :: l, 0, d, h => by
    rw [gr_0]
    have hn : ∀ t, t < 2 ^ l.length → pd 0 d (y :: l) (2 * t + 1) = false := fun t _ => pd_odd0 d y l t
    obtain ⟨t, ht, hp⟩ := ex_iff.1 h
    have e : 2 ^ (y :: l).length = 2 * 2 ^ l.length := by rw [List.length_cons, Nat.pow_succ]; omega
    rw [e] at ht
    refine min_even (gr_min l 0 (d ++ [y]) (ex_iff.2 ?_)) hn
    rcases halves t with ht2 | ht2
    · rw [ht2, pd_even] at hp; exact ⟨_, by omega, hp⟩
    · rw [ht2, hn _ (by omega)] at hp; cases hp
  | 0 :: l, c + 1, d, h => by
    rw [gr_z]
    have hn : ∀ t, t < 2 ^ l.length → pd (c + 1) d (0 :: l) (2 * t + 1) = false := fun t _ => pd_oddz (c + 1) d l t
    obtain ⟨t, ht, hp⟩ := ex_iff.1 h
    have e : 2 ^ (0 :: l).length = 2 * 2 ^ l.length := by rw [List.length_cons, Nat.pow_succ]; omega
    rw [e] at ht
    refine min_even (gr_min l (c + 1) (d ++ [0]) (ex_iff.2 ?_)) hn
    rcases halves t with ht2 | ht2
    · rw [ht2, pd_even] at hp; exact ⟨_, by omega, hp⟩
    · rw [ht2, hn _ (by omega)] at hp; cases hp
  | (y + 1) :: l, c + 1, d, h => by
    rw [gr_s]
    have e : 2 ^ ((y + 1) :: l).length = 2 * 2 ^ l.length := by rw [List.length_cons, Nat.pow_succ]; omega
    cases hx : ex c (d ++ [y]) l with
    | true =>
      have ih := gr_min l c (d ++ [y]) hx
      refine ⟨by rw [e]; have := ih.1; show 2 * gr c (d ++ [y]) l + 1 < _; omega, by show pd (c + 1) d ((y + 1) :: l) (2 * gr c (d ++ [y]) l + 1) = true; rw [pd_odd]; exact ih.2.1, fun t ht hp hne => ?_⟩
      rw [e] at ht
      show llt (l.length + 1) (2 * gr c (d ++ [y]) l + 1) t = true
      rcases halves t with ht2 | ht2
      · rw [ht2, llt_first]
      · have hne : t ≠ 2 * gr c (d ++ [y]) l + 1 := hne
        rw [ht2] at hp hne ⊢
        rw [pd_odd] at hp
        rw [llt_odd]
        exact ih.2.2 _ (by omega) hp (fun q => hne (by rw [q]))
    | false =>
      have hn : ∀ t, t < 2 ^ l.length → pd (c + 1) d ((y + 1) :: l) (2 * t + 1) = false := fun t ht => by
        rw [pd_odd]
        cases hp : pd c (d ++ [y]) l t with
        | false => rfl
        | true => rw [ex_iff.2 ⟨t, ht, hp⟩] at hx; cases hx
      obtain ⟨t, ht, hp⟩ := ex_iff.1 h
      rw [e] at ht
      refine min_even (gr_min l (c + 1) (d ++ [y + 1]) (ex_iff.2 ?_)) hn
      rcases halves t with ht2 | ht2
      · rw [ht2, pd_even] at hp; exact ⟨_, by omega, hp⟩
      · rw [ht2, hn _ (by omega)] at hp; cases hp
theorem min_uniq {c : Nat} {l : List Nat} {s t : Nat} (h1 : Min c l s) (h2 : Min c l t) : s = t := by
  by_cases e : s = t
  · exact e
  · have g1 := h1.2.2 t h2.1 h2.2.1 (Ne.symm e)
    have g2 := h2.2.2 s h1.1 h1.2.1 e
    rw [llt_asymm _ _ _ g1] at g2
    cases g2
theorem gr_is {c : Nat} {l : List Nat} {s : Nat} (h : Min c l s) : gr c [] l = s := by
  have hx : ex c [] l = true := ex_iff.2 ⟨s, h.1, h.2.1⟩
  have hm := gr_min l c [] hx
  exact min_uniq (c := c) (l := l) ⟨hm.1, hm.2.1, hm.2.2⟩ h
theorem first_ex : ∀ (n : Nat) (b : Nat) (l : List Nat), l.length = n → real l = true → ∃ T, First b l T
  | 0, b, [], _, _ => ⟨[], .nil b⟩
  | n + 1, b, c :: l, hl, h => by
    simp only [List.length_cons] at hl
    unfold real at h
    have h := of_decide_eq_true h
    rw [cnt_cons, ← sum_sets] at h
    have key : ∀ r s, 0 < Sr (fun s => if pop l.length s = c then opt cnt (les l s) else 0) r s → ∃ t, s ≤ t ∧ t < s + r ∧ vld c l t = true := by
      intro r
      induction r with
      | zero => intro s h; simp [Sr] at h
      | succ r ih =>
        intro s h
        have h : 0 < (if pop l.length s = c then opt cnt (les l s) else 0) + Sr (fun s => if pop l.length s = c then opt cnt (les l s) else 0) r (s + 1) := h
        by_cases h0 : 0 < Sr (fun s => if pop l.length s = c then opt cnt (les l s) else 0) r (s + 1)
        · obtain ⟨t, t1, t2, t3⟩ := ih (s + 1) h0
          exact ⟨t, by omega, by omega, t3⟩
        · refine ⟨s, Nat.le_refl _, by omega, ?_⟩
          by_cases hp : pop l.length s = c
          · rw [if_pos hp] at h
            unfold vld
            rw [hp, Nat.beq_refl]
            cases hq : les l s with
            | none => rw [hq] at h; have : opt cnt none = 0 := rfl; omega
            | some q =>
              rw [hq] at h
              have : opt cnt (some q) = cnt q := rfl
              show (true && real q) = true
              unfold real
              rw [dcT (show 0 < cnt q by omega)]; rfl
          · rw [if_neg hp] at h; omega
    obtain ⟨t, _, t2, t3⟩ := key _ _ h
    have hx : ex c [] l = true := ex_iff.2 ⟨t, by omega, t3⟩
    have hm := gr_min l c [] hx
    have hm' : Min c l (gr c [] l) := ⟨hm.1, hm.2.1, hm.2.2⟩
    have hv := hm'.2.1
    unfold vld at hv
    rw [Bool.and_eq_true] at hv
    cases hq : les l (gr c [] l) with
    | none => rw [hq] at hv; cases hv.2
    | some q =>
      rw [hq] at hv
      obtain ⟨T, hT⟩ := first_ex n (b + 1) q (by rw [les_len hq]; omega) hv.2
      exact ⟨_, .cons hm' hq hT⟩
theorem getD_at {A : List Nat} {x : Nat} {R : List Nat} {n : Nat} (h : n = A.length) : List.getD (toI (A ++ x :: R)) n 0 = (x : Int) := by
  rw [toI_append, toI_cons]
  exact getD_mid _ _ _ _ (by rw [toI_len]; exact h)
theorem set_at {A : List Nat} {x y : Nat} {R : List Nat} {n : Nat} (h : n = A.length) {v : Int} (hv : v = (y : Int)) : List.set (toI (A ++ x :: R)) n v = toI (A ++ y :: R) := by
  rw [toI_append, toI_cons, toI_append, toI_cons, hv]
  exact set_mid _ _ _ _ (by rw [toI_len]; exact h)
theorem toI_take (n : Nat) (l : List Nat) : List.take n (toI l) = toI (l.take n) := by unfold toI; rw [List.map_take]
theorem toI_drop (n : Nat) (l : List Nat) : List.drop n (toI l) = toI (l.drop n) := by unfold toI; rw [List.map_drop]
theorem f23_2_eq (a : List Int) (N xh : Int) (P : List Nat) : ∀ (l : List Nat) (c : Nat) (d : List Nat) (fuel : Nat) (TB : List (Int × Int)), P.length + 1 + d.length + l.length ≤ 8 → l.length < fuel → TB.length + l.length ≤ 100 → c ≤ 7 → (∀ x ∈ d, x ≤ 7) → (∀ x ∈ l, x ≤ 7) →
    ∃ q c', les l (gr c d l) = some q ∧ c' ≤ 7 ∧ f23_2 1001 fuel a N ((P.length : Nat) : Int) xh ((P.length + 1 + d.length : Nat) : Int) (toI (P ++ c :: (d ++ l))) TB = some (toI (P ++ c' :: (d ++ q)), TB ++ wl P.length l.length d.length (gr c d l))
  | [], c, d, fuel + 1, TB, h8, _, _, hc, _, _ => by
    refine ⟨[], c, rfl, hc, ?_⟩
    have e : (toI (P ++ c :: (d ++ []))).length = P.length + 1 + d.length := by rw [toI_len]; simp; omega
    rw [f23_2, e, dcF (p := ((P.length + 1 + d.length : Nat) : Int) < ((P.length + 1 + d.length : Nat) : Int)) (by omega)]
    show some (_, TB) = some (_, TB ++ [])
    rw [List.append_nil TB]
  | y :: l, c, d, fuel + 1, TB, h8, hf, hTB, hc, hd, hs => by
    simp only [List.length_cons] at h8 hf hTB
    have hy := hs y (List.mem_cons_self ..)
    have hs' : ∀ x ∈ l, x ≤ 7 := fun x hx => hs x (List.mem_cons_of_mem _ hx)
    have hlen : ∀ (c y : Nat), (toI (P ++ c :: (d ++ y :: l))).length = P.length + 1 + d.length + 1 + l.length := fun c y => by rw [toI_len]; simp; omega
    have tP : Int.toNat ((P.length : Nat) : Int) = P.length := rfl
    have tJ : Int.toNat ((P.length + 1 + d.length : Nat) : Int) = P.length + 1 + d.length := rfl
    have eJ : ∀ (c y : Nat), P ++ c :: (d ++ y :: l) = (P ++ c :: d) ++ y :: l := fun c y => by simp
    have hJ : ∀ c : Nat, P.length + 1 + d.length = (P ++ c :: d).length := fun c => by simp; omega
    have g1 : ∀ (c y : Nat), List.getD (toI (P ++ c :: (d ++ y :: l))) P.length 0 = (c : Int) := fun c y => getD_at rfl
    have g2 : ∀ (c y : Nat), List.getD (toI (P ++ c :: (d ++ y :: l))) (P.length + 1 + d.length) 0 = (y : Int) := fun c y => by rw [eJ]; exact getD_at (hJ c)
    have s1 : ∀ (c y c' : Nat) (v : Int), v = (c' : Int) → List.set (toI (P ++ c :: (d ++ y :: l))) P.length v = toI (P ++ c' :: (d ++ y :: l)) := fun c y c' v hv => set_at rfl hv
    have s2 : ∀ (c y y' : Nat) (v : Int), v = (y' : Int) → List.set (toI (P ++ c :: (d ++ y :: l))) (P.length + 1 + d.length) v = toI (P ++ c :: (d ++ y' :: l)) := fun c y y' v hv => by rw [eJ, set_at (hJ c) hv, ← eJ]
    -- the next one
    have next : ∀ (c1 y1 fuel' : Nat) (TB' : List (Int × Int)), fuel' = fuel → TB'.length ≤ TB.length + 1 → c1 ≤ 7 → y1 ≤ 7 → ∃ q c', les l (gr c1 (d ++ [y1]) l) = some q ∧ c' ≤ 7 ∧
        f23_2 1001 fuel' a N ((P.length : Nat) : Int) xh (w64 (((P.length + 1 + d.length : Nat) : Int) + 1)) (toI (P ++ c1 :: (d ++ y1 :: l))) TB' = some (toI (P ++ c' :: (d ++ y1 :: q)), TB' ++ wl P.length l.length (d.length + 1) (gr c1 (d ++ [y1]) l)) := fun c1 y1 fuel' TB' hfu hTB' hc1 hy1 => by
      subst hfu
      have hd' : ∀ x ∈ d ++ [y1], x ≤ 7 := fun x hx => by
        rcases List.mem_append.1 hx with hx | hx
        · exact hd x hx
        · rw [List.mem_singleton.1 hx]; exact hy1
      obtain ⟨q, c', i1, i2, i3⟩ := f23_2_eq a N xh P l c1 (d ++ [y1]) fuel' TB' (by simp; omega) (by omega) (by omega) hc1 hd' hs'
      have e1 : (d ++ [y1]).length = d.length + 1 := by simp
      have e2 : ∀ r : List Nat, d ++ [y1] ++ r = d ++ y1 :: r := fun r => by simp
      rw [e1, e2, e2] at i3
      have e3 : w64 (((P.length + 1 + d.length : Nat) : Int) + 1) = ((P.length + 1 + (d.length + 1) : Nat) : Int) := by rw [w64i (by omega) (by omega)]; omega
      exact ⟨q, c', i1, i2, by rw [e3]; exact i3⟩
    have skip : ∀ s : Nat, gr c d (y :: l) = 2 * s → ∀ q, les l s = some q → les (y :: l) (gr c d (y :: l)) = some (y :: q) ∧ wl P.length (y :: l).length d.length (gr c d (y :: l)) = wl P.length l.length (d.length + 1) s := fun s hg q hq => by
      rw [hg]
      refine ⟨?_, ?_⟩
      · rw [les_cons, (even2 s).1, (even2 s).2, if_pos (Nat.zero_le _), hq]; rfl
      · show (match Nat.beq (2 * s % 2) 1 with | true => _ | false => wl P.length l.length (d.length + 1) (2 * s / 2)) = _
        rw [(even2 s).1, (even2 s).2]
    have skipR : ∀ (s : Nat), gr c d (y :: l) = 2 * s → s = gr c (d ++ [y]) l → ∀ X : Option (List Int × List (Int × Int)), (X = f23_2 1001 fuel a N ((P.length : Nat) : Int) xh (w64 (((P.length + 1 + d.length : Nat) : Int) + 1)) (toI (P ++ c :: (d ++ y :: l))) TB) →
        ∃ q c', les (y :: l) (gr c d (y :: l)) = some q ∧ c' ≤ 7 ∧ X = some (toI (P ++ c' :: (d ++ q)), TB ++ wl P.length (y :: l).length d.length (gr c d (y :: l))) := fun s hg hs1 X hX => by
      obtain ⟨q, c', i1, i2, i3⟩ := next c y fuel TB rfl (by omega) hc hy
      rw [← hs1] at i1 i3
      obtain ⟨k1, k2⟩ := skip s hg q i1
      exact ⟨y :: q, c', k1, i2, by rw [hX, i3, k2]⟩
    rw [f23_2, hlen, dcT (p := ((P.length + 1 + d.length : Nat) : Int) < ((P.length + 1 + d.length + 1 + l.length : Nat) : Int)) (by omega), inR (show P.length < P.length + 1 + d.length + 1 + l.length by omega), tP, g1, inR (show P.length + 1 + d.length < P.length + 1 + d.length + 1 + l.length by omega), tJ, g2]
    cases c with
    | zero =>
      exact skipR (gr 0 (d ++ [y]) l) (gr_0 d y l) rfl _ rfl
    | succ c =>
      have e1 : (((c + 1 : Nat) : Int) == 0) = false := beq_eq_false_iff_ne.2 (by omega)
      rw [e1]
      cases y with
      | zero =>
        exact skipR (gr (c + 1) (d ++ [0]) l) (gr_z (c + 1) d l) rfl _ rfl
      | succ y =>
        have e2 : (((y + 1 : Nat) : Int) == 0) = false := beq_eq_false_iff_ne.2 (by omega)
        have e3 : w64 (((c + 1 : Nat) : Int) - 1) = (c : Int) := by rw [w64i (by omega) (by omega)]; omega
        have e4 : w64 (((y + 1 : Nat) : Int) - 1) = (y : Int) := by rw [w64i (by omega) (by omega)]; omega
        have e5 : w64 ((c : Int) + 1) = ((c + 1 : Nat) : Int) := by rw [w64i (by omega) (by omega)]; omega
        have e6 : w64 ((y : Int) + 1) = ((y + 1 : Nat) : Int) := by rw [w64i (by omega) (by omega)]; omega
        have e7 : w64 (((P.length : Nat) : Int) + 1) = ((P.length + 1 : Nat) : Int) := by rw [w64i (by omega) (by omega)]; omega
        have e8 : w64 (((P.length + 1 + d.length : Nat) : Int) + 1) = ((P.length + 1 + d.length + 1 : Nat) : Int) := by rw [w64i (by omega) (by omega)]; omega
        have t7 : Int.toNat ((P.length + 1 : Nat) : Int) = P.length + 1 := rfl
        have t8 : Int.toNat ((P.length + 1 + d.length + 1 : Nat) : Int) = P.length + 1 + d.length + 1 := rfl
        rw [e2]
        rw [s1 (c + 1) (y + 1) c _ e3, g2, s2 c (y + 1) y _ e4, g1, s1 c y (c + 1) _ e5, g2, s2 (c + 1) y (y + 1) _ e6]
        rw [e7, e8, cutOK_iff.2 (show (0 : Int) ≤ ((P.length + 1 : Nat) : Int) ∧ ((P.length + 1 : Nat) : Int) ≤ ((P.length + 1 + d.length + 1 : Nat) : Int) ∧ ((P.length + 1 + d.length + 1 : Nat) : Int) ≤ ((P.length + 1 + d.length + 1 + l.length : Nat) : Int) ∧ ((P.length + 1 + d.length + 1 + l.length : Nat) : Int) ≤ ((P.length + 1 + d.length + 1 + l.length : Nat) : Int) by omega)]
        rw [cutOK_iff.2 (show (0 : Int) ≤ ((P.length + 1 + d.length + 1 : Nat) : Int) ∧ ((P.length + 1 + d.length + 1 : Nat) : Int) ≤ ((P.length + 1 + d.length + 1 + l.length : Nat) : Int) ∧ ((P.length + 1 + d.length + 1 + l.length : Nat) : Int) ≤ ((P.length + 1 + d.length + 1 + l.length : Nat) : Int) ∧ ((P.length + 1 + d.length + 1 + l.length : Nat) : Int) ≤ ((P.length + 1 + d.length + 1 + l.length : Nat) : Int) by omega)]
        have h70 := f70_eq c (d ++ [y]) l (P.length + 1) (P.length + 1 + d.length + 1 + l.length - (P.length + 1)) (toI (P ++ c :: (d ++ y :: l))) (P.length + 1 + d.length + 1) (P.length + 1 + d.length + 1 + l.length - (P.length + 1 + d.length + 1)) (by simp) (by simp; omega) (by rw [hlen]; simp; omega) (by omega) (by rw [hlen]; omega) (by rw [hlen]; omega)
          (by
            rw [toI_drop, toI_take]
            congr 1
            have : List.drop (P.length + 1) (P ++ c :: (d ++ y :: l)) = d ++ y :: l := by rw [List.drop_append]; simp
            rw [this]
            have e9 : d ++ y :: l = (d ++ [y]) ++ l := by simp
            rw [e9]
            exact List.take_left' rfl)
          (by
            rw [toI_drop, toI_take]
            congr 1
            have : List.drop (P.length + 1 + d.length + 1) (P ++ c :: (d ++ y :: l)) = l := by
              have e9 : P ++ c :: (d ++ y :: l) = (P ++ c :: (d ++ [y])) ++ l := by simp
              rw [e9]
              exact List.drop_left' (by simp; omega)
            rw [this, List.take_length]) (by simp; omega) (fun x hx => by
            rcases List.mem_append.1 hx with hx | hx
            · exact hd x hx
            · rw [List.mem_singleton.1 hx]; omega) hs'
        have e9 : P.length + 1 + d.length + 1 - (P.length + 1) = (d ++ [y]).length := by simp; omega
        have e10 : P.length + 1 + d.length + 1 + l.length - (P.length + 1 + d.length + 1) = l.length := by omega
        rw [t7, t8, e9]
        rw [e10] at h70 ⊢
        simp only [cond_false, cond_true]
        rw [h70]
        show ∃ q c', _ ∧ _ ∧ cond (ex c (d ++ [y]) l) _ _ = _
        cases hx : ex c (d ++ [y]) l with
        | true =>
          have hg : gr (c + 1) d ((y + 1) :: l) = 2 * gr c (d ++ [y]) l + 1 := by rw [gr_s, hx]
          obtain ⟨q, c', i1, i2, i3⟩ := next c y fuel (TB ++ [(((P.length : Nat) : Int), ((P.length + 1 + d.length : Nat) : Int))]) rfl (by simp) (by omega) (by omega)
          rw [e8] at i3
          refine ⟨y :: q, c', ?_, i2, ?_⟩
          · rw [hg, les_cons, (odd2 _).1, (odd2 _).2, if_pos (by omega), i1]; rfl
          · have hw : wl P.length ((y + 1) :: l).length d.length (gr (c + 1) d ((y + 1) :: l)) = (((P.length : Nat) : Int), ((P.length + 1 + d.length : Nat) : Int)) :: wl P.length l.length (d.length + 1) (gr c (d ++ [y]) l) := by
              rw [hg]
              show (match Nat.beq ((2 * gr c (d ++ [y]) l + 1) % 2) 1 with | true => _ :: wl P.length l.length (d.length + 1) ((2 * gr c (d ++ [y]) l + 1) / 2) | false => _) = _
              rw [(odd2 _).1, (odd2 _).2]
            rw [fitsI (show TB.length + 1 ≤ 1000 by omega) (by omega), hw]
            simp only [cond_true]
            rw [i3, List.append_assoc]
            rfl
        | false =>
          have hg : gr (c + 1) d ((y + 1) :: l) = 2 * gr (c + 1) (d ++ [y + 1]) l := by rw [gr_s, hx]
          exact skipR _ hg rfl _ (by rw [e8]; rfl)
theorem f23_1_eq (a : List Int) (N : Nat) (xh : Int) {b : Nat} {l : List Nat} {T : List (Int × Int)} (h : First b l T) : ∀ (P : List Nat) (fuel : Nat) (TB : List (Int × Int)), P.length = b → b + l.length = N → N ≤ 8 → l.length < fuel → TB.length ≤ 8 * b → (∀ x ∈ l, x ≤ 7) →
    f23_1 1001 fuel a (N : Int) (b : Int) xh (toI (P ++ l)) TB = some (xh, TB ++ T) := by
  induction h with
  | nil b =>
    intro P fuel TB hP hN h8 hf hTB _
    obtain ⟨fuel, rfl⟩ : ∃ n, fuel = n + 1 := ⟨fuel - 1, by simp at hf; omega⟩
    rw [f23_1, dcF (p := (b : Int) < (N : Int)) (by simp at hN; omega), List.append_nil TB]
    rfl
  | @cons b c l q s T hm hq h ih =>
    intro P fuel TB hP hN h8 hf hTB hs
    simp only [List.length_cons] at hN hf
    obtain ⟨fuel, rfl⟩ : ∃ n, fuel = n + 1 := ⟨fuel - 1, by omega⟩
    have hs' : ∀ x ∈ l, x ≤ 7 := fun x hx => hs x (List.mem_cons_of_mem _ hx)
    subst hP
    obtain ⟨q2, c', i1, i2, i3⟩ := f23_2_eq a (N : Int) xh P l c [] 1001 TB (by simp; omega) (by omega) (by omega) (hs c (List.mem_cons_self ..)) (fun x hx => by cases hx) hs'
    rw [gr_is hm] at i1 i3
    rw [hq] at i1
    cases i1
    have hwl : (wl P.length l.length 0 s).length ≤ l.length := by rw [wl_len]; exact pop_le _ _
    have i4 := ih (P ++ [c']) fuel (TB ++ wl P.length l.length 0 s) (by simp) (by rw [les_len hq]; omega) h8 (by rw [les_len hq]; omega) (by rw [List.length_append]; omega) (les_small hq hs')
    rw [f23_1, dcT (p := ((P.length : Nat) : Int) < (N : Int)) (by omega), nat_succ _ (by omega)]
    have i3' : f23_2 1001 1001 a (N : Int) ((P.length : Nat) : Int) xh ((P.length + 1 : Nat) : Int) (toI (P ++ c :: l)) TB = some (toI (P ++ c' :: q), TB ++ wl P.length l.length 0 s) := i3
    show ((f23_2 1001 1001 a (N : Int) ((P.length : Nat) : Int) xh ((P.length + 1 : Nat) : Int) (toI (P ++ c :: l)) TB).bind fun o2 => f23_1 1001 fuel a (N : Int) ((P.length + 1 : Nat) : Int) xh o2.1 o2.2) = _
    rw [i3']
    have e : P ++ c' :: q = P ++ [c'] ++ q := by simp
    show f23_1 1001 fuel a (N : Int) ((P.length + 1 : Nat) : Int) xh (toI (P ++ c' :: q)) (TB ++ wl P.length l.length 0 s) = _
    rw [e, i4, List.append_assoc]
end Go.Xm.Mk
namespace Go.Xm.Mk
set_option linter.unusedVariables false
set_option linter.unusedSimpArgs false
set_option maxRecDepth 20000
def keyN : Nat → List Nat → List Int
  | 0, _ => []
  | n + 1, [] => 0 :: keyN n []
  | n + 1, x :: l => ((x + 1 : Nat) : Int) :: keyN n l
theorem keyN_len : ∀ (n : Nat) (l : List Nat), (keyN n l).length = n
  | 0, _ => rfl
  | n + 1, [] => by show (keyN n []).length + 1 = _; rw [keyN_len n]
  | n + 1, x :: l => by show (keyN n l).length + 1 = _; rw [keyN_len n]
theorem keyN_inj : ∀ (n : Nat) (l l' : List Nat), l.length ≤ n → l'.length ≤ n → keyN n l = keyN n l' → l = l'
  | 0, [], [], _, _, _ => rfl
  | n + 1, [], [], _, _, _ => rfl
  | n + 1, [], y :: l', _, _, h => by
    have h1 : (0 : Int) = ((y + 1 : Nat) : Int) := (List.cons.inj h).1
    omega
  | n + 1, x :: l, [], _, _, h => by
    have h1 : ((x + 1 : Nat) : Int) = (0 : Int) := (List.cons.inj h).1
    omega
  | n + 1, x :: l, y :: l', h1, h2, h => by
    have h3 : ((x + 1 : Nat) : Int) = ((y + 1 : Nat) : Int) := (List.cons.inj h).1
    have h4 := keyN_inj n l l' (by simpa using h1) (by simpa using h2) (List.cons.inj h).2
    rw [h4, show x = y by omega]
theorem hasA_putA {α : Type} (v : α) (k x : List Int) : ∀ l : List (List Int × α), hasA (putA l k v) x = if x = k then true else hasA l x
  | [] => by
    show (if k = x then true else false) = if x = k then true else false
    by_cases e : x = k
    · rw [if_pos e, if_pos e.symm]
    · rw [if_neg e, if_neg (Ne.symm e)]
  | p :: l => by
    have ih := hasA_putA v k x l
    unfold putA
    by_cases e : p.1 = k
    · rw [if_pos e]
      show (if k = x then true else hasA l x) = if x = k then true else (if p.1 = x then true else hasA l x)
      by_cases e2 : x = k
      · rw [if_pos e2, if_pos e2.symm]
      · rw [if_neg e2, if_neg (Ne.symm e2), if_neg (fun q => e2 (q.symm.trans e))]
    · rw [if_neg e]
      show (if p.1 = x then true else hasA (putA l k v) x) = if x = k then true else (if p.1 = x then true else hasA l x)
      rw [ih]
      by_cases e2 : p.1 = x
      · rw [if_pos e2, if_pos e2]; split <;> rfl
      · rw [if_neg e2, if_neg e2]
def MapOk (mp : List (List Int × Int)) : Prop := lensA 8 mp = true ∧ ∀ l : List Nat, l.length ≤ 8 → hasA mp (keyN 8 l) = true → getA 0 mp (keyN 8 l) = ((cnt l : Nat) : Int)
theorem MapOk.nil : MapOk [] := ⟨rfl, fun l _ h => by cases h⟩
theorem MapOk.put {mp : List (List Int × Int)} (h : MapOk mp) {l : List Nat} (hl : l.length ≤ 8) : MapOk (putA mp (keyN 8 l) ((cnt l : Nat) : Int)) := by
  refine ⟨lensA_put (by rw [keyN_len]; rfl) h.1, fun l' hl' hh => ?_⟩
  rw [getA_putA]
  rw [hasA_putA] at hh
  by_cases e : keyN 8 l' = keyN 8 l
  · rw [if_pos e, keyN_inj 8 l' l hl' hl e]
  · rw [if_neg e]
    rw [if_neg e] at hh
    exact h.2 l' hl' hh
theorem f72_1_eq (mp : List (List Int × Int)) (b : List Int) (l : List Nat) (h8 : l.length ≤ 8) (hs : ∀ x ∈ l, x ≤ 7) : ∀ (r i fuel : Nat) (A : List Int) (R : List Nat), i + r = l.length → r < fuel → A.length = i → l.drop i = R →
    f72_1 1001 fuel mp b ((l.length : Nat) : Int) (i : Int) (toI l) (A ++ keyN (8 - i) []) = some (toI l, A ++ keyN (8 - i) R)
  | 0, i, fuel + 1, A, R, hi, _, hA, hR => by
    have e : R = [] := by rw [← hR]; exact List.drop_eq_nil_of_le (by omega)
    rw [f72_1, dcF (p := (i : Int) < ((l.length : Nat) : Int)) (by omega), e]
    rfl
  | r + 1, i, fuel + 1, A, R, hi, hf, hA, hR => by
    have hil : i < l.length := by omega
    have hd : l.drop i = l[i] :: l.drop (i + 1) := List.drop_eq_getElem_cons hil
    have hx := hs _ (List.getElem_mem hil)
    obtain ⟨k, hk⟩ : ∃ k, 8 - i = k + 1 := ⟨7 - i, by omega⟩
    have hk2 : 8 - (i + 1) = k := by omega
    have e1 : List.getD (toI l) i 0 = ((l[i] : Nat) : Int) := by
      unfold toI
      rw [List.getD_eq_getElem?_getD, List.getElem?_map, List.getElem?_eq_getElem hil]; rfl
    have e2 : w64 (((l[i] : Nat) : Int) + 1) = ((l[i] + 1 : Nat) : Int) := by rw [w64i (by omega) (by omega)]; omega
    have e3 : (A ++ keyN (8 - i) []).length = 8 := by rw [List.length_append, keyN_len]; omega
    have t : Int.toNat (i : Int) = i := rfl
    have e4 : keyN (8 - i) [] = 0 :: keyN k [] := by rw [hk]; rfl
    have ih := f72_1_eq mp b l h8 hs r (i + 1) fuel (A ++ [((l[i] + 1 : Nat) : Int)]) (l.drop (i + 1)) (by omega) (by omega) (by simp; omega) rfl
    rw [hk2] at ih
    rw [f72_1, dcT (p := (i : Int) < ((l.length : Nat) : Int)) (by omega), toI_len, inR hil, inR (show i < 8 by omega), e3, t, dcT (show i < 8 by omega), e1, e2, nat_succ _ (by omega), e4, set_mid _ _ _ _ hA.symm]
    rw [List.append_assoc, List.append_assoc] at ih
    have e5 : R = l[i] :: l.drop (i + 1) := by rw [← hR, hd]
    rw [e5, hk]
    exact ih
theorem f72_3_eq (b : List Int) (x11 x43 x44 : Int) (mp : List (List Int × Int)) (lh2 lh3 : List Int) : ∀ (s fuel : Nat) (L : List Int), s < fuel → s < 2 ^ L.length → L.length ≤ 7 → (∀ x ∈ L, (s : Int) - 1000 ≤ x ∧ x ≤ 100) →
    f72_3 1001 fuel b x11 x43 x44 mp lh2 lh3 (s : Int) L = some (decZ L s) := by
  intro s
  induction s using Nat.strongRecOn with
  | _ s ih =>
    intro fuel L hf hs hl hx
    obtain ⟨fuel, rfl⟩ : ∃ n, fuel = n + 1 := ⟨fuel - 1, by omega⟩
    by_cases h0 : s = 0
    · subst h0
      rw [decZ_0]
      rfl
    · obtain ⟨t1, t2, t3⟩ := tz_n hl hs h0
      obtain ⟨d1, d2, d3⟩ := decZ_clr L s hs h0
      have e1 : (((s : Nat) : Int) != 0) = true := bne_iff_ne.2 (by omega)
      have t : Int.toNat ((lowb L.length s : Nat) : Int) = lowb L.length s := rfl
      have hg := hx _ (show L.getD (lowb L.length s) 0 ∈ L by
        rw [List.getD_eq_getElem?_getD, List.getElem?_eq_getElem d1]; exact List.getElem_mem _)
      rw [f72_3, e1, t1, t2, t3, inR d1, t, w64i (by omega) (by omega)]
      have hl2 : (L.set (lowb L.length s) (L.getD (lowb L.length s) 0 - 1)).length = L.length := List.length_set ..
      have h2 := ih (clr L.length s) d2 fuel (L.set (lowb L.length s) (L.getD (lowb L.length s) 0 - 1)) (by omega) (by rw [hl2]; omega) (by rw [hl2]; exact hl) (fun x hm => by
        rcases List.mem_or_eq_of_mem_set hm with h | h
        · have := hx x h; omega
        · omega)
      rw [d3] at h2
      exact h2
theorem f72_2_eq (F : List (List Int × Int) → List Int → Option (Int × List (List Int × Int))) (b : List Int) (c : Nat) (l : List Nat) (h8 : l.length ≤ 7) (hs : ∀ x ∈ l, x ≤ 7)
    (hF : ∀ mp, MapOk mp → ∀ r : List Nat, r.length = l.length → (∀ x ∈ r, x ≤ 7) → ∃ mp', F mp (toI r) = some (((cnt r : Nat) : Int), mp') ∧ MapOk mp') (ky : List Int) : ∀ (r s fuel x : Nat) (mp : List (List Int × Int)), MapOk mp → s + r = 2 ^ l.length → r < fuel → x + Sr (Tm c l) r s ≤ 1000000000 →
    ∃ mp', MapOk mp' ∧ f72_2 1001 F fuel b (x : Int) ((2 ^ l.length : Nat) : Int) (s : Int) mp (toI (c :: l)) ky = some (((x + Sr (Tm c l) r s : Nat) : Int), mp', ky)
  | 0, s, fuel + 1, x, mp, hmp, hi, _, _ => by
    refine ⟨mp, hmp, ?_⟩
    rw [f72_2, dcF (p := (s : Int) < ((2 ^ l.length : Nat) : Int)) (by omega)]
    rfl
  | r + 1, s, fuel + 1, x, mp, hmp, hi, hf, hb => by
    have hl : (toI (c :: l)).length = l.length + 1 := by rw [toI_len]; rfl
    have h27 : 2 ^ l.length ≤ 2 ^ 7 := Nat.pow_le_pow_right (by omega) h8
    have e2 : List.getD (toI (c :: l)) 0 0 = ((c : Nat) : Int) := rfl
    have hSr : Sr (Tm c l) (r + 1) s = Tm c l s + Sr (Tm c l) r (s + 1) := rfl
    rw [hSr] at hb ⊢
    have e1 : IntKind.wrap .u64 ((s : Int) + 1) = ((s + 1 : Nat) : Int) := by
      have : ∀ k : Fin 128, IntKind.wrap .u64 ((k.val : Int) + 1) = ((k.val + 1 : Nat) : Int) := by decide
      exact this ⟨s, by omega⟩
    have step : ∀ (y : Nat) (mp : List (List Int × Int)), MapOk mp → y = x + Tm c l s → ∃ mp', MapOk mp' ∧ f72_2 1001 F fuel b (y : Int) ((2 ^ l.length : Nat) : Int) (((s + 1 : Nat)) : Int) mp (toI (c :: l)) ky = some (((x + (Tm c l s + Sr (Tm c l) r (s + 1)) : Nat) : Int), mp', ky) := fun y mp hmp hy => by
      obtain ⟨mp', h1, h2⟩ := f72_2_eq F b c l h8 hs hF ky r (s + 1) fuel y mp hmp (by omega) (by omega) (by omega)
      refine ⟨mp', h1, ?_⟩
      rw [h2]
      congr 3; omega
    have hin : inRow 0 (l.length + 1) = true := inRow_iff.2 ⟨by omega, by omega⟩
    rw [f72_2, dcT (p := (s : Int) < ((2 ^ l.length : Nat) : Int)) (by omega), ones_n (n := l.length) h8 (by omega), e1, hl, hin, e2]
    show ∃ mp', _ ∧ cond (((pop l.length s : Nat) : Int) != ((c : Nat) : Int)) _ _ = _
    by_cases hp : pop l.length s = c
    · have e3 : (((pop l.length s : Nat) : Int) != ((c : Nat) : Int)) = false := by rw [hp]; simp
      have hT : Tm c l s = opt cnt (les l s) := by unfold Tm; rw [if_pos hp]
      have e4 : l.length + 1 - 1 = l.length := rfl
      have e5 : List.take l.length (List.drop 1 (toI (c :: l))) = toI l := by
        show List.take l.length (toI l) = toI l
        exact List.take_of_length_le (by rw [toI_len]; omega)
      have h3 := f72_3_eq b (x : Int) ((2 ^ l.length : Nat) : Int) (s : Int) mp (toI (c :: l)) ky s 1001 (toI l) (by omega) (by rw [toI_len]; omega) (by rw [toI_len]; omega) (fun x hx => by
        obtain ⟨y, hy, rfl⟩ := List.mem_map.1 hx
        have := hs y hy
        show (s : Int) - 1000 ≤ ((y : Nat) : Int) ∧ ((y : Nat) : Int) ≤ 100
        omega)
      rw [e3, e4, e5, h3, cutOK_iff.2 (show (0 : Int) ≤ 1 ∧ (1 : Int) ≤ ((l.length + 1 : Nat) : Int) ∧ ((l.length + 1 : Nat) : Int) ≤ ((l.length + 1 : Nat) : Int) ∧ ((l.length + 1 : Nat) : Int) ≤ ((l.length + 1 : Nat) : Int) by omega), dcT (show 1 + l.length ≤ l.length + 1 by omega), dcT (Nat.le_refl l.length), fitsI (show l.length ≤ 1000 by omega) (by omega)]
      have hdl : (decZ (toI l) s).length = l.length := by rw [decZ_len, toI_len]
      show ∃ mp', _ ∧ cond (decide (1 ≤ (decZ (toI l) s).length)) (cond (fitsB ((decZ (toI l) s).length + 1) 8) _ _) _ = _
      rw [hdl]
      cases l with
      | nil =>
        have hz : s = 0 := by simp at hi; omega
        subst hz
        have h0 : f97 1001 [0] = some 0 := rfl
        rw [dcF (p := 1 ≤ ([] : List Nat).length) (by simp), h0]
        have e6 : w64 ((x : Int) + 1) = ((x + 1 : Nat) : Int) := by
          have : Sr (Tm c []) r 1 ≥ 0 := Nat.zero_le _
          rw [w64i (by omega) (by omega)]; omega
        obtain ⟨mp', q1, q2⟩ := step (x + 1) mp hmp (by rw [hT]; rfl)
        refine ⟨mp', q1, ?_⟩
        rw [← e6] at q2
        exact q2
      | cons y t =>
        rw [dcT (p := 1 ≤ (y :: t).length) (by simp), fitsI (show (y :: t).length + 1 ≤ 1000 by omega) (by omega)]
        obtain ⟨v, v1, v2⟩ := f97_eq (decZ (toI (y :: t)) s) (by omega)
        have hld := les_decZ (y :: t) s
        rw [v1]
        cases hq : les (y :: t) s with
        | none =>
          rw [hq] at hld hT
          obtain ⟨z, hz, hz0⟩ := hld
          have hv : ¬ (v ≥ 0) := fun q => by have := v2.1 q z hz; omega
          show ∃ mp', _ ∧ cond (decide (v ≥ 0)) _ _ = _
          rw [dcF hv]
          exact step x mp hmp (by rw [hT]; rfl)
        | some q =>
          rw [hq] at hld hT
          have hld : decZ (toI (y :: t)) s = toI q := hld
          rw [hld] at v2 ⊢
          have hall : ∀ x ∈ toI q, 0 ≤ x := fun x hx => by
            obtain ⟨y, _, rfl⟩ := List.mem_map.1 hx
            exact Int.natCast_nonneg y
          obtain ⟨mp2, m1, m2⟩ := hF mp hmp q (les_len hq) (les_small hq hs)
          show ∃ mp', _ ∧ cond (decide (v ≥ 0)) ((F mp (toI q)).bind fun r23 => f72_2 1001 F fuel b (w64 ((x : Int) + r23.1)) ((2 ^ (y :: t).length : Nat) : Int) ((s + 1 : Nat) : Int) r23.2 (toI (c :: y :: t)) ky) _ = _
          rw [dcT (v2.2 hall), m1]
          have hT2 : Tm c (y :: t) s = cnt q := by rw [hT]; rfl
          have e6 : w64 ((x : Int) + ((cnt q : Nat) : Int)) = ((x + cnt q : Nat) : Int) := by rw [w64i (by omega) (by omega)]; omega
          show ∃ mp', _ ∧ f72_2 1001 F fuel b (w64 ((x : Int) + ((cnt q : Nat) : Int))) ((2 ^ (y :: t).length : Nat) : Int) ((s + 1 : Nat) : Int) mp2 (toI (c :: y :: t)) ky = _
          rw [e6]
          exact step (x + cnt q) mp2 m2 (by rw [hT2])
    · have e3 : (((pop l.length s : Nat) : Int) != ((c : Nat) : Int)) = true := bne_iff_ne.2 (by omega)
      rw [e3]
      exact step x mp hmp (by unfold Tm; rw [if_neg hp]; rfl)
theorem f72_eq : ∀ (n fuel : Nat) (l : List Nat) (mp : List (List Int × Int)), l.length = n → n ≤ 8 → n < fuel → (∀ x ∈ l, x ≤ 7) → MapOk mp → ∃ mp', f72 1001 fuel mp (toI l) = some (((cnt l : Nat) : Int), mp') ∧ MapOk mp'
  | n, fuel + 1, l, mp, hl, h8, hf, hs, hmp => by
    obtain ⟨d, h1, h2, h3⟩ := desc_of l
    have hdl := h2.length_eq
    have hds : ∀ x ∈ d, x ≤ 7 := fun x hx => hs x (h2.mem_iff.1 hx)
    have hcnt : cnt l = cnt d := (cnt_perm _ (Nat.le_refl _) h2).symm
    rw [f72, f61_eq 1001 (by omega) (toI l) (by rw [toI_len]; omega), h1, hcnt]
    cases d with
    | nil => exact ⟨mp, rfl, hmp⟩
    | cons c t =>
      simp only [List.length_cons] at hdl
      have e0 : ((((toI (c :: t)).length : Nat) : Int) == 0) = false := beq_eq_false_iff_ne.2 (by rw [toI_len, List.length_cons]; omega)
      have hk := f72_1_eq mp (toI l) (c :: t) (by simp; omega) hds (c :: t).length 0 1001 [] (c :: t) (by omega) (by simp; omega) rfl rfl
      have hk' : f72_1 1001 1001 mp (toI l) (((toI (c :: t)).length : Nat) : Int) 0 (toI (c :: t)) [0, 0, 0, 0, 0, 0, 0, 0] = some (toI (c :: t), keyN 8 (c :: t)) := by rw [toI_len]; exact hk
      simp only [Option.bind_some]
      rw [e0, hk']
      simp only [cond_false, Option.bind_some]
      have kl := keyN_len 8 (c :: t)
      rw [kl, dcT (rfl : 8 = 8), hmp.1]
      simp only [cond_true, Nat.beq_refl, Bool.and_self]
      cases hh : hasA mp (keyN 8 (c :: t)) with
      | true =>
        have := hmp.2 (c :: t) (by simp; omega) hh
        refine ⟨mp, ?_, hmp⟩
        simp only [cond_true]
        rw [this]
      | false =>
        simp only [cond_false]
        have hs' : ∀ x ∈ t, x ≤ 7 := fun x hx => hds x (List.mem_cons_of_mem _ hx)
        have hT : Sr (Tm c t) (2 ^ t.length) 0 = cnt (c :: t) := by rw [cnt_cons]; exact sum_sets t c cnt
        have hle := cnt_le (t.length + 1) (c :: t) rfl
        have hB := Bd8 (n := t.length + 1) (by omega)
        have h27 : 2 ^ t.length ≤ 2 ^ 7 := Nat.pow_le_pow_right (by omega) (by omega)
        obtain ⟨mp2, m1, m2⟩ := f72_2_eq (f72 1001 fuel) (toI l) c t (by omega) hs' (fun mp hmp r hr hx => f72_eq t.length fuel r mp hr (by omega) (by omega) hx hmp) (keyN 8 (c :: t)) (2 ^ t.length) 0 1001 0 mp hmp (by omega) (by omega) (by rw [hT]; omega)
        rw [hT, Nat.zero_add] at m2
        have e1 : w64 ((((toI (c :: t)).length : Nat) : Int) - 1) = ((t.length : Nat) : Int) := by rw [toI_len, List.length_cons, w64i (by omega) (by omega)]; omega
        rw [e1, dcT (p := (0 : Int) ≤ ((t.length : Nat) : Int)) (by omega), shl1u (by omega)]
        have m2' : f72_2 1001 (f72 1001 fuel) 1001 (toI l) 0 ((2 ^ t.length : Nat) : Int) 0 mp (toI (c :: t)) (keyN 8 (c :: t)) = some (((cnt (c :: t) : Nat) : Int), mp2, keyN 8 (c :: t)) := m2
        rw [m2']
        simp only [cond_true, Option.bind_some]
        refine ⟨putA mp2 (keyN 8 (c :: t)) ((cnt (c :: t) : Nat) : Int), ?_, m1.put (by simp; omega)⟩
        show cond (decide ((keyN 8 (c :: t)).length = 8)) (cond (Nat.beq (keyN 8 (c :: t)).length 8 && lensA 8 mp2) _ none) none = _
        rw [kl, dcT (rfl : 8 = 8), m1.1]
        rfl
theorem f65_eq (m : Nat) (a b c : Int) : f65 m a b c = some (decide (b ≤ a ∧ a ≤ c)) := by
  unfold f65
  by_cases h : b ≤ a
  · rw [dcT h]; simp [h]
  · rw [dcF h]; simp [h]
theorem f66_eq (m : Nat) (a b c : Int) : f66 m a b c = some (decide (b ≤ a ∧ a ≤ c)) := by
  unfold f66
  by_cases h : b ≤ a
  · rw [dcT (p := a ≥ b) h]; simp [h]
  · rw [dcF (p := a ≥ b) h]; simp [h]
def fit (n : Int) : List Int → Bool
  | [] => true
  | x :: l => decide (0 ≤ x ∧ x ≤ n - 1) && fit n l
theorem f21_1_eq (m : Nat) (a : List Int) (h8 : a.length ≤ 8) : ∀ (r i fuel : Nat), i + r = a.length → r < fuel →
    (fit (a.length : Int) (a.drop i) = true ∧ f21_1 m fuel a ((a.length : Nat) : Int) (i : Int) ((a.length : Nat) : Int) = some (.x0 ((a.length : Nat) : Int))) ∨ (fit (a.length : Int) (a.drop i) = false ∧ ∃ j : Nat, f21_1 m fuel a ((a.length : Nat) : Int) (i : Int) ((a.length : Nat) : Int) = some (.r (j : Int) ((a.length : Nat) : Int)))
  | 0, i, fuel + 1, hi, _ => by
    rw [f21_1, dcF (p := (i : Int) < ((a.length : Nat) : Int)) (by omega), List.drop_eq_nil_of_le (by omega)]
    exact .inl ⟨rfl, rfl⟩
  | r + 1, i, fuel + 1, hi, hf => by
    have hil : i < a.length := by omega
    rw [f21_1, dcT (p := (i : Int) < ((a.length : Nat) : Int)) (by omega), inR hil]
    have t : Int.toNat (i : Int) = i := rfl
    rw [t, w64i (by omega) (by omega), f65_eq, drop_getD hil, nat_succ _ (by omega)]
    unfold fit
    by_cases e : 0 ≤ a.getD i 0 ∧ a.getD i 0 ≤ ((a.length : Nat) : Int) - 1
    · rw [dcT e]
      rcases f21_1_eq m a h8 r (i + 1) fuel (by omega) (by omega) with ⟨q1, q2⟩ | ⟨q1, j, q2⟩
      · exact .inl ⟨by rw [q1]; rfl, q2⟩
      · exact .inr ⟨by rw [q1]; rfl, j, q2⟩
    · rw [dcF e]
      exact .inr ⟨rfl, i, rfl⟩
theorem f22_1_eq (m : Nat) (a : List Int) (h8 : a.length ≤ 8) : ∀ (r i fuel : Nat), i + r = a.length → r < fuel →
    f22_1 m fuel a (i : Int) = some (match fit (a.length : Int) (a.drop i) with | true => .x0 | false => .r)
  | 0, i, fuel + 1, hi, _ => by
    rw [f22_1, dcF (p := (i : Int) < ((a.length : Nat) : Int)) (by omega), List.drop_eq_nil_of_le (by omega)]
    rfl
  | r + 1, i, fuel + 1, hi, hf => by
    have hil : i < a.length := by omega
    rw [f22_1, dcT (p := (i : Int) < ((a.length : Nat) : Int)) (by omega), inR hil]
    have t : Int.toNat (i : Int) = i := rfl
    rw [t, w64i (by omega) (by omega), f66_eq, drop_getD hil, nat_succ _ (by omega)]
    unfold fit
    by_cases e : 0 ≤ a.getD i 0 ∧ a.getD i 0 ≤ ((a.length : Nat) : Int) - 1
    · rw [dcT e]
      have := f22_1_eq m a h8 r (i + 1) fuel (by omega) (by omega)
      exact this
    · rw [dcF e]
      rfl
def ckR (a : List Int) : Int := if a.length = 0 then 4 else if 8 < a.length then 3 else if fit a.length a = true then 0 else 1
theorem f21_eq (m : Nat) (hm : 1001 ≤ m) (a : List Int) (hl : a.length ≤ 1000) : f21 m a = some (ckR a) := by
  unfold f21 ckR
  by_cases h0 : a.length = 0
  · rw [if_pos h0, h0]; rfl
  · rw [if_neg h0]
    have e0 : (((a.length : Nat) : Int) == 0) = false := by simp; intro q; subst q; simp at h0
    rw [e0]
    by_cases h8 : 8 < a.length
    · rw [if_pos h8, dcT (p := ((a.length : Nat) : Int) > 8) (by omega)]; rfl
    · rw [if_neg h8, dcF (p := ((a.length : Nat) : Int) > 8) (by omega)]
      show ((f21_1 m m a ((a.length : Nat) : Int) 0 ((a.length : Nat) : Int)).bind _) = _
      rcases f21_1_eq m a (by omega) a.length 0 m (by omega) (by omega) with ⟨q1, q2⟩ | ⟨q1, j, q2⟩
      · have q2' : f21_1 m m a ((a.length : Nat) : Int) 0 ((a.length : Nat) : Int) = _ := q2
        rw [List.drop_zero] at q1
        rw [q2', if_pos q1]
        rfl
      · have q2' : f21_1 m m a ((a.length : Nat) : Int) 0 ((a.length : Nat) : Int) = _ := q2
        rw [List.drop_zero] at q1
        rw [q2', if_neg (by rw [q1]; simp)]
        show cond (decide ((j : Int) ≥ 0)) (some (1 : Int)) (some (0 : Int)) = some 1
        rw [dcT (p := (j : Int) ≥ 0) (by omega)]
        rfl
theorem f22_eq (m : Nat) (hm : 1001 ≤ m) (a : List Int) (hl : a.length ≤ 1000) : f22 m a = some (ckR a) := by
  unfold f22 ckR
  by_cases h0 : a.length = 0
  · rw [if_pos h0, h0]; rfl
  · rw [if_neg h0]
    have e0 : (((a.length : Nat) : Int) == 0) = false := by simp; intro q; subst q; simp at h0
    rw [e0]
    by_cases h8 : 8 < a.length
    · rw [if_pos h8, dcT (p := ((a.length : Nat) : Int) > 8) (by omega)]; rfl
    · rw [if_neg h8, dcF (p := ((a.length : Nat) : Int) > 8) (by omega)]
      have q2 := f22_1_eq m a (by omega) a.length 0 m (by omega) (by omega)
      have q2' : f22_1 m m a 0 = _ := q2
      show ((f22_1 m m a 0).bind _) = _
      rw [q2', List.drop_zero]
      cases fit (a.length : Int) a <;> rfl
theorem fit_all {n : Int} : ∀ {l : List Int}, fit n l = true → ∀ x ∈ l, 0 ≤ x ∧ x ≤ n - 1
  | y :: l, h, x, hx => by
    unfold fit at h
    rw [Bool.and_eq_true, decide_eq_true_eq] at h
    rcases List.mem_cons.1 hx with rfl | hx
    · exact h.1
    · exact fit_all h.2 x hx
theorem nat_of {a : List Int} (h : ckR a = 0) : ∃ l : List Nat, a = toI l ∧ 1 ≤ l.length ∧ l.length ≤ 8 ∧ ∀ x ∈ l, x ≤ 7 := by
  unfold ckR at h
  by_cases h0 : a.length = 0
  · rw [if_pos h0] at h; omega
  · rw [if_neg h0] at h
    by_cases h8 : 8 < a.length
    · rw [if_pos h8] at h; omega
    · rw [if_neg h8] at h
      by_cases hf : fit a.length a = true
      · have hx := fit_all hf
        obtain ⟨l, hl⟩ := nats_of (d := a) (fun x hx' => (hx x hx').1)
        have hll : l.length = a.length := by rw [hl, toI_len]
        refine ⟨l, hl, by omega, by omega, fun x hx' => ?_⟩
        have := hx (x : Int) (by rw [hl]; exact List.mem_map.2 ⟨x, hx', rfl⟩)
        omega
      · rw [if_neg hf] at h; omega
theorem f25_1_eq (n : Int) (T : List (Int × Int)) (hT : T.length ≤ 100) : ∀ (r i fuel : Nat), i + r = T.length → r < fuel → f25_1 1001 fuel n T n T (i : Int) = some .x0
  | 0, i, fuel + 1, hi, _ => by
    rw [f25_1, dcF (p := (i : Int) < ((T.length : Nat) : Int)) (by omega)]
    rfl
  | r + 1, i, fuel + 1, hi, hf => by
    rw [f25_1, dcT (p := (i : Int) < ((T.length : Nat) : Int)) (by omega), inR (show i < T.length by omega), nat_succ _ (by omega), f25_1_eq n T hT r (i + 1) fuel (by omega) (by omega)]
    simp
theorem f25_eq (n : Int) (T : List (Int × Int)) (hT : T.length ≤ 100) : f25 1001 n T n T = some true := by
  have h := f25_1_eq n T hT T.length 0 1001 (by omega) (by omega)
  have h' : f25_1 1001 1001 n T n T 0 = some .x0 := h
  unfold f25
  rw [h']
  simp
theorem f4_true (a : List Int) : f4 1001 a = some true := by
  unfold f4
  by_cases ha : a.length > 60
  · rw [dcT (p := ((a.length : Nat) : Int) > 60) (by omega)]; rfl
  · rw [dcF (p := ((a.length : Nat) : Int) > 60) (by omega)]
    have h21 := f21_eq 1001 (by omega) a (by omega)
    have h22 := f22_eq 1001 (by omega) a (by omega)
    by_cases hz : ckR a = 0
    · obtain ⟨l, rfl, h1, h8, hs⟩ := nat_of hz
      rw [hz] at h21 h22
      have hla := toI_len l
      cases hr : real l with
      | false =>
        have c59 := can59 l h8 hs
        have c60 := can60 l h8 hs
        rw [hr] at c59 c60
        have e23 : f23 1001 (toI l) = some (0, [], 12) := by unfold f23; rw [h21, c59]; rfl
        have e24 : f24 1001 (toI l) = some (0, [], 12) := by unfold f24; rw [h22, c60]; rfl
        have e25 := f25_eq 0 [] (by simp)
        have hc : cnt l = 0 := by
          unfold real at hr
          have := of_decide_eq_false hr
          omega
        rw [e23, e24]
        simp only [cond_false, Option.bind_some]
        rw [e25]
        simp only [Option.bind_some, Bool.not_true, cond_false, bne_self_eq_false]
        by_cases h8' : l.length = 8
        · rw [hla, h8']; rfl
        · obtain ⟨mp', e72, _⟩ := f72_eq l.length 1001 l [] rfl (by omega) (by omega) hs MapOk.nil
          have e73 := f73_eq l.length 1001 l rfl (by omega) (by omega) hs
          rw [hc] at e72 e73
          have e26 : f26 1001 (toI l) = some (0, 0) := by unfold f26; rw [h21]; show ((f72 1001 1001 [] (toI l)).bind _) = _; rw [e72]; rfl
          have e27 : f27 1001 (toI l) = some (0, 0) := by unfold f27; rw [h22]; show ((f73 1001 1001 (toI l)).bind _) = _; rw [e73]; rfl
          have e28 : f28 1001 (toI l) = some (false, 12) := by unfold f28; rw [e26]; rfl
          have e29 : f29 1001 (toI l) = some (false, 12) := by unfold f29; rw [h22, c60]; rfl
          have e8 : ((((toI l).length : Nat) : Int) == 8) = false := beq_eq_false_iff_ne.2 (by rw [hla]; omega)
          rw [e8, e26, e27, e28, e29]
          rfl
      | true =>
        have c59 := can59 l h8 hs
        have c60 := can60 l h8 hs
        rw [hr] at c59 c60
        obtain ⟨T, hT⟩ := first_ex l.length 0 l rfl hr
        obtain ⟨hTl, e71⟩ := f71_eq hT 1001 (by omega) (by omega) hs
        have e71 : f71 1001 1001 (toI l) 0 = some T := e71
        have h231 := f23_1_eq (toI l) l.length ((l.length : Nat) : Int) hT [] 1001 [] rfl (by omega) h8 (by omega) (by simp) hs
        have h231 : f23_1 1001 1001 (toI l) ((l.length : Nat) : Int) 0 ((l.length : Nat) : Int) (toI l) [] = some (((l.length : Nat) : Int), T) := h231
        have e23 : f23 1001 (toI l) = some (((l.length : Nat) : Int), T, 0) := by
          unfold f23; rw [h21, c59]
          show cond (fitsB (toI l).length 8) ((f23_1 1001 1001 (toI l) (((toI l).length : Nat) : Int) 0 (((toI l).length : Nat) : Int) (toI l) []).bind _) none = _
          rw [hla, fitsI (show l.length ≤ 1000 by omega) (by omega), h231]; rfl
        have e24 : f24 1001 (toI l) = some (((l.length : Nat) : Int), T, 0) := by
          unfold f24; rw [h22, c60]
          show ((f71 1001 1001 (toI l) 0).bind fun r3 => some ((((toI l).length : Nat) : Int), r3, (0 : Int))) = _
          rw [e71, hla]; rfl
        have e25 := f25_eq ((l.length : Nat) : Int) T (by omega)
        rw [e23, e24]
        simp only [cond_false, Option.bind_some]
        rw [e25]
        simp only [Option.bind_some, Bool.not_true, cond_false, bne_self_eq_false]
        by_cases h8' : l.length = 8
        · rw [hla, h8']; rfl
        · obtain ⟨mp', e72, _⟩ := f72_eq l.length 1001 l [] rfl (by omega) (by omega) hs MapOk.nil
          have e73 := f73_eq l.length 1001 l rfl (by omega) (by omega) hs
          have hc : cnt l ≠ 0 := by
            unfold real at hr
            have := of_decide_eq_true hr
            omega
          have ez : (((cnt l : Nat) : Int) == 0) = false := beq_eq_false_iff_ne.2 (by omega)
          have e26 : f26 1001 (toI l) = some (((cnt l : Nat) : Int), 0) := by unfold f26; rw [h21]; show ((f72 1001 1001 [] (toI l)).bind _) = _; rw [e72]; rfl
          have e27 : f27 1001 (toI l) = some (((cnt l : Nat) : Int), 0) := by unfold f27; rw [h22]; show ((f73 1001 1001 (toI l)).bind _) = _; rw [e73]; rfl
          have e28 : f28 1001 (toI l) = some (((cnt l : Nat) : Int) == 1, 0) := by unfold f28; rw [e26]; show cond (((cnt l : Nat) : Int) == 0) _ _ = _; rw [ez]; rfl
          have e29 : f29 1001 (toI l) = some (((cnt l : Nat) : Int) == 1, 0) := by unfold f29; rw [h22, c60]; show ((f73 1001 1001 (toI l)).bind _) = _; rw [e73]; rfl
          have e8 : ((((toI l).length : Nat) : Int) == 8) = false := beq_eq_false_iff_ne.2 (by rw [hla]; omega)
          rw [e8, e26, e27, e28, e29]
          simp
    · have ez : (ckR a != 0) = true := bne_iff_ne.2 hz
      have ez2 : (ckR a == 0) = false := beq_eq_false_iff_ne.2 hz
      have e23 : f23 1001 a = some (0, [], ckR a) := by unfold f23; rw [h21]; show cond (ckR a != 0) _ _ = _; rw [ez]; rfl
      have e24 : f24 1001 a = some (0, [], ckR a) := by unfold f24; rw [h22]; show cond (ckR a == 0) _ (cond (ckR a != 0) _ _) = _; rw [ez, ez2]; rfl
      have e25 := f25_eq 0 [] (by simp)
      have e26 : f26 1001 a = some (0, ckR a) := by unfold f26; rw [h21]; show cond (ckR a != 0) _ _ = _; rw [ez]; rfl
      have e27 : f27 1001 a = some (0, ckR a) := by unfold f27; rw [h22]; show cond (ckR a != 0) _ _ = _; rw [ez]; rfl
      have e28 : f28 1001 a = some (false, ckR a) := by unfold f28; rw [e26]; show cond (ckR a != 0) _ _ = _; rw [ez]; rfl
      have e29 : f29 1001 a = some (false, ckR a) := by unfold f29; rw [h22]; show cond (ckR a == 0) _ (cond (ckR a != 0) _ _) = _; rw [ez, ez2]; rfl
      rw [e23, e24]
      simp only [cond_false, Option.bind_some]
      rw [e25, e26, e27, e28, e29]
      cases ((((a.length : Nat) : Int)) == 8) <;> simp
end Go.Xm.Mk
namespace Go.Proofs.YtfimbmhannndaaaDoor.clubMakes
open Go.Xm Go.RowKit
theorem walk (v0 : Value) (z0 : List Int) (w : World) (hI : seatInv w) (g0 : RowIn w v0 1 (Xm.rowC (Xm.encI .i64) z0) z0.length) (_w0 : ∀ z ∈ z0, (Lit.int .i64 z).wf = true) :
    Calls Tryd.prog 4 #[v0] w fun e w' => e = .returned (.bool true) ∧ Below w.heap.size w w' := by
  have hp : ∀ l : List Value, l.all scal = true → l.all plain = true := fun l h => List.all_eq_true.2 fun v hv => by
    have := List.all_eq_true.1 h v hv
    cases v <;> simp_all [scal, plain]
  exact KC.calls1 (E := E0) (by decide) rfl (hp _ (Xm.rowC_scal (Xm.encI_ok .i64) z0)) rfl (fun z y => f4_ok 1001 z y z0 true (Xm.Mk.f4_true z0)) w g0 (seatInv_size hI) hI
end Go.Proofs.YtfimbmhannndaaaDoor.clubMakes
