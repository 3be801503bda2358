/- Plans of counts, counted: the number does not depend on the counts' order; there is a plan just if the first one can sit with those of the greatest counts. Plain Lean. Conditions: at most 8 counts. -/
import Derived.Test.YtfimbmhannndaaaDoorCf
import Derived.Test.YtfimbmhannndaaaDoorUi
import Derived.Test.YtfimbmhannndaaaDoorUe
namespace Go.Xm.Mk
set_option linter.unusedVariables false
set_option linter.unusedSimpArgs false
set_option maxRecDepth 20000
def G : List Nat → Nat → (List Nat → Nat) → Nat
  | [], 0, f => f []
  | [], _ + 1, _ => 0
  | x :: l, k, f => G l k (fun r => f (x :: r)) + (match k, x with
    | k' + 1, x' + 1 => G l k' (fun r => f (x' :: r))
    | _, _ => 0)
theorem G_cons (x : Nat) (l : List Nat) (k : Nat) (f : List Nat → Nat) : G (x :: l) k f = G l k (fun r => f (x :: r)) + (match k, x with
    | k' + 1, x' + 1 => G l k' (fun r => f (x' :: r))
    | _, _ => 0) := by cases k <;> rfl
theorem G_0 (x : Nat) (l : List Nat) (f : List Nat → Nat) : G (x :: l) 0 f = G l 0 (fun r => f (x :: r)) := by rw [G_cons]; rfl
theorem G_z (l : List Nat) (k : Nat) (f : List Nat → Nat) : G (0 :: l) k f = G l k (fun r => f (0 :: r)) := by rw [G_cons]; cases k <;> rfl
theorem G_s (x : Nat) (l : List Nat) (k : Nat) (f : List Nat → Nat) : G ((x + 1) :: l) (k + 1) f = G l (k + 1) (fun r => f ((x + 1) :: r)) + G l k (fun r => f (x :: r)) := by rw [G_cons]
theorem G_congr : ∀ (l : List Nat) (k : Nat) {f g : List Nat → Nat}, (∀ r, r.length = l.length → f r = g r) → G l k f = G l k g
  | [], 0, f, g, h => h [] rfl
  | [], k + 1, f, g, h => rfl
  | x :: l, k, f, g, h => by
    rw [G_cons, G_cons, G_congr l k (fun r hr => h (x :: r) (by simp [hr]))]
    congr 1
    cases k with
    | zero => rfl
    | succ k => cases x with
      | zero => rfl
      | succ x => exact G_congr l k (fun r hr => h (x :: r) (by simp [hr]))
theorem G_add : ∀ (l : List Nat) (k : Nat) (f g : List Nat → Nat), G l k (fun r => f r + g r) = G l k f + G l k g
  | [], 0, f, g => rfl
  | [], k + 1, f, g => rfl
  | x :: l, 0, f, g => by rw [G_0, G_0, G_0, G_add l 0]
  | 0 :: l, k + 1, f, g => by rw [G_z, G_z, G_z, G_add l (k + 1)]
  | (x + 1) :: l, k + 1, f, g => by rw [G_s, G_s, G_s, G_add l (k + 1), G_add l k]; omega
theorem G_comm : ∀ (l : List Nat) (x y : Nat) (f : List Nat → Nat), G l x (fun r => G r y f) = G l y (fun r => G r x f)
  | [], 0, 0, f => rfl
  | [], 0, y + 1, f => rfl
  | [], x + 1, 0, f => rfl
  | [], x + 1, y + 1, f => rfl
  | z :: l, 0, 0, f => rfl
  | 0 :: l, x, y, f => by
    rw [G_z, G_z]
    simp only [G_z]
    exact G_comm l x y _
  | (z + 1) :: l, 0, y + 1, f => by
    rw [G_0, G_s]
    simp only [G_0, G_s]
    rw [G_add, G_comm l 0 (y + 1), G_comm l 0 y]
  | (z + 1) :: l, x + 1, 0, f => by
    rw [G_0, G_s]
    simp only [G_0, G_s]
    rw [G_add, G_comm l (x + 1) 0, G_comm l x 0]
  | 1 :: l, x + 1, y + 1, f => by
    rw [G_s, G_s]
    simp only [G_s, G_z]
    rw [G_add, G_add, G_comm l (x + 1) (y + 1), G_comm l (x + 1) y, G_comm l x (y + 1)]
    omega
  | (z + 2) :: l, x + 1, y + 1, f => by
    rw [G_s, G_s]
    simp only [G_s]
    rw [G_add, G_add, G_add, G_add, G_comm l (x + 1) (y + 1), G_comm l (x + 1) y, G_comm l x (y + 1), G_comm l x y]
    omega
theorem G_swap (x y : Nat) (l : List Nat) (k : Nat) (f : List Nat → Nat) (hf : ∀ a b r, r.length = l.length → f (a :: b :: r) = f (b :: a :: r)) : G (x :: y :: l) k f = G (y :: x :: l) k f := by
  have c : ∀ (k a b : Nat), G l k (fun r => f (a :: b :: r)) = G l k (fun r => f (b :: a :: r)) := fun k a b => G_congr l k (fun r hr => hf a b r hr)
  cases k with
  | zero => simp only [G_0]; exact c 0 x y
  | succ k => cases x with
    | zero => cases y with
      | zero => rfl
      | succ y => simp only [G_z, G_s]; rw [c (k + 1) 0 (y + 1), c k 0 y]
    | succ x => cases y with
      | zero => simp only [G_z, G_s]; rw [c (k + 1) (x + 1) 0, c k x 0]
      | succ y => cases k with
        | zero => simp only [G_s, G_0]; rw [c (0 + 1) (x + 1) (y + 1), c 0 (x + 1) y, c 0 x (y + 1)]; omega
        | succ k => simp only [G_s]; rw [c (k + 1 + 1) (x + 1) (y + 1), c (k + 1) (x + 1) y, c (k + 1) x (y + 1), c k x y]; omega
theorem G_perm {l l' : List Nat} (h : l.Perm l') : ∀ (k : Nat) (f : List Nat → Nat), (∀ r r' : List Nat, r.length = l.length → r.Perm r' → f r = f r') → G l k f = G l' k f := by
  induction h with
  | nil => intro k f _; rfl
  | @cons x l l' h ih =>
    intro k f hf
    rw [G_cons, G_cons, ih k (fun r => f (x :: r)) (fun r r' hr hp => hf _ _ (by simp [hr]) (hp.cons x))]
    congr 1
    cases k with
    | zero => rfl
    | succ k => cases x with
      | zero => rfl
      | succ x => exact ih k (fun r => f (x :: r)) (fun r r' hr hp => hf _ _ (by simp [hr]) (hp.cons x))
  | swap x y l =>
    intro k f hf
    exact G_swap y x l k f (fun a b r hr => hf _ _ (by simp [hr]) (List.Perm.swap b a r))
  | trans h1 h2 ih1 ih2 =>
    intro k f hf
    rw [ih1 k f hf, ih2 k f (fun r r' hr hp => hf r r' (by rw [hr, h1.length_eq]) hp)]
def cntN : Nat → List Nat → Nat
  | _, [] => 1
  | 0, _ :: _ => 0
  | n + 1, x :: l => G l x (cntN n)
def cnt (l : List Nat) : Nat := cntN l.length l
theorem cnt_nil : cnt [] = 1 := rfl
theorem cnt_cons (x : Nat) (l : List Nat) : cnt (x :: l) = G l x cnt := by
  show G l x (cntN l.length) = _
  exact G_congr l x (fun r hr => by rw [← hr]; rfl)
theorem cnt_perm : ∀ (n : Nat) {l l' : List Nat}, l.length ≤ n → l.Perm l' → cnt l = cnt l' := by
  intro n
  induction n with
  | zero =>
    intro l l' hn h
    have e : l = [] := List.eq_nil_of_length_eq_zero (by omega)
    subst e
    rw [List.nil_perm.1 h]
  | succ n ih =>
    intro l l' hn h
    induction h with
    | nil => rfl
    | @cons x l l' h _ =>
      simp only [List.length_cons] at hn
      rw [cnt_cons, cnt_cons]
      exact G_perm h x cnt (fun r r' hr hp => ih (by omega) hp)
    | swap x y l =>
      rw [cnt_cons, cnt_cons]
      have e : ∀ (a b k : Nat), G (a :: l) b cnt = G l b (fun r => G r a cnt) + (match b, a with
          | b' + 1, a' + 1 => G l b' (fun r => G r a' cnt)
          | _, _ => 0) := fun a b _ => by
        rw [G_cons]
        congr 1
        · exact G_congr l b (fun r _ => cnt_cons a r)
        · cases b with
          | zero => rfl
          | succ b => cases a with
            | zero => rfl
            | succ a => exact G_congr l b (fun r _ => cnt_cons a r)
      rw [e x y 0, e y x 0, G_comm l y x]
      congr 1
      cases y with
      | zero => cases x <;> rfl
      | succ y => cases x with
        | zero => rfl
        | succ x => exact G_comm l y x cnt
    | trans h1 h2 ih1 ih2 => rw [ih1 hn, ih2 (by rw [← h1.length_eq]; exact hn)]
inductive Ch : List Nat → Nat → List Nat → Prop
  | nil : Ch [] 0 []
  | keep {l : List Nat} {k : Nat} {r : List Nat} (x : Nat) (h : Ch l k r) : Ch (x :: l) k (x :: r)
  | take {l : List Nat} {k : Nat} {r : List Nat} (x : Nat) (h : Ch l k r) : Ch ((x + 1) :: l) (k + 1) (x :: r)
theorem Ch.len {l : List Nat} {k : Nat} {r : List Nat} (h : Ch l k r) : r.length = l.length := by
  induction h with
  | nil => rfl
  | keep x _ ih => simp [ih]
  | take x _ ih => simp [ih]
theorem G_pos : ∀ {l : List Nat} {k : Nat} {f : List Nat → Nat}, 0 < G l k f → ∃ r, Ch l k r ∧ 0 < f r
  | [], 0, f, h => ⟨[], .nil, h⟩
  | [], k + 1, f, h => by simp [G] at h
  | x :: l, 0, f, h => by
    rw [G_0] at h
    obtain ⟨r, h1, h2⟩ := G_pos h
    exact ⟨x :: r, .keep x h1, h2⟩
  | 0 :: l, k + 1, f, h => by
    rw [G_z] at h
    obtain ⟨r, h1, h2⟩ := G_pos h
    exact ⟨0 :: r, .keep 0 h1, h2⟩
  | (x + 1) :: l, k + 1, f, h => by
    rw [G_s] at h
    by_cases h0 : 0 < G l (k + 1) (fun r => f ((x + 1) :: r))
    · obtain ⟨r, h1, h2⟩ := G_pos h0
      exact ⟨_, .keep _ h1, h2⟩
    · have h3 : 0 < G l k (fun r => f (x :: r)) := by omega
      obtain ⟨r, h1, h2⟩ := G_pos h3
      exact ⟨_, .take _ h1, h2⟩
theorem G_ge {l : List Nat} {k : Nat} {r : List Nat} (h : Ch l k r) : ∀ f : List Nat → Nat, f r ≤ G l k f := by
  induction h with
  | nil => intro f; exact Nat.le_refl _
  | keep x _ ih => intro f; rw [G_cons]; have := ih (fun r => f (x :: r)); omega
  | take x _ ih => intro f; rw [G_s]; have := ih (fun r => f (x :: r)); omega
def cT : List Bool → Nat
  | [] => 0
  | true :: M => cT M + 1
  | false :: M => cT M
def sel : List Bool → List Nat → Nat
  | true :: M, x :: l => x + sel M l
  | false :: M, _ :: l => sel M l
  | _, _ => 0
def nsel (k : Nat) : List Bool → List Nat → Nat
  | true :: M, _ :: l => nsel k M l
  | false :: M, x :: l => min x k + nsel k M l
  | _, _ => 0
theorem Ch.sums {l : List Nat} {c : Nat} {r : List Nat} (h : Ch l c r) : ∀ (M : List Bool) (k : Nat), M.length = l.length →
    ∃ t1 t2, c = t1 + t2 ∧ sel M l = sel M r + t1 ∧ t1 ≤ cT M ∧ nsel k M r + t2 ≤ nsel (k + 1) M l ∧ nsel k M r ≤ nsel k M l := by
  induction h with
  | nil =>
    intro M k hM
    have e : M = [] := List.eq_nil_of_length_eq_zero hM
    subst e
    exact ⟨0, 0, rfl, rfl, Nat.le_refl _, Nat.le_refl _, Nat.le_refl _⟩
  | @keep l c r x _ ih =>
    intro M k hM
    match M, hM with
    | true :: M, hM =>
      obtain ⟨t1, t2, h1, h2, h3, h4, h5⟩ := ih M k (by simpa using hM)
      exact ⟨t1, t2, h1, by show x + sel M l = x + sel M r + t1; omega, by show t1 ≤ cT M + 1; omega, h4, h5⟩
    | false :: M, hM =>
      obtain ⟨t1, t2, h1, h2, h3, h4, h5⟩ := ih M k (by simpa using hM)
      refine ⟨t1, t2, h1, h2, h3, ?_, ?_⟩
      · show min x k + nsel k M r + t2 ≤ min x (k + 1) + nsel (k + 1) M l; omega
      · show min x k + nsel k M r ≤ min x k + nsel k M l; omega
  | @take l c r x _ ih =>
    intro M k hM
    match M, hM with
    | true :: M, hM =>
      obtain ⟨t1, t2, h1, h2, h3, h4, h5⟩ := ih M k (by simpa using hM)
      exact ⟨t1 + 1, t2, by omega, by show x + 1 + sel M l = x + sel M r + (t1 + 1); omega, by show t1 + 1 ≤ cT M + 1; omega, h4, h5⟩
    | false :: M, hM =>
      obtain ⟨t1, t2, h1, h2, h3, h4, h5⟩ := ih M k (by simpa using hM)
      refine ⟨t1, t2 + 1, by omega, h2, h3, ?_, ?_⟩
      · show min x k + nsel k M r + (t2 + 1) ≤ min (x + 1) (k + 1) + nsel (k + 1) M l; omega
      · show min x k + nsel k M r ≤ min (x + 1) k + nsel k M l; omega
theorem sq_next (k : Nat) : (k + 1) * (k + 1 - 1) = k * (k - 1) + 2 * k := by
  cases k with
  | zero => rfl
  | succ j =>
    show (j + 1 + 1) * (j + 1) = (j + 1) * j + 2 * (j + 1)
    rw [Nat.succ_mul, Nat.mul_succ (j + 1) j]; omega
theorem eg_all : ∀ (n : Nat) (l : List Nat), l.length = n → 0 < cnt l → ∀ M : List Bool, M.length = n → sel M l ≤ cT M * (cT M - 1) + nsel (cT M) M l
  | 0, [], _, _, M, hM => by
    have e : M = [] := List.eq_nil_of_length_eq_zero hM
    subst e; exact Nat.le_refl _
  | n + 1, c :: l, hl, hc, M, hM => by
    rw [cnt_cons] at hc
    obtain ⟨r, hr, hp⟩ := G_pos hc
    simp only [List.length_cons] at hl
    match M, hM with
    | true :: M, hM =>
      have ih := eg_all n r (by rw [hr.len]; omega) hp M (by simpa using hM)
      obtain ⟨t1, t2, h1, h2, h3, h4, _⟩ := hr.sums M (cT M) (by simp at hM; omega)
      show c + sel M l ≤ (cT M + 1) * (cT M + 1 - 1) + nsel (cT M + 1) M l
      rw [sq_next]; omega
    | false :: M, hM =>
      have ih := eg_all n r (by rw [hr.len]; omega) hp M (by simpa using hM)
      obtain ⟨t1, t2, h1, h2, h3, _, h5⟩ := hr.sums M (cT M) (by simp at hM; omega)
      show sel M l ≤ cT M * (cT M - 1) + (min c (cT M) + nsel (cT M) M l)
      omega
theorem Ch.sum {l : List Nat} {c : Nat} {r : List Nat} (h : Ch l c r) : smN l = smN r + c := by
  induction h with
  | nil => rfl
  | keep x _ ih => show x + _ = x + _ + _; omega
  | take x _ ih => show x + 1 + _ = x + _ + _; omega
theorem even_all : ∀ (n : Nat) (l : List Nat), l.length = n → 0 < cnt l → smN l % 2 = 0
  | 0, [], _, _ => rfl
  | n + 1, c :: l, hl, hc => by
    rw [cnt_cons] at hc
    obtain ⟨r, hr, hp⟩ := G_pos hc
    simp only [List.length_cons] at hl
    have ih := even_all n r (by rw [hr.len]; omega) hp
    have h1 := hr.sum
    show (c + smN l) % 2 = 0
    omega
def firstM (k n : Nat) : List Bool := List.replicate k true ++ List.replicate n false
theorem firstM_len (k n : Nat) : (firstM k n).length = k + n := by simp [firstM]
theorem cT_first : ∀ (k n : Nat), cT (firstM k n) = k
  | 0, 0 => rfl
  | 0, n + 1 => by
    have := cT_first 0 n
    show cT (List.replicate n false) = 0
    simpa [firstM] using this
  | k + 1, n => by
    have := cT_first k n
    show cT (List.replicate k true ++ List.replicate n false) + 1 = k + 1
    exact congrArg (· + 1) this
theorem sel_first : ∀ (k : Nat) (l : List Nat), k ≤ l.length → sel (firstM k (l.length - k)) l = smN (l.take k)
  | 0, [], _ => rfl
  | 0, x :: l, _ => by
    have := sel_first 0 l (Nat.zero_le _)
    simpa [firstM, sel, List.replicate_succ, smN] using this
  | k + 1, x :: l, h => by
    have := sel_first k l (by simpa using h)
    have e : (x :: l).length - (k + 1) = l.length - k := by simp
    rw [e]
    show x + sel (firstM k (l.length - k)) l = x + smN (l.take k)
    rw [this]
theorem nsel_first (z : Nat) : ∀ (k : Nat) (l : List Nat), k ≤ l.length → nsel z (firstM k (l.length - k)) l = mnN z (l.drop k)
  | 0, [], _ => rfl
  | 0, x :: l, _ => by
    have := nsel_first z 0 l (Nat.zero_le _)
    have e : firstM 0 ((x :: l).length - 0) = false :: firstM 0 (l.length - 0) := rfl
    rw [e]
    show min x z + nsel z (firstM 0 (l.length - 0)) l = _ + mnN z l
    rw [this]
    cases hb : Nat.ble x z with
    | true => have := Nat.le_of_ble_eq_true hb; show min x z + _ = x + _; simp only [List.drop_zero]; omega
    | false =>
      have : ¬ x ≤ z := fun q => by rw [Nat.ble_eq_true_of_le q] at hb; cases hb
      show min x z + _ = z + _; simp only [List.drop_zero]; omega
  | k + 1, x :: l, h => by
    have := nsel_first z k l (by simpa using h)
    have e : (x :: l).length - (k + 1) = l.length - k := by simp
    rw [e]
    exact this
theorem stN_false {l : List Nat} (hc : 0 < cnt l) {k : Nat} (hk : k ≤ l.length) : stN k l = false := by
  have h := eg_all l.length l rfl hc (firstM k (l.length - k)) (by rw [firstM_len]; omega)
  rw [cT_first, sel_first k l hk, nsel_first k k l hk] at h
  unfold stN
  cases hb : Nat.blt (k * (k - 1) + mnN k (l.drop k)) (smN (l.take k)) with
  | false => rfl
  | true => rw [Nat.blt_eq] at hb; omega
theorem fstN_zero (l : List Nat) : ∀ (n k : Nat), (∀ j, k ≤ j → j < k + n → stN j l = false) → fstN l n k 0 = 0
  | 0, _, _ => rfl
  | n + 1, k, h => by
    unfold fstN
    rw [h k (Nat.le_refl _) (by omega)]
    exact fstN_zero l n (k + 1) (fun j h1 h2 => h j (by omega) (by omega))
theorem mnN_le (k : Nat) : ∀ l : List Nat, mnN k l ≤ k * l.length
  | [] => Nat.zero_le _
  | x :: l => by
    have := mnN_le k l
    rw [List.length_cons, Nat.mul_succ]
    unfold mnN
    cases hb : Nat.ble x k with
    | true => have := Nat.le_of_ble_eq_true hb; simp only; omega
    | false => simp only; omega
theorem first_small {x : Nat} {t : List Nat} (h : stN 1 (x :: t) = false) : x < (x :: t).length := by
  unfold stN at h
  have h1 := mnN_le 1 t
  have h2 : ¬ (1 * (1 - 1) + mnN 1 t < x + 0) := fun q => by
    have : Nat.blt (1 * (1 - 1) + mnN 1 ((x :: t).drop 1)) (smN ((x :: t).take 1)) = true := by rw [Nat.blt_eq]; exact q
    rw [h] at this; cases this
  simp only [List.length_cons]
  omega
theorem tabs {l : List Nat} (h1 : 1 ≤ l.length) (h8 : l.length ≤ 8) (hp : l.Pairwise (· ≥ ·)) (hx : ∀ x ∈ l, x < l.length) : chk l = true := by
  have key : ∀ n, n = l.length → l ∈ dls n n := fun n hn => mem_dls hn.symm hp (fun x hx' => by have := hx x hx'; omega)
  rcases (show l.length = 1 ∨ l.length = 2 ∨ l.length = 3 ∨ l.length = 4 ∨ l.length = 5 ∨ l.length = 6 ∨ l.length = 7 ∨ l.length = 8 by omega) with h | h | h | h | h | h | h | h
  · exact List.all_eq_true.1 tab1 l (key 1 h.symm)
  · exact List.all_eq_true.1 tab2 l (key 2 h.symm)
  · exact List.all_eq_true.1 tab3 l (key 3 h.symm)
  · exact List.all_eq_true.1 tab4 l (key 4 h.symm)
  · exact List.all_eq_true.1 tab5 l (key 5 h.symm)
  · exact List.all_eq_true.1 tab6 l (key 6 h.symm)
  · exact List.all_eq_true.1 tab7 l (key 7 h.symm)
  · exact List.all_eq_true.1 tab8 l (key 8 h.symm)
def egB (l : List Nat) : Bool := Nat.beq (smN l % 2) 0 && Nat.beq (fstN l l.length 1 0) 0
theorem decN_ch : ∀ {c : Nat} {t l : List Nat}, decN c t = some l → Ch t c l
  | 0, t, l, h => by
    cases h
    induction t with
    | nil => exact .nil
    | cons x t ih => exact .keep x ih
  | c + 1, [], l, h => by cases h
  | c + 1, 0 :: t, l, h => by cases h
  | c + 1, (z + 1) :: t, l, h => by
    unfold decN at h
    cases h1 : decN c t with
    | none => simp only [h1] at h; cases h
    | some l1 => simp only [h1] at h; cases h; exact .take z (decN_ch h1)
theorem sortN_perm (l : List Nat) : (sortN l).Perm l := by
  have h : (toI (sortN l)).Perm (toI l) := by rw [sortN_eq]; exact sortI_perm _
  have h2 := h.map Int.toNat
  have e : ∀ l : List Nat, (toI l).map Int.toNat = l := fun l => by
    unfold toI
    rw [List.map_map]
    conv => rhs; rw [← List.map_id l]
    exact List.map_congr_left (fun x _ => rfl)
  rwa [e, e] at h2
theorem can_cnt : ∀ (n : Nat) (l : List Nat), l.length ≤ n → canN n l = true → 0 < cnt l
  | 0, [], _, _ => by rw [cnt_nil]; omega
  | n + 1, [], _, _ => by rw [cnt_nil]; omega
  | n + 1, x :: t, hl, h => by
    simp only [List.length_cons] at hl
    unfold canN at h
    cases hb : Nat.ble x t.length with
    | false => rw [hb] at h; cases h
    | true =>
      rw [hb] at h
      simp only at h
      cases hd : decN x t with
      | none => rw [hd] at h; cases h
      | some r =>
        rw [hd] at h
        simp only at h
        have hch := decN_ch hd
        have hp : (sortN r).reverse.Perm r := (List.reverse_perm _).trans (sortN_perm r)
        have ih := can_cnt n (sortN r).reverse (by rw [hp.length_eq, hch.len]; omega) h
        rw [cnt_perm _ (Nat.le_refl _) hp] at ih
        rw [cnt_cons]
        have := G_ge hch cnt
        omega
theorem beqF {a b : Nat} (h : a ≠ b) : Nat.beq a b = false := by
  cases hb : Nat.beq a b with
  | false => rfl
  | true => exact absurd (Nat.eq_of_beq_eq_true hb) h
theorem real_iff {l : List Nat} (h8 : l.length ≤ 8) (hp : l.Pairwise (· ≥ ·)) : (canN 8 l = true ↔ 0 < cnt l) ∧ (egB l = true ↔ 0 < cnt l) := by
  cases l with
  | nil => exact ⟨⟨fun _ => by rw [cnt_nil]; omega, fun _ => rfl⟩, ⟨fun _ => by rw [cnt_nil]; omega, fun _ => rfl⟩⟩
  | cons x t =>
    have hsm : x < (x :: t).length → ∀ y ∈ x :: t, y < (x :: t).length := fun hx y hy => by
      rcases List.mem_cons.1 hy with rfl | hy
      · exact hx
      · have := (List.pairwise_cons.1 hp).1 y hy; omega
    have hck : x < (x :: t).length → chk (x :: t) = true := fun hx => tabs (by simp) h8 hp (hsm hx)
    have egc : 0 < cnt (x :: t) → egB (x :: t) = true := fun hc => by
      have h1 := even_all _ _ rfl hc
      have h2 := fstN_zero (x :: t) (x :: t).length 1 (fun j _ h2 => stN_false hc (by omega))
      unfold egB
      rw [h1, h2]; rfl
    have ecan : egB (x :: t) = true → canN 8 (x :: t) = true := fun he => by
      have hst : stN 1 (x :: t) = false := by
        unfold egB at he
        rw [Bool.and_eq_true] at he
        have h0 := Nat.eq_of_beq_eq_true he.2
        have e : fstN (x :: t) (x :: t).length 1 0 = (match stN 1 (x :: t) with | true => 1 | false => fstN (x :: t) t.length 2 0) := rfl
        rw [e] at h0
        cases hb : stN 1 (x :: t) with
        | false => rfl
        | true => rw [hb] at h0; cases h0
      have h3 := hck (first_small hst)
      unfold chk at h3
      unfold egB at he
      rw [he] at h3
      exact h3
    exact ⟨⟨fun h => can_cnt 8 _ h8 h, fun h => ecan (egc h)⟩, ⟨fun h => can_cnt 8 _ h8 (ecan h), egc⟩⟩
end Go.Xm.Mk
namespace Go.Xm.Mk
set_option linter.unusedVariables false
set_option linter.unusedSimpArgs false
set_option maxRecDepth 20000
def pop : Nat → Nat → Nat
  | 0, _ => 0
  | n + 1, s => s % 2 + pop n (s / 2)
def les : List Nat → Nat → Option (List Nat)
  | [], _ => some []
  | x :: l, s => if s % 2 ≤ x then (les l (s / 2)).map (fun r => (x - s % 2) :: r) else none
theorem les_cons (x : Nat) (l : List Nat) (s : Nat) : les (x :: l) s = if s % 2 ≤ x then (les l (s / 2)).map (fun r => (x - s % 2) :: r) else none := rfl
def opt (f : List Nat → Nat) : Option (List Nat) → Nat
  | none => 0
  | some r => f r
def Sr (f : Nat → Nat) : Nat → Nat → Nat
  | 0, _ => 0
  | r + 1, s => f s + Sr f r (s + 1)
theorem Sr_congr {f g : Nat → Nat} : ∀ (r s : Nat), (∀ j, s ≤ j → j < s + r → f j = g j) → Sr f r s = Sr g r s
  | 0, _, _ => rfl
  | r + 1, s, h => by
    show f s + _ = g s + _
    rw [h s (Nat.le_refl _) (by omega), Sr_congr r (s + 1) (fun j h1 h2 => h j (by omega) (by omega))]
theorem Sr_add (f g : Nat → Nat) : ∀ (r s : Nat), Sr (fun j => f j + g j) r s = Sr f r s + Sr g r s
  | 0, _ => rfl
  | r + 1, s => by
    show f s + g s + Sr (fun j => f j + g j) r (s + 1) = f s + Sr f r (s + 1) + (g s + Sr g r (s + 1))
    rw [Sr_add f g r (s + 1)]; omega
theorem Sr_double (f : Nat → Nat) : ∀ (r s : Nat), Sr f (2 * r) (2 * s) = Sr (fun j => f (2 * j) + f (2 * j + 1)) r s
  | 0, _ => rfl
  | r + 1, s => by
    have e : 2 * (r + 1) = 2 * r + 1 + 1 := by omega
    have ih := Sr_double f r (s + 1)
    have e2 : 2 * (s + 1) = 2 * s + 1 + 1 := by omega
    rw [e2] at ih
    rw [e]
    show f (2 * s) + (f (2 * s + 1) + Sr f (2 * r) (2 * s + 1 + 1)) = f (2 * s) + f (2 * s + 1) + Sr (fun j => f (2 * j) + f (2 * j + 1)) r (s + 1)
    rw [ih]; omega
theorem opt_map (f : List Nat → Nat) (x : Nat) (o : Option (List Nat)) : opt f (o.map (fun r => x :: r)) = opt (fun r => f (x :: r)) o := by cases o <;> rfl
theorem even2 (j : Nat) : 2 * j % 2 = 0 ∧ 2 * j / 2 = j := by omega
theorem odd2 (j : Nat) : (2 * j + 1) % 2 = 1 ∧ (2 * j + 1) / 2 = j := by omega
theorem sum_sets : ∀ (l : List Nat) (k : Nat) (f : List Nat → Nat), Sr (fun s => if pop l.length s = k then opt f (les l s) else 0) (2 ^ l.length) 0 = G l k f
  | [], 0, f => rfl
  | [], k + 1, f => rfl
  | x :: l, k, f => by
    have e1 : 2 ^ (x :: l).length = 2 * 2 ^ l.length := by rw [List.length_cons, Nat.pow_succ]; omega
    have h2 := Sr_double (fun s => if pop (x :: l).length s = k then opt f (les (x :: l) s) else 0) (2 ^ l.length) 0
    rw [Nat.mul_zero] at h2
    rw [e1, h2, Sr_add, G_cons]
    congr 1
    · rw [← sum_sets l k]
      refine Sr_congr _ _ (fun j _ _ => ?_)
      have hp : pop (x :: l).length (2 * j) = pop l.length j := by
        show (2 * j) % 2 + pop l.length (2 * j / 2) = _
        rw [(even2 j).1, (even2 j).2]; omega
      have hl : les (x :: l) (2 * j) = (les l j).map (fun r => x :: r) := by
        rw [les_cons, (even2 j).1, (even2 j).2, if_pos (Nat.zero_le _)]; rfl
      rw [hp, hl, opt_map]
    · have hp : ∀ j, pop (x :: l).length (2 * j + 1) = pop l.length j + 1 := fun j => by
        show (2 * j + 1) % 2 + pop l.length ((2 * j + 1) / 2) = _
        rw [(odd2 j).1, (odd2 j).2]; omega
      cases k with
      | zero =>
        show _ = 0
        rw [Sr_congr (g := fun _ => 0) _ _ (fun j _ _ => by rw [hp, if_neg (by omega)])]
        generalize 2 ^ l.length = n
        have : ∀ (n s : Nat), Sr (fun _ => 0) n s = 0 := by
          intro n
          induction n with
          | zero => intro _; rfl
          | succ n ih => intro s; show 0 + _ = 0; rw [ih]
        exact this n 0
      | succ k =>
        cases x with
        | zero =>
          show _ = 0
          rw [Sr_congr (g := fun _ => 0) _ _ (fun j _ _ => by
            have hl : les (0 :: l) (2 * j + 1) = none := by
              unfold les
              rw [(odd2 j).1, if_neg (by omega)]
            rw [hl]; show (if _ then 0 else 0) = 0; split <;> rfl)]
          have : ∀ (n s : Nat), Sr (fun _ => 0) n s = 0 := by
            intro n
            induction n with
            | zero => intro _; rfl
            | succ n ih => intro s; show 0 + _ = 0; rw [ih]
          exact this _ 0
        | succ x =>
          show _ = G l k (fun r => f (x :: r))
          rw [← sum_sets l k]
          refine Sr_congr _ _ (fun j _ _ => ?_)
          have hl : les ((x + 1) :: l) (2 * j + 1) = (les l j).map (fun r => x :: r) := by
            rw [les_cons, (odd2 j).1, (odd2 j).2, if_pos (by omega)]; rfl
          rw [hp, hl, opt_map]
          by_cases e : pop l.length j = k
          · rw [if_pos e, if_pos (by omega)]
          · rw [if_neg e, if_neg (by omega)]
theorem les_len : ∀ {l : List Nat} {s : Nat} {r : List Nat}, les l s = some r → r.length = l.length
  | [], s, r, h => by cases h; rfl
  | x :: l, s, r, h => by
    unfold les at h
    split at h
    · cases h1 : les l (s / 2) with
      | none => rw [h1] at h; cases h
      | some r1 => rw [h1] at h; cases h; simp [les_len h1]
    · cases h
theorem les_small {b : Nat} : ∀ {l : List Nat} {s : Nat} {r : List Nat}, les l s = some r → (∀ x ∈ l, x ≤ b) → ∀ x ∈ r, x ≤ b
  | [], s, r, h, _ => by cases h; intro x hx; cases hx
  | x :: l, s, r, h, hb => by
    unfold les at h
    split at h
    · cases h1 : les l (s / 2) with
      | none => rw [h1] at h; cases h
      | some r1 =>
        rw [h1] at h; cases h
        intro y hy
        rcases List.mem_cons.1 hy with rfl | hy
        · have := hb x (List.mem_cons_self ..); omega
        · exact les_small h1 (fun z hz => hb z (List.mem_cons_of_mem _ hz)) y hy
    · cases h
def Bd : Nat → Nat
  | 0 => 1
  | n + 1 => 2 ^ n * Bd n
theorem G_le (B : Nat) : ∀ (l : List Nat) (k : Nat) (f : List Nat → Nat), (∀ r, r.length = l.length → f r ≤ B) → G l k f ≤ 2 ^ l.length * B
  | [], 0, f, h => by have := h [] rfl; show f [] ≤ 1 * B; omega
  | [], k + 1, f, h => Nat.zero_le _
  | x :: l, k, f, h => by
    have e1 : 2 ^ (x :: l).length * B = 2 ^ l.length * B + 2 ^ l.length * B := by rw [List.length_cons, Nat.pow_succ, Nat.mul_assoc, Nat.mul_comm 2 B, ← Nat.mul_assoc]; omega
    have h1 := G_le B l k (fun r => f (x :: r)) (fun r hr => h _ (by simp [hr]))
    rw [G_cons, e1]
    cases k with
    | zero => show _ + 0 ≤ _; omega
    | succ k => cases x with
      | zero => show _ + 0 ≤ _; omega
      | succ x =>
        have h2 := G_le B l k (fun r => f (x :: r)) (fun r hr => h _ (by simp [hr]))
        show _ + G l k (fun r => f (x :: r)) ≤ _
        omega
theorem cnt_le : ∀ (n : Nat) (l : List Nat), l.length = n → cnt l ≤ Bd n
  | 0, [], _ => Nat.le_refl _
  | n + 1, x :: l, h => by
    simp only [List.length_cons] at h
    rw [cnt_cons]
    have := G_le (Bd n) l x cnt (fun r hr => cnt_le n r (by omega))
    have e : l.length = n := by omega
    rw [e] at this
    exact this
theorem Bd8 {n : Nat} (h : n ≤ 8) : Bd n ≤ 268435456 := by
  have : ∀ k : Fin 9, Bd k.val ≤ 268435456 := by decide
  exact this ⟨n, by omega⟩
theorem pop_more : ∀ (n j s : Nat), s < 2 ^ n → pop (n + j) s = pop n s
  | 0, j, s, h => by
    have e : s = 0 := by omega
    subst e
    have : ∀ j, pop j 0 = 0 := by
      intro j
      induction j with
      | zero => rfl
      | succ j ih => show 0 % 2 + pop j (0 / 2) = 0; rw [Nat.zero_div, ih]
    rw [this, this]
  | n + 1, j, s, h => by
    have e : n + 1 + j = (n + j) + 1 := by omega
    rw [e]
    show s % 2 + pop (n + j) (s / 2) = s % 2 + pop n (s / 2)
    rw [pop_more n j (s / 2) (by rw [Nat.pow_succ] at h; omega)]
theorem shl1u {n : Nat} (h : n ≤ 8) : shV true .u64 1 ((n : Nat) : Int) = ((2 ^ n : Nat) : Int) := by
  have : ∀ k : Fin 9, shV true .u64 1 ((k.val : Nat) : Int) = ((2 ^ k.val : Nat) : Int) := by decide
  exact this ⟨n, by omega⟩
def Tm (c : Nat) (l : List Nat) (s : Nat) : Nat := if pop l.length s = c then opt cnt (les l s) else 0
theorem toI_inj {a b : List Nat} (h : toI a = toI b) : a = b := by
  unfold toI at h
  exact (List.map_inj_right (fun x y e => Int.ofNat.inj e)).1 h
theorem desc_of (l : List Nat) : ∃ d : List Nat, dsc (toI l) = toI d ∧ d.Perm l ∧ d.Pairwise (· ≥ ·) := by
  obtain ⟨d, hd⟩ := nats_of (d := dsc (toI l)) (fun x hx => by
    have := (dsc_perm (toI l)).mem_iff.1 hx
    obtain ⟨y, _, rfl⟩ := List.mem_map.1 this
    exact Int.natCast_nonneg y)
  refine ⟨d, hd, ?_, ?_⟩
  · have h1 := dsc_perm (toI l)
    rw [hd] at h1
    have h2 := h1.map Int.toNat
    have e : ∀ l : List Nat, (toI l).map Int.toNat = l := fun l => by
      unfold toI
      rw [List.map_map]
      conv => rhs; rw [← List.map_id l]
      exact List.map_congr_left (fun x _ => rfl)
    rwa [e, e] at h2
  · have h1 := dsc_pw (toI l)
    rw [hd] at h1
    have h2 := List.pairwise_map.1 h1
    exact h2.imp (fun {x y} q => by have q : (x : Int) ≥ (y : Int) := q; omega)
def real (l : List Nat) : Bool := decide (0 < cnt l)
theorem real_perm {l l' : List Nat} (h : l.Perm l') : real l = real l' := by unfold real; rw [cnt_perm _ (Nat.le_refl _) h]
theorem can59 (l : List Nat) (h8 : l.length ≤ 8) (hs : ∀ x ∈ l, x ≤ 7) : f59 2001 (toI l) = some (real l) := by
  obtain ⟨d, h1, h2, h3⟩ := desc_of l
  have hdl : d.length ≤ 8 := by rw [h2.length_eq]; exact h8
  rw [f59_eq 2001 (by omega) (toI l) d h1 hdl (fun x hx => hs x (h2.mem_iff.1 hx)), ← real_perm h2]
  have := (real_iff hdl h3).1
  unfold real
  by_cases hc : 0 < cnt d
  · rw [dcT hc, this.2 hc]
  · rw [dcF hc]
    cases hb : canN 8 d with
    | false => rfl
    | true => exact absurd (this.1 hb) hc
end Go.Xm.Mk
namespace Go.Xm.Mk
set_option linter.unusedVariables false
set_option linter.unusedSimpArgs false
set_option maxRecDepth 20000
def wl (b : Nat) : Nat → Nat → Nat → List (Int × Int)
  | 0, _, _ => []
  | n + 1, i, s => match Nat.beq (s % 2) 1 with
    | true => ((b : Int), ((b + 1 + i : Nat) : Int)) :: wl b n (i + 1) (s / 2)
    | false => wl b n (i + 1) (s / 2)
def llt : Nat → Nat → Nat → Bool
  | 0, _, _ => false
  | n + 1, s, t => match Nat.beq (s % 2) (t % 2) with
    | true => llt n (s / 2) (t / 2)
    | false => Nat.beq (s % 2) 1
theorem wl_len (b : Nat) : ∀ (n i s : Nat), (wl b n i s).length = pop n s
  | 0, _, _ => rfl
  | n + 1, i, s => by
    unfold wl pop
    cases h : Nat.beq (s % 2) 1 with
    | true => have := Nat.eq_of_beq_eq_true h; rw [List.length_cons, wl_len b n]; omega
    | false =>
      have : s % 2 ≠ 1 := fun q => by rw [q] at h; cases h
      show (wl b n (i + 1) (s / 2)).length = _
      rw [wl_len b n]; omega
theorem wl_get {b : Nat} : ∀ {n i s : Nat} {t : Int × Int} {R : List (Int × Int)}, wl b n i s = t :: R → t.1 = (b : Int) ∧ ((b + 1 + i : Nat) : Int) ≤ t.2
  | 0, _, _, _, _, h => by cases h
  | n + 1, i, s, t, R, h => by
    unfold wl at h
    split at h
    · cases h; exact ⟨rfl, Int.le_refl _⟩
    · have := wl_get h
      exact ⟨this.1, by have := this.2; omega⟩
theorem llt_asymm : ∀ (n s t : Nat), llt n s t = true → llt n t s = false
  | 0, _, _, h => by cases h
  | n + 1, s, t, h => by
    have l1 : llt (n + 1) s t = (match Nat.beq (s % 2) (t % 2) with | true => llt n (s / 2) (t / 2) | false => Nat.beq (s % 2) 1) := rfl
    have l2 : llt (n + 1) t s = (match Nat.beq (t % 2) (s % 2) with | true => llt n (t / 2) (s / 2) | false => Nat.beq (t % 2) 1) := rfl
    have hs2 : s % 2 = 0 ∨ s % 2 = 1 := by omega
    have ht2 : t % 2 = 0 ∨ t % 2 = 1 := by omega
    rcases hs2 with hs | hs <;> rcases ht2 with ht | ht
    · rw [l1, hs, ht] at h; rw [l2, hs, ht]; exact llt_asymm n _ _ h
    · rw [l1, hs, ht] at h; cases h
    · rw [l2, hs, ht]; rfl
    · rw [l1, hs, ht] at h; rw [l2, hs, ht]; exact llt_asymm n _ _ h
def vld (c : Nat) (l : List Nat) (s : Nat) : Bool := Nat.beq (pop l.length s) c && (match les l s with | some q => real q | none => false)
def Min (c : Nat) (l : List Nat) (s : Nat) : Prop := s < 2 ^ l.length ∧ vld c l s = true ∧ ∀ t, t < 2 ^ l.length → vld c l t = true → t ≠ s → llt l.length s t = true
def enc : Option Nat → Int
  | none => -1
  | some s => (s : Int)
def nx (c : Nat) (l : List Nat) (s : Nat) (o : Option Nat) : Option Nat := match vld c l s, o with
  | true, none => some s
  | true, some t => (match llt l.length s t with | true => some s | false => some t)
  | false, o => o
def bs (c : Nat) (l : List Nat) : Nat → Nat → Option Nat → Option Nat
  | 0, _, o => o
  | r + 1, s, o => bs c l r (s + 1) (nx c l s o)
inductive First : Nat → List Nat → List (Int × Int) → Prop
  | nil (b : Nat) : First b [] []
  | cons {b c : Nat} {l q : List Nat} {s : Nat} {T : List (Int × Int)} (hm : Min c l s) (hq : les l s = some q) (h : First (b + 1) q T) : First b (c :: l) (wl b l.length 0 s ++ T)
end Go.Xm.Mk
namespace Go.Xm.Mk
set_option linter.unusedVariables false
set_option linter.unusedSimpArgs false
set_option maxRecDepth 20000
def lowb : Nat → Nat → Nat
  | 0, _ => 0
  | n + 1, s => match Nat.beq (s % 2) 1 with
    | true => 0
    | false => lowb n (s / 2) + 1
def clr : Nat → Nat → Nat
  | 0, _ => 0
  | n + 1, s => match Nat.beq (s % 2) 1 with
    | true => s - 1
    | false => 2 * clr n (s / 2)
theorem lowb_s (n s : Nat) : lowb (n + 1) s = (match Nat.beq (s % 2) 1 with | true => 0 | false => lowb n (s / 2) + 1) := rfl
theorem clr_s (n s : Nat) : clr (n + 1) s = (match Nat.beq (s % 2) 1 with | true => s - 1 | false => 2 * clr n (s / 2)) := rfl
theorem lowb_odd {n s : Nat} (h : s % 2 = 1) : lowb (n + 1) s = 0 ∧ clr (n + 1) s = s - 1 := by rw [lowb_s, clr_s, h]; exact ⟨rfl, rfl⟩
theorem lowb_even {n s : Nat} (h : s % 2 = 0) : lowb (n + 1) s = lowb n (s / 2) + 1 ∧ clr (n + 1) s = 2 * clr n (s / 2) := by rw [lowb_s, clr_s, h]; exact ⟨rfl, rfl⟩
theorem tab94 : (List.range 128).all (fun s => f94 2001 (s : Int) == some ((pop 7 s : Nat) : Int)) = true := by kernel_rfl
theorem ones_n {n s : Nat} (hn : n ≤ 7) (h : s < 2 ^ n) : f94 2001 (s : Int) = some ((pop n s : Nat) : Int) := by
  have h1 : 2 ^ n ≤ 2 ^ 7 := Nat.pow_le_pow_right (by omega) hn
  rw [eq_of_beq (List.all_eq_true.1 tab94 s (List.mem_range.2 (by omega)))]
  have := pop_more n (7 - n) s h
  rw [show n + (7 - n) = 7 by omega] at this
  rw [this]
theorem tabtz : (List.range 128).all (fun s => Nat.beq s 0 || (tzC (s : Int) && (tzF (s : Int) == ((lowb 7 s : Nat) : Int)) && (andV .u64 (s : Int) (IntKind.wrap .u64 ((s : Int) - 1)) == ((clr 7 s : Nat) : Int)))) = true := by kernel_rfl
theorem bits_more : ∀ (n j s : Nat), s < 2 ^ n → s ≠ 0 → lowb (n + j) s = lowb n s ∧ clr (n + j) s = clr n s
  | 0, j, s, h, h0 => by omega
  | n + 1, j, s, h, h0 => by
    have e : n + 1 + j = (n + j) + 1 := by omega
    rw [e]
    rcases (show s % 2 = 0 ∨ s % 2 = 1 by omega) with h2 | h2
    · have ih := bits_more n j (s / 2) (by rw [Nat.pow_succ] at h; omega) (by omega)
      rw [(lowb_even h2).1, (lowb_even h2).2, (lowb_even h2).1, (lowb_even h2).2, ih.1, ih.2]
      exact ⟨rfl, rfl⟩
    · rw [(lowb_odd h2).1, (lowb_odd h2).2, (lowb_odd h2).1, (lowb_odd h2).2]
      exact ⟨rfl, rfl⟩
theorem tz_n {n s : Nat} (hn : n ≤ 7) (h : s < 2 ^ n) (h0 : s ≠ 0) : tzC (s : Int) = true ∧ tzF (s : Int) = ((lowb n s : Nat) : Int) ∧ andV .u64 (s : Int) (IntKind.wrap .u64 ((s : Int) - 1)) = ((clr n s : Nat) : Int) := by
  have h1 : 2 ^ n ≤ 2 ^ 7 := Nat.pow_le_pow_right (by omega) hn
  have h2 := List.all_eq_true.1 tabtz s (List.mem_range.2 (by omega))
  rw [beqF h0, Bool.false_or, Bool.and_eq_true, Bool.and_eq_true] at h2
  have h3 := bits_more n (7 - n) s h h0
  rw [show n + (7 - n) = 7 by omega] at h3
  rw [← h3.1, ← h3.2]
  exact ⟨h2.1.1, eq_of_beq h2.1.2, eq_of_beq h2.2⟩
def decZ : List Int → Nat → List Int
  | [], _ => []
  | x :: l, s => (x - ((s % 2 : Nat) : Int)) :: decZ l (s / 2)
theorem decZ_0 : ∀ l : List Int, decZ l 0 = l
  | [] => rfl
  | x :: l => by
    show (x - ((0 % 2 : Nat) : Int)) :: decZ l (0 / 2) = x :: l
    rw [Nat.zero_div, decZ_0 l]
    congr 1
    show x - 0 = x
    omega
theorem decZ_len : ∀ (l : List Int) (s : Nat), (decZ l s).length = l.length
  | [], _ => rfl
  | x :: l, s => by show (decZ l (s / 2)).length + 1 = _; rw [decZ_len l]; rfl
theorem decZ_clr : ∀ (l : List Int) (s : Nat), s < 2 ^ l.length → s ≠ 0 → lowb l.length s < l.length ∧ clr l.length s < s ∧ decZ (l.set (lowb l.length s) (l.getD (lowb l.length s) 0 - 1)) (clr l.length s) = decZ l s
  | [], s, h, h0 => by simp at h; omega
  | x :: l, s, h, h0 => by
    have e : (x :: l).length = l.length + 1 := rfl
    rw [e] at h ⊢
    rcases (show s % 2 = 0 ∨ s % 2 = 1 by omega) with h2 | h2
    · obtain ⟨i1, i2, i3⟩ := decZ_clr l (s / 2) (by rw [Nat.pow_succ] at h; omega) (by omega)
      rw [(lowb_even h2).1, (lowb_even h2).2]
      refine ⟨by omega, by omega, ?_⟩
      show decZ (x :: l.set (lowb l.length (s / 2)) (l.getD (lowb l.length (s / 2)) 0 - 1)) (2 * clr l.length (s / 2)) = _
      show (x - ((2 * clr l.length (s / 2) % 2 : Nat) : Int)) :: decZ (l.set (lowb l.length (s / 2)) (l.getD (lowb l.length (s / 2)) 0 - 1)) (2 * clr l.length (s / 2) / 2) = (x - ((s % 2 : Nat) : Int)) :: decZ l (s / 2)
      rw [(even2 _).1, (even2 _).2, i3, h2]
    · rw [(lowb_odd h2).1, (lowb_odd h2).2]
      refine ⟨by omega, by omega, ?_⟩
      show (x - 1 - (((s - 1) % 2 : Nat) : Int)) :: decZ l ((s - 1) / 2) = (x - ((s % 2 : Nat) : Int)) :: decZ l (s / 2)
      have e1 : (s - 1) % 2 = 0 := by omega
      have e2 : (s - 1) / 2 = s / 2 := by omega
      rw [e1, e2, h2]
      congr 1
      show x - 1 - 0 = x - 1
      omega
theorem les_decZ : ∀ (l : List Nat) (s : Nat), match les l s with | some q => decZ (toI l) s = toI q | none => ∃ x ∈ decZ (toI l) s, x < 0
  | [], s => rfl
  | x :: l, s => by
    have ih := les_decZ l (s / 2)
    rw [les_cons]
    have e : decZ (toI (x :: l)) s = ((x : Int) - ((s % 2 : Nat) : Int)) :: decZ (toI l) (s / 2) := rfl
    by_cases h : s % 2 ≤ x
    · rw [if_pos h]
      cases hq : les l (s / 2) with
      | none =>
        rw [hq] at ih
        obtain ⟨y, hy, h0⟩ := ih
        exact ⟨y, by rw [e]; exact List.mem_cons_of_mem _ hy, h0⟩
      | some q =>
        rw [hq] at ih
        show decZ (toI (x :: l)) s = ((x - s % 2 : Nat) : Int) :: toI q
        rw [e]
        have ih : decZ (toI l) (s / 2) = toI q := ih
        rw [ih]
        congr 1
        omega
    · rw [if_neg h]
      exact ⟨_, by rw [e]; exact List.mem_cons_self .., by omega⟩
theorem f97_1_eq (a : List Int) (ha : a.length ≤ 1000) : ∀ (r i fuel : Nat) (x : Int), i + r = a.length → r < fuel → ∃ v, f97_1 2001 fuel a x (i : Int) = some v ∧ (0 ≤ v ↔ 0 ≤ x ∧ ∀ y ∈ a.drop i, 0 ≤ y)
  | 0, i, fuel + 1, x, hi, _ => by
    rw [f97_1, dcF (p := (i : Int) < ((a.length : Nat) : Int)) (by omega), List.drop_eq_nil_of_le (by omega)]
    exact ⟨x, rfl, by simp⟩
  | r + 1, i, fuel + 1, x, hi, hf => by
    have hil : i < a.length := by omega
    obtain ⟨v, h1, h2⟩ := f97_1_eq a ha r (i + 1) fuel (iMin x (a.getD i 0)) (by omega) (by omega)
    have t : Int.toNat (i : Int) = i := rfl
    rw [f97_1, dcT (p := (i : Int) < ((a.length : Nat) : Int)) (by omega), inR hil, t, nat_succ _ (by omega)]
    refine ⟨v, h1, ?_⟩
    rw [h2, iMin_eq, drop_getD hil]
    constructor
    · rintro ⟨q1, q2⟩
      refine ⟨by omega, fun y hy => ?_⟩
      rcases List.mem_cons.1 hy with rfl | hy
      · omega
      · exact q2 y hy
    · rintro ⟨q1, q2⟩
      have := q2 _ (List.mem_cons_self ..)
      exact ⟨by omega, fun y hy => q2 y (List.mem_cons_of_mem _ hy)⟩
theorem f97_eq (a : List Int) (ha : a.length ≤ 900) : ∃ v, f97 2001 (a ++ [0]) = some v ∧ (0 ≤ v ↔ ∀ y ∈ a, 0 ≤ y) := by
  have hl : (a ++ [(0 : Int)]).length = a.length + 1 := by simp
  obtain ⟨v, h1, h2⟩ := f97_1_eq (a ++ [0]) (by omega) a.length 1 2001 ((a ++ [0]).getD 0 0) (by omega) (by omega)
  have h1' : f97_1 2001 2001 (a ++ [0]) ((a ++ [0]).getD 0 0) 1 = some v := h1
  refine ⟨v, ?_, ?_⟩
  · unfold f97
    rw [hl, dcF (p := ((a.length + 1 : Nat) : Int) < 1) (by omega), inRow_iff.2 (show (0 : Int) ≤ 0 ∧ (0 : Int) < ((a.length + 1 : Nat) : Int) by omega), h1']
    rfl
  · rw [h2]
    cases a with
    | nil => simp
    | cons x a =>
      show 0 ≤ x ∧ (∀ y ∈ (a ++ [(0 : Int)]), 0 ≤ y) ↔ ∀ y ∈ x :: a, 0 ≤ y
      constructor
      · rintro ⟨q1, q2⟩ y hy
        rcases List.mem_cons.1 hy with rfl | hy
        · exact q1
        · exact q2 y (List.mem_append.2 (.inl hy))
      · intro q
        refine ⟨q x (List.mem_cons_self ..), fun y hy => ?_⟩
        rcases List.mem_append.1 hy with hy | hy
        · exact q y (List.mem_cons_of_mem _ hy)
        · rw [List.mem_singleton.1 hy]; omega
theorem f70_2_eq (c : Int) (i1 k1 : Nat) (b : List Int) (i2 n2 k2 : Nat) (x16 x17 : Int) (D : List Int) (hD : D.length ≤ 100) : ∀ (s fuel : Nat) (L : List Int), s < fuel → s < 2 ^ L.length → L.length ≤ 7 → (∀ x ∈ L, (s : Int) - 1000 ≤ x ∧ x ≤ 100) →
    f70_2 2001 fuel c i1 D.length k1 b i2 n2 k2 x16 x17 (s : Int) (D ++ L) = some (D ++ decZ L s) := by
  intro s
  induction s using Nat.strongRecOn with
  | _ s ih =>
    intro fuel L hf hs hl hx
    obtain ⟨fuel, rfl⟩ : ∃ n, fuel = n + 1 := ⟨fuel - 1, by omega⟩
    by_cases h0 : s = 0
    · subst h0
      rw [decZ_0]
      rfl
    · obtain ⟨t1, t2, t3⟩ := tz_n hl hs h0
      obtain ⟨d1, d2, d3⟩ := decZ_clr L s hs h0
      have e1 : (((s : Nat) : Int) != 0) = true := bne_iff_ne.2 (by omega)
      have e2 : w64 (((D.length : Nat) : Int) + ((lowb L.length s : Nat) : Int)) = ((D.length + lowb L.length s : Nat) : Int) := by rw [w64i (by omega) (by omega)]; omega
      have e3 : (D ++ L).length = D.length + L.length := List.length_append ..
      have e4 : Int.toNat ((D.length + lowb L.length s : Nat) : Int) = D.length + lowb L.length s := rfl
      have e5 : List.getD (D ++ L) (D.length + lowb L.length s) 0 = L.getD (lowb L.length s) 0 := by
        rw [List.getD_eq_getElem?_getD, List.getD_eq_getElem?_getD, List.getElem?_append_right (by omega)]
        congr 2; omega
      have e6 : ∀ v, List.set (D ++ L) (D.length + lowb L.length s) v = D ++ L.set (lowb L.length s) v := fun v => by
        rw [List.set_append_right _ _ (by omega)]
        congr 2; omega
      have hg := hx _ (show L.getD (lowb L.length s) 0 ∈ L by
        rw [List.getD_eq_getElem?_getD, List.getElem?_eq_getElem d1]; exact List.getElem_mem _)
      rw [f70_2, e1, t1, t2, t3, e2, e3, inR (show D.length + lowb L.length s < D.length + L.length by omega), e4, e5, w64i (by omega) (by omega), e6]
      have hl2 : (L.set (lowb L.length s) (L.getD (lowb L.length s) 0 - 1)).length = L.length := List.length_set ..
      have h2 := ih (clr L.length s) d2 fuel (L.set (lowb L.length s) (L.getD (lowb L.length s) 0 - 1)) (by omega) (by rw [hl2]; omega) (by rw [hl2]; exact hl) (fun x hm => by
        rcases List.mem_or_eq_of_mem_set hm with h | h
        · have := hx x h; omega
        · omega)
      rw [d3] at h2
      exact h2
def pd (c : Nat) (d l : List Nat) (s : Nat) : Bool := Nat.beq (pop l.length s) c && (match les l s with | some q => real (d ++ q) | none => false)
def exi (c : Nat) (d l : List Nat) : Nat → Nat → Bool
  | 0, _ => false
  | r + 1, s => pd c d l s || exi c d l r (s + 1)
def ex (c : Nat) (d l : List Nat) : Bool := exi c d l (2 ^ l.length) 0
theorem exi_iff (c : Nat) (d l : List Nat) : ∀ r s, exi c d l r s = true ↔ ∃ t, s ≤ t ∧ t < s + r ∧ pd c d l t = true
  | 0, s => by simp [exi]; omega
  | r + 1, s => by
    unfold exi
    rw [Bool.or_eq_true, exi_iff c d l r (s + 1)]
    constructor
    · rintro (h | ⟨t, h1, h2, h3⟩)
      · exact ⟨s, Nat.le_refl _, by omega, h⟩
      · exact ⟨t, by omega, by omega, h3⟩
    · rintro ⟨t, h1, h2, h3⟩
      by_cases e : t = s
      · subst e; exact .inl h3
      · exact .inr ⟨t, by omega, by omega, h3⟩
theorem ex_iff {c : Nat} {d l : List Nat} : ex c d l = true ↔ ∃ t, t < 2 ^ l.length ∧ pd c d l t = true := by
  unfold ex
  rw [exi_iff]
  constructor
  · rintro ⟨t, _, h2, h3⟩; exact ⟨t, by omega, h3⟩
  · rintro ⟨t, h2, h3⟩; exact ⟨t, by omega, by omega, h3⟩
theorem f95_eq (i1 n1 k1 i2 n2 k2 : Nat) (b : List Int) (h1 : 1 ≤ n1) (h2 : n1 ≤ k1) (h3 : i1 + n1 ≤ b.length) (h4 : n2 ≤ k2) (h5 : i2 + n2 ≤ b.length) (hb : b.length ≤ 100) :
    f95 2001 i1 n1 k1 i2 n2 k2 b = some (List.take n1 (List.drop i1 b) ++ List.take n2 (List.drop i2 b)) := by
  have e1 : w64 (0 + ((n1 : Nat) : Int)) = ((n1 : Nat) : Int) := by rw [w64i (by omega) (by omega)]; omega
  have e2 : w64 (((n1 : Nat) : Int) + ((n2 : Nat) : Int)) = ((n1 + n2 : Nat) : Int) := by rw [w64i (by omega) (by omega)]; omega
  have e3 : w64 (((n1 + n2 : Nat) : Int) - 0) = ((n1 + n2 : Nat) : Int) := by rw [w64i (by omega) (by omega)]; omega
  have l1 : (List.take n1 (List.drop i1 b)).length = n1 := by rw [List.length_take, List.length_drop]; omega
  have t : Int.toNat ((n1 + n2 : Nat) : Int) = n1 + n2 := rfl
  unfold f95
  rw [e1, e2, dcF (p := ((n1 : Nat) : Int) < 0) (by omega), dcF (p := ((n1 + n2 : Nat) : Int) < 0) (by omega)]
  have h1_ : f95_1 2001 2001 i1 n1 k1 i2 n2 k2 b ((n1 + n2 : Nat) : Int) = some ((n1 + n2 : Nat) : Int) := rfl
  rw [h1_]
  simp only [cond_false, Option.bind_some]
  rw [dcF (p := ((n1 + n2 : Nat) : Int) < 0) (by omega), e3, dcT (p := ((n1 + n2 : Nat) : Int) > 0) (by omega), t, Nat.ble_eq_true_of_le (show (n1 + n2) * 8 ≤ 1000000000 by omega), Nat.ble_eq_true_of_le (show n1 + n2 ≤ 1000000000 by omega)]
  rw [cutOK_iff.2 (show (0 : Int) ≤ 0 ∧ (0 : Int) ≤ 0 ∧ (0 : Int) ≤ ((n1 + n2 : Nat) : Int) ∧ ((n1 + n2 : Nat) : Int) ≤ ((n1 + n2 : Nat) : Int) by omega), dcT h2, dcT h3, l1, dcT (p := 1 ≤ n1) h1, fitsI (show n1 ≤ 1000 by omega) (by omega), dcT h4, dcT h5, fitsI (show n1 + n2 ≤ 1000 by omega) (by omega)]
  rfl
theorem f70_1_eq (c : Nat) (d l : List Nat) (i1 k1 : Nat) (b : List Int) (i2 k2 : Nat) (h1 : 1 ≤ d.length) (h2 : d.length ≤ k1) (h3 : i1 + d.length ≤ b.length) (h4 : l.length ≤ k2) (h5 : i2 + l.length ≤ b.length) (hb : b.length ≤ 100)
    (hd : List.take d.length (List.drop i1 b) = toI d) (hl : List.take l.length (List.drop i2 b) = toI l) (h7 : d.length + l.length ≤ 8) (hsd : ∀ x ∈ d, x ≤ 7) (hsl : ∀ x ∈ l, x ≤ 7) : ∀ (r s fuel : Nat), s + r = 2 ^ l.length → r < fuel →
    f70_1 2001 fuel (c : Int) i1 d.length k1 b i2 l.length k2 ((2 ^ l.length : Nat) : Int) (s : Int) = some (match exi c d l r s with | true => .r | false => .x0)
  | 0, s, fuel + 1, hi, _ => by
    rw [f70_1, dcF (p := (s : Int) < ((2 ^ l.length : Nat) : Int)) (by omega)]
    rfl
  | r + 1, s, fuel + 1, hi, hf => by
    have h27 : 2 ^ l.length ≤ 2 ^ 7 := Nat.pow_le_pow_right (by omega) (by omega)
    have ih := f70_1_eq c d l i1 k1 b i2 k2 h1 h2 h3 h4 h5 hb hd hl h7 hsd hsl r (s + 1) fuel (by omega) (by omega)
    have e1 : IntKind.wrap .u64 ((s : Int) + 1) = ((s + 1 : Nat) : Int) := by
      have : ∀ k : Fin 128, IntKind.wrap .u64 ((k.val : Int) + 1) = ((k.val + 1 : Nat) : Int) := by decide
      exact this ⟨s, by omega⟩
    rw [f70_1, dcT (p := (s : Int) < ((2 ^ l.length : Nat) : Int)) (by omega), ones_n (n := l.length) (by omega) (by omega), e1]
    have hex : exi c d l (r + 1) s = (pd c d l s || exi c d l r (s + 1)) := rfl
    rw [hex]
    show cond (((pop l.length s : Nat) : Int) != (c : Int)) _ _ = _
    by_cases hp : pop l.length s = c
    · have e2 : (((pop l.length s : Nat) : Int) != (c : Int)) = false := by rw [hp]; simp
      have hpd : pd c d l s = (match les l s with | some q => real (d ++ q) | none => false) := by unfold pd; rw [hp, Nat.beq_refl]; rfl
      rw [e2, f95_eq i1 d.length k1 i2 l.length k2 b h1 h2 h3 h4 h5 hb, hd, hl]
      have h70 := f70_2_eq (c : Int) i1 k1 b i2 l.length k2 ((2 ^ l.length : Nat) : Int) (s : Int) (toI d) (by rw [toI_len]; omega) s 2001 (toI l) (by omega) (by rw [toI_len]; omega) (by rw [toI_len]; omega) (fun x hx => by
        obtain ⟨y, hy, rfl⟩ := List.mem_map.1 hx
        have := hsl y hy
        show (s : Int) - 1000 ≤ ((y : Nat) : Int) ∧ ((y : Nat) : Int) ≤ 100
        omega)
      rw [toI_len] at h70
      show ((f70_2 2001 2001 (c : Int) i1 d.length k1 b i2 l.length k2 ((2 ^ l.length : Nat) : Int) (s : Int) (s : Int) (toI d ++ toI l)).bind _) = _
      rw [h70]
      have hlen : (toI d ++ decZ (toI l) s).length = d.length + l.length := by rw [List.length_append, decZ_len, toI_len, toI_len]
      show cond (decide (1 ≤ (toI d ++ decZ (toI l) s).length)) _ _ = _
      rw [hlen, dcT (show 1 ≤ d.length + l.length by omega), fitsI (show d.length + l.length + 1 ≤ 1000 by omega) (by omega)]
      obtain ⟨v, v1, v2⟩ := f97_eq (toI d ++ decZ (toI l) s) (by omega)
      show ((f97 2001 (toI d ++ decZ (toI l) s ++ [0])).bind _) = _
      rw [v1]
      have hld := les_decZ l s
      cases hq : les l s with
      | none =>
        rw [hq] at hld hpd
        obtain ⟨x, hx, hx0⟩ := hld
        have hv : ¬ (v ≥ 0) := fun q => by
          have := v2.1 q x (List.mem_append.2 (.inr hx)); omega
        show cond (decide (v ≥ 0)) _ _ = _
        rw [dcF hv, hpd]
        exact ih
      | some q =>
        rw [hq] at hld hpd
        have hld : decZ (toI l) s = toI q := hld
        have hall : ∀ x ∈ toI d ++ toI q, 0 ≤ x := fun x hx => by
          rw [← toI_append] at hx
          obtain ⟨y, _, rfl⟩ := List.mem_map.1 hx
          exact Int.natCast_nonneg y
        rw [hld] at v2 ⊢
        have hql := les_len hq
        show cond (decide (v ≥ 0)) ((f59 2001 (toI d ++ toI q)).bind _) _ = _
        rw [dcT (v2.2 hall), ← toI_append, can59 (d ++ q) (by rw [List.length_append]; omega) (fun x hx => by
          rcases List.mem_append.1 hx with hx | hx
          · exact hsd x hx
          · exact les_small hq hsl x hx), hpd]
        show cond (real (d ++ q)) _ _ = some (match real (d ++ q) || exi c d l r (s + 1) with | true => Of70_1.r | false => .x0)
        cases real (d ++ q) with
        | true => rfl
        | false => exact ih
    · have e2 : (((pop l.length s : Nat) : Int) != (c : Int)) = true := bne_iff_ne.2 (by omega)
      have hpd : pd c d l s = false := by unfold pd; rw [beqF hp]; rfl
      rw [e2, hpd]
      exact ih
theorem pop_le : ∀ n s, pop n s ≤ n
  | 0, s => Nat.le_refl _
  | n + 1, s => by have := pop_le n (s / 2); show s % 2 + pop n (s / 2) ≤ n + 1; omega
theorem f70_eq (c : Nat) (d l : List Nat) (i1 k1 : Nat) (b : List Int) (i2 k2 : Nat) (h1 : 1 ≤ d.length) (h2 : d.length ≤ k1) (h3 : i1 + d.length ≤ b.length) (h4 : l.length ≤ k2) (h5 : i2 + l.length ≤ b.length) (hb : b.length ≤ 100)
    (hd : List.take d.length (List.drop i1 b) = toI d) (hl : List.take l.length (List.drop i2 b) = toI l) (h7 : d.length + l.length ≤ 8) (hsd : ∀ x ∈ d, x ≤ 7) (hsl : ∀ x ∈ l, x ≤ 7) :
    f70 2001 (c : Int) i1 d.length k1 b i2 l.length k2 = some (ex c d l) := by
  unfold f70
  have h27 : 2 ^ l.length ≤ 2 ^ 7 := Nat.pow_le_pow_right (by omega) (by omega)
  by_cases hc : c > l.length
  · rw [dcT (p := (c : Int) > ((l.length : Nat) : Int)) (by omega)]
    have : ex c d l = false := by
      cases hb : ex c d l with
      | false => rfl
      | true =>
        obtain ⟨t, _, h⟩ := ex_iff.1 hb
        unfold pd at h
        rw [Bool.and_eq_true] at h
        have := Nat.eq_of_beq_eq_true h.1
        have := pop_le l.length t
        omega
    rw [this]; rfl
  · rw [dcF (p := (c : Int) > ((l.length : Nat) : Int)) (by omega), dcT (p := (0 : Int) ≤ ((l.length : Nat) : Int)) (by omega), shl1u (by omega)]
    have h := f70_1_eq c d l i1 k1 b i2 k2 h1 h2 h3 h4 h5 hb hd hl h7 hsd hsl (2 ^ l.length) 0 2001 (by omega) (by omega)
    have h' : f70_1 2001 2001 (c : Int) i1 d.length k1 b i2 l.length k2 ((2 ^ l.length : Nat) : Int) 0 = _ := h
    show ((f70_1 2001 2001 (c : Int) i1 d.length k1 b i2 l.length k2 ((2 ^ l.length : Nat) : Int) 0).bind _) = _
    rw [h']
    unfold ex
    cases exi c d l (2 ^ l.length) 0 <;> rfl
end Go.Xm.Mk
namespace Go.Xm.Mk
set_option linter.unusedVariables false
set_option linter.unusedSimpArgs false
set_option maxRecDepth 20000
def gr : Nat → List Nat → List Nat → Nat
  | _, _, [] => 0
  | c, d, y :: l => match c, y with
    | c' + 1, y' + 1 => (match ex c' (d ++ [y']) l with
      | true => 2 * gr c' (d ++ [y']) l + 1
      | false => 2 * gr (c' + 1) (d ++ [y' + 1]) l)
    | c, y => 2 * gr c (d ++ [y]) l
theorem gr_0 (d : List Nat) (y : Nat) (l : List Nat) : gr 0 d (y :: l) = 2 * gr 0 (d ++ [y]) l := rfl
theorem gr_z (c : Nat) (d : List Nat) (l : List Nat) : gr c d (0 :: l) = 2 * gr c (d ++ [0]) l := by cases c <;> rfl
theorem gr_s (c : Nat) (d : List Nat) (y : Nat) (l : List Nat) : gr (c + 1) d ((y + 1) :: l) = (match ex c (d ++ [y]) l with | true => 2 * gr c (d ++ [y]) l + 1 | false => 2 * gr (c + 1) (d ++ [y + 1]) l) := rfl
theorem pd_even (c : Nat) (d : List Nat) (y : Nat) (l : List Nat) (t : Nat) : pd c d (y :: l) (2 * t) = pd c (d ++ [y]) l t := by
  have hp : pop (y :: l).length (2 * t) = pop l.length t := by
    show (2 * t) % 2 + pop l.length (2 * t / 2) = _
    rw [(even2 t).1, (even2 t).2]; omega
  have hl : les (y :: l) (2 * t) = (les l t).map (fun r => y :: r) := by
    rw [les_cons, (even2 t).1, (even2 t).2, if_pos (Nat.zero_le _)]; rfl
  unfold pd
  rw [hp, hl]
  congr 1
  cases les l t with
  | none => rfl
  | some q => show real (d ++ y :: q) = real (d ++ [y] ++ q); rw [List.append_assoc]; rfl
theorem pd_odd (c : Nat) (d : List Nat) (y : Nat) (l : List Nat) (t : Nat) : pd (c + 1) d ((y + 1) :: l) (2 * t + 1) = pd c (d ++ [y]) l t := by
  have hp : pop ((y + 1) :: l).length (2 * t + 1) = pop l.length t + 1 := by
    show (2 * t + 1) % 2 + pop l.length ((2 * t + 1) / 2) = _
    rw [(odd2 t).1, (odd2 t).2]; omega
  have hl : les ((y + 1) :: l) (2 * t + 1) = (les l t).map (fun r => y :: r) := by
    rw [les_cons, (odd2 t).1, (odd2 t).2, if_pos (by omega)]; rfl
  have hb : Nat.beq (pop l.length t + 1) (c + 1) = Nat.beq (pop l.length t) c := rfl
  unfold pd
  rw [hp, hl, hb]
  congr 1
  cases les l t with
  | none => rfl
  | some q => show real (d ++ y :: q) = real (d ++ [y] ++ q); rw [List.append_assoc]; rfl
theorem pd_odd0 (d : List Nat) (y : Nat) (l : List Nat) (t : Nat) : pd 0 d (y :: l) (2 * t + 1) = false := by
  have hp : pop (y :: l).length (2 * t + 1) = pop l.length t + 1 := by
    show (2 * t + 1) % 2 + pop l.length ((2 * t + 1) / 2) = _
    rw [(odd2 t).1, (odd2 t).2]; omega
  unfold pd
  rw [hp]; rfl
theorem pd_oddz (c : Nat) (d : List Nat) (l : List Nat) (t : Nat) : pd c d (0 :: l) (2 * t + 1) = false := by
  have hl : les (0 :: l) (2 * t + 1) = none := by rw [les_cons, (odd2 t).1, if_neg (by omega)]
  unfold pd
  rw [hl]
  cases Nat.beq (pop (0 :: l).length (2 * t + 1)) c <;> rfl
theorem llt_even {n s t : Nat} : llt (n + 1) (2 * s) (2 * t) = llt n s t := by
  show (match Nat.beq (2 * s % 2) (2 * t % 2) with | true => llt n (2 * s / 2) (2 * t / 2) | false => _) = _
  rw [(even2 s).1, (even2 t).1, (even2 s).2, (even2 t).2]
theorem llt_odd {n s t : Nat} : llt (n + 1) (2 * s + 1) (2 * t + 1) = llt n s t := by
  show (match Nat.beq ((2 * s + 1) % 2) ((2 * t + 1) % 2) with | true => llt n ((2 * s + 1) / 2) ((2 * t + 1) / 2) | false => _) = _
  rw [(odd2 s).1, (odd2 t).1, (odd2 s).2, (odd2 t).2]
theorem llt_first {n s t : Nat} : llt (n + 1) (2 * s + 1) (2 * t) = true := by
  show (match Nat.beq ((2 * s + 1) % 2) (2 * t % 2) with | true => llt n ((2 * s + 1) / 2) (2 * t / 2) | false => Nat.beq ((2 * s + 1) % 2) 1) = _
  rw [(odd2 s).1, (even2 t).1]; rfl
def MinD (c : Nat) (d l : List Nat) (s : Nat) : Prop := s < 2 ^ l.length ∧ pd c d l s = true ∧ ∀ t, t < 2 ^ l.length → pd c d l t = true → t ≠ s → llt l.length s t = true
theorem halves (t : Nat) : t = 2 * (t / 2) ∨ t = 2 * (t / 2) + 1 := by omega
theorem min_even {c : Nat} {d : List Nat} {y : Nat} {l : List Nat} {s : Nat} (h : MinD c (d ++ [y]) l s) (hn : ∀ t, t < 2 ^ l.length → pd c d (y :: l) (2 * t + 1) = false) : MinD c d (y :: l) (2 * s) := by
  have e : 2 ^ (y :: l).length = 2 * 2 ^ l.length := by rw [List.length_cons, Nat.pow_succ]; omega
  refine ⟨by rw [e]; have := h.1; omega, by rw [pd_even]; exact h.2.1, fun t ht hp hne => ?_⟩
  rw [e] at ht
  rcases halves t with ht2 | ht2
  · rw [ht2] at hp hne ⊢
    rw [pd_even] at hp
    show llt (l.length + 1) _ _ = true
    rw [llt_even]
    exact h.2.2 _ (by omega) hp (fun q => hne (by rw [q]))
  · rw [ht2, hn _ (by omega)] at hp
    cases hp
theorem gr_min : ∀ (l : List Nat) (c : Nat) (d : List Nat), ex c d l = true → MinD c d l (gr c d l)
  | [], c, d, h => by
    obtain ⟨t, ht, hp⟩ := ex_iff.1 h
    have e : t = 0 := by simp at ht; omega
    subst e
    exact ⟨by show 0 < 2 ^ 0; omega, hp, fun t ht _ hne => absurd (show t = 0 by simp at ht; omega) hne⟩
  | y :: l, 0, d, h => by
    rw [gr_0]
    have hn : ∀ t, t < 2 ^ l.length → pd 0 d (y :: l) (2 * t + 1) = false := fun t _ => pd_odd0 d y l t
    obtain ⟨t, ht, hp⟩ := ex_iff.1 h
    have e : 2 ^ (y :: l).length = 2 * 2 ^ l.length := by rw [List.length_cons, Nat.pow_succ]; omega
    rw [e] at ht
    refine min_even (gr_min l 0 (d ++ [y]) (ex_iff.2 ?_)) hn
    rcases halves t with ht2 | ht2
    · rw [ht2, pd_even] at hp; exact ⟨_, by omega, hp⟩
    · rw [ht2, hn _ (by omega)] at hp; cases hp
  | 0 :: l, c + 1, d, h => by
    rw [gr_z]
    have hn : ∀ t, t < 2 ^ l.length → pd (c + 1) d (0 :: l) (2 * t + 1) = false := fun t _ => pd_oddz (c + 1) d l t
    obtain ⟨t, ht, hp⟩ := ex_iff.1 h
    have e : 2 ^ (0 :: l).length = 2 * 2 ^ l.length := by rw [List.length_cons, Nat.pow_succ]; omega
    rw [e] at ht
    refine min_even (gr_min l (c + 1) (d ++ [0]) (ex_iff.2 ?_)) hn
    rcases halves t with ht2 | ht2
    · rw [ht2, pd_even] at hp; exact ⟨_, by omega, hp⟩
    · rw [ht2, hn _ (by omega)] at hp; cases hp
  | (y + 1) :: l, c + 1, d, h => by
    rw [gr_s]
    have e : 2 ^ ((y + 1) :: l).length = 2 * 2 ^ l.length := by rw [List.length_cons, Nat.pow_succ]; omega
    cases hx : ex c (d ++ [y]) l with
    | true =>
      have ih := gr_min l c (d ++ [y]) hx
      refine ⟨by rw [e]; have := ih.1; show 2 * gr c (d ++ [y]) l + 1 < _; omega, by show pd (c + 1) d ((y + 1) :: l) (2 * gr c (d ++ [y]) l + 1) = true; rw [pd_odd]; exact ih.2.1, fun t ht hp hne => ?_⟩
      rw [e] at ht
      show llt (l.length + 1) (2 * gr c (d ++ [y]) l + 1) t = true
      rcases halves t with ht2 | ht2
      · rw [ht2, llt_first]
      · have hne : t ≠ 2 * gr c (d ++ [y]) l + 1 := hne
        rw [ht2] at hp hne ⊢
        rw [pd_odd] at hp
        rw [llt_odd]
        exact ih.2.2 _ (by omega) hp (fun q => hne (by rw [q]))
    | false =>
      have hn : ∀ t, t < 2 ^ l.length → pd (c + 1) d ((y + 1) :: l) (2 * t + 1) = false := fun t ht => by
        rw [pd_odd]
        cases hp : pd c (d ++ [y]) l t with
        | false => rfl
        | true => rw [ex_iff.2 ⟨t, ht, hp⟩] at hx; cases hx
      obtain ⟨t, ht, hp⟩ := ex_iff.1 h
      rw [e] at ht
      refine min_even (gr_min l (c + 1) (d ++ [y + 1]) (ex_iff.2 ?_)) hn
      rcases halves t with ht2 | ht2
      · rw [ht2, pd_even] at hp; exact ⟨_, by omega, hp⟩
      · rw [ht2, hn _ (by omega)] at hp; cases hp
theorem min_uniq {c : Nat} {l : List Nat} {s t : Nat} (h1 : Min c l s) (h2 : Min c l t) : s = t := by
  by_cases e : s = t
  · exact e
  · have g1 := h1.2.2 t h2.1 h2.2.1 (Ne.symm e)
    have g2 := h2.2.2 s h1.1 h1.2.1 e
    rw [llt_asymm _ _ _ g1] at g2
    cases g2
theorem gr_is {c : Nat} {l : List Nat} {s : Nat} (h : Min c l s) : gr c [] l = s := by
  have hx : ex c [] l = true := ex_iff.2 ⟨s, h.1, h.2.1⟩
  have hm := gr_min l c [] hx
  exact min_uniq (c := c) (l := l) ⟨hm.1, hm.2.1, hm.2.2⟩ h
theorem first_ex : ∀ (n : Nat) (b : Nat) (l : List Nat), l.length = n → real l = true → ∃ T, First b l T
  | 0, b, [], _, _ => ⟨[], .nil b⟩
  | n + 1, b, c :: l, hl, h => by
    simp only [List.length_cons] at hl
    unfold real at h
    have h := of_decide_eq_true h
    rw [cnt_cons, ← sum_sets] at h
    have key : ∀ r s, 0 < Sr (fun s => if pop l.length s = c then opt cnt (les l s) else 0) r s → ∃ t, s ≤ t ∧ t < s + r ∧ vld c l t = true := by
      intro r
      induction r with
      | zero => intro s h; simp [Sr] at h
      | succ r ih =>
        intro s h
        have h : 0 < (if pop l.length s = c then opt cnt (les l s) else 0) + Sr (fun s => if pop l.length s = c then opt cnt (les l s) else 0) r (s + 1) := h
        by_cases h0 : 0 < Sr (fun s => if pop l.length s = c then opt cnt (les l s) else 0) r (s + 1)
        · obtain ⟨t, t1, t2, t3⟩ := ih (s + 1) h0
          exact ⟨t, by omega, by omega, t3⟩
        · refine ⟨s, Nat.le_refl _, by omega, ?_⟩
          by_cases hp : pop l.length s = c
          · rw [if_pos hp] at h
            unfold vld
            rw [hp, Nat.beq_refl]
            cases hq : les l s with
            | none => rw [hq] at h; have : opt cnt none = 0 := rfl; omega
            | some q =>
              rw [hq] at h
              have : opt cnt (some q) = cnt q := rfl
              show (true && real q) = true
              unfold real
              rw [dcT (show 0 < cnt q by omega)]; rfl
          · rw [if_neg hp] at h; omega
    obtain ⟨t, _, t2, t3⟩ := key _ _ h
    have hx : ex c [] l = true := ex_iff.2 ⟨t, by omega, t3⟩
    have hm := gr_min l c [] hx
    have hm' : Min c l (gr c [] l) := ⟨hm.1, hm.2.1, hm.2.2⟩
    have hv := hm'.2.1
    unfold vld at hv
    rw [Bool.and_eq_true] at hv
    cases hq : les l (gr c [] l) with
    | none => rw [hq] at hv; cases hv.2
    | some q =>
      rw [hq] at hv
      obtain ⟨T, hT⟩ := first_ex n (b + 1) q (by rw [les_len hq]; omega) hv.2
      exact ⟨_, .cons hm' hq hT⟩
theorem getD_at {A : List Nat} {x : Nat} {R : List Nat} {n : Nat} (h : n = A.length) : List.getD (toI (A ++ x :: R)) n 0 = (x : Int) := by
  rw [toI_append, toI_cons]
  exact getD_mid _ _ _ _ (by rw [toI_len]; exact h)
theorem set_at {A : List Nat} {x y : Nat} {R : List Nat} {n : Nat} (h : n = A.length) {v : Int} (hv : v = (y : Int)) : List.set (toI (A ++ x :: R)) n v = toI (A ++ y :: R) := by
  rw [toI_append, toI_cons, toI_append, toI_cons, hv]
  exact set_mid _ _ _ _ (by rw [toI_len]; exact h)
theorem toI_take (n : Nat) (l : List Nat) : List.take n (toI l) = toI (l.take n) := by unfold toI; rw [List.map_take]
theorem toI_drop (n : Nat) (l : List Nat) : List.drop n (toI l) = toI (l.drop n) := by unfold toI; rw [List.map_drop]
theorem f23_2_eq (a : List Int) (N xh : Int) (P : List Nat) : ∀ (l : List Nat) (c : Nat) (d : List Nat) (fuel : Nat) (TB : List (Int × Int)), P.length + 1 + d.length + l.length ≤ 8 → l.length < fuel → TB.length + l.length ≤ 100 → c ≤ 7 → (∀ x ∈ d, x ≤ 7) → (∀ x ∈ l, x ≤ 7) →
    ∃ q c', les l (gr c d l) = some q ∧ c' ≤ 7 ∧ f23_2 2001 fuel a N ((P.length : Nat) : Int) xh ((P.length + 1 + d.length : Nat) : Int) (toI (P ++ c :: (d ++ l))) TB = some (toI (P ++ c' :: (d ++ q)), TB ++ wl P.length l.length d.length (gr c d l))
  | [], c, d, fuel + 1, TB, h8, _, _, hc, _, _ => by
    refine ⟨[], c, rfl, hc, ?_⟩
    have e : (toI (P ++ c :: (d ++ []))).length = P.length + 1 + d.length := by rw [toI_len]; simp; omega
    rw [f23_2, e, dcF (p := ((P.length + 1 + d.length : Nat) : Int) < ((P.length + 1 + d.length : Nat) : Int)) (by omega)]
    show some (_, TB) = some (_, TB ++ [])
    rw [List.append_nil TB]
  | y :: l, c, d, fuel + 1, TB, h8, hf, hTB, hc, hd, hs => by
    simp only [List.length_cons] at h8 hf hTB
    have hy := hs y (List.mem_cons_self ..)
    have hs' : ∀ x ∈ l, x ≤ 7 := fun x hx => hs x (List.mem_cons_of_mem _ hx)
    have hlen : ∀ (c y : Nat), (toI (P ++ c :: (d ++ y :: l))).length = P.length + 1 + d.length + 1 + l.length := fun c y => by rw [toI_len]; simp; omega
    have tP : Int.toNat ((P.length : Nat) : Int) = P.length := rfl
    have tJ : Int.toNat ((P.length + 1 + d.length : Nat) : Int) = P.length + 1 + d.length := rfl
    have eJ : ∀ (c y : Nat), P ++ c :: (d ++ y :: l) = (P ++ c :: d) ++ y :: l := fun c y => by simp
    have hJ : ∀ c : Nat, P.length + 1 + d.length = (P ++ c :: d).length := fun c => by simp; omega
    have g1 : ∀ (c y : Nat), List.getD (toI (P ++ c :: (d ++ y :: l))) P.length 0 = (c : Int) := fun c y => getD_at rfl
    have g2 : ∀ (c y : Nat), List.getD (toI (P ++ c :: (d ++ y :: l))) (P.length + 1 + d.length) 0 = (y : Int) := fun c y => by rw [eJ]; exact getD_at (hJ c)
    have s1 : ∀ (c y c' : Nat) (v : Int), v = (c' : Int) → List.set (toI (P ++ c :: (d ++ y :: l))) P.length v = toI (P ++ c' :: (d ++ y :: l)) := fun c y c' v hv => set_at rfl hv
    have s2 : ∀ (c y y' : Nat) (v : Int), v = (y' : Int) → List.set (toI (P ++ c :: (d ++ y :: l))) (P.length + 1 + d.length) v = toI (P ++ c :: (d ++ y' :: l)) := fun c y y' v hv => by rw [eJ, set_at (hJ c) hv, ← eJ]
    -- the next one
    have next : ∀ (c1 y1 fuel' : Nat) (TB' : List (Int × Int)), fuel' = fuel → TB'.length ≤ TB.length + 1 → c1 ≤ 7 → y1 ≤ 7 → ∃ q c', les l (gr c1 (d ++ [y1]) l) = some q ∧ c' ≤ 7 ∧
        f23_2 2001 fuel' a N ((P.length : Nat) : Int) xh (w64 (((P.length + 1 + d.length : Nat) : Int) + 1)) (toI (P ++ c1 :: (d ++ y1 :: l))) TB' = some (toI (P ++ c' :: (d ++ y1 :: q)), TB' ++ wl P.length l.length (d.length + 1) (gr c1 (d ++ [y1]) l)) := fun c1 y1 fuel' TB' hfu hTB' hc1 hy1 => by
      subst hfu
      have hd' : ∀ x ∈ d ++ [y1], x ≤ 7 := fun x hx => by
        rcases List.mem_append.1 hx with hx | hx
        · exact hd x hx
        · rw [List.mem_singleton.1 hx]; exact hy1
      obtain ⟨q, c', i1, i2, i3⟩ := f23_2_eq a N xh P l c1 (d ++ [y1]) fuel' TB' (by simp; omega) (by omega) (by omega) hc1 hd' hs'
      have e1 : (d ++ [y1]).length = d.length + 1 := by simp
      have e2 : ∀ r : List Nat, d ++ [y1] ++ r = d ++ y1 :: r := fun r => by simp
      rw [e1, e2, e2] at i3
      have e3 : w64 (((P.length + 1 + d.length : Nat) : Int) + 1) = ((P.length + 1 + (d.length + 1) : Nat) : Int) := by rw [w64i (by omega) (by omega)]; omega
      exact ⟨q, c', i1, i2, by rw [e3]; exact i3⟩
    have skip : ∀ s : Nat, gr c d (y :: l) = 2 * s → ∀ q, les l s = some q → les (y :: l) (gr c d (y :: l)) = some (y :: q) ∧ wl P.length (y :: l).length d.length (gr c d (y :: l)) = wl P.length l.length (d.length + 1) s := fun s hg q hq => by
      rw [hg]
      refine ⟨?_, ?_⟩
      · rw [les_cons, (even2 s).1, (even2 s).2, if_pos (Nat.zero_le _), hq]; rfl
      · show (match Nat.beq (2 * s % 2) 1 with | true => _ | false => wl P.length l.length (d.length + 1) (2 * s / 2)) = _
        rw [(even2 s).1, (even2 s).2]
    have skipR : ∀ (s : Nat), gr c d (y :: l) = 2 * s → s = gr c (d ++ [y]) l → ∀ X : Option (List Int × List (Int × Int)), (X = f23_2 2001 fuel a N ((P.length : Nat) : Int) xh (w64 (((P.length + 1 + d.length : Nat) : Int) + 1)) (toI (P ++ c :: (d ++ y :: l))) TB) →
        ∃ q c', les (y :: l) (gr c d (y :: l)) = some q ∧ c' ≤ 7 ∧ X = some (toI (P ++ c' :: (d ++ q)), TB ++ wl P.length (y :: l).length d.length (gr c d (y :: l))) := fun s hg hs1 X hX => by
      obtain ⟨q, c', i1, i2, i3⟩ := next c y fuel TB rfl (by omega) hc hy
      rw [← hs1] at i1 i3
      obtain ⟨k1, k2⟩ := skip s hg q i1
      exact ⟨y :: q, c', k1, i2, by rw [hX, i3, k2]⟩
    rw [f23_2, hlen, dcT (p := ((P.length + 1 + d.length : Nat) : Int) < ((P.length + 1 + d.length + 1 + l.length : Nat) : Int)) (by omega), inR (show P.length < P.length + 1 + d.length + 1 + l.length by omega), tP, g1, inR (show P.length + 1 + d.length < P.length + 1 + d.length + 1 + l.length by omega), tJ, g2]
    cases c with
    | zero =>
      exact skipR (gr 0 (d ++ [y]) l) (gr_0 d y l) rfl _ rfl
    | succ c =>
      have e1 : (((c + 1 : Nat) : Int) == 0) = false := beq_eq_false_iff_ne.2 (by omega)
      rw [e1]
      cases y with
      | zero =>
        exact skipR (gr (c + 1) (d ++ [0]) l) (gr_z (c + 1) d l) rfl _ rfl
      | succ y =>
        have e2 : (((y + 1 : Nat) : Int) == 0) = false := beq_eq_false_iff_ne.2 (by omega)
        have e3 : w64 (((c + 1 : Nat) : Int) - 1) = (c : Int) := by rw [w64i (by omega) (by omega)]; omega
        have e4 : w64 (((y + 1 : Nat) : Int) - 1) = (y : Int) := by rw [w64i (by omega) (by omega)]; omega
        have e5 : w64 ((c : Int) + 1) = ((c + 1 : Nat) : Int) := by rw [w64i (by omega) (by omega)]; omega
        have e6 : w64 ((y : Int) + 1) = ((y + 1 : Nat) : Int) := by rw [w64i (by omega) (by omega)]; omega
        have e7 : w64 (((P.length : Nat) : Int) + 1) = ((P.length + 1 : Nat) : Int) := by rw [w64i (by omega) (by omega)]; omega
        have e8 : w64 (((P.length + 1 + d.length : Nat) : Int) + 1) = ((P.length + 1 + d.length + 1 : Nat) : Int) := by rw [w64i (by omega) (by omega)]; omega
        have t7 : Int.toNat ((P.length + 1 : Nat) : Int) = P.length + 1 := rfl
        have t8 : Int.toNat ((P.length + 1 + d.length + 1 : Nat) : Int) = P.length + 1 + d.length + 1 := rfl
        rw [e2]
        rw [s1 (c + 1) (y + 1) c _ e3, g2, s2 c (y + 1) y _ e4, g1, s1 c y (c + 1) _ e5, g2, s2 (c + 1) y (y + 1) _ e6]
        rw [e7, e8, cutOK_iff.2 (show (0 : Int) ≤ ((P.length + 1 : Nat) : Int) ∧ ((P.length + 1 : Nat) : Int) ≤ ((P.length + 1 + d.length + 1 : Nat) : Int) ∧ ((P.length + 1 + d.length + 1 : Nat) : Int) ≤ ((P.length + 1 + d.length + 1 + l.length : Nat) : Int) ∧ ((P.length + 1 + d.length + 1 + l.length : Nat) : Int) ≤ ((P.length + 1 + d.length + 1 + l.length : Nat) : Int) by omega)]
        rw [cutOK_iff.2 (show (0 : Int) ≤ ((P.length + 1 + d.length + 1 : Nat) : Int) ∧ ((P.length + 1 + d.length + 1 : Nat) : Int) ≤ ((P.length + 1 + d.length + 1 + l.length : Nat) : Int) ∧ ((P.length + 1 + d.length + 1 + l.length : Nat) : Int) ≤ ((P.length + 1 + d.length + 1 + l.length : Nat) : Int) ∧ ((P.length + 1 + d.length + 1 + l.length : Nat) : Int) ≤ ((P.length + 1 + d.length + 1 + l.length : Nat) : Int) by omega)]
        have h70 := f70_eq c (d ++ [y]) l (P.length + 1) (P.length + 1 + d.length + 1 + l.length - (P.length + 1)) (toI (P ++ c :: (d ++ y :: l))) (P.length + 1 + d.length + 1) (P.length + 1 + d.length + 1 + l.length - (P.length + 1 + d.length + 1)) (by simp) (by simp; omega) (by rw [hlen]; simp; omega) (by omega) (by rw [hlen]; omega) (by rw [hlen]; omega)
          (by
            rw [toI_drop, toI_take]
            congr 1
            have : List.drop (P.length + 1) (P ++ c :: (d ++ y :: l)) = d ++ y :: l := by rw [List.drop_append]; simp
            rw [this]
            have e9 : d ++ y :: l = (d ++ [y]) ++ l := by simp
            rw [e9]
            exact List.take_left' rfl)
          (by
            rw [toI_drop, toI_take]
            congr 1
            have : List.drop (P.length + 1 + d.length + 1) (P ++ c :: (d ++ y :: l)) = l := by
              have e9 : P ++ c :: (d ++ y :: l) = (P ++ c :: (d ++ [y])) ++ l := by simp
              rw [e9]
              exact List.drop_left' (by simp; omega)
            rw [this, List.take_length]) (by simp; omega) (fun x hx => by
            rcases List.mem_append.1 hx with hx | hx
            · exact hd x hx
            · rw [List.mem_singleton.1 hx]; omega) hs'
        have e9 : P.length + 1 + d.length + 1 - (P.length + 1) = (d ++ [y]).length := by simp; omega
        have e10 : P.length + 1 + d.length + 1 + l.length - (P.length + 1 + d.length + 1) = l.length := by omega
        rw [t7, t8, e9]
        rw [e10] at h70 ⊢
        simp only [cond_false, cond_true]
        rw [h70]
        show ∃ q c', _ ∧ _ ∧ cond (ex c (d ++ [y]) l) _ _ = _
        cases hx : ex c (d ++ [y]) l with
        | true =>
          have hg : gr (c + 1) d ((y + 1) :: l) = 2 * gr c (d ++ [y]) l + 1 := by rw [gr_s, hx]
          obtain ⟨q, c', i1, i2, i3⟩ := next c y fuel (TB ++ [(((P.length : Nat) : Int), ((P.length + 1 + d.length : Nat) : Int))]) rfl (by simp) (by omega) (by omega)
          rw [e8] at i3
          refine ⟨y :: q, c', ?_, i2, ?_⟩
          · rw [hg, les_cons, (odd2 _).1, (odd2 _).2, if_pos (by omega), i1]; rfl
          · have hw : wl P.length ((y + 1) :: l).length d.length (gr (c + 1) d ((y + 1) :: l)) = (((P.length : Nat) : Int), ((P.length + 1 + d.length : Nat) : Int)) :: wl P.length l.length (d.length + 1) (gr c (d ++ [y]) l) := by
              rw [hg]
              show (match Nat.beq ((2 * gr c (d ++ [y]) l + 1) % 2) 1 with | true => _ :: wl P.length l.length (d.length + 1) ((2 * gr c (d ++ [y]) l + 1) / 2) | false => _) = _
              rw [(odd2 _).1, (odd2 _).2]
            rw [fitsI (show TB.length + 1 ≤ 1000 by omega) (by omega), hw]
            simp only [cond_true]
            rw [i3, List.append_assoc]
            rfl
        | false =>
          have hg : gr (c + 1) d ((y + 1) :: l) = 2 * gr (c + 1) (d ++ [y + 1]) l := by rw [gr_s, hx]
          exact skipR _ hg rfl _ (by rw [e8]; rfl)
theorem f23_1_eq (a : List Int) (N : Nat) (xh : Int) {b : Nat} {l : List Nat} {T : List (Int × Int)} (h : First b l T) : ∀ (P : List Nat) (fuel : Nat) (TB : List (Int × Int)), P.length = b → b + l.length = N → N ≤ 8 → l.length < fuel → TB.length ≤ 8 * b → (∀ x ∈ l, x ≤ 7) →
    f23_1 2001 fuel a (N : Int) (b : Int) xh (toI (P ++ l)) TB = some (xh, TB ++ T) := by
  induction h with
  | nil b =>
    intro P fuel TB hP hN h8 hf hTB _
    obtain ⟨fuel, rfl⟩ : ∃ n, fuel = n + 1 := ⟨fuel - 1, by simp at hf; omega⟩
    rw [f23_1, dcF (p := (b : Int) < (N : Int)) (by simp at hN; omega), List.append_nil TB]
    rfl
  | @cons b c l q s T hm hq h ih =>
    intro P fuel TB hP hN h8 hf hTB hs
    simp only [List.length_cons] at hN hf
    obtain ⟨fuel, rfl⟩ : ∃ n, fuel = n + 1 := ⟨fuel - 1, by omega⟩
    have hs' : ∀ x ∈ l, x ≤ 7 := fun x hx => hs x (List.mem_cons_of_mem _ hx)
    subst hP
    obtain ⟨q2, c', i1, i2, i3⟩ := f23_2_eq a (N : Int) xh P l c [] 2001 TB (by simp; omega) (by omega) (by omega) (hs c (List.mem_cons_self ..)) (fun x hx => by cases hx) hs'
    rw [gr_is hm] at i1 i3
    rw [hq] at i1
    cases i1
    have hwl : (wl P.length l.length 0 s).length ≤ l.length := by rw [wl_len]; exact pop_le _ _
    have i4 := ih (P ++ [c']) fuel (TB ++ wl P.length l.length 0 s) (by simp) (by rw [les_len hq]; omega) h8 (by rw [les_len hq]; omega) (by rw [List.length_append]; omega) (les_small hq hs')
    rw [f23_1, dcT (p := ((P.length : Nat) : Int) < (N : Int)) (by omega), nat_succ _ (by omega)]
    have i3' : f23_2 2001 2001 a (N : Int) ((P.length : Nat) : Int) xh ((P.length + 1 : Nat) : Int) (toI (P ++ c :: l)) TB = some (toI (P ++ c' :: q), TB ++ wl P.length l.length 0 s) := i3
    show ((f23_2 2001 2001 a (N : Int) ((P.length : Nat) : Int) xh ((P.length + 1 : Nat) : Int) (toI (P ++ c :: l)) TB).bind fun o2 => f23_1 2001 fuel a (N : Int) ((P.length + 1 : Nat) : Int) xh o2.1 o2.2) = _
    rw [i3']
    have e : P ++ c' :: q = P ++ [c'] ++ q := by simp
    show f23_1 2001 fuel a (N : Int) ((P.length + 1 : Nat) : Int) xh (toI (P ++ c' :: q)) (TB ++ wl P.length l.length 0 s) = _
    rw [e, i4, List.append_assoc]
end Go.Xm.Mk
namespace Go.Xm.Mk
set_option linter.unusedVariables false
set_option linter.unusedSimpArgs false
set_option maxRecDepth 20000
def keyN : Nat → List Nat → List Int
  | 0, _ => []
  | n + 1, [] => 0 :: keyN n []
  | n + 1, x :: l => ((x + 1 : Nat) : Int) :: keyN n l
theorem keyN_len : ∀ (n : Nat) (l : List Nat), (keyN n l).length = n
  | 0, _ => rfl
  | n + 1, [] => by show (keyN n []).length + 1 = _; rw [keyN_len n]
  | n + 1, x :: l => by show (keyN n l).length + 1 = _; rw [keyN_len n]
theorem keyN_inj : ∀ (n : Nat) (l l' : List Nat), l.length ≤ n → l'.length ≤ n → keyN n l = keyN n l' → l = l'
  | 0, [], [], _, _, _ => rfl
  | n + 1, [], [], _, _, _ => rfl
  | n + 1, [], y :: l', _, _, h => by
    have h1 : (0 : Int) = ((y + 1 : Nat) : Int) := (List.cons.inj h).1
    omega
  | n + 1, x :: l, [], _, _, h => by
    have h1 : ((x + 1 : Nat) : Int) = (0 : Int) := (List.cons.inj h).1
    omega
  | n + 1, x :: l, y :: l', h1, h2, h => by
    have h3 : ((x + 1 : Nat) : Int) = ((y + 1 : Nat) : Int) := (List.cons.inj h).1
    have h4 := keyN_inj n l l' (by simpa using h1) (by simpa using h2) (List.cons.inj h).2
    rw [h4, show x = y by omega]
theorem hasA_putA {α : Type} (v : α) (k x : List Int) : ∀ l : List (List Int × α), hasA (putA l k v) x = if x = k then true else hasA l x
  | [] => by
    show (if k = x then true else false) = if x = k then true else false
    by_cases e : x = k
    · rw [if_pos e, if_pos e.symm]
    · rw [if_neg e, if_neg (Ne.symm e)]
  | p :: l => by
    have ih := hasA_putA v k x l
    unfold putA
    by_cases e : p.1 = k
    · rw [if_pos e]
      show (if k = x then true else hasA l x) = if x = k then true else (if p.1 = x then true else hasA l x)
      by_cases e2 : x = k
      · rw [if_pos e2, if_pos e2.symm]
      · rw [if_neg e2, if_neg (Ne.symm e2), if_neg (fun q => e2 (q.symm.trans e))]
    · rw [if_neg e]
      show (if p.1 = x then true else hasA (putA l k v) x) = if x = k then true else (if p.1 = x then true else hasA l x)
      rw [ih]
      by_cases e2 : p.1 = x
      · rw [if_pos e2, if_pos e2]; split <;> rfl
      · rw [if_neg e2, if_neg e2]
def MapOk (mp : List (List Int × Int)) : Prop := lensA 8 mp = true ∧ ∀ l : List Nat, l.length ≤ 8 → hasA mp (keyN 8 l) = true → getA 0 mp (keyN 8 l) = ((cnt l : Nat) : Int)
theorem MapOk.nil : MapOk [] := ⟨rfl, fun l _ h => by cases h⟩
theorem MapOk.put {mp : List (List Int × Int)} (h : MapOk mp) {l : List Nat} (hl : l.length ≤ 8) : MapOk (putA mp (keyN 8 l) ((cnt l : Nat) : Int)) := by
  refine ⟨lensA_put (by rw [keyN_len]; rfl) h.1, fun l' hl' hh => ?_⟩
  rw [getA_putA]
  rw [hasA_putA] at hh
  by_cases e : keyN 8 l' = keyN 8 l
  · rw [if_pos e, keyN_inj 8 l' l hl' hl e]
  · rw [if_neg e]
    rw [if_neg e] at hh
    exact h.2 l' hl' hh
theorem f72_1_eq (mp : List (List Int × Int)) (b : List Int) (l : List Nat) (h8 : l.length ≤ 8) (hs : ∀ x ∈ l, x ≤ 7) : ∀ (r i fuel : Nat) (A : List Int) (R : List Nat), i + r = l.length → r < fuel → A.length = i → l.drop i = R →
    f72_1 2001 fuel mp b ((l.length : Nat) : Int) (i : Int) (toI l) (A ++ keyN (8 - i) []) = some (toI l, A ++ keyN (8 - i) R)
  | 0, i, fuel + 1, A, R, hi, _, hA, hR => by
    have e : R = [] := by rw [← hR]; exact List.drop_eq_nil_of_le (by omega)
    rw [f72_1, dcF (p := (i : Int) < ((l.length : Nat) : Int)) (by omega), e]
    rfl
  | r + 1, i, fuel + 1, A, R, hi, hf, hA, hR => by
    have hil : i < l.length := by omega
    have hd : l.drop i = l[i] :: l.drop (i + 1) := List.drop_eq_getElem_cons hil
    have hx := hs _ (List.getElem_mem hil)
    obtain ⟨k, hk⟩ : ∃ k, 8 - i = k + 1 := ⟨7 - i, by omega⟩
    have hk2 : 8 - (i + 1) = k := by omega
    have e1 : List.getD (toI l) i 0 = ((l[i] : Nat) : Int) := by
      unfold toI
      rw [List.getD_eq_getElem?_getD, List.getElem?_map, List.getElem?_eq_getElem hil]; rfl
    have e2 : w64 (((l[i] : Nat) : Int) + 1) = ((l[i] + 1 : Nat) : Int) := by rw [w64i (by omega) (by omega)]; omega
    have e3 : (A ++ keyN (8 - i) []).length = 8 := by rw [List.length_append, keyN_len]; omega
    have t : Int.toNat (i : Int) = i := rfl
    have e4 : keyN (8 - i) [] = 0 :: keyN k [] := by rw [hk]; rfl
    have ih := f72_1_eq mp b l h8 hs r (i + 1) fuel (A ++ [((l[i] + 1 : Nat) : Int)]) (l.drop (i + 1)) (by omega) (by omega) (by simp; omega) rfl
    rw [hk2] at ih
    rw [f72_1, dcT (p := (i : Int) < ((l.length : Nat) : Int)) (by omega), toI_len, inR hil, inR (show i < 8 by omega), e3, t, dcT (show i < 8 by omega), e1, e2, nat_succ _ (by omega), e4, set_mid _ _ _ _ hA.symm]
    rw [List.append_assoc, List.append_assoc] at ih
    have e5 : R = l[i] :: l.drop (i + 1) := by rw [← hR, hd]
    rw [e5, hk]
    exact ih
theorem f72_3_eq (b : List Int) (x11 x43 x44 : Int) (mp : List (List Int × Int)) (lh2 lh3 : List Int) : ∀ (s fuel : Nat) (L : List Int), s < fuel → s < 2 ^ L.length → L.length ≤ 7 → (∀ x ∈ L, (s : Int) - 1000 ≤ x ∧ x ≤ 100) →
    f72_3 2001 fuel b x11 x43 x44 mp lh2 lh3 (s : Int) L = some (decZ L s) := by
  intro s
  induction s using Nat.strongRecOn with
  | _ s ih =>
    intro fuel L hf hs hl hx
    obtain ⟨fuel, rfl⟩ : ∃ n, fuel = n + 1 := ⟨fuel - 1, by omega⟩
    by_cases h0 : s = 0
    · subst h0
      rw [decZ_0]
      rfl
    · obtain ⟨t1, t2, t3⟩ := tz_n hl hs h0
      obtain ⟨d1, d2, d3⟩ := decZ_clr L s hs h0
      have e1 : (((s : Nat) : Int) != 0) = true := bne_iff_ne.2 (by omega)
      have t : Int.toNat ((lowb L.length s : Nat) : Int) = lowb L.length s := rfl
      have hg := hx _ (show L.getD (lowb L.length s) 0 ∈ L by
        rw [List.getD_eq_getElem?_getD, List.getElem?_eq_getElem d1]; exact List.getElem_mem _)
      rw [f72_3, e1, t1, t2, t3, inR d1, t, w64i (by omega) (by omega)]
      have hl2 : (L.set (lowb L.length s) (L.getD (lowb L.length s) 0 - 1)).length = L.length := List.length_set ..
      have h2 := ih (clr L.length s) d2 fuel (L.set (lowb L.length s) (L.getD (lowb L.length s) 0 - 1)) (by omega) (by rw [hl2]; omega) (by rw [hl2]; exact hl) (fun x hm => by
        rcases List.mem_or_eq_of_mem_set hm with h | h
        · have := hx x h; omega
        · omega)
      rw [d3] at h2
      exact h2
theorem f72_2_eq (F : List (List Int × Int) → List Int → Option (Int × List (List Int × Int))) (b : List Int) (c : Nat) (l : List Nat) (h8 : l.length ≤ 7) (hs : ∀ x ∈ l, x ≤ 7)
    (hF : ∀ mp, MapOk mp → ∀ r : List Nat, r.length = l.length → (∀ x ∈ r, x ≤ 7) → ∃ mp', F mp (toI r) = some (((cnt r : Nat) : Int), mp') ∧ MapOk mp') (ky : List Int) : ∀ (r s fuel x : Nat) (mp : List (List Int × Int)), MapOk mp → s + r = 2 ^ l.length → r < fuel → x + Sr (Tm c l) r s ≤ 1000000000 →
    ∃ mp', MapOk mp' ∧ f72_2 2001 F fuel b (x : Int) ((2 ^ l.length : Nat) : Int) (s : Int) mp (toI (c :: l)) ky = some (((x + Sr (Tm c l) r s : Nat) : Int), mp', ky)
  | 0, s, fuel + 1, x, mp, hmp, hi, _, _ => by
    refine ⟨mp, hmp, ?_⟩
    rw [f72_2, dcF (p := (s : Int) < ((2 ^ l.length : Nat) : Int)) (by omega)]
    rfl
  | r + 1, s, fuel + 1, x, mp, hmp, hi, hf, hb => by
    have hl : (toI (c :: l)).length = l.length + 1 := by rw [toI_len]; rfl
    have h27 : 2 ^ l.length ≤ 2 ^ 7 := Nat.pow_le_pow_right (by omega) h8
    have e2 : List.getD (toI (c :: l)) 0 0 = ((c : Nat) : Int) := rfl
    have hSr : Sr (Tm c l) (r + 1) s = Tm c l s + Sr (Tm c l) r (s + 1) := rfl
    rw [hSr] at hb ⊢
    have e1 : IntKind.wrap .u64 ((s : Int) + 1) = ((s + 1 : Nat) : Int) := by
      have : ∀ k : Fin 128, IntKind.wrap .u64 ((k.val : Int) + 1) = ((k.val + 1 : Nat) : Int) := by decide
      exact this ⟨s, by omega⟩
    have step : ∀ (y : Nat) (mp : List (List Int × Int)), MapOk mp → y = x + Tm c l s → ∃ mp', MapOk mp' ∧ f72_2 2001 F fuel b (y : Int) ((2 ^ l.length : Nat) : Int) (((s + 1 : Nat)) : Int) mp (toI (c :: l)) ky = some (((x + (Tm c l s + Sr (Tm c l) r (s + 1)) : Nat) : Int), mp', ky) := fun y mp hmp hy => by
      obtain ⟨mp', h1, h2⟩ := f72_2_eq F b c l h8 hs hF ky r (s + 1) fuel y mp hmp (by omega) (by omega) (by omega)
      refine ⟨mp', h1, ?_⟩
      rw [h2]
      congr 3; omega
    have hin : inRow 0 (l.length + 1) = true := inRow_iff.2 ⟨by omega, by omega⟩
    rw [f72_2, dcT (p := (s : Int) < ((2 ^ l.length : Nat) : Int)) (by omega), ones_n (n := l.length) h8 (by omega), e1, hl, hin, e2]
    show ∃ mp', _ ∧ cond (((pop l.length s : Nat) : Int) != ((c : Nat) : Int)) _ _ = _
    by_cases hp : pop l.length s = c
    · have e3 : (((pop l.length s : Nat) : Int) != ((c : Nat) : Int)) = false := by rw [hp]; simp
      have hT : Tm c l s = opt cnt (les l s) := by unfold Tm; rw [if_pos hp]
      have e4 : l.length + 1 - 1 = l.length := rfl
      have e5 : List.take l.length (List.drop 1 (toI (c :: l))) = toI l := by
        show List.take l.length (toI l) = toI l
        exact List.take_of_length_le (by rw [toI_len]; omega)
      have h3 := f72_3_eq b (x : Int) ((2 ^ l.length : Nat) : Int) (s : Int) mp (toI (c :: l)) ky s 2001 (toI l) (by omega) (by rw [toI_len]; omega) (by rw [toI_len]; omega) (fun x hx => by
        obtain ⟨y, hy, rfl⟩ := List.mem_map.1 hx
        have := hs y hy
        show (s : Int) - 1000 ≤ ((y : Nat) : Int) ∧ ((y : Nat) : Int) ≤ 100
        omega)
      rw [e3, e4, e5, h3, cutOK_iff.2 (show (0 : Int) ≤ 1 ∧ (1 : Int) ≤ ((l.length + 1 : Nat) : Int) ∧ ((l.length + 1 : Nat) : Int) ≤ ((l.length + 1 : Nat) : Int) ∧ ((l.length + 1 : Nat) : Int) ≤ ((l.length + 1 : Nat) : Int) by omega), dcT (show 1 + l.length ≤ l.length + 1 by omega), dcT (Nat.le_refl l.length), fitsI (show l.length ≤ 1000 by omega) (by omega)]
      have hdl : (decZ (toI l) s).length = l.length := by rw [decZ_len, toI_len]
      show ∃ mp', _ ∧ cond (decide (1 ≤ (decZ (toI l) s).length)) (cond (fitsB ((decZ (toI l) s).length + 1) 8) _ _) _ = _
      rw [hdl]
      cases l with
      | nil =>
        have hz : s = 0 := by simp at hi; omega
        subst hz
        have h0 : f97 2001 [0] = some 0 := rfl
        rw [dcF (p := 1 ≤ ([] : List Nat).length) (by simp), h0]
        have e6 : w64 ((x : Int) + 1) = ((x + 1 : Nat) : Int) := by
          have : Sr (Tm c []) r 1 ≥ 0 := Nat.zero_le _
          rw [w64i (by omega) (by omega)]; omega
        obtain ⟨mp', q1, q2⟩ := step (x + 1) mp hmp (by rw [hT]; rfl)
        refine ⟨mp', q1, ?_⟩
        rw [← e6] at q2
        exact q2
      | cons y t =>
        rw [dcT (p := 1 ≤ (y :: t).length) (by simp), fitsI (show (y :: t).length + 1 ≤ 1000 by omega) (by omega)]
        obtain ⟨v, v1, v2⟩ := f97_eq (decZ (toI (y :: t)) s) (by omega)
        have hld := les_decZ (y :: t) s
        rw [v1]
        cases hq : les (y :: t) s with
        | none =>
          rw [hq] at hld hT
          obtain ⟨z, hz, hz0⟩ := hld
          have hv : ¬ (v ≥ 0) := fun q => by have := v2.1 q z hz; omega
          show ∃ mp', _ ∧ cond (decide (v ≥ 0)) _ _ = _
          rw [dcF hv]
          exact step x mp hmp (by rw [hT]; rfl)
        | some q =>
          rw [hq] at hld hT
          have hld : decZ (toI (y :: t)) s = toI q := hld
          rw [hld] at v2 ⊢
          have hall : ∀ x ∈ toI q, 0 ≤ x := fun x hx => by
            obtain ⟨y, _, rfl⟩ := List.mem_map.1 hx
            exact Int.natCast_nonneg y
          obtain ⟨mp2, m1, m2⟩ := hF mp hmp q (les_len hq) (les_small hq hs)
          show ∃ mp', _ ∧ cond (decide (v ≥ 0)) ((F mp (toI q)).bind fun r23 => f72_2 2001 F fuel b (w64 ((x : Int) + r23.1)) ((2 ^ (y :: t).length : Nat) : Int) ((s + 1 : Nat) : Int) r23.2 (toI (c :: y :: t)) ky) _ = _
          rw [dcT (v2.2 hall), m1]
          have hT2 : Tm c (y :: t) s = cnt q := by rw [hT]; rfl
          have e6 : w64 ((x : Int) + ((cnt q : Nat) : Int)) = ((x + cnt q : Nat) : Int) := by rw [w64i (by omega) (by omega)]; omega
          show ∃ mp', _ ∧ f72_2 2001 F fuel b (w64 ((x : Int) + ((cnt q : Nat) : Int))) ((2 ^ (y :: t).length : Nat) : Int) ((s + 1 : Nat) : Int) mp2 (toI (c :: y :: t)) ky = _
          rw [e6]
          exact step (x + cnt q) mp2 m2 (by rw [hT2])
    · have e3 : (((pop l.length s : Nat) : Int) != ((c : Nat) : Int)) = true := bne_iff_ne.2 (by omega)
      rw [e3]
      exact step x mp hmp (by unfold Tm; rw [if_neg hp]; rfl)
theorem f72_eq : ∀ (n fuel : Nat) (l : List Nat) (mp : List (List Int × Int)), l.length = n → n ≤ 8 → n < fuel → (∀ x ∈ l, x ≤ 7) → MapOk mp → ∃ mp', f72 2001 fuel mp (toI l) = some (((cnt l : Nat) : Int), mp') ∧ MapOk mp'
  | n, fuel + 1, l, mp, hl, h8, hf, hs, hmp => by
    obtain ⟨d, h1, h2, h3⟩ := desc_of l
    have hdl := h2.length_eq
    have hds : ∀ x ∈ d, x ≤ 7 := fun x hx => hs x (h2.mem_iff.1 hx)
    have hcnt : cnt l = cnt d := (cnt_perm _ (Nat.le_refl _) h2).symm
    rw [f72, f61_eq 2001 (by omega) (toI l) (by rw [toI_len]; omega), h1, hcnt]
    cases d with
    | nil => exact ⟨mp, rfl, hmp⟩
    | cons c t =>
      simp only [List.length_cons] at hdl
      have e0 : ((((toI (c :: t)).length : Nat) : Int) == 0) = false := beq_eq_false_iff_ne.2 (by rw [toI_len, List.length_cons]; omega)
      have hk := f72_1_eq mp (toI l) (c :: t) (by simp; omega) hds (c :: t).length 0 2001 [] (c :: t) (by omega) (by simp; omega) rfl rfl
      have hk' : f72_1 2001 2001 mp (toI l) (((toI (c :: t)).length : Nat) : Int) 0 (toI (c :: t)) [0, 0, 0, 0, 0, 0, 0, 0] = some (toI (c :: t), keyN 8 (c :: t)) := by rw [toI_len]; exact hk
      simp only [Option.bind_some]
      rw [e0, hk']
      simp only [cond_false, Option.bind_some]
      have kl := keyN_len 8 (c :: t)
      rw [kl, dcT (rfl : 8 = 8), hmp.1]
      simp only [cond_true, Nat.beq_refl, Bool.and_self]
      cases hh : hasA mp (keyN 8 (c :: t)) with
      | true =>
        have := hmp.2 (c :: t) (by simp; omega) hh
        refine ⟨mp, ?_, hmp⟩
        simp only [cond_true]
        rw [this]
      | false =>
        simp only [cond_false]
        have hs' : ∀ x ∈ t, x ≤ 7 := fun x hx => hds x (List.mem_cons_of_mem _ hx)
        have hT : Sr (Tm c t) (2 ^ t.length) 0 = cnt (c :: t) := by rw [cnt_cons]; exact sum_sets t c cnt
        have hle := cnt_le (t.length + 1) (c :: t) rfl
        have hB := Bd8 (n := t.length + 1) (by omega)
        have h27 : 2 ^ t.length ≤ 2 ^ 7 := Nat.pow_le_pow_right (by omega) (by omega)
        obtain ⟨mp2, m1, m2⟩ := f72_2_eq (f72 2001 fuel) (toI l) c t (by omega) hs' (fun mp hmp r hr hx => f72_eq t.length fuel r mp hr (by omega) (by omega) hx hmp) (keyN 8 (c :: t)) (2 ^ t.length) 0 2001 0 mp hmp (by omega) (by omega) (by rw [hT]; omega)
        rw [hT, Nat.zero_add] at m2
        have e1 : w64 ((((toI (c :: t)).length : Nat) : Int) - 1) = ((t.length : Nat) : Int) := by rw [toI_len, List.length_cons, w64i (by omega) (by omega)]; omega
        rw [e1, dcT (p := (0 : Int) ≤ ((t.length : Nat) : Int)) (by omega), shl1u (by omega)]
        have m2' : f72_2 2001 (f72 2001 fuel) 2001 (toI l) 0 ((2 ^ t.length : Nat) : Int) 0 mp (toI (c :: t)) (keyN 8 (c :: t)) = some (((cnt (c :: t) : Nat) : Int), mp2, keyN 8 (c :: t)) := m2
        rw [m2']
        simp only [cond_true, Option.bind_some]
        refine ⟨putA mp2 (keyN 8 (c :: t)) ((cnt (c :: t) : Nat) : Int), ?_, m1.put (by simp; omega)⟩
        show cond (decide ((keyN 8 (c :: t)).length = 8)) (cond (Nat.beq (keyN 8 (c :: t)).length 8 && lensA 8 mp2) _ none) none = _
        rw [kl, dcT (rfl : 8 = 8), m1.1]
        rfl
theorem f65_eq (m : Nat) (a b c : Int) : f65 m a b c = some (decide (b ≤ a ∧ a ≤ c)) := by
  unfold f65
  by_cases h : b ≤ a
  · rw [dcT h]; simp [h]
  · rw [dcF h]; simp [h]
def fit (n : Int) : List Int → Bool
  | [] => true
  | x :: l => decide (0 ≤ x ∧ x ≤ n - 1) && fit n l
theorem f21_1_eq (m : Nat) (a : List Int) (h8 : a.length ≤ 8) : ∀ (r i fuel : Nat), i + r = a.length → r < fuel →
    (fit (a.length : Int) (a.drop i) = true ∧ f21_1 m fuel a ((a.length : Nat) : Int) (i : Int) ((a.length : Nat) : Int) = some (.x0 ((a.length : Nat) : Int))) ∨ (fit (a.length : Int) (a.drop i) = false ∧ ∃ j : Nat, f21_1 m fuel a ((a.length : Nat) : Int) (i : Int) ((a.length : Nat) : Int) = some (.r (j : Int) ((a.length : Nat) : Int)))
  | 0, i, fuel + 1, hi, _ => by
    rw [f21_1, dcF (p := (i : Int) < ((a.length : Nat) : Int)) (by omega), List.drop_eq_nil_of_le (by omega)]
    exact .inl ⟨rfl, rfl⟩
  | r + 1, i, fuel + 1, hi, hf => by
    have hil : i < a.length := by omega
    rw [f21_1, dcT (p := (i : Int) < ((a.length : Nat) : Int)) (by omega), inR hil]
    have t : Int.toNat (i : Int) = i := rfl
    rw [t, w64i (by omega) (by omega), f65_eq, drop_getD hil, nat_succ _ (by omega)]
    unfold fit
    by_cases e : 0 ≤ a.getD i 0 ∧ a.getD i 0 ≤ ((a.length : Nat) : Int) - 1
    · rw [dcT e]
      rcases f21_1_eq m a h8 r (i + 1) fuel (by omega) (by omega) with ⟨q1, q2⟩ | ⟨q1, j, q2⟩
      · exact .inl ⟨by rw [q1]; rfl, q2⟩
      · exact .inr ⟨by rw [q1]; rfl, j, q2⟩
    · rw [dcF e]
      exact .inr ⟨rfl, i, rfl⟩
def ckR (a : List Int) : Int := if a.length = 0 then 4 else if 8 < a.length then 3 else if fit a.length a = true then 0 else 1
theorem f21_eq (m : Nat) (hm : 2001 ≤ m) (a : List Int) (hl : a.length ≤ 1000) : f21 m a = some (ckR a) := by
  unfold f21 ckR
  by_cases h0 : a.length = 0
  · rw [if_pos h0, h0]; rfl
  · rw [if_neg h0]
    have e0 : (((a.length : Nat) : Int) == 0) = false := by simp; intro q; subst q; simp at h0
    rw [e0]
    by_cases h8 : 8 < a.length
    · rw [if_pos h8, dcT (p := ((a.length : Nat) : Int) > 8) (by omega)]; rfl
    · rw [if_neg h8, dcF (p := ((a.length : Nat) : Int) > 8) (by omega)]
      show ((f21_1 m m a ((a.length : Nat) : Int) 0 ((a.length : Nat) : Int)).bind _) = _
      rcases f21_1_eq m a (by omega) a.length 0 m (by omega) (by omega) with ⟨q1, q2⟩ | ⟨q1, j, q2⟩
      · have q2' : f21_1 m m a ((a.length : Nat) : Int) 0 ((a.length : Nat) : Int) = _ := q2
        rw [List.drop_zero] at q1
        rw [q2', if_pos q1]
        rfl
      · have q2' : f21_1 m m a ((a.length : Nat) : Int) 0 ((a.length : Nat) : Int) = _ := q2
        rw [List.drop_zero] at q1
        rw [q2', if_neg (by rw [q1]; simp)]
        show cond (decide ((j : Int) ≥ 0)) (some (1 : Int)) (some (0 : Int)) = some 1
        rw [dcT (p := (j : Int) ≥ 0) (by omega)]
        rfl
end Go.Xm.Mk
namespace Go.Xm.Mk
set_option linter.unusedVariables false
set_option linter.unusedSimpArgs false
set_option maxRecDepth 20000
def E : Nat → Nat
  | 0 => 0
  | n + 1 => n + E n
def adb : List Nat → Nat → List Nat
  | [], _ => []
  | x :: l, r => (x + r % 2) :: adb l (r / 2)
def W : Nat → Nat → List Nat
  | 0, _ => []
  | n + 1, s => pop n (s % 2 ^ n) :: adb (W n (s / 2 ^ n)) (s % 2 ^ n)
def tb : Nat → Nat → Nat → List (Int × Int)
  | _, 0, _ => []
  | b, n + 1, s => wl b n 0 (s % 2 ^ n) ++ tb (b + 1) n (s / 2 ^ n)
theorem W_s (n s : Nat) : W (n + 1) s = pop n (s % 2 ^ n) :: adb (W n (s / 2 ^ n)) (s % 2 ^ n) := rfl
theorem tb_s (b n s : Nat) : tb b (n + 1) s = wl b n 0 (s % 2 ^ n) ++ tb (b + 1) n (s / 2 ^ n) := rfl
theorem adb_len : ∀ (l : List Nat) (r : Nat), (adb l r).length = l.length
  | [], _ => rfl
  | x :: l, r => by show (adb l (r / 2)).length + 1 = _; rw [adb_len l]; rfl
theorem W_len : ∀ (n s : Nat), (W n s).length = n
  | 0, _ => rfl
  | n + 1, s => by rw [W_s, List.length_cons, adb_len, W_len n]
theorem adb_les : ∀ (l q : List Nat) (r : Nat), q.length = l.length → (adb q r = l ↔ les l r = some q)
  | [], [], r, _ => ⟨fun _ => rfl, fun _ => rfl⟩
  | x :: l, y :: q, r, h => by
    have ih := adb_les l q (r / 2) (by simpa using h)
    have e : adb (y :: q) r = (y + r % 2) :: adb q (r / 2) := rfl
    rw [e, les_cons]
    constructor
    · intro h1
      obtain ⟨h2, h3⟩ := List.cons.inj h1
      rw [if_pos (by omega), ih.1 h3, ← h2]
      show some ((y + r % 2 - r % 2) :: q) = some (y :: q)
      rw [Nat.add_sub_cancel]
    · intro h1
      by_cases hb : r % 2 ≤ x
      · rw [if_pos hb] at h1
        cases hq : les l (r / 2) with
        | none => rw [hq] at h1; cases h1
        | some q2 =>
          rw [hq] at h1
          have h1 : some ((x - r % 2) :: q2) = some (y :: q) := h1
          obtain ⟨h2, h3⟩ := List.cons.inj (Option.some.inj h1)
          rw [ih.2 (by rw [hq, h3]), ← h2, Nat.sub_add_cancel hb]
      · rw [if_neg hb] at h1; cases h1
theorem Sr_more (f : Nat → Nat) : ∀ (a b s : Nat), Sr f (a + b) s = Sr f a s + Sr f b (s + a)
  | 0, b, s => by rw [Nat.zero_add, Nat.add_zero]; show _ = 0 + _; omega
  | a + 1, b, s => by
    rw [show a + 1 + b = (a + b) + 1 by omega]
    show f s + Sr f (a + b) (s + 1) = f s + Sr f a (s + 1) + Sr f b (s + (a + 1))
    rw [Sr_more f a b (s + 1), show s + 1 + a = s + (a + 1) by omega]; omega
theorem Sr_shift (f : Nat → Nat) : ∀ (r s t : Nat), Sr f r (s + t) = Sr (fun j => f (j + t)) r s
  | 0, _, _ => rfl
  | r + 1, s, t => by
    show f (s + t) + Sr f r (s + t + 1) = f (s + t) + Sr (fun j => f (j + t)) r (s + 1)
    rw [show s + t + 1 = (s + 1) + t by omega, Sr_shift f r (s + 1) t]
theorem Sr_prod (f : Nat → Nat) (A : Nat) : ∀ (B t : Nat), Sr f (A * B) (A * t) = Sr (fun t => Sr (fun r => f (r + A * t)) A 0) B t
  | 0, _ => rfl
  | B + 1, t => by
    rw [Nat.mul_succ, Nat.add_comm (A * B) A, Sr_more, show A * t + A = A * (t + 1) by rw [Nat.mul_succ], Sr_prod f A B (t + 1)]
    congr 1
    have := Sr_shift f A 0 (A * t)
    rw [Nat.zero_add] at this
    exact this
theorem Sr_zero : ∀ (n s : Nat), Sr (fun _ => 0) n s = 0
  | 0, _ => rfl
  | n + 1, s => by show 0 + _ = 0; rw [Sr_zero n]
theorem Sr_swap (g : Nat → Nat → Nat) (A : Nat) : ∀ (B : Nat) (t s : Nat), Sr (fun t => Sr (fun r => g t r) A s) B t = Sr (fun r => Sr (fun t => g t r) B t) A s
  | 0, t, s => by
    show 0 = Sr (fun r => 0) A s
    rw [Sr_zero]
  | B + 1, t, s => by
    show Sr (fun r => g t r) A s + Sr (fun t => Sr (fun r => g t r) A s) B (t + 1) = Sr (fun r => g t r + Sr (fun t => g t r) B (t + 1)) A s
    rw [Sr_swap g A B (t + 1) s, Sr_add]
def num (n : Nat) (c : List Nat) : Nat := Sr (fun s => if W n s = c then 1 else 0) (2 ^ E n) 0
theorem mod_add {r t A : Nat} (h : r < A) : (r + A * t) % A = r ∧ (r + A * t) / A = t := by
  constructor
  · rw [Nat.add_mul_mod_self_left, Nat.mod_eq_of_lt h]
  · rw [Nat.add_mul_div_left _ _ (by omega), Nat.div_eq_of_lt h, Nat.zero_add]
theorem num_eq : ∀ (n : Nat) (c : List Nat), c.length = n → num n c = cnt c
  | 0, [], _ => rfl
  | n + 1, c :: l, h => by
    simp only [List.length_cons] at h
    have hl : l.length = n := by omega
    unfold num
    rw [show E (n + 1) = n + E n from rfl, Nat.pow_add, cnt_cons, ← sum_sets]
    have h1 := Sr_prod (fun s => if W (n + 1) s = c :: l then 1 else 0) (2 ^ n) (2 ^ E n) 0
    rw [Nat.mul_zero] at h1
    rw [h1, Sr_swap (fun t r => if W (n + 1) (r + 2 ^ n * t) = c :: l then 1 else 0) (2 ^ n) (2 ^ E n) 0 0, hl]
    refine Sr_congr _ _ (fun r _ hr => ?_)
    have hr : r < 2 ^ n := by omega
    have key : ∀ t, (W (n + 1) (r + 2 ^ n * t) = c :: l) ↔ (pop n r = c ∧ les l r = some (W n t)) := fun t => by
      rw [W_s, (mod_add hr).1, (mod_add hr).2]
      constructor
      · intro q
        obtain ⟨q1, q2⟩ := List.cons.inj q
        exact ⟨q1, (adb_les l (W n t) r (by rw [W_len, hl])).1 q2⟩
      · rintro ⟨q1, q2⟩
        rw [q1, (adb_les l (W n t) r (by rw [W_len, hl])).2 q2]
    by_cases hp : pop n r = c
    · rw [if_pos hp]
      cases hq : les l r with
      | none =>
        rw [Sr_congr (g := fun _ => 0) _ _ (fun t _ _ => if_neg (fun q => by have := ((key t).1 q).2; rw [hq] at this; cases this)), Sr_zero]
        rfl
      | some q =>
        have ih := num_eq n q (by rw [les_len hq]; exact hl)
        show _ = cnt q
        rw [← ih]
        unfold num
        refine Sr_congr _ _ (fun t _ _ => ?_)
        by_cases e : W n t = q
        · rw [if_pos e, if_pos ((key t).2 ⟨hp, by rw [hq, e]⟩)]
        · rw [if_neg e, if_neg (fun k => e (by have := ((key t).1 k).2; rw [hq] at this; exact (Option.some.inj this).symm))]
    · rw [if_neg hp, Sr_congr (g := fun _ => 0) _ _ (fun t _ _ => if_neg (fun q => hp ((key t).1 q).1)), Sr_zero]
theorem Sr_one {f : Nat → Nat} : ∀ {r s j : Nat}, s ≤ j → j < s + r → 0 < f j → 0 < Sr f r s
  | 0, s, j, h1, h2, _ => by omega
  | r + 1, s, j, h1, h2, h3 => by
    show 0 < f s + Sr f r (s + 1)
    by_cases e : j = s
    · subst e; omega
    · have := Sr_one (f := f) (r := r) (s := s + 1) (j := j) (by omega) (by omega) h3
      omega
theorem W_real {n t : Nat} (h : t < 2 ^ E n) : real (W n t) = true := by
  have h1 := num_eq n (W n t) (W_len n t)
  have h2 : 0 < num n (W n t) := by
    unfold num
    refine Sr_one (j := t) (Nat.zero_le _) (by omega) ?_
    show 0 < (if W n t = W n t then 1 else 0)
    rw [if_pos rfl]; omega
  unfold real
  exact decide_eq_true (by omega)
def lte : Nat → Nat → Nat → Bool
  | 0, _, _ => false
  | n + 1, s, t => if s % 2 ^ n = t % 2 ^ n then lte n (s / 2 ^ n) (t / 2 ^ n) else llt n (s % 2 ^ n) (t % 2 ^ n)
theorem lte_s (n s t : Nat) : lte (n + 1) s t = if s % 2 ^ n = t % 2 ^ n then lte n (s / 2 ^ n) (t / 2 ^ n) else llt n (s % 2 ^ n) (t % 2 ^ n) := rfl
theorem lte_asymm : ∀ (n s t : Nat), lte n s t = true → lte n t s = false
  | 0, _, _, h => by cases h
  | n + 1, s, t, h => by
    rw [lte_s] at h ⊢
    by_cases e : s % 2 ^ n = t % 2 ^ n
    · rw [if_pos e] at h
      rw [if_pos e.symm]
      exact lte_asymm n _ _ h
    · rw [if_neg e] at h
      rw [if_neg (Ne.symm e)]
      exact llt_asymm n _ _ h
theorem first_num {b : Nat} {c : List Nat} {T : List (Int × Int)} (h : First b c T) : ∃ z, z < 2 ^ E c.length ∧ W c.length z = c ∧ tb b c.length z = T ∧ ∀ t, t < 2 ^ E c.length → W c.length t = c → t ≠ z → lte c.length z t = true := by
  induction h with
  | nil b => exact ⟨0, by show 0 < 2 ^ 0; omega, rfl, rfl, fun t ht _ hne => absurd (show t = 0 by have : t < 2 ^ 0 := ht; omega) hne⟩
  | @cons b c l q s T hm hq h ih =>
    obtain ⟨z, z1, z2, z3, z4⟩ := ih
    have hql := les_len hq
    rw [hql] at z1 z2 z3 z4
    have hs := hm.1
    have e1 := (mod_add (t := z) hs).1
    have e2 := (mod_add (t := z) hs).2
    have hE : E (c :: l).length = l.length + E l.length := rfl
    refine ⟨s + 2 ^ l.length * z, ?_, ?_, ?_, fun t ht hw hne => ?_⟩
    · rw [hE, Nat.pow_add]
      have : 2 ^ l.length * (z + 1) ≤ 2 ^ l.length * 2 ^ E l.length := Nat.mul_le_mul (Nat.le_refl _) z1
      rw [Nat.mul_succ] at this
      omega
    · have hv := hm.2.1
      unfold vld at hv
      rw [Bool.and_eq_true] at hv
      show W (l.length + 1) _ = _
      rw [W_s, e1, e2, Nat.eq_of_beq_eq_true hv.1, z2, (adb_les l q s hql).2 hq]
    · show tb b (l.length + 1) _ = _
      rw [tb_s, e1, e2, z3]
    · rw [hE, Nat.pow_add] at ht
      have ht2 : t / 2 ^ l.length < 2 ^ E l.length := Nat.div_lt_of_lt_mul ht
      have hr : t % 2 ^ l.length < 2 ^ l.length := Nat.mod_lt _ (Nat.two_pow_pos _)
      have hw : W (l.length + 1) t = c :: l := hw
      rw [W_s] at hw
      obtain ⟨w1, w2⟩ := List.cons.inj hw
      have w3 := (adb_les l (W l.length (t / 2 ^ l.length)) (t % 2 ^ l.length) (W_len _ _)).1 w2
      show lte (l.length + 1) _ _ = true
      rw [lte_s, e1, e2]
      by_cases e : s = t % 2 ^ l.length
      · rw [if_pos e]
        rw [← e, hq] at w3
        refine z4 _ ht2 (Option.some.inj w3).symm (fun q2 => hne ?_)
        rw [e, ← q2]
        exact (Nat.mod_add_div t (2 ^ l.length)).symm
      · rw [if_neg e]
        refine hm.2.2 _ hr ?_ (Ne.symm e)
        unfold vld
        rw [w1, w3, Nat.beq_refl]
        show (true && real (W l.length (t / 2 ^ l.length))) = true
        rw [W_real ht2]; rfl
theorem wl_mod (b : Nat) : ∀ (n i s : Nat), wl b n i (s % 2 ^ n) = wl b n i s
  | 0, _, _ => rfl
  | n + 1, i, s => by
    have h1 : s % 2 ^ (n + 1) % 2 = s % 2 := Nat.mod_mod_of_dvd s ⟨2 ^ n, by rw [Nat.pow_succ, Nat.mul_comm]⟩
    have h2 : s % 2 ^ (n + 1) / 2 = s / 2 % 2 ^ n := by
      rw [Nat.pow_succ, Nat.mul_comm, Nat.mod_mul_right_div_self]
    unfold wl
    rw [h1, h2, wl_mod b n (i + 1) (s / 2)]
theorem tb_mod : ∀ (n b s : Nat), tb b n (s % 2 ^ E n) = tb b n s
  | 0, _, _ => rfl
  | n + 1, b, s => by
    have hE : E (n + 1) = n + E n := rfl
    have h1 : s % 2 ^ (n + E n) % 2 ^ n = s % 2 ^ n := Nat.mod_mod_of_dvd s ⟨2 ^ E n, by rw [Nat.pow_add]⟩
    have h2 : s % 2 ^ (n + E n) / 2 ^ n = s / 2 ^ n % 2 ^ E n := by
      rw [Nat.pow_add, Nat.mod_mul_right_div_self]
    rw [hE, tb_s, tb_s, h1, h2, tb_mod n]
def cmpL : List (Int × Int) → List (Int × Int) → Int
  | x :: A, y :: B => if x.1 < y.1 then -1 else if y.1 < x.1 then 1 else if x.2 < y.2 then -1 else if y.2 < x.2 then 1 else cmpL A B
  | _, _ => 0
theorem cmp_wl (b : Nat) : ∀ (n i s t : Nat) (X Y : List (Int × Int)), pop n s = pop n t → cmpL (wl b n i s ++ X) (wl b n i t ++ Y) = if s % 2 ^ n = t % 2 ^ n then cmpL X Y else if llt n s t = true then -1 else 1
  | 0, i, s, t, X, Y, _ => by
    rw [if_pos (by rw [Nat.pow_zero, Nat.mod_one, Nat.mod_one])]; rfl
  | n + 1, i, s, t, X, Y, hp => by
    have hs2 : s % 2 = 0 ∨ s % 2 = 1 := by omega
    have ht2 : t % 2 = 0 ∨ t % 2 = 1 := by omega
    have hp' : s % 2 + pop n (s / 2) = t % 2 + pop n (t / 2) := hp
    have w1 : ∀ u, u % 2 = 1 → wl b (n + 1) i u = ((b : Int), ((b + 1 + i : Nat) : Int)) :: wl b n (i + 1) (u / 2) := fun u hu => by
      show (match Nat.beq (u % 2) 1 with | true => _ | false => _) = _
      rw [hu]
    have w0 : ∀ u, u % 2 = 0 → wl b (n + 1) i u = wl b n (i + 1) (u / 2) := fun u hu => by
      show (match Nat.beq (u % 2) 1 with | true => _ | false => _) = _
      rw [hu]
    have l1 : llt (n + 1) s t = (match Nat.beq (s % 2) (t % 2) with | true => llt n (s / 2) (t / 2) | false => Nat.beq (s % 2) 1) := rfl
    have hm : ∀ u, u % 2 ^ (n + 1) % 2 = u % 2 ∧ u % 2 ^ (n + 1) / 2 = u / 2 % 2 ^ n := fun u =>
      ⟨Nat.mod_mod_of_dvd u ⟨2 ^ n, by rw [Nat.pow_succ, Nat.mul_comm]⟩, by rw [Nat.pow_succ, Nat.mul_comm, Nat.mod_mul_right_div_self]⟩
    have same : s % 2 = t % 2 → ((s % 2 ^ (n + 1) = t % 2 ^ (n + 1)) ↔ (s / 2 % 2 ^ n = t / 2 % 2 ^ n)) := fun q => by
      rw [← (hm s).2, ← (hm t).2]
      have a := (hm s).1
      have c := (hm t).1
      omega
    have diff : s % 2 ≠ t % 2 → ¬ s % 2 ^ (n + 1) = t % 2 ^ (n + 1) := fun q e => by
      have a := (hm s).1
      have c := (hm t).1
      omega
    rcases hs2 with hs | hs <;> rcases ht2 with ht | ht
    · have ih := cmp_wl b n (i + 1) (s / 2) (t / 2) X Y (by omega)
      rw [w0 s hs, w0 t ht, ih, l1, hs, ht]
      by_cases e : s / 2 % 2 ^ n = t / 2 % 2 ^ n
      · rw [if_pos e, if_pos ((same (by omega)).2 e)]
      · rw [if_neg e, if_neg (fun q => e ((same (by omega)).1 q))]
    · rw [w0 s hs, w1 t ht, if_neg (diff (by omega)), l1, hs, ht]
      have hne : 0 < (wl b n (i + 1) (s / 2)).length := by rw [wl_len]; omega
      cases hw : wl b n (i + 1) (s / 2) with
      | nil => rw [hw] at hne; simp at hne
      | cons u R =>
        obtain ⟨u1, u2⟩ := wl_get hw
        show (if u.1 < (b : Int) then -1 else if (b : Int) < u.1 then 1 else if u.2 < ((b + 1 + i : Nat) : Int) then -1 else if ((b + 1 + i : Nat) : Int) < u.2 then 1 else _) = (1 : Int)
        rw [if_neg (by omega), if_neg (by omega), if_neg (by omega), if_pos (by omega)]
    · rw [w1 s hs, w0 t ht, if_neg (diff (by omega)), l1, hs, ht]
      have hne : 0 < (wl b n (i + 1) (t / 2)).length := by rw [wl_len]; omega
      cases hw : wl b n (i + 1) (t / 2) with
      | nil => rw [hw] at hne; simp at hne
      | cons u R =>
        obtain ⟨u1, u2⟩ := wl_get hw
        show (if (b : Int) < u.1 then -1 else if u.1 < (b : Int) then 1 else if ((b + 1 + i : Nat) : Int) < u.2 then -1 else if u.2 < ((b + 1 + i : Nat) : Int) then 1 else _) = (-1 : Int)
        rw [if_neg (by omega), if_neg (by omega), if_pos (by omega)]
    · have ih := cmp_wl b n (i + 1) (s / 2) (t / 2) X Y (by omega)
      rw [w1 s hs, w1 t ht, l1, hs, ht]
      show (if (b : Int) < (b : Int) then -1 else if (b : Int) < (b : Int) then 1 else if ((b + 1 + i : Nat) : Int) < ((b + 1 + i : Nat) : Int) then -1 else if ((b + 1 + i : Nat) : Int) < ((b + 1 + i : Nat) : Int) then 1 else cmpL (wl b n (i + 1) (s / 2) ++ X) (wl b n (i + 1) (t / 2) ++ Y)) = _
      rw [if_neg (by omega), if_neg (by omega), if_neg (by omega), if_neg (by omega), ih]
      by_cases e : s / 2 % 2 ^ n = t / 2 % 2 ^ n
      · rw [if_pos e, if_pos ((same (by omega)).2 e)]
      · rw [if_neg e, if_neg (fun q => e ((same (by omega)).1 q))]
theorem adb_inj : ∀ (q q' : List Nat) (r : Nat), q.length = q'.length → adb q r = adb q' r → q = q'
  | [], [], _, _, _ => rfl
  | x :: q, y :: q', r, h, e => by
    have e : (x + r % 2) :: adb q (r / 2) = (y + r % 2) :: adb q' (r / 2) := e
    obtain ⟨e1, e2⟩ := List.cons.inj e
    rw [adb_inj q q' (r / 2) (by simpa using h) e2, show x = y by omega]
theorem cmp_tb : ∀ (n b s t : Nat), s < 2 ^ E n → t < 2 ^ E n → W n s = W n t → cmpL (tb b n s) (tb b n t) = if s = t then 0 else if lte n s t = true then -1 else 1
  | 0, b, s, t, hs, ht, _ => by
    have h1 : s < 2 ^ 0 := hs
    have h2 : t < 2 ^ 0 := ht
    rw [if_pos (by omega)]; rfl
  | n + 1, b, s, t, hs, ht, hw => by
    have hE : E (n + 1) = n + E n := rfl
    rw [hE, Nat.pow_add] at hs ht
    rw [W_s, W_s] at hw
    obtain ⟨w1, w2⟩ := List.cons.inj hw
    have d := fun u => Nat.mod_add_div u (2 ^ n)
    have hr : ∀ u : Nat, u % 2 ^ n % 2 ^ n = u % 2 ^ n := fun u => Nat.mod_mod _ _
    rw [tb_s, tb_s, cmp_wl b n 0 _ _ _ _ w1, hr, hr, lte_s]
    by_cases e : s % 2 ^ n = t % 2 ^ n
    · rw [if_pos e, if_pos e]
      rw [e] at w2
      have w3 := adb_inj _ _ _ (by rw [W_len, W_len]) w2
      rw [cmp_tb n (b + 1) (s / 2 ^ n) (t / 2 ^ n) (Nat.div_lt_of_lt_mul hs) (Nat.div_lt_of_lt_mul ht) w3]
      by_cases e2 : s / 2 ^ n = t / 2 ^ n
      · rw [if_pos e2, if_pos (by rw [← d s, ← d t, e, e2])]
      · rw [if_neg e2, if_neg (show ¬ s = t from fun q => e2 (by rw [q]))]
    · rw [if_neg e, if_neg (show ¬ s = t from fun q => e (by rw [q])), if_neg e]
theorem tb_len : ∀ (n b s : Nat), (tb b n s).length ≤ n * n
  | 0, _, _ => Nat.le_refl _
  | n + 1, b, s => by
    rw [tb_s, List.length_append, wl_len]
    have h1 := pop_le n (s % 2 ^ n)
    have h2 := tb_len n (b + 1) (s / 2 ^ n)
    rw [Nat.succ_mul, Nat.mul_succ]
    omega
theorem smN_adb : ∀ (n : Nat) (q : List Nat) (r : Nat), q.length = n → smN (adb q r) = smN q + pop n r
  | 0, [], _, _ => rfl
  | n + 1, x :: q, r, h => by
    have ih := smN_adb n q (r / 2) (by simpa using h)
    show x + r % 2 + smN (adb q (r / 2)) = x + smN q + (r % 2 + pop n (r / 2))
    omega
theorem tb_sum : ∀ (n b s : Nat), 2 * (tb b n s).length = smN (W n s)
  | 0, _, _ => rfl
  | n + 1, b, s => by
    have ih := tb_sum n (b + 1) (s / 2 ^ n)
    have h2 := smN_adb n (W n (s / 2 ^ n)) (s % 2 ^ n) (W_len _ _)
    rw [tb_s, List.length_append, wl_len, W_s]
    show _ = pop n (s % 2 ^ n) + smN (adb (W n (s / 2 ^ n)) (s % 2 ^ n))
    omega
end Go.Xm.Mk
namespace Go.Xm.Mk
set_option linter.unusedVariables false
set_option linter.unusedSimpArgs false
set_option maxRecDepth 100000
theorem shr32 (b i : Nat) (h : i ≤ 31) : shV false .u32 ((b : Nat) : Int) ((i : Nat) : Int) = ((b / 2 ^ i : Nat) : Int) := by
  have e : min ((i : Int).toNat) (IntKind.bits .u32) = i := by
    show min i 32 = i
    omega
  show ((b : Int)).fdiv (2 ^ (min ((i : Int).toNat) (IntKind.bits .u32))) = _
  rw [e]
  have : ((2 : Int) ^ i) = ((2 ^ i : Nat) : Int) := by simp
  rw [this, Int.fdiv_eq_ediv_of_nonneg _ (Int.natCast_nonneg _)]
  rfl
theorem and1 {x : Nat} (h : x < 2 ^ 32) : andV .u32 ((x : Nat) : Int) 1 = ((x % 2 : Nat) : Int) := by
  unfold andV
  have h1 : (BitVec.ofInt 32 ((x : Nat) : Int) &&& BitVec.ofInt 32 (1 : Int)).toNat = x % 2 := by
    rw [BitVec.toNat_and]
    have e1 : (BitVec.ofInt 32 ((x : Nat) : Int)).toNat = x := by
      rw [BitVec.ofInt_natCast, BitVec.toNat_ofNat, Nat.mod_eq_of_lt h]
    have e2 : (BitVec.ofInt 32 (1 : Int)).toNat = 1 := by decide
    rw [e1, e2, Nat.and_one_is_mod]
  have h2 : (BitVec.ofInt (IntKind.bits .u32) ((x : Nat) : Int) &&& BitVec.ofInt (IntKind.bits .u32) (1 : Int)).toNat = x % 2 := h1
  rw [h2]
  have : ∀ k : Fin 2, IntKind.wrap .u32 ((k.val : Nat) : Int) = ((k.val : Nat) : Int) := by decide
  exact this ⟨x % 2, Nat.mod_lt _ (by omega)⟩
theorem f33_2_eq (n b x : Nat) (hn : n ≤ 8) (hb : b < 2 ^ 32) : ∀ (r y at_ i fuel : Nat) (lh : List (Int × Int)), y + r = n → y = x + 1 + i → at_ + r ≤ 30 → r < fuel → lh.length + r ≤ 200 →
    f33_2 2001 fuel (n : Int) (b : Int) (x : Int) (at_ : Int) (y : Int) lh = some (((at_ + r : Nat) : Int), lh ++ wl x r i (b / 2 ^ at_))
  | 0, y, at_, i, fuel + 1, lh, hy, _, _, _, _ => by
    rw [f33_2, dcF (p := (y : Int) < (n : Int)) (by omega)]
    show some ((at_ : Int), lh) = some (((at_ + 0 : Nat) : Int), lh ++ [])
    rw [List.append_nil lh]; rfl
  | r + 1, y, at_, i, fuel + 1, lh, hy, hi, ha, hf, hl => by
    have hd : b / 2 ^ at_ < 2 ^ 32 := Nat.lt_of_le_of_lt (Nat.div_le_self _ _) hb
    have e5 : b / 2 ^ at_ / 2 = b / 2 ^ (at_ + 1) := by rw [Nat.pow_succ, Nat.div_div_eq_div_mul]
    have hw : wl x (r + 1) i (b / 2 ^ at_) = (match Nat.beq (b / 2 ^ at_ % 2) 1 with | true => ((x : Int), ((x + 1 + i : Nat) : Int)) :: wl x r (i + 1) (b / 2 ^ at_ / 2) | false => wl x r (i + 1) (b / 2 ^ at_ / 2)) := rfl
    rw [f33_2, dcT (p := (y : Int) < (n : Int)) (by omega), dcT (p := (0 : Int) ≤ (at_ : Int)) (by omega), shr32 b at_ (by omega), and1 hd, nat_succ _ (by omega), nat_succ _ (by omega), fitsI (show lh.length + 1 ≤ 1000 by omega) (by omega), hw, e5]
    have e6 : ((at_ + (r + 1) : Nat) : Int) = ((at_ + 1 + r : Nat) : Int) := by omega
    rw [e6]
    rcases (show b / 2 ^ at_ % 2 = 0 ∨ b / 2 ^ at_ % 2 = 1 by omega) with h2 | h2
    · rw [h2]
      exact f33_2_eq n b x hn hb r (y + 1) (at_ + 1) (i + 1) fuel lh (by omega) (by omega) (by omega) (by omega) (by omega)
    · rw [h2]
      have ih := f33_2_eq n b x hn hb r (y + 1) (at_ + 1) (i + 1) fuel (lh ++ [((x : Int), (y : Int))]) (by omega) (by omega) (by omega) (by omega) (by simp; omega)
      rw [List.append_assoc] at ih
      rw [← hi]
      exact ih
theorem f33_1_eq (n b : Nat) (hn : n ≤ 5) (hb : b < 2 ^ 32) : ∀ (r x at_ fuel : Nat) (lh : List (Int × Int)), x + r = n → at_ + E r ≤ 10 → r < fuel → lh.length + 8 * r ≤ 100 →
    f33_1 2001 fuel (n : Int) (b : Int) (at_ : Int) (x : Int) lh = some (lh ++ tb x r (b / 2 ^ at_))
  | 0, x, at_, fuel + 1, lh, hx, _, _, _ => by
    rw [f33_1, dcF (p := (x : Int) < (n : Int)) (by omega)]
    show some lh = some (lh ++ [])
    rw [List.append_nil]
  | r + 1, x, at_, fuel + 1, lh, hx, ha, hf, hl => by
    have hE : E (r + 1) = r + E r := rfl
    have h2 := f33_2_eq n b x (by omega) hb r (x + 1) at_ 0 2001 lh (by omega) (by omega) (by omega) (by omega) (by omega)
    have hwl : (wl x r 0 (b / 2 ^ at_)).length ≤ r := by rw [wl_len]; exact pop_le _ _
    have ih := f33_1_eq n b hn hb r (x + 1) (at_ + r) fuel (lh ++ wl x r 0 (b / 2 ^ at_)) (by omega) (by omega) (by omega) (by rw [List.length_append]; omega)
    have e5 : b / 2 ^ at_ / 2 ^ r = b / 2 ^ (at_ + r) := by rw [Nat.pow_add, Nat.div_div_eq_div_mul]
    rw [f33_1, dcT (p := (x : Int) < (n : Int)) (by omega), nat_succ _ (by omega)]
    show ((f33_2 2001 2001 (n : Int) (b : Int) (x : Int) (at_ : Int) ((x + 1 : Nat) : Int) lh).bind fun o2 => f33_1 2001 fuel (n : Int) (b : Int) o2.1 ((x + 1 : Nat) : Int) o2.2) = _
    rw [h2, tb_s, wl_mod, e5]
    show f33_1 2001 fuel (n : Int) (b : Int) ((at_ + r : Nat) : Int) ((x + 1 : Nat) : Int) (lh ++ wl x r 0 (b / 2 ^ at_)) = _
    rw [ih, List.append_assoc]
theorem E5 {n : Nat} (h : n ≤ 5) : E n ≤ 10 := by
  have : ∀ k : Fin 6, E k.val ≤ 10 := by decide
  exact this ⟨n, by omega⟩
theorem drawn_eq (n b : Nat) (hn : n ≤ 5) (hb : b < 2 ^ 32) : f33 2001 (n : Int) (b : Int) = some ((n : Int), tb 0 n b) := by
  have hE := E5 hn
  have h := f33_1_eq n b hn hb n 0 0 2001 [] (by omega) (by omega) (by omega) (by simp; omega)
  rw [Nat.pow_zero, Nat.div_one] at h
  have h' : f33_1 2001 2001 (n : Int) (b : Int) 0 0 [] = some (tb 0 n b) := h
  unfold f33
  rw [h']; rfl
def okW (n s : Nat) : Bool := (f32 2001 (n : Int) (tb 0 n s) == some (toI (W n s))) && (f43 2001 (n : Int) (tb 0 n s) == some (toI (W n s), 0))
theorem tw1 : (List.range (2 ^ E 1)).all (okW 1) = true := by kernel_rfl
theorem tw2 : (List.range (2 ^ E 2)).all (okW 2) = true := by kernel_rfl
theorem tw3 : (List.range (2 ^ E 3)).all (okW 3) = true := by kernel_rfl
theorem tw4 : (List.range (2 ^ E 4)).all (okW 4) = true := by kernel_rfl
theorem tw5 : (List.range (2 ^ E 5)).all (okW 5) = true := by kernel_rfl
theorem okW_all {n s : Nat} (h1 : 1 ≤ n) (hn : n ≤ 5) (hs : s < 2 ^ E n) : f32 2001 (n : Int) (tb 0 n s) = some (toI (W n s)) ∧ f43 2001 (n : Int) (tb 0 n s) = some (toI (W n s), 0) := by
  have key : okW n s = true := by
    rcases (show n = 1 ∨ n = 2 ∨ n = 3 ∨ n = 4 ∨ n = 5 by omega) with rfl | rfl | rfl | rfl | rfl
    · exact List.all_eq_true.1 tw1 s (List.mem_range.2 hs)
    · exact List.all_eq_true.1 tw2 s (List.mem_range.2 hs)
    · exact List.all_eq_true.1 tw3 s (List.mem_range.2 hs)
    · exact List.all_eq_true.1 tw4 s (List.mem_range.2 hs)
    · exact List.all_eq_true.1 tw5 s (List.mem_range.2 hs)
  unfold okW at key
  rw [Bool.and_eq_true] at key
  exact ⟨eq_of_beq key.1, eq_of_beq key.2⟩
end Go.Xm.Mk
namespace Go.Xm.Mk
set_option linter.unusedVariables false
set_option linter.unusedSimpArgs false
set_option maxRecDepth 100000
theorem f40_1_eq (a b : List Int) (hl : a.length = b.length) (h1 : a.length ≤ 100) : ∀ (r i fuel : Nat), i + r = a.length → r < fuel → f40_1 2001 fuel a b (i : Int) = some (if a.drop i = b.drop i then .x0 else .r)
  | 0, i, fuel + 1, hi, _ => by
    rw [f40_1, dcF (p := (i : Int) < ((a.length : Nat) : Int)) (by omega), List.drop_eq_nil_of_le (by omega), List.drop_eq_nil_of_le (by omega), if_pos rfl]
    rfl
  | r + 1, i, fuel + 1, hi, hf => by
    have hil : i < a.length := by omega
    have hib : i < b.length := by omega
    have t : Int.toNat (i : Int) = i := rfl
    rw [f40_1, dcT (p := (i : Int) < ((a.length : Nat) : Int)) (by omega), inR hil, inR hib, t, nat_succ _ (by omega), f40_1_eq a b hl h1 r (i + 1) fuel (by omega) (by omega), drop_getD hil, drop_getD hib]
    by_cases e : a.getD i 0 = b.getD i 0
    · rw [e]
      simp
    · have e2 : (a.getD i 0 != b.getD i 0) = true := bne_iff_ne.2 e
      rw [e2, if_neg (fun q => e (List.cons.inj q).1)]
      rfl
theorem same_eq (a b : List Int) (hl : a.length = b.length) (h1 : a.length ≤ 100) : f40 2001 a b = some (decide (a = b)) := by
  have h := f40_1_eq a b hl h1 a.length 0 2001 (by omega) (by omega)
  have h' : f40_1 2001 2001 a b 0 = some (if a = b then .x0 else .r) := h
  unfold f40
  rw [h', hl]
  have e : (((b.length : Nat) : Int) != ((b.length : Nat) : Int)) = false := by simp
  rw [e]
  by_cases q : a = b
  · rw [if_pos q, dcT q]; rfl
  · rw [if_neg q, dcF q]; rfl
theorem f39_1_eq (T : List (Int × Int)) (hT : T.length ≤ 100) : ∀ (r i fuel : Nat), i + r = T.length → r < fuel → f39_1 2001 fuel T T (i : Int) = some .x0
  | 0, i, fuel + 1, hi, _ => by
    rw [f39_1, dcF (p := (i : Int) < ((T.length : Nat) : Int)) (by omega)]
    rfl
  | r + 1, i, fuel + 1, hi, hf => by
    rw [f39_1, dcT (p := (i : Int) < ((T.length : Nat) : Int)) (by omega), inR (show i < T.length by omega), nat_succ _ (by omega), f39_1_eq T hT r (i + 1) fuel (by omega) (by omega)]
    simp
theorem tables_eq (T : List (Int × Int)) (hT : T.length ≤ 100) : f39 2001 T T = some true := by
  have h := f39_1_eq T hT T.length 0 2001 (by omega) (by omega)
  have h' : f39_1 2001 2001 T T 0 = some .x0 := h
  unfold f39
  rw [h']
  simp
def cmp2 (x y : Int × Int) : Int := if x.1 < y.1 then -1 else if y.1 < x.1 then 1 else if x.2 < y.2 then -1 else if y.2 < x.2 then 1 else 0
theorem f53_eq (a0 a1 b0 b1 : Int) : f53 2001 a0 a1 b0 b1 = some (cmp2 (a0, a1) (b0, b1)) := by
  have r0 : f54_1 2001 1999 [a0, a1] [b0, b1] 2 2 = some .x0 := by
    rw [f54_1, dcF (p := (2 : Int) < 2) (by omega)]; rfl
  have bf : ∀ x : Int, (x != x) = false := fun x => by simp
  have r1 : f54_1 2001 2000 [a0, a1] [b0, b1] 2 1 = some (if a1 < b1 then .r (-1) else if b1 < a1 then .r 1 else .x0) := by
    rw [f54_1, dcT (p := (1 : Int) < 2) (by omega)]
    have e1 : inRow 1 ([a0, a1] : List Int).length = true := rfl
    have e2 : inRow 1 ([b0, b1] : List Int).length = true := rfl
    have g1 : List.getD [a0, a1] (Int.toNat 1) 0 = a1 := rfl
    have g2 : List.getD [b0, b1] (Int.toNat 1) 0 = b1 := rfl
    have w : w64 ((1 : Int) + 1) = 2 := rfl
    have e3 : decide ((1 : Int) ≥ ((([b0, b1] : List Int).length : Nat) : Int)) = false := rfl
    rw [e1, e2, e3, g1, g2, bf, bf, w, r0]
    by_cases h1 : a1 < b1
    · rw [dcT h1, if_pos h1]; rfl
    · rw [dcF h1, if_neg h1]
      by_cases h2 : b1 < a1
      · rw [dcT (p := a1 > b1) h2, if_pos h2]; rfl
      · rw [dcF (p := a1 > b1) h2, if_neg h2]; rfl
  have r2 : f54_1 2001 2001 [a0, a1] [b0, b1] 2 0 = some (if a0 < b0 then .r (-1) else if b0 < a0 then .r 1 else if a1 < b1 then .r (-1) else if b1 < a1 then .r 1 else .x0) := by
    rw [f54_1, dcT (p := (0 : Int) < 2) (by omega)]
    have e1 : inRow 0 ([a0, a1] : List Int).length = true := rfl
    have e2 : inRow 0 ([b0, b1] : List Int).length = true := rfl
    have g1 : List.getD [a0, a1] (Int.toNat 0) 0 = a0 := rfl
    have g2 : List.getD [b0, b1] (Int.toNat 0) 0 = b0 := rfl
    have w : w64 ((0 : Int) + 1) = 1 := rfl
    have e3 : decide ((0 : Int) ≥ ((([b0, b1] : List Int).length : Nat) : Int)) = false := rfl
    rw [e1, e2, e3, g1, g2, bf, bf, w, r1]
    by_cases h1 : a0 < b0
    · rw [dcT h1, if_pos h1]; rfl
    · rw [dcF h1, if_neg h1]
      by_cases h2 : b0 < a0
      · rw [dcT (p := a0 > b0) h2, if_pos h2]; rfl
      · rw [dcF (p := a0 > b0) h2, if_neg h2]; rfl
  have r2' : f54_1 2001 2001 [a0, a1] [b0, b1] ((([a0, a1] : List Int).length : Nat) : Int) 0 = _ := r2
  unfold f53 f54 cmp2
  rw [r2']
  have e0 : cutOK 0 ((2 : Nat) : Int) ((2 : Nat) : Int) 2 = true := rfl
  rw [e0]
  by_cases h1 : a0 < b0
  · rw [if_pos h1, if_pos h1]; rfl
  · rw [if_neg h1, if_neg h1]
    by_cases h2 : b0 < a0
    · rw [if_pos h2, if_pos h2]; rfl
    · rw [if_neg h2, if_neg h2]
      by_cases h3 : a1 < b1
      · rw [if_pos h3, if_pos h3]; rfl
      · rw [if_neg h3, if_neg h3]
        by_cases h4 : b1 < a1
        · rw [if_pos h4, if_pos h4]; rfl
        · rw [if_neg h4, if_neg h4]; rfl
theorem cmp2_zero {x y : Int × Int} : cmp2 x y = 0 ↔ x = y := by
  unfold cmp2
  constructor
  · intro h
    by_cases h1 : x.1 < y.1
    · rw [if_pos h1] at h; omega
    · rw [if_neg h1] at h
      by_cases h2 : y.1 < x.1
      · rw [if_pos h2] at h; omega
      · rw [if_neg h2] at h
        by_cases h3 : x.2 < y.2
        · rw [if_pos h3] at h; omega
        · rw [if_neg h3] at h
          by_cases h4 : y.2 < x.2
          · rw [if_pos h4] at h; omega
          · exact Prod.ext (by omega) (by omega)
  · intro h
    subst h
    rw [if_neg (by omega), if_neg (by omega), if_neg (by omega), if_neg (by omega)]
theorem cmpL_cons (x y : Int × Int) (A B : List (Int × Int)) : cmpL (x :: A) (y :: B) = if x = y then cmpL A B else cmp2 x y := by
  show (if x.1 < y.1 then -1 else if y.1 < x.1 then 1 else if x.2 < y.2 then -1 else if y.2 < x.2 then 1 else cmpL A B) = _
  by_cases e : x = y
  · subst e
    rw [if_pos rfl, if_neg (by omega), if_neg (by omega), if_neg (by omega), if_neg (by omega)]
  · rw [if_neg e]
    unfold cmp2
    by_cases h1 : x.1 < y.1
    · rw [if_pos h1, if_pos h1]
    · rw [if_neg h1, if_neg h1]
      by_cases h2 : y.1 < x.1
      · rw [if_pos h2, if_pos h2]
      · rw [if_neg h2, if_neg h2]
        by_cases h3 : x.2 < y.2
        · rw [if_pos h3, if_pos h3]
        · rw [if_neg h3, if_neg h3]
          by_cases h4 : y.2 < x.2
          · rw [if_pos h4, if_pos h4]
          · exact absurd (Prod.ext (by omega) (by omega)) e
theorem drop_getP {l : List (Int × Int)} {i : Nat} (h : i < l.length) : l.drop i = l.getD i (0, 0) :: l.drop (i + 1) := by
  rw [List.drop_eq_getElem_cons h]; simp [List.getD_eq_getElem?_getD, h]
theorem f12_2_eq (n : Int) (l1 : List Int) (B C : List (Int × Int)) (xh : Int) (l6 : List Int) (A : List (Int × Int)) (hl : A.length = B.length) (h1 : A.length ≤ 100) : ∀ (r i fuel : Nat), i + r = A.length → r < fuel →
    f12_2 2001 fuel n l1 B C ((A.length : Nat) : Int) (i : Int) A xh l6 = some (if cmpL (A.drop i) (B.drop i) = 0 then .x0 A xh l6 else .r (cmpL (A.drop i) (B.drop i)) A xh l6)
  | 0, i, fuel + 1, hi, _ => by
    have dA : A.drop i = [] := List.drop_eq_nil_of_le (by omega)
    have dB : B.drop i = [] := List.drop_eq_nil_of_le (by omega)
    rw [f12_2, dcF (p := (i : Int) < ((A.length : Nat) : Int)) (by omega), dA, dB]
    rfl
  | r + 1, i, fuel + 1, hi, hf => by
    have hil : i < A.length := by omega
    have hib : i < B.length := by omega
    have t : Int.toNat (i : Int) = i := rfl
    rw [f12_2, dcT (p := (i : Int) < ((A.length : Nat) : Int)) (by omega), inR hil, dcF (p := (i : Int) ≥ ((B.length : Nat) : Int)) (by omega), inR hib, t, nat_succ _ (by omega), f53_eq, f12_2_eq n l1 B C xh l6 A hl h1 r (i + 1) fuel (by omega) (by omega), drop_getP hil, drop_getP hib, cmpL_cons]
    show cond (cmp2 (A.getD i (0, 0)) (B.getD i (0, 0)) != 0) _ _ = _
    by_cases e : A.getD i (0, 0) = B.getD i (0, 0)
    · have e2 : (cmp2 (A.getD i (0, 0)) (B.getD i (0, 0)) != 0) = false := by rw [cmp2_zero.2 e]; rfl
      rw [e2, if_pos e]; rfl
    · have e3 : cmp2 (A.getD i (0, 0)) (B.getD i (0, 0)) ≠ 0 := fun q => e (cmp2_zero.1 q)
      have e2 : (cmp2 (A.getD i (0, 0)) (B.getD i (0, 0)) != 0) = true := bne_iff_ne.2 e3
      rw [e2, if_neg e, if_neg e3]
      rfl
theorem f12_1_eq (n : Nat) (h1 : 1 ≤ n) (hn : n ≤ 5) (c : List Nat) (hc : c.length = n) (xh : Int) (l3 : List (Int × Int)) (z : Nat) (hz : z < 2 ^ E n) (hz2 : W n z = c) (hz3 : ∀ t, t < 2 ^ E n → W n t = c → t ≠ z → lte n z t = true) :
    ∀ (r s fuel k : Nat) (B : List (Int × Int)), s + r = 2 ^ E n → r < fuel → k ≤ s → ((s ≤ z ∧ (k = 0 ∨ ∃ u, u < s ∧ W n u = c ∧ B = tb 0 n u)) ∨ (z < s ∧ k ≠ 0 ∧ B = tb 0 n z)) →
    f12_1 2001 fuel (n : Int) (k : Int) ((2 ^ E n : Nat) : Int) (s : Int) xh (toI c) B l3 = some ((n : Int), ((k + Sr (fun s => if W n s = c then 1 else 0) r s : Nat) : Int), xh, toI c, tb 0 n z, l3)
  | 0, s, fuel + 1, k, B, hs, _, _, hB => by
    rw [f12_1, dcF (p := (s : Int) < ((2 ^ E n : Nat) : Int)) (by omega)]
    rcases hB with ⟨q, _⟩ | ⟨_, _, q⟩
    · omega
    · rw [q]; rfl
  | r + 1, s, fuel + 1, k, B, hs, hf, hk, hB => by
    have hE := E5 hn
    have h10 : 2 ^ E n ≤ 2 ^ 10 := Nat.pow_le_pow_right (by omega) hE
    have hs2 : s < 2 ^ E n := by omega
    have e1 : IntKind.wrap .u32 ((s : Int) + 1) = ((s + 1 : Nat) : Int) := by
      have := and1 (x := s) (by omega)
      show ((s : Int) + 1) % 4294967296 = _
      omega
    have hSr : Sr (fun s => if W n s = c then 1 else 0) (r + 1) s = (if W n s = c then 1 else 0) + Sr (fun s => if W n s = c then 1 else 0) r (s + 1) := rfl
    have step : ∀ (k' : Nat) (B' : List (Int × Int)), k' = k + (if W n s = c then 1 else 0) → ((s + 1 ≤ z ∧ (k' = 0 ∨ ∃ u, u < s + 1 ∧ W n u = c ∧ B' = tb 0 n u)) ∨ (z < s + 1 ∧ k' ≠ 0 ∧ B' = tb 0 n z)) →
        f12_1 2001 fuel (n : Int) (k' : Int) ((2 ^ E n : Nat) : Int) ((s + 1 : Nat) : Int) xh (toI c) B' l3 = some ((n : Int), ((k + Sr (fun s => if W n s = c then 1 else 0) (r + 1) s : Nat) : Int), xh, toI c, tb 0 n z, l3) := fun k' B' hk' hB' => by
      rw [f12_1_eq n h1 hn c hc xh l3 z hz hz2 hz3 r (s + 1) fuel k' B' (by omega) (by omega) (by rw [hk']; split <;> omega) hB', hSr]
      congr 3; rw [hk']; omega
    have hw := (okW_all h1 hn hs2).1
    have hWl := W_len n s
    rw [f12_1, dcT (p := (s : Int) < ((2 ^ E n : Nat) : Int)) (by omega), drawn_eq n s hn (by omega), e1]
    simp only [cond_true, Option.bind_some]
    rw [hw]
    simp only [Option.bind_some]
    rw [same_eq _ _ (by rw [toI_len, toI_len, hWl, hc]) (by rw [toI_len]; omega)]
    simp only [Option.bind_some]
    by_cases e : W n s = c
    · have e2 : decide (toI (W n s) = toI c) = true := dcT (by rw [e])
      rw [e2]
      have ek : w64 ((k : Int) + 1) = ((k + 1 : Nat) : Int) := nat_succ _ (by omega)
      simp only [Option.bind_some, Bool.not_true, cond_false]
      rw [ek]
      have hz1 : s ≠ z → z < s → lte n z s = true := fun q _ => hz3 s hs2 e q
      by_cases hk0 : k = 0
      · have e3 : ((k : Int) == 0) = true := by rw [hk0]; rfl
        rw [e3]
        refine step (k + 1) _ (by rw [if_pos e]) ?_
        by_cases hsz : s = z
        · right; exact ⟨by omega, by omega, by rw [hsz]⟩
        · left
          rcases hB with ⟨q, _⟩ | ⟨_, q, _⟩
          · exact ⟨by omega, .inr ⟨s, by omega, e, rfl⟩⟩
          · exact absurd hk0 q
      · have e3 : ((k : Int) == 0) = false := beq_eq_false_iff_ne.2 (by omega)
        rw [e3]
        obtain ⟨u, hu, hu2, hu3, hu4⟩ : ∃ u, u < s ∧ W n u = c ∧ B = tb 0 n u ∧ (z < s → u = z) := by
          rcases hB with ⟨q1, q | ⟨u, q2, q3, q4⟩⟩ | ⟨q1, q2, q3⟩
          · exact absurd q hk0
          · exact ⟨u, q2, q3, q4, fun q => by omega⟩
          · exact ⟨z, q1, hz2, q3, fun _ => rfl⟩
        have hlen : (tb 0 n s).length = B.length := by
          have a := tb_sum n 0 s
          have b := tb_sum n 0 u
          rw [e] at a
          rw [hu2] at b
          rw [hu3]; omega
        have hl100 : (tb 0 n s).length ≤ 100 := by
          have := tb_len n 0 s
          have : n * n ≤ 5 * 5 := Nat.mul_le_mul hn hn
          omega
        have h2 := f12_2_eq xh (toI c) B l3 (n : Int) (toI (W n s)) (tb 0 n s) hlen hl100 (tb 0 n s).length 0 2001 (by omega) (by omega)
        have h2' : f12_2 2001 2001 xh (toI c) B l3 (((tb 0 n s).length : Nat) : Int) 0 (tb 0 n s) (n : Int) (toI (W n s)) = some (if cmpL (tb 0 n s) B = 0 then .x0 (tb 0 n s) (n : Int) (toI (W n s)) else .r (cmpL (tb 0 n s) B) (tb 0 n s) (n : Int) (toI (W n s))) := h2
        have hcmp := cmp_tb n 0 s u hs2 (by omega) (by rw [e, hu2])
        rw [← hu3, if_neg (show s ≠ u by omega)] at hcmp
        rw [h2', hcmp]
        cases hl : lte n s u with
        | true =>
          have q0 : (if (true : Bool) = true then (-1 : Int) else 1) = -1 := rfl
          rw [q0, if_neg (show ¬ ((-1 : Int) = 0) by omega)]
          simp only [Option.bind_some]
          rw [dcT (p := (-1 : Int) < 0) (by omega)]
          refine step (k + 1) _ (by rw [if_pos e]) ?_
          by_cases hsz : s = z
          · right; exact ⟨by omega, by omega, by rw [hsz]⟩
          · left
            by_cases hzs : z < s
            · rw [hu4 hzs] at hl
              rw [lte_asymm _ _ _ (hz1 hsz hzs)] at hl
              cases hl
            · exact ⟨by omega, .inr ⟨s, by omega, e, rfl⟩⟩
        | false =>
          have q0 : (if (false : Bool) = true then (-1 : Int) else 1) = 1 := rfl
          rw [q0, if_neg (show ¬ ((1 : Int) = 0) by omega)]
          simp only [Option.bind_some]
          rw [dcF (p := (1 : Int) < 0) (by omega)]
          refine step (k + 1) _ (by rw [if_pos e]) ?_
          by_cases hsz : s = z
          · subst hsz
            have := hz3 u (by omega) hu2 (by omega)
            rw [this] at hl; cases hl
          · by_cases hzs : z < s
            · right; exact ⟨by omega, by omega, by rw [hu3, hu4 hzs]⟩
            · left; exact ⟨by omega, .inr ⟨u, by omega, hu2, hu3⟩⟩
    · have e2 : decide (toI (W n s) = toI c) = false := dcF (fun q => e (toI_inj q))
      rw [e2]
      show f12_1 2001 fuel (n : Int) (k : Int) ((2 ^ E n : Nat) : Int) ((s + 1 : Nat) : Int) xh (toI c) B l3 = _
      refine step k B (by rw [if_neg e]; rfl) ?_
      rcases hB with ⟨q1, q2⟩ | ⟨q1, q2, q3⟩
      · left
        have : s ≠ z := fun q => e (by rw [q]; exact hz2)
        refine ⟨by omega, ?_⟩
        rcases q2 with q2 | ⟨u, u1, u2, u3⟩
        · exact .inl q2
        · exact .inr ⟨u, by omega, u2, u3⟩
      · right; exact ⟨by omega, q2, q3⟩
theorem W_small : ∀ (n s : Nat), ∀ x ∈ W n s, x ≤ n - 1
  | 0, _, x, hx => by cases hx
  | n + 1, s, x, hx => by
    rw [W_s] at hx
    have hadb : ∀ (l : List Nat) (r b : Nat), (∀ x ∈ l, x ≤ b) → ∀ x ∈ adb l r, x ≤ b + 1 := by
      intro l
      induction l with
      | nil => intro r b _ x hx; cases hx
      | cons y l ih =>
        intro r b hb x hx
        have e : adb (y :: l) r = (y + r % 2) :: adb l (r / 2) := rfl
        rw [e] at hx
        rcases List.mem_cons.1 hx with rfl | hx
        · have := hb y (List.mem_cons_self ..); omega
        · exact ih _ b (fun z hz => hb z (List.mem_cons_of_mem _ hz)) x hx
    rcases List.mem_cons.1 hx with rfl | hx
    · have := pop_le n (s % 2 ^ n); omega
    · have := hadb _ _ (n - 1) (W_small n (s / 2 ^ n)) x hx
      cases n with
      | zero => cases hx
      | succ n => omega
theorem ckR_W {n s : Nat} (h1 : 1 ≤ n) (hn : n ≤ 8) : ckR (toI (W n s)) = 0 := by
  have hl : (toI (W n s)).length = n := by rw [toI_len, W_len]
  unfold ckR
  rw [hl, if_neg (by omega), if_neg (by omega), if_pos ?_]
  have key : ∀ l : List Nat, (∀ x ∈ l, x ≤ n - 1) → fit (n : Int) (toI l) = true := by
    intro l
    induction l with
    | nil => intro _; rfl
    | cons x l ih =>
      intro h
      have h2 := h x (List.mem_cons_self ..)
      show (decide (0 ≤ ((x : Nat) : Int) ∧ ((x : Nat) : Int) ≤ (n : Int) - 1) && fit (n : Int) (toI l)) = true
      rw [dcT (p := 0 ≤ ((x : Nat) : Int) ∧ ((x : Nat) : Int) ≤ (n : Int) - 1) (by omega), ih (fun y hy => h y (List.mem_cons_of_mem _ hy))]
      rfl
  exact key _ (W_small n s)
theorem f12_true (a b : Int) (ha : 0 ≤ a ∧ a ≤ 255) (hb : 0 ≤ b ∧ b < 4294967296) : f12 2001 a b = some true := by
  obtain ⟨bn, rfl⟩ : ∃ n : Nat, b = (n : Int) := ⟨b.toNat, by omega⟩
  obtain ⟨n, hn1, hn5, hn⟩ : ∃ n : Nat, 1 ≤ n ∧ n ≤ 5 ∧ w64 (1 + Int.tmod (w64 a) 5) = (n : Int) := by
    obtain ⟨an, rfl⟩ : ∃ n : Nat, a = (n : Int) := ⟨a.toNat, by omega⟩
    refine ⟨1 + an % 5, by omega, by omega, ?_⟩
    have e : Int.tmod ((an : Nat) : Int) 5 = ((an % 5 : Nat) : Int) := rfl
    rw [w64i (x := (an : Int)) (by omega) (by omega), e, w64i (by omega) (by omega)]; omega
  have hbn : bn < 2 ^ 32 := by omega
  have hE := E5 hn5
  have h10 : 2 ^ E n ≤ 2 ^ 10 := Nat.pow_le_pow_right (by omega) hE
  have hs : bn % 2 ^ E n < 2 ^ E n := Nat.mod_lt _ (Nat.two_pow_pos _)
  obtain ⟨s, hsd⟩ : ∃ s, s = bn % 2 ^ E n := ⟨_, rfl⟩
  rw [← hsd] at hs
  have h36 : f36 2001 a (bn : Int) 5 = some ((n : Int), tb 0 n s) := by
    unfold f36
    have e : ((5 : Int) != 0) = true := rfl
    rw [e, hn]
    show ((f33 2001 (n : Int) (bn : Int)).bind _) = _
    rw [drawn_eq n bn hn5 hbn, ← tb_mod n 0 bn, ← hsd]
    rfl
  obtain ⟨w1, w2⟩ := okW_all hn1 hn5 hs
  have hWl := W_len n s
  have hreal := W_real (n := n) hs
  have hsm : ∀ x ∈ W n s, x ≤ 7 := fun x hx => by have := W_small n s x hx; omega
  obtain ⟨T, hT⟩ := first_ex n 0 (W n s) hWl hreal
  obtain ⟨z, z1, z2, z3, z4⟩ := first_num hT
  rw [hWl] at z1 z2 z3 z4
  have hEn : w64 (Int.tdiv (w64 ((n : Int) * w64 ((n : Int) - 1))) 2) = ((E n : Nat) : Int) := by
    have : ∀ k : Fin 6, w64 (Int.tdiv (w64 ((k.val : Int) * w64 ((k.val : Int) - 1))) 2) = ((E k.val : Nat) : Int) := by decide
    exact this ⟨n, by omega⟩
  have hsh : shV true .u32 1 ((E n : Nat) : Int) = ((2 ^ E n : Nat) : Int) := by
    have : ∀ k : Fin 11, shV true .u32 1 ((k.val : Nat) : Int) = ((2 ^ k.val : Nat) : Int) := by decide
    exact this ⟨E n, by omega⟩
  have h121 := f12_1_eq n hn1 hn5 (W n s) hWl (n : Int) (tb 0 n s) z z1 z2 z4 (2 ^ E n) 0 2001 0 [] (by omega) (by omega) (by omega) (.inl ⟨by omega, .inl rfl⟩)
  have hnum := num_eq n (W n s) hWl
  unfold num at hnum
  rw [hnum, Nat.zero_add, z3] at h121
  have h121' : f12_1 2001 2001 (n : Int) 0 ((2 ^ E n : Nat) : Int) 0 (n : Int) (toI (W n s)) [] (tb 0 n s) = some ((n : Int), ((cnt (W n s) : Nat) : Int), (n : Int), toI (W n s), T, tb 0 n s) := h121
  have hla : (toI (W n s)).length = n := by rw [toI_len, hWl]
  have hTl : T.length ≤ 100 := by
    rw [← z3]
    have := tb_len n 0 z
    have : n * n ≤ 5 * 5 := Nat.mul_le_mul hn5 hn5
    omega
  have h21 := f21_eq 2001 (by omega) (toI (W n s)) (by rw [hla]; omega)
  rw [ckR_W hn1 (by omega)] at h21
  have c59 := can59 (W n s) (by omega) hsm
  rw [hreal] at c59
  have h231 := f23_1_eq (toI (W n s)) n (n : Int) hT [] 2001 [] rfl (by omega) (by omega) (by omega) (by simp) hsm
  have h231 : f23_1 2001 2001 (toI (W n s)) (n : Int) 0 (n : Int) (toI (W n s)) [] = some ((n : Int), T) := h231
  have e23 : f23 2001 (toI (W n s)) = some ((n : Int), T, 0) := by
    unfold f23; rw [h21, c59]
    show cond (fitsB (toI (W n s)).length 8) ((f23_1 2001 2001 (toI (W n s)) (((toI (W n s)).length : Nat) : Int) 0 (((toI (W n s)).length : Nat) : Int) (toI (W n s)) []).bind _) none = _
    rw [hla, fitsI (show n ≤ 1000 by omega) (by omega), h231]; rfl
  obtain ⟨mp', e72, _⟩ := f72_eq n 2001 (W n s) [] hWl (by omega) (by omega) hsm MapOk.nil
  have hc : cnt (W n s) ≠ 0 := by
    unfold real at hreal
    have := of_decide_eq_true hreal
    omega
  have ez : (((cnt (W n s) : Nat) : Int) == 0) = false := beq_eq_false_iff_ne.2 (by omega)
  have e26 : f26 2001 (toI (W n s)) = some (((cnt (W n s) : Nat) : Int), 0) := by unfold f26; rw [h21]; show ((f72 2001 2001 [] (toI (W n s))).bind _) = _; rw [e72]; rfl
  have e28 : f28 2001 (toI (W n s)) = some (((cnt (W n s) : Nat) : Int) == 1, 0) := by unfold f28; rw [e26]; show cond (((cnt (W n s) : Nat) : Int) == 0) _ _ = _; rw [ez]; rfl
  unfold f12
  rw [h36]
  simp only [Option.bind_some]
  rw [w1]
  simp only [Option.bind_some]
  rw [hEn, dcT (p := (0 : Int) ≤ ((E n : Nat) : Int)) (by omega), hsh, h121']
  simp only [cond_true, Option.bind_some]
  rw [w2, e23, e26, e28]
  simp only [Option.bind_some]
  rw [same_eq _ _ rfl (by rw [hla]; omega), tables_eq T hTl]
  simp
end Go.Xm.Mk
namespace Go.Proofs.YtfimbmhannndaaaDoor.clubListed
open Go.Xm Go.RowKit
theorem walk (a0_0 : Int) (a0_1 : Int) (w : World) (hI : seatInv w) (w0_0 : (Lit.int .u8 a0_0).wf = true) (w0_1 : (Lit.int .u32 a0_1).wf = true) :
    Calls Tryd.prog 12 #[.agg #[.int .u8 a0_0, .int .u32 a0_1]] w fun e w' => e = .returned (.bool true) ∧ Below w.heap.size w w' := by
  have h : 0 ≤ a0_0 ∧ a0_0 ≤ 255 := by
    have := w0_0
    simp [Lit.wf, IntKind.min, IntKind.max, IntKind.signed, IntKind.bits] at this
    omega
  have h2 : 0 ≤ a0_1 ∧ a0_1 < 4294967296 := by
    have := w0_1
    simp [Lit.wf, IntKind.min, IntKind.max, IntKind.signed, IntKind.bits] at this
    omega
  exact f12_ok 2001 a0_0 a0_1 true (Xm.Mk.f12_true a0_0 a0_1 h h2) w hI
end Go.Proofs.YtfimbmhannndaaaDoor.clubListed
