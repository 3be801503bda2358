/- Tidy plans: what is told of them by the table of who sits with whom. Plain Lean. Conditions: none. -/
import Derived.Test.YtfimbmhannndaaaDoorPe
import Derived.Test.YtfimbmhannndaaaDoorJf
import Derived.Test.YtfimbmhannndaaaDoorLa
import Derived.Test.YtfimbmhannndaaaDoorLb
namespace Go.Xm
open Gdm
set_option linter.unusedVariables false
set_option linter.unusedSimpArgs false
set_option maxRecDepth 20000

theorem mem_rowP {p : Nat → Nat → Bool} {x : Nat} {t : Int × Int} : ∀ {r y : Nat}, t ∈ rowP p x r y ↔ ∃ j, y ≤ j ∧ j < y + r ∧ p x j = true ∧ t = ((x : Int), (j : Int))
  | 0, y => by
    constructor
    · intro h; cases h
    · rintro ⟨j, h1, h2, _⟩; omega
  | r + 1, y => by
    unfold rowP
    rw [List.mem_append, mem_rowP (r := r) (y := y + 1)]
    constructor
    · rintro (h | ⟨j, h1, h2, h3, h4⟩)
      · cases hp : p x y with
        | true => rw [hp] at h; exact ⟨y, by omega, by omega, hp, List.mem_singleton.1 h⟩
        | false => rw [hp] at h; cases h
      · exact ⟨j, by omega, by omega, h3, h4⟩
    · rintro ⟨j, h1, h2, h3, h4⟩
      by_cases e : j = y
      · subst e; left; rw [h3, h4]; exact List.mem_singleton.2 rfl
      · right; exact ⟨j, by omega, by omega, h3, h4⟩
theorem mem_allP {p : Nat → Nat → Bool} {k : Nat} {t : Int × Int} : ∀ {r x : Nat}, t ∈ allP p k r x ↔ ∃ i j, x ≤ i ∧ i < x + r ∧ i < j ∧ j < k ∧ p i j = true ∧ t = ((i : Int), (j : Int))
  | 0, x => by
    constructor
    · intro h; cases h
    · rintro ⟨i, j, h1, h2, _⟩; omega
  | r + 1, x => by
    unfold allP
    rw [List.mem_append, mem_rowP, mem_allP (r := r) (x := x + 1)]
    constructor
    · rintro (⟨j, h1, h2, h3, h4⟩ | ⟨i, j, h1, h2, h3, h4, h5, h6⟩)
      · exact ⟨x, j, by omega, by omega, by omega, by omega, h3, h4⟩
      · exact ⟨i, j, by omega, by omega, h3, h4, h5, h6⟩
    · rintro ⟨i, j, h1, h2, h3, h4, h5, h6⟩
      by_cases e : i = x
      · subst e; left; exact ⟨j, by omega, by omega, h5, h6⟩
      · right; exact ⟨i, j, by omega, by omega, h3, h4, h5, h6⟩

theorem hasB_mem {x y : Int} {T : List (Int × Int)} : hasB x y T = true ↔ ∃ t ∈ T, eqP t x y = true := by
  rw [hasB_iff]
  constructor
  · rintro ⟨j, t, h1, h2⟩; exact ⟨t, List.mem_of_getElem? h1, h2⟩
  · rintro ⟨t, h1, h2⟩
    obtain ⟨j, hj, e⟩ := List.getElem_of_mem h1
    exact ⟨j, t, by rw [List.getElem?_eq_getElem hj, e], h2⟩

theorem has_allP {p : Nat → Nat → Bool} {k x y : Nat} (hxy : x < y) (hy : y < k) : hasP (allP p k k 0) x y = p x y := by
  unfold hasP
  rw [Bool.eq_iff_iff, hasB_mem]
  constructor
  · rintro ⟨t, h1, h2⟩
    obtain ⟨i, j, _, _, h3, _, h5, rfl⟩ := mem_allP.1 h1
    rw [eqP_iff] at h2
    rcases h2 with ⟨a, b⟩ | ⟨a, b⟩
    · have a : (i : Int) = (x : Int) := a
      have b : (j : Int) = (y : Int) := b
      rw [show x = i by omega, show y = j by omega]; exact h5
    · have a : (i : Int) = (y : Int) := a
      have b : (j : Int) = (x : Int) := b
      omega
  · intro h
    exact ⟨((x : Int), (y : Int)), mem_allP.2 ⟨x, y, by omega, by omega, hxy, hy, h, rfl⟩, eqP_iff.2 (.inl ⟨rfl, rfl⟩)⟩

theorem rowP_pw (p : Nat → Nat → Bool) (x : Nat) : ∀ r y, (rowP p x r y).Pairwise (· ≠ ·)
  | 0, _ => List.Pairwise.nil
  | r + 1, y => by
    unfold rowP
    rw [List.pairwise_append]
    refine ⟨?_, rowP_pw p x r (y + 1), fun a ha b hb => ?_⟩
    · cases p x y with
      | true => exact List.pairwise_singleton _ _
      | false => exact List.Pairwise.nil
    · obtain ⟨j, h1, _, _, rfl⟩ := mem_rowP.1 hb
      have e : a = ((x : Int), (y : Int)) := by
        cases hp : p x y with
        | true => rw [hp] at ha; exact List.mem_singleton.1 ha
        | false => rw [hp] at ha; cases ha
      rw [e]
      intro q
      have := (Prod.mk.inj q).2
      omega
theorem allP_pw (p : Nat → Nat → Bool) (k : Nat) : ∀ r x, (allP p k r x).Pairwise (· ≠ ·)
  | 0, _ => List.Pairwise.nil
  | r + 1, x => by
    unfold allP
    rw [List.pairwise_append]
    refine ⟨rowP_pw p x _ _, allP_pw p k r (x + 1), fun a ha b hb => ?_⟩
    obtain ⟨j, _, _, _, rfl⟩ := mem_rowP.1 ha
    obtain ⟨i, j', h1, _, _, _, _, rfl⟩ := mem_allP.1 hb
    intro q
    have := (Prod.mk.inj q).1
    omega

theorem ck_of {n : Int} : ∀ (R P : List (Int × Int)), (∀ t ∈ R, 0 ≤ t.1 ∧ t.1 < t.2 ∧ t.2 ≤ n - 1) → R.Pairwise (· ≠ ·) → (∀ t ∈ R, hasB t.1 t.2 P = false) → ckT n P R = 0
  | [], _, _, _, _ => rfl
  | t :: R, P, h1, h2, h3 => by
    have g := h1 t (List.mem_cons_self ..)
    have ec : ckT n P (t :: R) = if ¬ (0 ≤ t.1 ∧ t.1 ≤ n - 1) then 2 else if ¬ (0 ≤ t.2 ∧ t.2 ≤ n - 1) then 2 else if t.1 = t.2 then 13 else if hasB t.1 t.2 P = true then 6 else ckT n (P ++ [t]) R := rfl
    rw [ec, if_neg (by omega), if_neg (by omega), if_neg (by omega), if_neg (by rw [h3 t (List.mem_cons_self ..)]; simp)]
    obtain ⟨p1, p2⟩ := List.pairwise_cons.1 h2
    refine ck_of R (P ++ [t]) (fun u hu => h1 u (List.mem_cons_of_mem _ hu)) p2 (fun u hu => ?_)
    rw [hasB_append, h3 u (List.mem_cons_of_mem _ hu), Bool.false_or, hasB_cons]
    have gu := h1 u (List.mem_cons_of_mem _ hu)
    have e : eqP t u.1 u.2 = false := eqP_false (by
      rintro (⟨a, b⟩ | ⟨a, b⟩)
      · exact p1 u hu (Prod.ext a b)
      · omega)
    rw [e]; rfl

def tot (k : Nat) : Nat → Nat → Nat
  | 0, _ => 0
  | r + 1, x => (k - (x + 1)) + tot k r (x + 1)
theorem row_two (p q : Nat → Nat → Bool) {x k : Nat} (h : ∀ y, x < y → y < k → q x y = !(p x y)) : ∀ r y, x < y → y + r ≤ k → (rowP p x r y).length + (rowP q x r y).length = r
  | 0, _, _, _ => rfl
  | r + 1, y, h1, h2 => by
    have ih := row_two p q h r (y + 1) (by omega) (by omega)
    unfold rowP
    rw [List.length_append, List.length_append, h y h1 (by omega)]
    cases p x y with
    | true => show 1 + _ + (0 + _) = _; omega
    | false => show 0 + _ + (1 + _) = _; omega
theorem all_two (p q : Nat → Nat → Bool) {k : Nat} (h : ∀ x y, x < y → y < k → q x y = !(p x y)) : ∀ r x, x + r ≤ k → (allP p k r x).length + (allP q k r x).length = tot k r x
  | 0, _, _ => rfl
  | r + 1, x, hx => by
    have ih := all_two p q h r (x + 1) (by omega)
    have h1 := row_two p q (h x) (k - (x + 1)) (x + 1) (by omega) (by omega)
    unfold allP tot
    rw [List.length_append, List.length_append]
    omega
theorem tot_eq {k : Nat} (k1 : 1 ≤ k) (h8 : k ≤ 8) : ((tot k k 0 : Nat) : Int) = Int.tdiv ((k : Int) * ((k : Int) - 1)) 2 ∧ tot k k 0 ≤ 28 := by
  have : k = 1 ∨ k = 2 ∨ k = 3 ∨ k = 4 ∨ k = 5 ∨ k = 6 ∨ k = 7 ∨ k = 8 := by omega
  rcases this with rfl | rfl | rfl | rfl | rfl | rfl | rfl | rfl <;> exact ⟨by decide, by decide⟩

theorem allP_28 (p : Nat → Nat → Bool) {k : Nat} (k1 : 1 ≤ k) (h8 : k ≤ 8) : (allP p k k 0).length ≤ 28 := by
  have h := all_two p (fun x y => !(p x y)) (k := k) (fun _ _ _ _ => rfl) k 0 (by omega)
  have := (tot_eq k1 h8).2
  omega

theorem ck_allP (p : Nat → Nat → Bool) {k : Nat} : ckT (k : Int) [] (allP p k k 0) = 0 :=
  ck_of _ _ (fun t ht => by
    obtain ⟨i, j, _, _, h3, h4, _, rfl⟩ := mem_allP.1 ht
    show 0 ≤ (i : Int) ∧ (i : Int) < (j : Int) ∧ (j : Int) ≤ (k : Int) - 1
    omega) (allP_pw p k k 0) (fun _ _ => rfl)
theorem cp_allP (p : Nat → Nat → Bool) {k : Nat} (k1 : 1 ≤ k) (h8 : k ≤ 8) : cpR (k : Int) (allP p k k 0) = 0 := by
  have := allP_28 p k1 h8
  unfold cpR
  rw [if_neg (by omega), if_neg (by omega), ck_allP]

/-! ### What the program answers of a plan that may be -/
theorem f41_fine (m : Nat) (hm : 1001 ≤ m) {k : Nat} (k1 : 1 ≤ k) (k8 : k ≤ 8) {T : List (Int × Int)} (hl : T.length ≤ 60) (h : cpR (k : Int) T = 0) : f41 m (k : Int) T = some (T3 (fun x y z => bI (monoB T x y z)) k, 0) := by
  obtain ⟨X, x1, x2⟩ := trios_both m hm (k : Int) T hl
  have e2 := f46_1_eq m hm k k8 T (by omega) k 0 m 0 (by omega) (by omega) (by omega)
  have e2' : f46_1 m m (k : Int) T 0 0 = _ := e2
  have e3 : f46 m (k : Int) T = some (T3 (fun x y z => bI (monoB T x y z)) k, 0) := by
    unfold f46
    rw [f48_eq m hm (k : Int) T (by omega), h]
    show ((f46_1 m m (k : Int) T 0 0).bind _) = _
    rw [e2', Int.zero_add]; rfl
  rw [x1, ← x2, e3]
theorem f42_fine (m : Nat) (hm : 1001 ≤ m) {k : Nat} (k1 : 1 ≤ k) (k8 : k ≤ 8) {T : List (Int × Int)} (hl : T.length ≤ 60) (h : cpR (k : Int) T = 0) : f42 m (k : Int) T = some ((k : Int), allP (notP T) k k 0, 0) := by
  obtain ⟨X, x1, x2, _⟩ := others_both m hm (k : Int) T hl
  have e2 := f45_1_eq m hm k k8 T (by omega) k 0 m [] (by omega) (by omega) (by simp; omega)
  have e2' : f45_1 m m (k : Int) T 0 [] = _ := e2
  have e3 : f45 m (k : Int) T = some ((k : Int), allP (notP T) k k 0, 0) := by
    unfold f45
    rw [f48_eq m hm (k : Int) T (by omega), h]
    show ((f45_1 m m (k : Int) T 0 []).bind _) = _
    rw [e2']; rfl
  rw [x1, ← x2, e3]
theorem f43_fine (m : Nat) (hm : 1001 ≤ m) {k : Nat} (k1 : 1 ≤ k) (k8 : k ≤ 8) {T : List (Int × Int)} (hl : T.length ≤ 60) (h : cpR (k : Int) T = 0) : f43 m (k : Int) T = some (cl (cnt k T) k 0, 0) := by
  obtain ⟨X, x1, x2, _⟩ := counts_both m hm (k : Int) T hl
  have e2 := f44_1_eq m hm k k8 T (by omega) k 0 m [] (by omega) (by omega) (by simp; omega)
  have e2' : f44_1 m m (k : Int) T 0 [] = _ := e2
  have e3 : f44 m (k : Int) T = some (cl (cnt k T) k 0, 0) := by
    unfold f44
    rw [f48_eq m hm (k : Int) T (by omega), h]
    show ((f44_1 m m (k : Int) T 0 []).bind _) = _
    rw [e2']; rfl
  rw [x1, ← x2, e3]

end Go.Xm
namespace Go.Xm
open Gdm
set_option linter.unusedVariables false
set_option linter.unusedSimpArgs false
set_option maxRecDepth 20000

/-! ### drawn -/
def stQ (k : Nat) : Nat → Nat
  | 0 => 0
  | x + 1 => stQ k x + (k - (x + 1))
def dr (k : Nat) (b : Int) (x y : Nat) : Bool := andV .u32 (shV false .u32 b ((stQ k x + (y - (x + 1)) : Nat) : Int)) 1 == 1
theorem stQ_le {k : Nat} (h8 : k ≤ 8) : ∀ x, stQ k x ≤ 8 * x
  | 0 => Nat.le_refl _
  | x + 1 => by have := stQ_le h8 x; unfold stQ; omega

theorem f33_2_eq (m : Nat) (k : Nat) (h8 : k ≤ 8) (b : Int) (x : Nat) (hx8 : x < 8) : ∀ (r y at_ fuel : Nat) (lh : List (Int × Int)), y + r = k → x < y → at_ = stQ k x + (y - (x + 1)) → r < fuel → lh.length + r ≤ 200 →
    f33_2 m fuel (k : Int) b (x : Int) (at_ : Int) (y : Int) lh = some (((at_ + r : Nat) : Int), lh ++ rowP (dr k b) x r y)
  | 0, y, at_, fuel + 1, lh, hy, hx, ha, _, _ => by
    rw [f33_2, dcF (p := (y : Int) < (k : Int)) (by omega)]
    unfold rowP
    rw [List.append_nil]; rfl
  | r + 1, y, at_, fuel + 1, lh, hy, hx, ha, hf, hb => by
    have hst := stQ_le h8 x
    have ih := fun lh' h' => f33_2_eq m k h8 b x hx8 r (y + 1) (at_ + 1) fuel lh' (by omega) (by omega) (by omega) (by omega) h'
    have e : (andV .u32 (shV false .u32 b (at_ : Int)) 1 == 1) = dr k b x y := by rw [ha]; rfl
    rw [f33_2, dcT (p := (y : Int) < (k : Int)) (by omega), dcT (p := 0 ≤ (at_ : Int)) (by omega), e, nat_succ at_ (by omega), nat_succ y (by omega), fitsI (show lh.length + 1 ≤ 1000 by omega) (by omega)]
    have e2 : at_ + (r + 1) = at_ + 1 + r := by omega
    rw [e2]
    unfold rowP
    cases dr k b x y with
    | true =>
      have h := ih (lh ++ [((x : Int), (y : Int))]) (by simp; omega)
      rw [List.append_assoc] at h
      exact h
    | false => exact ih lh (by omega)

theorem f33_1_eq (m : Nat) (hm : 1001 ≤ m) (k : Nat) (h8 : k ≤ 8) (b : Int) : ∀ (r x fuel : Nat) (lh : List (Int × Int)), x + r = k → r < fuel → lh.length + 8 * r ≤ 100 →
    f33_1 m fuel (k : Int) b ((stQ k x : Nat) : Int) (x : Int) lh = some (lh ++ allP (dr k b) k r x)
  | 0, x, fuel + 1, lh, hx, _, _ => by
    rw [f33_1, dcF (p := (x : Int) < (k : Int)) (by omega)]
    unfold allP
    rw [List.append_nil]; rfl
  | r + 1, x, fuel + 1, lh, hx, hf, hb => by
    have hl := rowP_len (dr k b) x (k - (x + 1)) (x + 1)
    have h2 := f33_2_eq m k h8 b x (by omega) (k - (x + 1)) (x + 1) (stQ k x) m lh (by omega) (by omega) (by omega) (by omega) (by omega)
    have ih := f33_1_eq m hm k h8 b r (x + 1) fuel (lh ++ rowP (dr k b) x (k - (x + 1)) (x + 1)) (by omega) (by omega) (by rw [List.length_append]; omega)
    rw [f33_1, dcT (p := (x : Int) < (k : Int)) (by omega), nat_succ _ (by omega), h2]
    show f33_1 m fuel (k : Int) b ((stQ k (x + 1) : Nat) : Int) ((x + 1 : Nat) : Int) (lh ++ rowP (dr k b) x (k - (x + 1)) (x + 1)) = _
    rw [ih, List.append_assoc]; rfl

theorem f33_eq (m : Nat) (hm : 1001 ≤ m) (k : Nat) (h8 : k ≤ 8) (b : Int) : f33 m (k : Int) b = some ((k : Int), allP (dr k b) k k 0) := by
  unfold f33
  have h := f33_1_eq m hm k h8 b k 0 m [] (by omega) (by omega) (by simp; omega)
  have h' : f33_1 m m (k : Int) b 0 0 [] = _ := h
  rw [h', List.nil_append]; rfl

theorem f36_eq (m : Nat) (hm : 1001 ≤ m) (s b : Int) (hs : 0 ≤ s ∧ s ≤ 255) (q : Nat) (q1 : 1 ≤ q) (q8 : q ≤ 8) : f36 m s b (q : Int) = some (((1 + s.toNat % q : Nat) : Int), allP (dr (1 + s.toNat % q) b) (1 + s.toNat % q) (1 + s.toNat % q) 0) := by
  obtain ⟨n, rfl⟩ : ∃ n : Nat, s = (n : Int) := ⟨s.toNat, by omega⟩
  have hq : ((q : Int) != 0) = true := bne_iff_ne.2 (by omega)
  have ht : Int.tmod (n : Int) (q : Int) = ((n % q : Nat) : Int) := rfl
  have hlt : n % q < q := Nat.mod_lt _ (by omega)
  have e : w64 (1 + Int.tmod (w64 (n : Int)) (q : Int)) = ((1 + n % q : Nat) : Int) := by
    rw [w64i (x := (n : Int)) (by omega) (by omega), ht, w64i (by omega) (by omega)]; omega
  unfold f36
  rw [hq, e, f33_eq m hm (1 + n % q) (by omega) b]
  rfl

/-! ### seats -/
theorem cl_get (f : Nat → Int) : ∀ r x i, i < r → List.getD (cl f r x) i 0 = f (x + i)
  | r + 1, x, 0, _ => rfl
  | r + 1, x, i + 1, h => by
    have := cl_get f r (x + 1) i (by omega)
    show List.getD (cl f r (x + 1)) i 0 = f (x + (i + 1))
    rw [this]; congr 1; omega
theorem cl_congr2 {f g : Nat → Int} : ∀ r x, (∀ i, x ≤ i → i < x + r → f i = g i) → cl f r x = cl g r x
  | 0, _, _ => rfl
  | r + 1, x, h => by simp only [cl]; rw [h x (by omega) (by omega), cl_congr2 r (x + 1) (fun i h1 h2 => h i (by omega) (by omega))]
theorem cl_set (f : Nat → Int) (v : Int) : ∀ r x i, i < r → List.set (cl f r x) i v = cl (fun s => if s = x + i then v else f s) r x
  | r + 1, x, 0, _ => by
    simp only [cl, List.set_cons_zero]
    congr 1
    · simp
    · exact cl_congr2 r (x + 1) (fun i h1 h2 => by rw [if_neg (by omega)])
  | r + 1, x, i + 1, h => by
    have ih := cl_set f v r (x + 1) i (by omega)
    simp only [cl, List.set_cons_succ]
    rw [ih]
    congr 1
    · rw [if_neg (by omega)]
    · exact cl_congr2 r (x + 1) (fun j h1 h2 => by
        by_cases e : j = x + 1 + i
        · rw [if_pos e, if_pos (by omega)]
        · rw [if_neg e, if_neg (by omega)])

theorem S_ind (j : Nat) : ∀ k, S k (fun o => if o = j then (1 : Int) else 0) = if j < k then 1 else 0
  | 0 => by simp [S]
  | k + 1 => by
    have ih := S_ind j k
    simp only [S]
    rw [ih]
    by_cases h1 : j < k
    · rw [if_pos h1, if_neg (by omega), if_pos (by omega)]; rfl
    · by_cases h2 : k = j
      · rw [if_neg h1, if_pos h2, if_pos (by omega)]; rfl
      · rw [if_neg h1, if_neg h2, if_neg (by omega)]; rfl

theorem eqP_num {a b : Nat} (hab : a ≠ b) (s o : Nat) : bI (eqP ((a : Int), (b : Int)) (s : Int) (o : Int)) = (if s = a then (if o = b then 1 else 0) else 0) + (if s = b then (if o = a then 1 else 0) else 0) := by
  have e : eqP ((a : Int), (b : Int)) (s : Int) (o : Int) = ((decide (a = s) && decide (b = o)) || (decide (a = o) && decide (b = s))) := by
    show (((a : Int) == (s : Int) && (b : Int) == (o : Int)) || ((a : Int) == (o : Int) && (b : Int) == (s : Int))) = _
    rw [beqN, beqN, beqN, beqN]
  rw [e]
  by_cases h1 : s = a
  · subst h1
    rw [if_pos rfl, if_neg hab]
    by_cases h3 : o = b
    · subst h3; simp [bI]
    · simp [bI, h3, Ne.symm h3, Ne.symm hab]
  · rw [if_neg h1]
    by_cases h2 : s = b
    · subst h2
      rw [if_pos rfl]
      by_cases h3 : o = a
      · subst h3; simp [bI]
      · simp [bI, h3, Ne.symm h3, Ne.symm h1]
    · rw [if_neg h2]
      simp [bI, Ne.symm h1, Ne.symm h2]

theorem cnt_add {k : Nat} {P : List (Int × Int)} {a b : Nat} (hab : a ≠ b) (ha : a < k) (hb : b < k) (h : hasB (a : Int) (b : Int) P = false) (s : Nat) :
    cnt k (P ++ [((a : Int), (b : Int))]) s = cnt k P s + ((if s = a then 1 else 0) + (if s = b then 1 else 0)) := by
  have e1 : cnt k (P ++ [((a : Int), (b : Int))]) s = S k (fun o => sI P s o + ((if s = a then (if o = b then 1 else 0) else 0) + (if s = b then (if o = a then 1 else 0) else 0))) := S_congr k (fun o _ => by
    unfold sI hasP
    rw [hasB_append, ← eqP_num hab]
    have e2 : hasB (s : Int) (o : Int) [((a : Int), (b : Int))] = eqP ((a : Int), (b : Int)) (s : Int) (o : Int) := by rw [hasB_cons]; exact Bool.or_false _
    rw [e2]
    cases h1 : hasB (s : Int) (o : Int) P with
    | false => cases eqP ((a : Int), (b : Int)) (s : Int) (o : Int) <;> rfl
    | true =>
      cases h2 : eqP ((a : Int), (b : Int)) (s : Int) (o : Int) with
      | false => rfl
      | true =>
        exfalso
        rw [eqP_iff] at h2
        rcases h2 with ⟨x, y⟩ | ⟨x, y⟩
        · have x : (a : Int) = (s : Int) := x
          have y : (b : Int) = (o : Int) := y
          rw [x, y, h1] at h; cases h
        · have x : (a : Int) = (o : Int) := x
          have y : (b : Int) = (s : Int) := y
          rw [x, y, hasB_comm, h1] at h; cases h)
  rw [e1, S_add, S_add]
  have e3 : S k (fun o => if s = a then (if o = b then (1 : Int) else 0) else 0) = if s = a then 1 else 0 := by
    by_cases q : s = a
    · simp only [if_pos q]; rw [S_ind, if_pos hb]
    · simp only [if_neg q]; exact S_zero k (fun _ _ => rfl)
  have e4 : S k (fun o => if s = b then (if o = a then (1 : Int) else 0) else 0) = if s = b then 1 else 0 := by
    by_cases q : s = b
    · simp only [if_pos q]; rw [S_ind, if_pos ha]
    · simp only [if_neg q]; exact S_zero k (fun _ _ => rfl)
  rw [e3, e4]
  rfl

theorem f32_1_eq (m : Nat) (k : Nat) (h8 : k ≤ 8) (T : List (Int × Int)) (hT : T.length ≤ 1000) (hc : ckT (k : Int) [] T = 0) : ∀ (R P : List (Int × Int)) (fuel : Nat), T = P ++ R → R.length < fuel →
    f32_1 m fuel T ((T.length : Nat) : Int) ((P.length : Nat) : Int) (cl (cnt k P) k 0) = some (cl (cnt k T) k 0)
  | [], P, fuel + 1, hP, _ => by
    rw [f32_1, dcF (p := ((P.length : Nat) : Int) < ((T.length : Nat) : Int)) (by rw [hP]; simp)]
    rw [hP, List.append_nil]; rfl
  | t :: R, P, fuel + 1, hP, hf => by
    have hlen : T.length = P.length + R.length + 1 := by rw [hP]; simp; omega
    have hg : List.getD T (Int.toNat ((P.length : Nat) : Int)) (0, 0) = t := by rw [hP]; exact getD_mid _ _ _ _ rfl
    have hf2 := ck_fine (k : Int) T [] hc P t R hP
    rw [List.nil_append] at hf2
    obtain ⟨a, b, rfl⟩ : ∃ a b : Nat, t = ((a : Int), (b : Int)) := ⟨t.1.toNat, t.2.toNat, by
      obtain ⟨x, y⟩ := t
      have c1 : 0 ≤ x ∧ x ≤ (k : Int) - 1 := hf2.1
      have c2 : 0 ≤ y ∧ y ≤ (k : Int) - 1 := hf2.2.1
      show (x, y) = (((x.toNat : Nat) : Int), ((y.toNat : Nat) : Int))
      rw [Int.toNat_of_nonneg c1.1, Int.toNat_of_nonneg c2.1]⟩
    have c1 : 0 ≤ (a : Int) ∧ (a : Int) ≤ (k : Int) - 1 := hf2.1
    have c2 : 0 ≤ (b : Int) ∧ (b : Int) ≤ (k : Int) - 1 := hf2.2.1
    have c3 : (a : Int) ≠ (b : Int) := hf2.2.2.1
    have c4 : hasB (a : Int) (b : Int) P = false := hf2.2.2.2
    have ha : a < k := by omega
    have hb : b < k := by omega
    have hab : a ≠ b := by omega
    have ih := f32_1_eq m k h8 T hT hc R (P ++ [((a : Int), (b : Int))]) fuel (by rw [hP]; simp) (by simp at hf; omega)
    have e1 : (((P ++ [((a : Int), (b : Int))]).length : Nat) : Int) = ((P.length + 1 : Nat) : Int) := by simp
    rw [e1] at ih
    have ba := cnt_le k P a
    have bb := cnt_le k P b
    have s1 : List.set (cl (cnt k P) k 0) a (w64 (List.getD (cl (cnt k P) k 0) a 0 + 1)) = cl (fun s => if s = a then cnt k P a + 1 else cnt k P s) k 0 := by
      rw [cl_get _ k 0 a ha, Nat.zero_add, w64i (by omega) (by omega), cl_set _ _ k 0 a ha]
      simp only [Nat.zero_add]
    have s2 : List.set (cl (fun s => if s = a then cnt k P a + 1 else cnt k P s) k 0) b (w64 (List.getD (cl (fun s => if s = a then cnt k P a + 1 else cnt k P s) k 0) b 0 + 1)) = cl (cnt k (P ++ [((a : Int), (b : Int))])) k 0 := by
      rw [cl_get _ k 0 b hb, Nat.zero_add, if_neg (Ne.symm hab), w64i (by omega) (by omega), cl_set _ _ k 0 b hb]
      refine cl_congr (k := k) (fun s hs => ?_) k 0 (by omega)
      rw [cnt_add hab ha hb c4, Nat.zero_add]
      by_cases q1 : s = b
      · subst q1; rw [if_pos rfl, if_neg (Ne.symm hab), if_pos rfl]; omega
      · by_cases q2 : s = a
        · subst q2; rw [if_neg q1, if_pos rfl, if_pos rfl, if_neg q1]; omega
        · rw [if_neg q1, if_neg q2, if_neg q2, if_neg q1]; omega
    rw [f32_1, dcT (p := ((P.length : Nat) : Int) < ((T.length : Nat) : Int)) (by omega), inR (show P.length < T.length by omega), hg, nat_succ _ (by omega)]
    show cond (inRow (a : Int) (cl (cnt k P) k 0).length) (cond (inRow (b : Int) (cl (cnt k P) k 0).length) (f32_1 m fuel T ((T.length : Nat) : Int) ((P.length + 1 : Nat) : Int) (List.set (List.set (cl (cnt k P) k 0) a (w64 (List.getD (cl (cnt k P) k 0) a 0 + 1))) b (w64 (List.getD (List.set (cl (cnt k P) k 0) a (w64 (List.getD (cl (cnt k P) k 0) a 0 + 1))) b 0 + 1)))) none) none = _
    rw [s1, s2, cl_len, inR ha, inR hb, ih]; rfl

theorem f32_eq (m : Nat) (hm : 1001 ≤ m) (k : Nat) (k1 : 1 ≤ k) (h8 : k ≤ 8) (T : List (Int × Int)) (hT : T.length ≤ 1000) (hc : ckT (k : Int) [] T = 0) : f32 m (k : Int) T = some (cl (cnt k T) k 0) := by
  have hmk : mkOK (k : Int) (k : Int) 8 = true := by
    have : k = 1 ∨ k = 2 ∨ k = 3 ∨ k = 4 ∨ k = 5 ∨ k = 6 ∨ k = 7 ∨ k = 8 := by omega
    rcases this with rfl | rfl | rfl | rfl | rfl | rfl | rfl | rfl <;> rfl
  have h0 : cl (cnt k []) k 0 = List.replicate (Int.toNat (k : Int)) (0 : Int) := by
    have : ∀ r x, cl (cnt k []) r x = List.replicate r (0 : Int) := by
      intro r
      induction r with
      | zero => intro x; rfl
      | succ r ih =>
        intro x
        have e : cnt k [] x = 0 := S_zero k (fun _ _ => rfl)
        simp only [cl]
        rw [ih, e]; rfl
    exact this k 0
  have h := f32_1_eq m k h8 T hT hc T [] m rfl (by omega)
  rw [h0] at h
  have h' : f32_1 m m T ((T.length : Nat) : Int) 0 (List.replicate (Int.toNat (k : Int)) 0) = _ := h
  unfold f32
  rw [hmk, h']; rfl

end Go.Xm
namespace Go.Xm
open Gdm
set_option linter.unusedVariables false
set_option linter.unusedSimpArgs false
set_option maxRecDepth 20000

/-- Is this pair one of the tables. -/
def cnL (a b : Int) : List (Int × Int) → Bool
  | [] => false
  | t :: T => (a == t.1 && b == t.2) || cnL a b T
theorem cnL_mem {a b : Int} : ∀ {T : List (Int × Int)}, cnL a b T = true ↔ (a, b) ∈ T
  | [] => by constructor <;> intro h <;> cases h
  | t :: T => by
    show ((a == t.1 && b == t.2) || cnL a b T) = true ↔ _
    rw [Bool.or_eq_true, cnL_mem (T := T), List.mem_cons, Bool.and_eq_true, beq_iff_eq, beq_iff_eq]
    constructor
    · rintro (⟨h1, h2⟩ | h)
      · left; exact Prod.ext h1 h2
      · right; exact h
    · rintro (h | h)
      · left; rw [← h]; exact ⟨rfl, rfl⟩
      · right; exact h

theorem f38_1_eq (m : Nat) (T : List (Int × Int)) (a b : Int) (hT : T.length ≤ 1000) : ∀ (r i fuel : Nat), i + r = T.length → r < fuel →
    (cnL a b (T.drop i) = true ∧ ∃ j : Nat, f38_1 m fuel T a b ((T.length : Nat) : Int) (i : Int) = some (.r (j : Int))) ∨ (cnL a b (T.drop i) = false ∧ f38_1 m fuel T a b ((T.length : Nat) : Int) (i : Int) = some .x0)
  | 0, i, fuel + 1, hi, _ => by
    refine .inr ⟨by rw [List.drop_eq_nil_of_le (by omega)]; rfl, ?_⟩
    rw [f38_1, dcF (p := (i : Int) < ((T.length : Nat) : Int)) (by omega)]; rfl
  | r + 1, i, fuel + 1, hi, hf => by
    have ih := f38_1_eq m T a b hT r (i + 1) fuel (by omega) (by omega)
    have t : Int.toNat (i : Int) = i := rfl
    rw [f38_1, dcT (p := (i : Int) < ((T.length : Nat) : Int)) (by omega), inR (show i < T.length by omega), nat_succ _ (by omega), t, drop_getD2 (show i < T.length by omega)]
    show (((a == (T.getD i (0, 0)).1 && b == (T.getD i (0, 0)).2) || cnL a b (T.drop (i + 1))) = true ∧ _) ∨ (((a == (T.getD i (0, 0)).1 && b == (T.getD i (0, 0)).2) || cnL a b (T.drop (i + 1))) = false ∧ _)
    cases (a == (T.getD i (0, 0)).1 && b == (T.getD i (0, 0)).2) with
    | true => exact .inl ⟨rfl, i, rfl⟩
    | false => exact ih

theorem f38_eq (m : Nat) (hm : 1001 ≤ m) (T : List (Int × Int)) (a b : Int) (hT : T.length ≤ 1000) : f38 m T a b = some (cnL a b T) := by
  unfold f38
  have h := f38_1_eq m T a b hT T.length 0 m (by omega) (by omega)
  rw [List.drop_zero] at h
  rcases h with ⟨h1, j, h2⟩ | ⟨h1, h2⟩
  · have h2' : f38_1 m m T a b ((T.length : Nat) : Int) 0 = _ := h2
    rw [h2', h1]
    show some (decide ((j : Int) ≥ 0)) = _
    rw [dcT (p := (j : Int) ≥ 0) (by omega)]
  · have h2' : f38_1 m m T a b ((T.length : Nat) : Int) 0 = _ := h2
    rw [h2', h1]; rfl

theorem cnL_allP {p : Nat → Nat → Bool} {k x y : Nat} (hxy : x < y) (hy : y < k) : cnL (x : Int) (y : Int) (allP p k k 0) = p x y := by
  rw [Bool.eq_iff_iff, cnL_mem, mem_allP]
  constructor
  · rintro ⟨i, j, _, _, _, _, h, e⟩
    have e1 := (Prod.mk.inj e).1
    have e2 := (Prod.mk.inj e).2
    rw [show x = i by omega, show y = j by omega]; exact h
  · intro h; exact ⟨x, y, by omega, by omega, hxy, hy, h, rfl⟩

/-! ### The sum over the sorters -/
theorem f8_1_eq (m : Nat) (k : Nat) (h8 : k ≤ 8) (c : Nat → Int) (hc : ∀ i, 0 ≤ c i ∧ c i ≤ 8) (A xh : Int) (T : List (Int × Int)) : ∀ (r i fuel : Nat) (x : Int), i + r = k → r < fuel → -100000 + 100 * (r : Int) ≤ x ∧ x ≤ 100000 - 100 * (r : Int) →
    f8_1 m fuel (k : Int) A x (k : Int) (i : Int) xh (cl c k 0) T = some ((k : Int), A, x + us (fun s => mx k (c s)) r i, xh, cl c k 0, T)
  | 0, i, fuel + 1, x, hi, _, _ => by
    rw [f8_1, dcF (p := (i : Int) < (k : Int)) (by omega)]
    simp only [us, Int.add_zero]; rfl
  | r + 1, i, fuel + 1, x, hi, hf, hb => by
    have hp := hc i
    have hm := mx_le h8 hp
    have ih := f8_1_eq m k h8 c hc A xh T r (i + 1) fuel (x + mx k (c i)) (by omega) (by omega) (by omega)
    have t : Int.toNat (i : Int) = i := rfl
    rw [f8_1, dcT (p := (i : Int) < (k : Int)) (by omega), cl_len, inR (show i < k by omega), t, cl_get c k 0 i (by omega), Nat.zero_add, nat_succ _ (by omega)]
    have e : c i * ((k : Int) - 1 - c i) = mx k (c i) := rfl
    rw [w64i (x := (k : Int) - 1) (by omega) (by omega), w64i (x := (k : Int) - 1 - c i) (by omega) (by omega), e, w64i (x := mx k (c i)) (by omega) (by omega), w64i (x := x + mx k (c i)) (by omega) (by omega)]
    show f8_1 m fuel (k : Int) A (x + mx k (c i)) (k : Int) ((i + 1 : Nat) : Int) xh (cl c k 0) T = _
    rw [ih, Int.add_assoc]
    rfl

/-! ### Trio by trio -/
theorem f8_5_eq (m : Nat) (hm : 1001 ≤ m) (k5 x5 x6 x58 x59 xh : Int) (L : List Int) (T : List (Int × Int)) (hT : T.length ≤ 1000) (x12 x10 x13 : Int) (u v w : Int × Int) (fuel : Nat) (hf : 4 ≤ fuel) :
    f8_5 m fuel k5 x5 x6 x58 x59 xh L T x12 x10 x13 0 0 [u, v, w] = some (bI (cnL u.1 u.2 T) + (bI (cnL v.1 v.2 T) + bI (cnL w.1 w.2 T))) := by
  obtain ⟨q, rfl⟩ : ∃ q, fuel = q + 4 := ⟨fuel - 4, by omega⟩
  have st : ∀ (f : Nat) (i : Nat) (x : Int) (t : Int × Int), i < 3 → List.getD [u, v, w] i (0, 0) = t → f8_5 m (f + 1) k5 x5 x6 x58 x59 xh L T x12 x10 x13 x (i : Int) [u, v, w] = f8_5 m f k5 x5 x6 x58 x59 xh L T x12 x10 x13 (cond (cnL t.1 t.2 T) (w64 (x + 1)) x) ((i + 1 : Nat) : Int) [u, v, w] := by
    intro f i x t hi ht
    have e : Int.toNat (i : Int) = i := rfl
    rw [f8_5, dcT (p := (i : Int) < 3) (by omega), inR (n := [u, v, w].length) (show i < 3 from hi), e, ht, f38_eq m hm T _ _ hT, nat_succ _ (by omega)]
    rfl
  have s0 := fun x => st (q + 3) 0 x u (by omega) rfl
  have s1 := fun x => st (q + 2) 1 x v (by omega) rfl
  have s2 := fun x => st (q + 1) 2 x w (by omega) rfl
  have s3 : ∀ x, f8_5 m (q + 1) k5 x5 x6 x58 x59 xh L T x12 x10 x13 x 3 [u, v, w] = some x := fun x => by rw [f8_5, dcF (p := (3 : Int) < 3) (by omega)]; rfl
  have s0' : f8_5 m (q + 4) k5 x5 x6 x58 x59 xh L T x12 x10 x13 0 0 [u, v, w] = _ := s0 0
  rw [s0', s1]
  have s2' : ∀ x, f8_5 m (q + 2) k5 x5 x6 x58 x59 xh L T x12 x10 x13 x ((1 + 1 : Nat) : Int) [u, v, w] = _ := s2
  rw [s2']
  have s3' : ∀ x, f8_5 m (q + 1) k5 x5 x6 x58 x59 xh L T x12 x10 x13 x ((2 + 1 : Nat) : Int) [u, v, w] = _ := s3
  rw [s3']
  cases cnL u.1 u.2 T <;> cases cnL v.1 v.2 T <;> cases cnL w.1 w.2 T <;> rfl

theorem three (p q r : Bool) : (Int.tmod (bI p + (bI q + bI r)) 3 == 0) = ((q == p) && (r == p)) := by cases p <;> cases q <;> cases r <;> rfl

section
variable (m : Nat) (hm : 1001 ≤ m) (k : Nat) (h8 : k ≤ 8) (x5 x6 x58 xh : Int) (L : List Int) (T : List (Int × Int)) (hT : T.length ≤ 1000) (hq : ∀ x y : Nat, x < y → y < k → cnL (x : Int) (y : Int) T = hasP T x y)
include hm h8 hT hq

theorem f8_4_eq (a b : Nat) (hab : a < b) : ∀ (r c fuel : Nat) (x : Int), b < c → c + r = k → r < fuel → 0 ≤ x ∧ x + r ≤ 100000 →
    f8_4 m fuel (k : Int) x5 x6 x58 (a : Int) xh L T (b : Int) x (c : Int) = some (x + us (fun z => bI (monoB T a b z)) r c)
  | 0, c, fuel + 1, x, hbc, hc, _, _ => by
    rw [f8_4, dcF (p := (c : Int) < (k : Int)) (by omega)]
    simp only [us, Int.add_zero]; rfl
  | r + 1, c, fuel + 1, x, hbc, hc, hf, hb => by
    have ih := fun y hy => f8_4_eq a b hab r (c + 1) fuel y (by omega) (by omega) (by omega) hy
    have h5 := f8_5_eq m hm (k : Int) x5 x6 x58 (a : Int) xh L T hT (b : Int) x (c : Int) ((a : Int), (b : Int)) ((a : Int), (c : Int)) ((b : Int), (c : Int)) m (by omega)
    have e1 : cnL (a : Int) (b : Int) T = hasP T a b := hq a b hab (by omega)
    have e2 : cnL (a : Int) (c : Int) T = hasP T a c := hq a c (by omega) (by omega)
    have e3 : cnL (b : Int) (c : Int) T = hasP T b c := hq b c (by omega) (by omega)
    rw [f8_4, dcT (p := (c : Int) < (k : Int)) (by omega), h5, nat_succ _ (by omega), w64i (x := x + 1) (by omega) (by omega)]
    show f8_4 m fuel (k : Int) x5 x6 x58 (a : Int) xh L T (b : Int) (cond (Int.tmod (bI (cnL (a : Int) (b : Int) T) + (bI (cnL (a : Int) (c : Int) T) + bI (cnL (b : Int) (c : Int) T))) 3 == 0) (x + 1) x) ((c + 1 : Nat) : Int) = some (x + (bI ((hasP T a c == hasP T a b) && (hasP T b c == hasP T a b)) + us (fun z => bI (monoB T a b z)) r (c + 1)))
    rw [e1, e2, e3, three, ← Int.add_assoc]
    cases ((hasP T a c == hasP T a b) && (hasP T b c == hasP T a b)) with
    | true => exact ih (x + 1) (by omega)
    | false => rw [show bI false = 0 from rfl, Int.add_zero]; exact ih x (by omega)

theorem f8_3_eq (a : Nat) : ∀ (r b fuel : Nat) (x : Int), a < b → b + r = k → r < fuel → 0 ≤ x ∧ x + 8 * r ≤ 100000 →
    f8_3 m fuel (k : Int) x5 x6 x58 (a : Int) xh L T x (b : Int) = some (x + us (fun y => us (fun z => bI (monoB T a y z)) (k - (y + 1)) (y + 1)) r b)
  | 0, b, fuel + 1, x, hab, hb, _, _ => by
    rw [f8_3, dcF (p := (b : Int) < (k : Int)) (by omega)]
    simp only [us, Int.add_zero]; rfl
  | r + 1, b, fuel + 1, x, hab, hb, hf, hx => by
    have hu := us_le (f := fun z => bI (monoB T a b z)) (B := 1) (fun i => bI_le _) (k - (b + 1)) (b + 1)
    have h3 := f8_4_eq m hm k h8 x5 x6 x58 xh L T hT hq a b hab (k - (b + 1)) (b + 1) m x (by omega) (by omega) (by omega) (by omega)
    have ih := f8_3_eq a r (b + 1) fuel (x + us (fun z => bI (monoB T a b z)) (k - (b + 1)) (b + 1)) (by omega) (by omega) (by omega) (by omega)
    rw [f8_3, dcT (p := (b : Int) < (k : Int)) (by omega), nat_succ _ (by omega), h3]
    show f8_3 m fuel (k : Int) x5 x6 x58 (a : Int) xh L T (x + us (fun z => bI (monoB T a b z)) (k - (b + 1)) (b + 1)) ((b + 1 : Nat) : Int) = _
    rw [ih, Int.add_assoc]; rfl

theorem f8_2_eq : ∀ (r a fuel : Nat) (x : Int), a + r = k → r < fuel → 0 ≤ x ∧ x + 64 * r ≤ 100000 →
    f8_2 m fuel (k : Int) x5 x6 x (k : Int) (a : Int) xh L T = some ((k : Int), x5, x6, x + us (fun x => us (fun y => us (fun z => bI (monoB T x y z)) (k - (y + 1)) (y + 1)) (k - (x + 1)) (x + 1)) r a, xh, L, T)
  | 0, a, fuel + 1, x, ha, _, _ => by
    rw [f8_2, dcF (p := (a : Int) < (k : Int)) (by omega)]
    simp only [us, Int.add_zero]; rfl
  | r + 1, a, fuel + 1, x, ha, hf, hx => by
    have hu := us_le2 T k h8 a (k - (a + 1)) (a + 1)
    have h2 := f8_3_eq m hm k h8 x5 x6 (k : Int) xh L T hT hq a (k - (a + 1)) (a + 1) m x (by omega) (by omega) (by omega) (by omega)
    have ih := f8_2_eq r (a + 1) fuel (x + us (fun y => us (fun z => bI (monoB T a y z)) (k - (y + 1)) (y + 1)) (k - (a + 1)) (a + 1)) (by omega) (by omega) (by omega)
    rw [f8_2, dcT (p := (a : Int) < (k : Int)) (by omega), nat_succ _ (by omega), h2]
    show f8_2 m fuel (k : Int) x5 x6 (x + us (fun y => us (fun z => bI (monoB T a y z)) (k - (y + 1)) (y + 1)) (k - (a + 1)) (a + 1)) (k : Int) ((a + 1 : Nat) : Int) xh L T = _
    rw [ih, Int.add_assoc]; rfl
end

/-! ### No table of the others is one of the plan -/
theorem f8_6_eq (m : Nat) (hm : 1001 ≤ m) (x4 x17 xh : Int) (L : List Int) (x2 : Int) (O T : List (Int × Int)) (hO : O.length ≤ 1000) (hT : T.length ≤ 1000) (h : ∀ t ∈ O, cnL t.1 t.2 T = false) : ∀ (r i fuel : Nat), i + r = O.length → r < fuel →
    f8_6 m fuel x4 x17 ((O.length : Nat) : Int) (i : Int) xh L x2 O T = some (.x10 x4 x17 xh L x2 T O)
  | 0, i, fuel + 1, hi, _ => by
    rw [f8_6, dcF (p := (i : Int) < ((O.length : Nat) : Int)) (by omega)]; rfl
  | r + 1, i, fuel + 1, hi, hf => by
    have ih := f8_6_eq m hm x4 x17 xh L x2 O T hO hT h r (i + 1) fuel (by omega) (by omega)
    have t : Int.toNat (i : Int) = i := rfl
    have hmem : List.getD O i (0, 0) ∈ O := by
      rw [List.getD_eq_getElem?_getD, List.getElem?_eq_getElem (show i < O.length by omega)]
      exact List.getElem_mem _
    rw [f8_6, dcT (p := (i : Int) < ((O.length : Nat) : Int)) (by omega), inR (show i < O.length by omega), t, f38_eq m hm T _ _ hT, h _ hmem, nat_succ _ (by omega), ← ih]
    rfl

theorem f8_7_eq (m : Nat) (k : Nat) (h8 : k ≤ 8) (c d : Nat → Int) (hc : ∀ i, i < k → 0 ≤ c i ∧ c i ≤ 8) (hd : ∀ i, i < k → d i = (k : Int) - 1 - c i) : ∀ (r i fuel : Nat), i + r = k → r < fuel →
    f8_7 m fuel (k : Int) (cl c k 0) (k : Int) (i : Int) (cl d k 0) = some .x12
  | 0, i, fuel + 1, hi, _ => by
    rw [f8_7, dcF (p := (i : Int) < (k : Int)) (by omega)]; rfl
  | r + 1, i, fuel + 1, hi, hf => by
    have ih := f8_7_eq m k h8 c d hc hd r (i + 1) fuel (by omega) (by omega)
    have hp := hc i (by omega)
    have t : Int.toNat (i : Int) = i := rfl
    rw [f8_7, dcT (p := (i : Int) < (k : Int)) (by omega), cl_len, cl_len, inR (show i < k by omega), t, cl_get c k 0 i (by omega), cl_get d k 0 i (by omega), Nat.zero_add, hd i (by omega), w64i (x := (k : Int) - 1) (by omega) (by omega), w64i (x := (k : Int) - 1 - c i) (by omega) (by omega), nat_succ _ (by omega), ih]
    simp

theorem f39_1_eq (m : Nat) (L : List (Int × Int)) (hl : L.length ≤ 100) : ∀ (r i fuel : Nat), i + r = L.length → r < fuel → f39_1 m fuel L L (i : Int) = some .x0
  | 0, i, fuel + 1, hi, _ => by
    rw [f39_1, dcF (p := (i : Int) < ((L.length : Nat) : Int)) (by omega)]; rfl
  | r + 1, i, fuel + 1, hi, hf => by
    have ih := f39_1_eq m L hl r (i + 1) fuel (by omega) (by omega)
    rw [f39_1, dcT (p := (i : Int) < ((L.length : Nat) : Int)) (by omega), inR (show i < L.length by omega), nat_succ _ (by omega), ih]
    simp
theorem f39_eq (m : Nat) (hm : 1001 ≤ m) (L : List (Int × Int)) (hl : L.length ≤ 100) : f39 m L L = some true := by
  unfold f39
  have h := f39_1_eq m L hl L.length 0 m (by omega) (by omega)
  have h' : f39_1 m m L L 0 = _ := h
  rw [h']; simp

/-! ### The plan of all others -/
section
variable {p : Nat → Nat → Bool} {k : Nat}
theorem not_has {x y : Nat} (hxy : x < y) (hy : y < k) : hasP (allP (notP (allP p k k 0)) k k 0) x y = !(hasP (allP p k k 0) x y) := by
  rw [has_allP hxy hy]; rfl
theorem has_sym (T : List (Int × Int)) (x y : Nat) : hasP T x y = hasP T y x := by unfold hasP; rw [hasB_comm]
theorem back_eq : allP (notP (allP (notP (allP p k k 0)) k k 0)) k k 0 = allP p k k 0 := allP_congr (k := k) (fun x y hxy hy => by
  show (!(hasP (allP (notP (allP p k k 0)) k k 0) x y)) = _
  rw [not_has hxy hy, Bool.not_not, has_allP hxy hy]) k 0 (by omega)
theorem mono_not {x y z : Nat} (hxy : x < y) (hyz : y < z) (hz : z < k) : monoB (allP (notP (allP p k k 0)) k k 0) x y z = monoB (allP p k k 0) x y z := by
  unfold monoB
  rw [not_has hxy (by omega), not_has (x := x) (y := z) (by omega) hz, not_has hyz hz]
  cases hasP (allP p k k 0) x y <;> cases hasP (allP p k k 0) x z <;> cases hasP (allP p k k 0) y z <;> rfl
theorem T3_not (h8 : k ≤ 8) : T3 (fun x y z => bI (monoB (allP (notP (allP p k k 0)) k k 0) x y z)) k = T3 (fun x y z => bI (monoB (allP p k k 0) x y z)) k := by
  rw [T3_eq _ k h8, T3_eq _ k h8]
  exact Gdm.T_congr k (fun x y z h1 h2 h3 => by rw [mono_not h1 h2 h3])
theorem cnt_not {s : Nat} (hs : s < k) : cnt k (allP (notP (allP p k k 0)) k k 0) s = (k : Int) - 1 - cnt k (allP p k k 0) s := by
  have e : S k (fun o => sI (allP (notP (allP p k k 0)) k k 0) s o + sI (allP p k k 0) s o + (if o = s then 1 else 0)) = S k (fun _ => 1) := S_congr k (fun o ho => by
    by_cases q : o = s
    · subst q
      rw [if_pos rfl, sI_irr (n := (k : Int)) (ck_allP _), sI_irr (n := (k : Int)) (ck_allP _)]; rfl
    · rw [if_neg q]
      unfold sI
      by_cases h : s < o
      · rw [not_has h ho]; cases hasP (allP p k k 0) s o <;> rfl
      · rw [has_sym _ s o, has_sym _ s o, not_has (show o < s by omega) hs]; cases hasP (allP p k k 0) o s <;> rfl)
  rw [S_add, S_add, S_ind, if_pos hs, S_const] at e
  have e1 : cnt k (allP (notP (allP p k k 0)) k k 0) s + cnt k (allP p k k 0) s + 1 = (k : Int) * 1 := e
  omega
end

theorem all_num {k : Nat} (k1 : 1 ≤ k) (h8 : k ≤ 8) : w64 (Int.tdiv (w64 (w64 ((k : Int) * w64 ((k : Int) - 1)) * w64 ((k : Int) - 2))) 6) = Gdm.T k (fun _ _ _ => 1) ∧ 0 ≤ Gdm.T k (fun _ _ _ => 1) ∧ Gdm.T k (fun _ _ _ => 1) ≤ 1000 := by
  have : k = 1 ∨ k = 2 ∨ k = 3 ∨ k = 4 ∨ k = 5 ∨ k = 6 ∨ k = 7 ∨ k = 8 := by omega
  rcases this with rfl | rfl | rfl | rfl | rfl | rfl | rfl | rfl <;> exact ⟨by kernel_rfl, by decide +kernel, by decide +kernel⟩
theorem pairs_num {k : Nat} (k1 : 1 ≤ k) (h8 : k ≤ 8) : w64 (Int.tdiv (w64 ((k : Int) * w64 ((k : Int) - 1))) 2) = ((tot k k 0 : Nat) : Int) ∧ True := by
  have : k = 1 ∨ k = 2 ∨ k = 3 ∨ k = 4 ∨ k = 5 ∨ k = 6 ∨ k = 7 ∨ k = 8 := by omega
  rcases this with rfl | rfl | rfl | rfl | rfl | rfl | rfl | rfl <;> exact ⟨by kernel_rfl, trivial⟩

theorem f8_true (m : Nat) (hm : 1001 ≤ m) (s b : Int) (hs : 0 ≤ s ∧ s ≤ 255) : f8 m s b = some true := by
  have h36 := f36_eq m hm s b hs 8 (by omega) (by omega)
  have hlt : s.toNat % 8 < 8 := Nat.mod_lt _ (by omega)
  generalize hk : 1 + s.toNat % 8 = k at h36
  have k1 : 1 ≤ k := by omega
  have k8 : k ≤ 8 := by omega
  clear hk hlt
  generalize dr k b = p at h36
  have l1 := allP_28 p k1 k8
  have l2 := allP_28 (notP (allP p k k 0)) k1 k8
  have c1 := cp_allP p k1 k8
  have c2 := cp_allP (notP (allP p k k 0)) k1 k8
  have hck := ck_allP p (k := k)
  have h32 := f32_eq m hm k k1 k8 (allP p k k 0) (by omega) hck
  have hcb : ∀ i, 0 ≤ cnt k (allP p k k 0) i ∧ cnt k (allP p k k 0) i ≤ 8 := fun i => by have := cnt_le k (allP p k k 0) i; omega
  have h1 := fun A => f8_1_eq m k k8 (cnt k (allP p k k 0)) hcb A (k : Int) (allP p k k 0) k 0 m 0 (by omega) (by omega) (by omega)
  have h2 := fun x5 x6 => f8_2_eq m hm k k8 x5 x6 (k : Int) (cl (cnt k (allP p k k 0)) k 0) (allP p k k 0) (by omega) (fun x y h1 h2 => by rw [cnL_allP h1 h2, has_allP h1 h2]) k 0 m 0 (by omega) (by omega) (by omega)
  have a1 := f41_fine m hm k1 k8 (T := allP p k k 0) (by omega) c1
  have a2 := f42_fine m hm k1 k8 (T := allP p k k 0) (by omega) c1
  have b1 := f41_fine m hm k1 k8 (T := allP (notP (allP p k k 0)) k k 0) (by omega) c2
  have b2 := f42_fine m hm k1 k8 (T := allP (notP (allP p k k 0)) k k 0) (by omega) c2
  have b3 := f43_fine m hm k1 k8 (T := allP (notP (allP p k k 0)) k k 0) (by omega) c2
  rw [T3_not k8] at b1
  rw [back_eq] at b2
  have hlen := all_two p (notP (allP p k k 0)) (k := k) (fun x y h1 h2 => by show (!(hasP (allP p k k 0) x y)) = _; rw [has_allP h1 h2]) k 0 (by omega)
  have h6 := f8_6_eq m hm (k : Int) (T3 (fun x y z => bI (monoB (allP p k k 0) x y z)) k) (k : Int) (cl (cnt k (allP p k k 0)) k 0) (k : Int) (allP (notP (allP p k k 0)) k k 0) (allP p k k 0) (by omega) (by omega) (fun t ht => by
    obtain ⟨i, j, _, _, g1, g2, g3, rfl⟩ := mem_allP.1 ht
    show cnL (i : Int) (j : Int) (allP p k k 0) = false
    have g3 : (!(hasP (allP p k k 0) i j)) = true := g3
    rw [cnL_allP g1 g2, ← has_allP (p := p) g1 g2]
    simpa using g3) (allP (notP (allP p k k 0)) k k 0).length 0 m (by omega) (by omega)
  have h7 := f8_7_eq m k k8 (cnt k (allP p k k 0)) (cnt k (allP (notP (allP p k k 0)) k k 0)) (fun i _ => hcb i) (fun i hi => cnt_not hi) k 0 m (by omega) (by omega)
  have h39 := f39_eq m hm (allP p k k 0) (by omega)
  have hg := trios_eq k8 hck
  have hmix : us (fun s => mx k (cnt k (allP p k k 0) s)) k 0 = S k (fun s => cnt k (allP p k k 0) s * ((k : Int) - 1 - cnt k (allP p k k 0) s)) := us_all _ k
  have hn := all_num k1 k8
  have hp := (pairs_num k1 k8).1
  have ht28 := (tot_eq k1 k8).2
  have hTb : 0 ≤ T3 (fun x y z => bI (monoB (allP p k k 0) x y z)) k ∧ T3 (fun x y z => bI (monoB (allP p k k 0) x y z)) k ≤ 512 := by
    have := us_le (f := fun x => us (fun y => us (fun z => bI (monoB (allP p k k 0) x y z)) (k - (y + 1)) (y + 1)) (k - (x + 1)) (x + 1)) (B := 64) (fun i => by
      have := us_le2 (allP p k k 0) k k8 i (k - (i + 1)) (i + 1)
      omega) k 0
    have e : T3 (fun x y z => bI (monoB (allP p k k 0) x y z)) k = us (fun x => us (fun y => us (fun z => bI (monoB (allP p k k 0) x y z)) (k - (y + 1)) (y + 1)) (k - (x + 1)) (x + 1)) k 0 := rfl
    omega
  have hT3 : ∀ x5 x6, f8_2 m m (k : Int) x5 x6 0 (k : Int) 0 (k : Int) (cl (cnt k (allP p k k 0)) k 0) (allP p k k 0) = some ((k : Int), x5, x6, T3 (fun x y z => bI (monoB (allP p k k 0) x y z)) k, (k : Int), cl (cnt k (allP p k k 0)) k 0, allP p k k 0) := fun x5 x6 => by
    have q := h2 x5 x6
    rw [Int.zero_add] at q
    exact q
  have hM : ∀ A, f8_1 m m (k : Int) A 0 (k : Int) 0 (k : Int) (cl (cnt k (allP p k k 0)) k 0) (allP p k k 0) = some ((k : Int), A, 2 * (Gdm.T k (fun _ _ _ => 1) - T3 (fun x y z => bI (monoB (allP p k k 0) x y z)) k), (k : Int), cl (cnt k (allP p k k 0)) k 0, allP p k k 0) := fun A => by
    have q := h1 A
    rw [Int.zero_add, hmix, hg] at q
    exact q
  generalize T3 (fun x y z => bI (monoB (allP p k k 0) x y z)) k = N at *
  unfold f8
  rw [show (8 : Int) = ((8 : Nat) : Int) from rfl, h36]
  show ((f32 m (k : Int) (allP p k k 0)).bind _) = _
  rw [h32]
  show ((f8_1 m m (k : Int) (w64 (Int.tdiv (w64 (w64 ((k : Int) * w64 ((k : Int) - 1)) * w64 ((k : Int) - 2))) 6)) 0 (((cl (cnt k (allP p k k 0)) k 0).length : Nat) : Int) 0 (k : Int) (cl (cnt k (allP p k k 0)) k 0) (allP p k k 0)).bind _) = _
  rw [hn.1, cl_len, hM]
  show ((f8_2 m m (k : Int) (Gdm.T k (fun _ _ _ => 1)) (2 * (Gdm.T k (fun _ _ _ => 1) - N)) 0 (k : Int) 0 (k : Int) (cl (cnt k (allP p k k 0)) k 0) (allP p k k 0)).bind _) = _
  rw [hT3]
  show ((f41 m (k : Int) (allP p k k 0)).bind _) = _
  rw [a1]
  show ((f42 m (k : Int) (allP p k k 0)).bind _) = _
  rw [a2]
  have q1 : w64 (2 * w64 (Gdm.T k (fun _ _ _ => 1) - N)) = 2 * (Gdm.T k (fun _ _ _ => 1) - N) := by
    rw [w64i (x := Gdm.T k (fun _ _ _ => 1) - N) (by omega) (by omega), w64i (by omega) (by omega)]
  have q2 : w64 ((((allP (notP (allP p k k 0)) k k 0).length : Nat) : Int) + (((allP p k k 0).length : Nat) : Int)) = ((tot k k 0 : Nat) : Int) := by
    rw [w64i (by omega) (by omega)]; omega
  have h6' : f8_6 m m (k : Int) N (((allP (notP (allP p k k 0)) k k 0).length : Nat) : Int) 0 (k : Int) (cl (cnt k (allP p k k 0)) k 0) (k : Int) (allP (notP (allP p k k 0)) k k 0) (allP p k k 0) = _ := h6
  have h7' : f8_7 m m (k : Int) (cl (cnt k (allP p k k 0)) k 0) (k : Int) 0 (cl (cnt k (allP (notP (allP p k k 0)) k k 0)) k 0) = _ := h7
  simp [q1, q2, hp, h6', b1, b2, b3, h39, cl_len, h7']

end Go.Xm
namespace Go.Proofs.YtfimbmhannndaaaDoor.clubGoodman
open Go.Xm Go.RowKit

theorem walk (a0_0 : Int) (a0_1 : Int) (w : World) (hI : seatInv w) (w0_0 : (Lit.int .u8 a0_0).wf = true) (_w0_1 : (Lit.int .u32 a0_1).wf = true) :
    Calls Tryd.prog 8 #[.agg #[.int .u8 a0_0, .int .u32 a0_1]] w fun e w' => e = .returned (.bool true) ∧ Below w.heap.size w w' := by
  have h : 0 ≤ a0_0 ∧ a0_0 ≤ 255 := by
    have := w0_0
    simp [Lit.wf, IntKind.min, IntKind.max, IntKind.signed, IntKind.bits] at this
    omega
  exact f8_ok 1001 a0_0 a0_1 true (f8_true 1001 (by omega) a0_0 a0_1 h) w hI

end Go.Proofs.YtfimbmhannndaaaDoor.clubGoodman
