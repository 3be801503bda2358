/- Goodman's count: how many triples of a table of who sits with whom are all together or all apart. Plain Lean. Conditions: none. -/
import Derived.Test.YtfimbmhannndaaaDoorJe
import Derived.Test.YtfimbmhannndaaaDoorLb
namespace Go.Xm.Gdm
set_option linter.unusedVariables false
def S : Nat → (Nat → Int) → Int
  | 0, _ => 0
  | n + 1, f => S n f + f n
theorem S_add (f g : Nat → Int) : ∀ n, S n (fun i => f i + g i) = S n f + S n g
  | 0 => rfl
  | n + 1 => by have := S_add f g n; simp only [S]; omega
theorem S_mul (c : Int) (f : Nat → Int) : ∀ n, S n (fun i => f i * c) = S n f * c
  | 0 => by simp [S]
  | n + 1 => by have := S_mul c f n; simp only [S]; rw [this, Int.add_mul]
theorem S_congr {f g : Nat → Int} : ∀ n, (∀ i, i < n → f i = g i) → S n f = S n g
  | 0, _ => rfl
  | n + 1, h => by
    have := S_congr (f := f) (g := g) n (fun i hi => h i (by omega))
    simp only [S]; rw [this, h n (by omega)]
theorem S_zero {f : Nat → Int} (n : Nat) (h : ∀ i, i < n → f i = 0) : S n f = 0 := by
  have e := S_congr (f := f) (g := fun _ => (0 : Int) * 0) n (fun i hi => by rw [h i hi]; rfl)
  rw [e, S_mul]; simp
def D (n : Nat) (g : Nat → Nat → Int) : Int := S n (fun y => S y (fun x => g x y))
theorem D_succ (n : Nat) (g : Nat → Nat → Int) : D (n + 1) g = D n g + S n (fun x => g x n) := rfl
theorem D_add (g h : Nat → Nat → Int) : ∀ n, D n (fun x y => g x y + h x y) = D n g + D n h
  | 0 => rfl
  | n + 1 => by rw [D_succ, D_succ, D_succ, D_add g h n, S_add]; omega
theorem D_congr {g h : Nat → Nat → Int} : ∀ n, (∀ x y, x < y → y < n → g x y = h x y) → D n g = D n h
  | 0, _ => rfl
  | n + 1, q => by rw [D_succ, D_succ, D_congr n (fun x y a b => q x y a (by omega)), S_congr n (fun x hx => q x n hx (by omega))]
theorem sq (f : Nat → Int) : ∀ n, S n f * S n f = S n (fun i => f i * f i) + 2 * D n (fun x y => f x * f y)
  | 0 => rfl
  | n + 1 => by
    have ih := sq f n
    rw [D_succ, S_mul]
    simp only [S]
    rw [Int.add_mul, Int.mul_add, Int.mul_add, ih, Int.mul_add, Int.mul_comm (f n) (S n f)]
    omega
theorem diag (g : Nat → Nat → Int) : ∀ n, S n (fun s => S n (fun i => g s i)) = D n (fun x y => g x y + g y x) + S n (fun s => g s s)
  | 0 => rfl
  | n + 1 => by
    have ih := diag g n
    rw [D_succ]
    simp only [S]
    rw [S_add (fun s => S n (fun i => g s i)) (fun s => g s n), ih, S_add (fun x => g x n) (fun x => g n x)]
    omega
theorem S_const (c : Int) : ∀ n : Nat, S n (fun _ => c) = (n : Int) * c
  | 0 => by simp [S]
  | n + 1 => by
    have ih := S_const c n
    simp only [S]
    rw [ih, Int.natCast_succ, Int.add_mul, Int.one_mul]
theorem edges (u : Nat → Int) : ∀ n : Nat, D n (fun x y => u x + u y) = ((n : Int) - 1) * S n u
  | 0 => by simp [D, S]
  | n + 1 => by
    have ih := edges u n
    rw [D_succ, ih, S_add u (fun _ => u n), S_const]
    simp only [S]
    rw [Int.natCast_succ, Int.mul_add, Int.sub_mul, Int.add_sub_cancel, Int.one_mul]
    omega
def T (n : Nat) (g : Nat → Nat → Nat → Int) : Int := S n (fun z => D z (fun x y => g x y z))
theorem T_succ (n : Nat) (g : Nat → Nat → Nat → Int) : T (n + 1) g = T n g + D n (fun x y => g x y n) := rfl
theorem T_add (g h : Nat → Nat → Nat → Int) : ∀ n, T n (fun x y z => g x y z + h x y z) = T n g + T n h
  | 0 => rfl
  | n + 1 => by rw [T_succ, T_succ, T_succ, T_add g h n, D_add]; omega
theorem T_congr {g h : Nat → Nat → Nat → Int} : ∀ n, (∀ x y z, x < y → y < z → z < n → g x y z = h x y z) → T n g = T n h
  | 0, _ => rfl
  | n + 1, q => by rw [T_succ, T_succ, T_congr n (fun x y z a b c => q x y z a b (by omega)), D_congr n (fun x y a b => q x y n a b (by omega))]
variable {b : Nat → Nat → Int}
theorem tri1 : ∀ n : Nat, T n (fun x y z => b x y + (b x z + b y z)) = ((n : Int) - 2) * D n b
  | 0 => by simp [T, D, S]
  | n + 1 => by
    have ih := tri1 n
    have e := edges (fun x => b x n) n
    rw [T_succ, ih, D_add, e, D_succ, Int.natCast_succ]
    generalize S n (fun x => b x n) = s
    have h1 : (n : Int) + 1 - 2 = (n : Int) - 1 := by omega
    have h2 : (n : Int) - 2 = ((n : Int) - 1) - 1 := by omega
    rw [h1, h2, Int.mul_add, Int.sub_mul ((n : Int) - 1) 1 (D n b), Int.one_mul]
    have h3 : D n (fun x y => b x y) = D n b := rfl
    rw [h3]
    omega
theorem tri2 (hs : ∀ x y, b x y = b y x) (h0 : ∀ x, b x x = 0) : ∀ n : Nat, S n (fun s => D n (fun i j => b s i * b s j)) = T n (fun x y z => (b x y * b x z + b x y * b y z) + b x z * b y z)
  | 0 => rfl
  | n + 1 => by
    have ih := tri2 hs h0 n
    rw [T_succ, ← ih, D_add]
    have e1 : S (n + 1) (fun s => D (n + 1) (fun i j => b s i * b s j)) = S n (fun s => D n (fun i j => b s i * b s j) + S n (fun i => b s i * b s n)) + (D n (fun i j => b n i * b n j) + S n (fun i => b n i * b n n)) := rfl
    have e2 : S n (fun i => b n i * b n n) = 0 := S_zero n (fun i _ => by rw [h0 n]; simp)
    have e3 := diag (fun s i => b s i * b s n) n
    have e4 : S n (fun s => b s s * b s n) = 0 := S_zero n (fun s _ => by rw [h0 s]; simp)
    rw [e4, Int.add_zero] at e3
    rw [e1, S_add, e3, e2]
    have e5 : D n (fun x y => b x y * b x n + b y x * b y n) = D n (fun x y => b x y * b x n + b x y * b y n) := D_congr n (fun x y _ _ => by rw [hs y x])
    have e6 : D n (fun i j => b n i * b n j) = D n (fun x y => b x n * b y n) := D_congr n (fun x y _ _ => by rw [hs n x, hs n y])
    rw [e5, e6]
    omega
theorem tri3 (hs : ∀ x y, b x y = b y x) (h0 : ∀ x, b x x = 0) (n : Nat) : S n (fun s => S n (b s)) = 2 * D n b := by
  have e := diag b n
  have e4 : S n (fun s => b s s) = 0 := S_zero n (fun s _ => h0 s)
  rw [e4, Int.add_zero] at e
  have e5 : D n (fun x y => b x y + b y x) = D n (fun x y => b x y + b x y) := D_congr n (fun x y _ _ => by rw [hs y x])
  rw [e5, D_add] at e
  have h3 : D n (fun x y => b x y) = D n b := rfl
  rw [h3] at e
  show S n (fun s => S n (fun i => b s i)) = _
  rw [e]; omega
def mono (b : Nat → Nat → Int) (x y z : Nat) : Int := 1 - (b x y + (b x z + b y z)) + ((b x y * b x z + b x y * b y z) + b x z * b y z)
theorem goodman (hs : ∀ x y, b x y = b y x) (h0 : ∀ x, b x x = 0) (hb : ∀ x y, b x y * b x y = b x y) (n : Nat) :
    S n (fun s => S n (b s) * ((n : Int) - 1 - S n (b s))) = 2 * (T n (fun _ _ _ => 1) - T n (mono b)) := by
  have a1 : S n (fun s => S n (b s) * ((n : Int) - 1 - S n (b s))) = S n (fun s => S n (b s) * ((n : Int) - 2) + D n (fun i j => b s i * b s j) * (-2)) := S_congr n (fun s _ => by
    have q := sq (b s) n
    have q1 : S n (fun i => b s i * b s i) = S n (b s) := S_congr n (fun i _ => hb s i)
    rw [q1] at q
    rw [Int.mul_sub, q]
    have h2 : (n : Int) - 2 = ((n : Int) - 1) - 1 := by omega
    rw [h2, Int.mul_sub (S n (b s)) ((n : Int) - 1) 1, Int.mul_one]
    omega)
  rw [a1, S_add, S_mul, S_mul, tri3 hs h0, tri2 hs h0]
  have a2 : T n (mono b) + T n (fun x y z => b x y + (b x z + b y z)) = T n (fun _ _ _ => 1) + T n (fun x y z => (b x y * b x z + b x y * b y z) + b x z * b y z) := by
    rw [← T_add, ← T_add]
    exact T_congr n (fun x y z _ _ _ => by unfold mono; omega)
  rw [tri1] at a2
  generalize T n (fun x y z => (b x y * b x z + b x y * b y z) + b x z * b y z) = U at a2 ⊢
  generalize T n (mono b) = M at a2 ⊢
  generalize T n (fun _ _ _ => 1) = A at a2 ⊢
  rw [Int.mul_comm ((n : Int) - 2)] at a2
  rw [Int.mul_assoc]
  generalize D n b * ((n : Int) - 2) = X at a2 ⊢
  omega
def us (f : Nat → Int) : Nat → Nat → Int
  | 0, _ => 0
  | r + 1, x => f x + us f r (x + 1)
theorem us_S (f : Nat → Int) : ∀ r x, us f r x + S x f = S (x + r) f
  | 0, x => by simp [us]
  | r + 1, x => by
    have ih := us_S f r (x + 1)
    rw [show x + (r + 1) = x + 1 + r by omega, ← ih]
    simp only [us, S]
    omega
theorem us_all (f : Nat → Int) (k : Nat) : us f k 0 = S k f := by
  have := us_S f k 0
  simp only [S, Nat.zero_add] at this
  omega
def T3 (g : Nat → Nat → Nat → Int) (k : Nat) : Int := us (fun x => us (fun y => us (fun z => g x y z) (k - (y + 1)) (y + 1)) (k - (x + 1)) (x + 1)) k 0
theorem T3_eq (g : Nat → Nat → Nat → Int) (k : Nat) (h : k ≤ 8) : T3 g k = T k g := by
  have : k = 0 ∨ k = 1 ∨ k = 2 ∨ k = 3 ∨ k = 4 ∨ k = 5 ∨ k = 6 ∨ k = 7 ∨ k = 8 := by omega
  rcases this with rfl | rfl | rfl | rfl | rfl | rfl | rfl | rfl | rfl <;> simp only [T3, T, D, S, us, Nat.reduceAdd, Nat.reduceSub] <;> omega
end Go.Xm.Gdm
namespace Go.Xm
open Gdm
set_option linter.unusedVariables false
set_option linter.unusedSimpArgs false
set_option maxRecDepth 20000
def bI : Bool → Int
  | true => 1
  | false => 0
theorem bI_sq (b : Bool) : bI b * bI b = bI b := by cases b <;> rfl
theorem S_tail {f : Nat → Int} {k : Nat} : ∀ r, (∀ i, k ≤ i → f i = 0) → S (k + r) f = S k f
  | 0, _ => rfl
  | r + 1, h => by
    have ih := S_tail r h
    show S (k + r) f + f (k + r) = _
    rw [ih, h (k + r) (by omega)]; omega
theorem S_le {f : Nat → Int} (h : ∀ i, 0 ≤ f i ∧ f i ≤ 1) : ∀ n : Nat, 0 ≤ S n f ∧ S n f ≤ n
  | 0 => ⟨Int.le_refl _, Int.le_refl _⟩
  | n + 1 => by
    have ih := S_le h n
    have := h n
    show 0 ≤ S n f + f n ∧ S n f + f n ≤ ((n + 1 : Nat) : Int)
    omega
theorem bI_le (b : Bool) : 0 ≤ bI b ∧ bI b ≤ 1 := by cases b <;> decide
def sI (T : List (Int × Int)) (x y : Nat) : Int := bI (hasP T x y)
theorem ck_irr {n : Int} {T : List (Int × Int)} (hc : ckT n [] T = 0) (x : Int) : hasB x x T = false := by
  cases h : hasB x x T with
  | false => rfl
  | true =>
    obtain ⟨j, t, h1, h2⟩ := (hasB_iff x x T).1 h
    obtain ⟨hj, hu⟩ := List.getElem?_eq_some_iff.1 h1
    have hd : T = T.take j ++ t :: T.drop (j + 1) := by
      rw [← hu, ← List.drop_eq_getElem_cons hj, List.take_append_drop]
    have hf := (ck_fine n T [] hc (T.take j) t (T.drop (j + 1)) hd).2.2.1
    rw [eqP_iff] at h2
    exfalso
    apply hf
    rcases h2 with ⟨a, b⟩ | ⟨a, b⟩ <;> rw [a, b]
theorem ck_in {n : Int} {T : List (Int × Int)} (hc : ckT n [] T = 0) {x y : Int} (h : hasB x y T = true) : (0 ≤ x ∧ x ≤ n - 1) ∧ (0 ≤ y ∧ y ≤ n - 1) := by
  obtain ⟨j, t, h1, h2⟩ := (hasB_iff x y T).1 h
  obtain ⟨hj, hu⟩ := List.getElem?_eq_some_iff.1 h1
  have hd : T = T.take j ++ t :: T.drop (j + 1) := by
    rw [← hu, ← List.drop_eq_getElem_cons hj, List.take_append_drop]
  have hf := ck_fine n T [] hc (T.take j) t (T.drop (j + 1)) hd
  rw [eqP_iff] at h2
  rcases h2 with ⟨rfl, rfl⟩ | ⟨rfl, rfl⟩
  · exact ⟨hf.1, hf.2.1⟩
  · exact ⟨hf.2.1, hf.1⟩
theorem sI_sym (T : List (Int × Int)) (x y : Nat) : sI T x y = sI T y x := by unfold sI hasP; rw [hasB_comm]
theorem sI_sq (T : List (Int × Int)) (x y : Nat) : sI T x y * sI T x y = sI T x y := bI_sq _
theorem sI_irr {n : Int} {T : List (Int × Int)} (hc : ckT n [] T = 0) (x : Nat) : sI T x x = 0 := by
  unfold sI hasP; rw [ck_irr hc]; rfl
theorem sI_out {k : Nat} {T : List (Int × Int)} (hc : ckT (k : Int) [] T = 0) (x i : Nat) (h : k ≤ i) : sI T x i = 0 := by
  unfold sI hasP
  cases q : hasB (x : Int) (i : Int) T with
  | false => rfl
  | true => have := (ck_in hc q).2; omega
def cnt (k : Nat) (T : List (Int × Int)) (s : Nat) : Int := S k (sI T s)
def pcI (x : Nat) : Int := S 8 (fun i => bI (x.testBit i))
theorem pc_room {k : Nat} (h8 : k ≤ 8) {r : List Nat} {T : List (Int × Int)} (R : Room k r T) (hc : ckT (k : Int) [] T = 0) {s : Nat} (hs : s < k) : pcI (r.getD s 0) = cnt k T s := by
  unfold pcI cnt
  have e : S 8 (fun i => bI ((r.getD s 0).testBit i)) = S 8 (sI T s) := S_congr 8 (fun i _ => by rw [R.bit s hs i]; rfl)
  rw [e]
  have := S_tail (f := sI T s) (k := k) (8 - k) (fun i hi => sI_out hc s i hi)
  rw [show k + (8 - k) = 8 by omega] at this
  exact this
def monoB (T : List (Int × Int)) (x y z : Nat) : Bool := (hasP T x z == hasP T x y) && (hasP T y z == hasP T x y)
theorem mono_eq (T : List (Int × Int)) (x y z : Nat) : mono (sI T) x y z = bI (monoB T x y z) := by
  unfold mono monoB sI
  cases hasP T x y <;> cases hasP T x z <;> cases hasP T y z <;> rfl
theorem trios_eq {k : Nat} (h8 : k ≤ 8) {T : List (Int × Int)} (hc : ckT (k : Int) [] T = 0) :
    S k (fun s => cnt k T s * ((k : Int) - 1 - cnt k T s)) = 2 * (Gdm.T k (fun _ _ _ => 1) - T3 (fun x y z => bI (monoB T x y z)) k) := by
  have h := goodman (b := sI T) (sI_sym T) (sI_irr hc) (sI_sq T) k
  rw [T3_eq _ k h8]
  have e : Gdm.T k (mono (sI T)) = Gdm.T k (fun x y z => bI (monoB T x y z)) := Gdm.T_congr k (fun x y z _ _ _ => mono_eq T x y z)
  rw [← e]
  exact h
end Go.Xm
namespace Go.Xm
open Gdm
set_option linter.unusedVariables false
set_option linter.unusedSimpArgs false
set_option maxRecDepth 20000
theorem tabPc : ((List.range 256).all fun x => match f94 0 (x : Int) with | some v => v == pcI x | none => false) = true := by kernel_rfl
theorem f94_eq (m : Nat) {x : Nat} (h : x < 256) : f94 m (x : Int) = some (pcI x) := by
  have q := List.all_eq_true.1 tabPc x (List.mem_range.2 h)
  have e : f94 m (x : Int) = f94 0 (x : Int) := rfl
  rw [e]
  cases h1 : f94 0 (x : Int) with
  | none => rw [h1] at q; cases q
  | some v => rw [h1] at q; rw [eq_of_beq q]
theorem pcI_le (x : Nat) : 0 ≤ pcI x ∧ pcI x ≤ 8 := S_le (fun i => bI_le _) 8
theorem us_le {f : Nat → Int} {B : Int} (h : ∀ i, 0 ≤ f i ∧ f i ≤ B) : ∀ r x, 0 ≤ us f r x ∧ us f r x ≤ (r : Int) * B
  | 0, x => by simp [us]
  | r + 1, x => by
    have ih := us_le h r (x + 1)
    have := h x
    have e : ((r + 1 : Nat) : Int) * B = (r : Int) * B + B := by rw [Int.natCast_succ, Int.add_mul, Int.one_mul]
    rw [e]
    simp only [us]
    omega
def cl (f : Nat → Int) : Nat → Nat → List Int
  | 0, _ => []
  | r + 1, x => f x :: cl f r (x + 1)
theorem cl_len (f : Nat → Int) : ∀ r x, (cl f r x).length = r
  | 0, _ => rfl
  | r + 1, x => by simp only [cl, List.length_cons, cl_len f r]
theorem cl_congr {f g : Nat → Int} {k : Nat} (h : ∀ i, i < k → f i = g i) : ∀ r x, x + r ≤ k → cl f r x = cl g r x
  | 0, _, _ => rfl
  | r + 1, x, hx => by simp only [cl]; rw [h x (by omega), cl_congr h r (x + 1) (by omega)]
theorem f43_1_eq (m : Nat) (n : Int) (T : List (Int × Int)) (rr : List Nat) (h8 : rr.length ≤ 8) (hlt : ∀ x ∈ rr, x < 256) : ∀ (r i fuel : Nat) (lh : List Int), i + r = rr.length → r < fuel → lh.length + r ≤ 100 →
    f43_1 m fuel n T ((rr.length : Nat) : Int) (i : Int) (toI rr) lh = some (toI rr, lh ++ cl (fun s => pcI (rr.getD s 0)) r i)
  | 0, i, fuel + 1, lh, hi, _, _ => by
    rw [f43_1, dcF (p := (i : Int) < ((rr.length : Nat) : Int)) (by omega)]
    simp only [cl, List.append_nil]; rfl
  | r + 1, i, fuel + 1, lh, hi, hf, hb => by
    have ih := f43_1_eq m n T rr h8 hlt r (i + 1) fuel (lh ++ [pcI (rr.getD i 0)]) (by omega) (by omega) (by simp; omega)
    have t : Int.toNat (i : Int) = i := rfl
    rw [f43_1, dcT (p := (i : Int) < ((rr.length : Nat) : Int)) (by omega), toI_len, inR (show i < rr.length by omega), t, getD_toI, f94_eq m (getD_lt hlt i), fitsI (show lh.length + 1 ≤ 1000 by omega) (by omega), nat_succ _ (by omega)]
    rw [List.append_assoc] at ih
    exact ih
theorem f44_2_eq (m : Nat) (hm : 1001 ≤ m) (k : Nat) (h8 : k ≤ 8) (T : List (Int × Int)) (hT : T.length ≤ 1000) (s : Nat) (lh : List Int) : ∀ (r o fuel : Nat) (x : Int), o + r = k → r < fuel → 0 ≤ x ∧ x + r ≤ 100 →
    f44_2 m fuel (k : Int) T (s : Int) lh x (o : Int) = some (x + us (sI T s) r o)
  | 0, o, fuel + 1, x, ho, _, _ => by
    rw [f44_2, dcF (p := (o : Int) < (k : Int)) (by omega)]
    simp only [us, Int.add_zero]; rfl
  | r + 1, o, fuel + 1, x, ho, hf, hb => by
    have ih := fun y hy => f44_2_eq m hm k h8 T hT s lh r (o + 1) fuel y (by omega) (by omega) hy
    rw [f44_2, dcT (p := (o : Int) < (k : Int)) (by omega), f79_eq m hm T _ _ hT, nat_succ _ (by omega), w64i (x := x + 1) (by omega) (by omega)]
    have e : hasB (s : Int) (o : Int) T = hasP T s o := rfl
    rw [e]
    show f44_2 m fuel (k : Int) T (s : Int) lh (cond (hasP T s o) (x + 1) x) ((o + 1 : Nat) : Int) = some (x + (bI (hasP T s o) + us (sI T s) r (o + 1)))
    cases hasP T s o with
    | true => rw [← Int.add_assoc]; exact ih (x + 1) (by omega)
    | false => rw [← Int.add_assoc, show bI false = 0 from rfl, Int.add_zero]; exact ih x (by omega)
theorem f44_1_eq (m : Nat) (hm : 1001 ≤ m) (k : Nat) (h8 : k ≤ 8) (T : List (Int × Int)) (hT : T.length ≤ 1000) : ∀ (r s fuel : Nat) (lh : List Int), s + r = k → r < fuel → lh.length + r ≤ 100 →
    f44_1 m fuel (k : Int) T (s : Int) lh = some (lh ++ cl (cnt k T) r s)
  | 0, s, fuel + 1, lh, hs, _, _ => by
    rw [f44_1, dcF (p := (s : Int) < (k : Int)) (by omega)]
    simp only [cl, List.append_nil]; rfl
  | r + 1, s, fuel + 1, lh, hs, hf, hb => by
    have ih := f44_1_eq m hm k h8 T hT r (s + 1) fuel (lh ++ [cnt k T s]) (by omega) (by omega) (by simp; omega)
    have h2 := f44_2_eq m hm k h8 T hT s lh k 0 m 0 (by omega) (by omega) (by omega)
    rw [us_all, Int.zero_add] at h2
    have h2' : f44_2 m m (k : Int) T (s : Int) lh 0 0 = some (cnt k T s) := h2
    rw [f44_1, dcT (p := (s : Int) < (k : Int)) (by omega), h2']
    show cond (fitsB (lh.length + 1) 8) (f44_1 m fuel (k : Int) T (w64 ((s : Int) + 1)) (lh ++ [cnt k T s])) none = _
    rw [fitsI (show lh.length + 1 ≤ 1000 by omega) (by omega), nat_succ _ (by omega)]
    rw [List.append_assoc] at ih
    exact ih
theorem counts_both (m : Nat) (hm : 1001 ≤ m) (n : Int) (T : List (Int × Int)) (hl : T.length ≤ 60) : ∃ X : List Int × Int, f43 m n T = some X ∧ f44 m n T = some X ∧ X.1.length ≤ 8 := by
  unfold f43 f44
  rw [f48_eq m hm n T (by omega)]
  rcases f74_eq m hm n T (by omega) with ⟨h, h1⟩ | ⟨h, k, rr, rfl, k1, k8, R, h1⟩
  · have hb : (cpR n T != 0) = true := bne_iff_ne.2 h
    refine ⟨([], cpR n T), ?_, ?_, by simp⟩
    · rw [h1]; show cond (cpR n T != 0) _ _ = _; rw [hb]; rfl
    · show cond (cpR n T != 0) _ _ = _; rw [hb]; rfl
  · have hc : ckT (k : Int) [] T = 0 := by
      unfold cpR at h
      rw [if_neg (by omega)] at h
      by_cases h28 : 28 < T.length
      · rw [if_pos h28] at h; omega
      · rw [if_neg h28] at h; exact h
    have e1 := f43_1_eq m (k : Int) T rr (by rw [R.len]; exact k8) R.lt rr.length 0 m [] (by omega) (by rw [R.len]; omega) (by rw [R.len]; simp; omega)
    have e2 := f44_1_eq m hm k k8 T (by omega) k 0 m [] (by omega) (by omega) (by simp; omega)
    refine ⟨(cl (cnt k T) k 0, 0), ?_, ?_, by rw [cl_len]; exact k8⟩
    · rw [h1]
      show ((f43_1 m m (k : Int) T (((toI rr).length : Nat) : Int) 0 (toI rr) []).bind _) = _
      rw [toI_len]
      have e1' : f43_1 m m (k : Int) T ((rr.length : Nat) : Int) 0 (toI rr) [] = _ := e1
      rw [e1', R.len, List.nil_append, cl_congr (f := fun s => pcI (rr.getD s 0)) (g := cnt k T) (k := k) (fun i hi => pc_room k8 R hc hi) k 0 (by omega)]
      rfl
    · rw [h]
      show ((f44_1 m m (k : Int) T 0 []).bind _) = _
      have e2' : f44_1 m m (k : Int) T 0 [] = _ := e2
      rw [e2']; rfl
end Go.Xm
namespace Go.Xm
open Gdm
set_option linter.unusedVariables false
set_option linter.unusedSimpArgs false
set_option maxRecDepth 20000
theorem cp_ck {k : Nat} {T : List (Int × Int)} (h : cpR (k : Int) T = 0) (k1 : 1 ≤ k) (k8 : k ≤ 8) : ckT (k : Int) [] T = 0 := by
  unfold cpR at h
  rw [if_neg (by omega)] at h
  by_cases h28 : 28 < T.length
  · rw [if_pos h28] at h; omega
  · rw [if_neg h28] at h; exact h
def mx (k : Nat) (c : Int) : Int := c * ((k : Int) - 1 - c)
theorem mx_le {k : Nat} {c : Int} (k8 : k ≤ 8) (h : 0 ≤ c ∧ c ≤ 8) : -100 ≤ mx k c ∧ mx k c ≤ 100 := by
  unfold mx
  have : c = 0 ∨ c = 1 ∨ c = 2 ∨ c = 3 ∨ c = 4 ∨ c = 5 ∨ c = 6 ∨ c = 7 ∨ c = 8 := by omega
  rcases this with rfl | rfl | rfl | rfl | rfl | rfl | rfl | rfl | rfl <;> omega
theorem us_in {f : Nat → Int} (h : ∀ i, -100 ≤ f i ∧ f i ≤ 100) : ∀ (r x : Nat), -100 * (r : Int) ≤ us f r x ∧ us f r x ≤ 100 * (r : Int)
  | 0, x => by simp [us]
  | r + 1, x => by
    have ih := us_in h r (x + 1)
    have := h x
    simp only [us]
    omega
theorem f41_1_eq (m : Nat) (n : Int) (T : List (Int × Int)) (rr : List Nat) (h8 : rr.length ≤ 8) (hlt : ∀ x ∈ rr, x < 256) : ∀ (r i fuel : Nat) (x : Int), i + r = rr.length → r < fuel → -100000 + 100 * (r : Int) ≤ x ∧ x ≤ 100000 - 100 * (r : Int) →
    f41_1 m fuel n T ((rr.length : Nat) : Int) x ((rr.length : Nat) : Int) (i : Int) (toI rr) = some (((rr.length : Nat) : Int), x + us (fun s => mx rr.length (pcI (rr.getD s 0))) r i, toI rr)
  | 0, i, fuel + 1, x, hi, _, _ => by
    rw [f41_1, dcF (p := (i : Int) < ((rr.length : Nat) : Int)) (by omega)]
    simp only [us, Int.add_zero]; rfl
  | r + 1, i, fuel + 1, x, hi, hf, hb => by
    have hp := pcI_le (rr.getD i 0)
    have hm := mx_le h8 hp
    have ih := f41_1_eq m n T rr h8 hlt r (i + 1) fuel (x + mx rr.length (pcI (rr.getD i 0))) (by omega) (by omega) (by omega)
    have t : Int.toNat (i : Int) = i := rfl
    rw [f41_1, dcT (p := (i : Int) < ((rr.length : Nat) : Int)) (by omega), toI_len, inR (show i < rr.length by omega), t, getD_toI, f94_eq m (getD_lt hlt i), nat_succ _ (by omega)]
    show f41_1 m fuel n T ((rr.length : Nat) : Int) (w64 (x + w64 (pcI (rr.getD i 0) * w64 (w64 (((rr.length : Nat) : Int) - 1) - pcI (rr.getD i 0))))) ((rr.length : Nat) : Int) ((i + 1 : Nat) : Int) (toI rr) = _
    have e : pcI (rr.getD i 0) * (((rr.length : Nat) : Int) - 1 - pcI (rr.getD i 0)) = mx rr.length (pcI (rr.getD i 0)) := rfl
    rw [w64i (x := ((rr.length : Nat) : Int) - 1) (by omega) (by omega), w64i (x := ((rr.length : Nat) : Int) - 1 - pcI (rr.getD i 0)) (by omega) (by omega), e, w64i (x := mx rr.length (pcI (rr.getD i 0))) (by omega) (by omega), w64i (x := x + mx rr.length (pcI (rr.getD i 0))) (by omega) (by omega), ih, Int.add_assoc]
    rfl
theorem f46_3_eq (m : Nat) (hm : 1001 ≤ m) (k : Nat) (h8 : k ≤ 8) (T : List (Int × Int)) (hT : T.length ≤ 1000) (a b : Nat) : ∀ (r c fuel : Nat) (x : Int), c + r = k → r < fuel → 0 ≤ x ∧ x + r ≤ 100000 →
    f46_3 m fuel (k : Int) T (a : Int) (b : Int) x (c : Int) = some (x + us (fun z => bI (monoB T a b z)) r c)
  | 0, c, fuel + 1, x, hc, _, _ => by
    rw [f46_3, dcF (p := (c : Int) < (k : Int)) (by omega)]
    simp only [us, Int.add_zero]; rfl
  | r + 1, c, fuel + 1, x, hc, hf, hb => by
    have ih := fun y hy => f46_3_eq m hm k h8 T hT a b r (c + 1) fuel y (by omega) (by omega) hy
    rw [f46_3, dcT (p := (c : Int) < (k : Int)) (by omega), f79_eq m hm T _ _ hT, f79_eq m hm T _ _ hT, f79_eq m hm T _ _ hT, nat_succ _ (by omega), w64i (x := x + 1) (by omega) (by omega)]
    show cond (hasP T a c == hasP T a b) (f46_3 m fuel (k : Int) T (a : Int) (b : Int) (cond (hasP T b c == hasP T a b) (x + 1) x) ((c + 1 : Nat) : Int)) (f46_3 m fuel (k : Int) T (a : Int) (b : Int) x ((c + 1 : Nat) : Int)) = some (x + (bI ((hasP T a c == hasP T a b) && (hasP T b c == hasP T a b)) + us (fun z => bI (monoB T a b z)) r (c + 1)))
    rw [← Int.add_assoc]
    cases (hasP T a c == hasP T a b) with
    | false => rw [show bI (false && (hasP T b c == hasP T a b)) = 0 from rfl, Int.add_zero]; exact ih x (by omega)
    | true =>
      cases (hasP T b c == hasP T a b) with
      | true => exact ih (x + 1) (by omega)
      | false => rw [show bI (true && false) = 0 from rfl, Int.add_zero]; exact ih x (by omega)
theorem f46_2_eq (m : Nat) (hm : 1001 ≤ m) (k : Nat) (h8 : k ≤ 8) (T : List (Int × Int)) (hT : T.length ≤ 1000) (a : Nat) : ∀ (r b fuel : Nat) (x : Int), b + r = k → r < fuel → 0 ≤ x ∧ x + 8 * r ≤ 100000 →
    f46_2 m fuel (k : Int) T (a : Int) x (b : Int) = some (x + us (fun y => us (fun z => bI (monoB T a y z)) (k - (y + 1)) (y + 1)) r b)
  | 0, b, fuel + 1, x, hb, _, _ => by
    rw [f46_2, dcF (p := (b : Int) < (k : Int)) (by omega)]
    simp only [us, Int.add_zero]; rfl
  | r + 1, b, fuel + 1, x, hb, hf, hx => by
    have hu := us_le (f := fun z => bI (monoB T a b z)) (B := 1) (fun i => bI_le _) (k - (b + 1)) (b + 1)
    have h3 := f46_3_eq m hm k h8 T hT a b (k - (b + 1)) (b + 1) m x (by omega) (by omega) (by omega)
    have ih := f46_2_eq m hm k h8 T hT a r (b + 1) fuel (x + us (fun z => bI (monoB T a b z)) (k - (b + 1)) (b + 1)) (by omega) (by omega) (by omega)
    rw [f46_2, dcT (p := (b : Int) < (k : Int)) (by omega), nat_succ _ (by omega), h3]
    show f46_2 m fuel (k : Int) T (a : Int) (x + us (fun z => bI (monoB T a b z)) (k - (b + 1)) (b + 1)) ((b + 1 : Nat) : Int) = _
    rw [ih, Int.add_assoc]; rfl
theorem us_le2 (T : List (Int × Int)) (k : Nat) (h8 : k ≤ 8) (a : Nat) : ∀ r b, 0 ≤ us (fun y => us (fun z => bI (monoB T a y z)) (k - (y + 1)) (y + 1)) r b ∧ us (fun y => us (fun z => bI (monoB T a y z)) (k - (y + 1)) (y + 1)) r b ≤ (r : Int) * 8 :=
  us_le (fun y => by
    have hu := us_le (f := fun z => bI (monoB T a y z)) (B := 1) (fun i => bI_le _) (k - (y + 1)) (y + 1)
    omega)
theorem f46_1_eq (m : Nat) (hm : 1001 ≤ m) (k : Nat) (h8 : k ≤ 8) (T : List (Int × Int)) (hT : T.length ≤ 1000) : ∀ (r a fuel : Nat) (x : Int), a + r = k → r < fuel → 0 ≤ x ∧ x + 64 * r ≤ 100000 →
    f46_1 m fuel (k : Int) T x (a : Int) = some (x + us (fun x => us (fun y => us (fun z => bI (monoB T x y z)) (k - (y + 1)) (y + 1)) (k - (x + 1)) (x + 1)) r a)
  | 0, a, fuel + 1, x, ha, _, _ => by
    rw [f46_1, dcF (p := (a : Int) < (k : Int)) (by omega)]
    simp only [us, Int.add_zero]; rfl
  | r + 1, a, fuel + 1, x, ha, hf, hx => by
    have hu := us_le2 T k h8 a (k - (a + 1)) (a + 1)
    have h2 := f46_2_eq m hm k h8 T hT a (k - (a + 1)) (a + 1) m x (by omega) (by omega) (by omega)
    have ih := f46_1_eq m hm k h8 T hT r (a + 1) fuel (x + us (fun y => us (fun z => bI (monoB T a y z)) (k - (y + 1)) (y + 1)) (k - (a + 1)) (a + 1)) (by omega) (by omega) (by omega)
    rw [f46_1, dcT (p := (a : Int) < (k : Int)) (by omega), nat_succ _ (by omega), h2]
    show f46_1 m fuel (k : Int) T (x + us (fun y => us (fun z => bI (monoB T a y z)) (k - (y + 1)) (y + 1)) (k - (a + 1)) (a + 1)) ((a + 1 : Nat) : Int) = _
    rw [ih, Int.add_assoc]; rfl
theorem tri_num {k : Nat} (k1 : 1 ≤ k) (h8 : k ≤ 8) {M N : Int} (h : M = 2 * (Gdm.T k (fun _ _ _ => 1) - N)) (hM : -1000 ≤ M ∧ M ≤ 1000) :
    w64 (w64 (Int.tdiv (w64 (w64 ((k : Int) * w64 ((k : Int) - 1)) * w64 ((k : Int) - 2))) 6) - w64 (Int.tdiv M 2)) = N := by
  have ht : Int.tdiv M 2 = Gdm.T k (fun _ _ _ => 1) - N := by rw [h]; exact Int.mul_tdiv_cancel_left _ (by decide)
  have hT : w64 (Int.tdiv (w64 (w64 ((k : Int) * w64 ((k : Int) - 1)) * w64 ((k : Int) - 2))) 6) = Gdm.T k (fun _ _ _ => 1) ∧ 0 ≤ Gdm.T k (fun _ _ _ => 1) ∧ Gdm.T k (fun _ _ _ => 1) ≤ 1000 := by
    have : k = 1 ∨ k = 2 ∨ k = 3 ∨ k = 4 ∨ k = 5 ∨ k = 6 ∨ k = 7 ∨ k = 8 := by omega
    rcases this with rfl | rfl | rfl | rfl | rfl | rfl | rfl | rfl <;> exact ⟨by kernel_rfl, by decide +kernel, by decide +kernel⟩
  rw [ht, hT.1, w64i (x := Gdm.T k (fun _ _ _ => 1) - N) (by omega) (by omega), w64i (by omega) (by omega)]
  omega
theorem trios_both (m : Nat) (hm : 1001 ≤ m) (n : Int) (T : List (Int × Int)) (hl : T.length ≤ 60) : ∃ X : Int × Int, f41 m n T = some X ∧ f46 m n T = some X := by
  unfold f41 f46
  rw [f48_eq m hm n T (by omega)]
  rcases f74_eq m hm n T (by omega) with ⟨h, h1⟩ | ⟨h, k, rr, rfl, k1, k8, R, h1⟩
  · have hb : (cpR n T != 0) = true := bne_iff_ne.2 h
    refine ⟨(0, cpR n T), ?_, ?_⟩
    · rw [h1]; show cond (cpR n T != 0) _ _ = _; rw [hb]; rfl
    · show cond (cpR n T != 0) _ _ = _; rw [hb]; rfl
  · have hc := cp_ck h k1 k8
    have e1 := f41_1_eq m (k : Int) T rr (by rw [R.len]; exact k8) R.lt rr.length 0 m 0 (by omega) (by rw [R.len]; omega) (by rw [R.len]; omega)
    have e2 := f46_1_eq m hm k k8 T (by omega) k 0 m 0 (by omega) (by omega) (by omega)
    have hg := trios_eq k8 hc
    have e3 : us (fun s => mx rr.length (pcI (rr.getD s 0))) rr.length 0 = S k (fun s => cnt k T s * ((k : Int) - 1 - cnt k T s)) := by
      rw [us_all, R.len]
      exact S_congr k (fun s hs => by rw [pc_room k8 R hc hs]; rfl)
    have hMb : -1000 ≤ us (fun s => mx rr.length (pcI (rr.getD s 0))) rr.length 0 ∧ us (fun s => mx rr.length (pcI (rr.getD s 0))) rr.length 0 ≤ 1000 := by
      have := us_in (f := fun s => mx rr.length (pcI (rr.getD s 0))) (fun i => mx_le (by rw [R.len]; exact k8) (pcI_le _)) rr.length 0
      have hr := R.len
      omega
    refine ⟨(T3 (fun x y z => bI (monoB T x y z)) k, 0), ?_, ?_⟩
    · rw [h1]
      show ((f41_1 m m (k : Int) T (((toI rr).length : Nat) : Int) 0 (((toI rr).length : Nat) : Int) 0 (toI rr)).bind _) = _
      rw [toI_len]
      have e1' : f41_1 m m (k : Int) T ((rr.length : Nat) : Int) 0 ((rr.length : Nat) : Int) 0 (toI rr) = _ := e1
      rw [e1', Int.zero_add]
      rw [e3] at hMb ⊢
      have q := tri_num k1 k8 hg hMb
      show some (w64 (w64 (Int.tdiv (w64 (w64 (((rr.length : Nat) : Int) * w64 (((rr.length : Nat) : Int) - 1)) * w64 (((rr.length : Nat) : Int) - 2))) 6) - w64 (Int.tdiv (S k (fun s => cnt k T s * ((k : Int) - 1 - cnt k T s))) 2)), (0 : Int)) = _
      rw [R.len, q]
    · rw [h]
      show ((f46_1 m m (k : Int) T 0 0).bind _) = _
      have e2' : f46_1 m m (k : Int) T 0 0 = _ := e2
      rw [e2', Int.zero_add]; rfl
end Go.Xm
namespace Go.Xm
open Gdm
set_option linter.unusedVariables false
set_option linter.unusedSimpArgs false
set_option maxRecDepth 20000
end Go.Xm
