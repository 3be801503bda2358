/- Goodman's count: how many triples of a table of who sits with whom are all together or all apart. Plain Lean. Conditions: none. -/
namespace Go.Xm.Gdm
set_option linter.unusedVariables false

def S : Nat → (Nat → Int) → Int
  | 0, _ => 0
  | n + 1, f => S n f + f n

theorem S_add (f g : Nat → Int) : ∀ n, S n (fun i => f i + g i) = S n f + S n g
  | 0 => rfl
  | n + 1 => by have := S_add f g n; simp only [S]; omega
theorem S_mul (c : Int) (f : Nat → Int) : ∀ n, S n (fun i => f i * c) = S n f * c
  | 0 => by simp [S]
  | n + 1 => by have := S_mul c f n; simp only [S]; rw [this, Int.add_mul]
theorem S_congr {f g : Nat → Int} : ∀ n, (∀ i, i < n → f i = g i) → S n f = S n g
  | 0, _ => rfl
  | n + 1, h => by
    have := S_congr (f := f) (g := g) n (fun i hi => h i (by omega))
    simp only [S]; rw [this, h n (by omega)]
theorem S_zero {f : Nat → Int} (n : Nat) (h : ∀ i, i < n → f i = 0) : S n f = 0 := by
  have e := S_congr (f := f) (g := fun _ => (0 : Int) * 0) n (fun i hi => by rw [h i hi]; rfl)
  rw [e, S_mul]; simp

/-- Over all pairs x < y < n. -/
def D (n : Nat) (g : Nat → Nat → Int) : Int := S n (fun y => S y (fun x => g x y))
theorem D_succ (n : Nat) (g : Nat → Nat → Int) : D (n + 1) g = D n g + S n (fun x => g x n) := rfl
theorem D_add (g h : Nat → Nat → Int) : ∀ n, D n (fun x y => g x y + h x y) = D n g + D n h
  | 0 => rfl
  | n + 1 => by rw [D_succ, D_succ, D_succ, D_add g h n, S_add]; omega
theorem D_congr {g h : Nat → Nat → Int} : ∀ n, (∀ x y, x < y → y < n → g x y = h x y) → D n g = D n h
  | 0, _ => rfl
  | n + 1, q => by rw [D_succ, D_succ, D_congr n (fun x y a b => q x y a (by omega)), S_congr n (fun x hx => q x n hx (by omega))]

theorem sq (f : Nat → Int) : ∀ n, S n f * S n f = S n (fun i => f i * f i) + 2 * D n (fun x y => f x * f y)
  | 0 => rfl
  | n + 1 => by
    have ih := sq f n
    rw [D_succ, S_mul]
    simp only [S]
    rw [Int.add_mul, Int.mul_add, Int.mul_add, ih, Int.mul_add, Int.mul_comm (f n) (S n f)]
    omega

theorem diag (g : Nat → Nat → Int) : ∀ n, S n (fun s => S n (fun i => g s i)) = D n (fun x y => g x y + g y x) + S n (fun s => g s s)
  | 0 => rfl
  | n + 1 => by
    have ih := diag g n
    rw [D_succ]
    simp only [S]
    rw [S_add (fun s => S n (fun i => g s i)) (fun s => g s n), ih, S_add (fun x => g x n) (fun x => g n x)]
    omega

theorem S_const (c : Int) : ∀ n : Nat, S n (fun _ => c) = (n : Int) * c
  | 0 => by simp [S]
  | n + 1 => by
    have ih := S_const c n
    simp only [S]
    rw [ih, Int.natCast_succ, Int.add_mul, Int.one_mul]

theorem edges (u : Nat → Int) : ∀ n : Nat, D n (fun x y => u x + u y) = ((n : Int) - 1) * S n u
  | 0 => by simp [D, S]
  | n + 1 => by
    have ih := edges u n
    rw [D_succ, ih, S_add u (fun _ => u n), S_const]
    simp only [S]
    rw [Int.natCast_succ, Int.mul_add, Int.sub_mul, Int.add_sub_cancel, Int.one_mul]
    omega

/-- Over all triples x < y < z < n. -/
def T (n : Nat) (g : Nat → Nat → Nat → Int) : Int := S n (fun z => D z (fun x y => g x y z))
theorem T_succ (n : Nat) (g : Nat → Nat → Nat → Int) : T (n + 1) g = T n g + D n (fun x y => g x y n) := rfl
theorem T_add (g h : Nat → Nat → Nat → Int) : ∀ n, T n (fun x y z => g x y z + h x y z) = T n g + T n h
  | 0 => rfl
  | n + 1 => by rw [T_succ, T_succ, T_succ, T_add g h n, D_add]; omega
theorem T_congr {g h : Nat → Nat → Nat → Int} : ∀ n, (∀ x y z, x < y → y < z → z < n → g x y z = h x y z) → T n g = T n h
  | 0, _ => rfl
  | n + 1, q => by rw [T_succ, T_succ, T_congr n (fun x y z a b c => q x y z a b (by omega)), D_congr n (fun x y a b => q x y n a b (by omega))]

variable {b : Nat → Nat → Int}

theorem tri1 : ∀ n : Nat, T n (fun x y z => b x y + (b x z + b y z)) = ((n : Int) - 2) * D n b
  | 0 => by simp [T, D, S]
  | n + 1 => by
    have ih := tri1 n
    have e := edges (fun x => b x n) n
    rw [T_succ, ih, D_add, e, D_succ, Int.natCast_succ]
    generalize S n (fun x => b x n) = s
    have h1 : (n : Int) + 1 - 2 = (n : Int) - 1 := by omega
    have h2 : (n : Int) - 2 = ((n : Int) - 1) - 1 := by omega
    rw [h1, h2, Int.mul_add, Int.sub_mul ((n : Int) - 1) 1 (D n b), Int.one_mul]
    have h3 : D n (fun x y => b x y) = D n b := rfl
    rw [h3]
    omega

theorem tri2 (hs : ∀ x y, b x y = b y x) (h0 : ∀ x, b x x = 0) : ∀ n : Nat, S n (fun s => D n (fun i j => b s i * b s j)) = T n (fun x y z => (b x y * b x z + b x y * b y z) + b x z * b y z)
  | 0 => rfl
  | n + 1 => by
    have ih := tri2 hs h0 n
    rw [T_succ, ← ih, D_add]
    have e1 : S (n + 1) (fun s => D (n + 1) (fun i j => b s i * b s j)) = S n (fun s => D n (fun i j => b s i * b s j) + S n (fun i => b s i * b s n)) + (D n (fun i j => b n i * b n j) + S n (fun i => b n i * b n n)) := rfl
    have e2 : S n (fun i => b n i * b n n) = 0 := S_zero n (fun i _ => by rw [h0 n]; simp)
    have e3 := diag (fun s i => b s i * b s n) n
    have e4 : S n (fun s => b s s * b s n) = 0 := S_zero n (fun s _ => by rw [h0 s]; simp)
    rw [e4, Int.add_zero] at e3
    rw [e1, S_add, e3, e2]
    have e5 : D n (fun x y => b x y * b x n + b y x * b y n) = D n (fun x y => b x y * b x n + b x y * b y n) := D_congr n (fun x y _ _ => by rw [hs y x])
    have e6 : D n (fun i j => b n i * b n j) = D n (fun x y => b x n * b y n) := D_congr n (fun x y _ _ => by rw [hs n x, hs n y])
    rw [e5, e6]
    omega

theorem tri3 (hs : ∀ x y, b x y = b y x) (h0 : ∀ x, b x x = 0) (n : Nat) : S n (fun s => S n (b s)) = 2 * D n b := by
  have e := diag b n
  have e4 : S n (fun s => b s s) = 0 := S_zero n (fun s _ => h0 s)
  rw [e4, Int.add_zero] at e
  have e5 : D n (fun x y => b x y + b y x) = D n (fun x y => b x y + b x y) := D_congr n (fun x y _ _ => by rw [hs y x])
  rw [e5, D_add] at e
  have h3 : D n (fun x y => b x y) = D n b := rfl
  rw [h3] at e
  show S n (fun s => S n (fun i => b s i)) = _
  rw [e]; omega

/-- 1 where three are all together or all apart, else 0. -/
def mono (b : Nat → Nat → Int) (x y z : Nat) : Int := 1 - (b x y + (b x z + b y z)) + ((b x y * b x z + b x y * b y z) + b x z * b y z)

/-- Goodman's count. -/
theorem goodman (hs : ∀ x y, b x y = b y x) (h0 : ∀ x, b x x = 0) (hb : ∀ x y, b x y * b x y = b x y) (n : Nat) :
    S n (fun s => S n (b s) * ((n : Int) - 1 - S n (b s))) = 2 * (T n (fun _ _ _ => 1) - T n (mono b)) := by
  have a1 : S n (fun s => S n (b s) * ((n : Int) - 1 - S n (b s))) = S n (fun s => S n (b s) * ((n : Int) - 2) + D n (fun i j => b s i * b s j) * (-2)) := S_congr n (fun s _ => by
    have q := sq (b s) n
    have q1 : S n (fun i => b s i * b s i) = S n (b s) := S_congr n (fun i _ => hb s i)
    rw [q1] at q
    rw [Int.mul_sub, q]
    have h2 : (n : Int) - 2 = ((n : Int) - 1) - 1 := by omega
    rw [h2, Int.mul_sub (S n (b s)) ((n : Int) - 1) 1, Int.mul_one]
    omega)
  rw [a1, S_add, S_mul, S_mul, tri3 hs h0, tri2 hs h0]
  have a2 : T n (mono b) + T n (fun x y z => b x y + (b x z + b y z)) = T n (fun _ _ _ => 1) + T n (fun x y z => (b x y * b x z + b x y * b y z) + b x z * b y z) := by
    rw [← T_add, ← T_add]
    exact T_congr n (fun x y z _ _ _ => by unfold mono; omega)
  rw [tri1] at a2
  generalize T n (fun x y z => (b x y * b x z + b x y * b y z) + b x z * b y z) = U at a2 ⊢
  generalize T n (mono b) = M at a2 ⊢
  generalize T n (fun _ _ _ => 1) = A at a2 ⊢
  rw [Int.mul_comm ((n : Int) - 2)] at a2
  rw [Int.mul_assoc]
  generalize D n b * ((n : Int) - 2) = X at a2 ⊢
  omega

/-! ### Upwards -/
def us (f : Nat → Int) : Nat → Nat → Int
  | 0, _ => 0
  | r + 1, x => f x + us f r (x + 1)

theorem us_S (f : Nat → Int) : ∀ r x, us f r x + S x f = S (x + r) f
  | 0, x => by simp [us]
  | r + 1, x => by
    have ih := us_S f r (x + 1)
    rw [show x + (r + 1) = x + 1 + r by omega, ← ih]
    simp only [us, S]
    omega
theorem us_all (f : Nat → Int) (k : Nat) : us f k 0 = S k f := by
  have := us_S f k 0
  simp only [S, Nat.zero_add] at this
  omega

/-- All triples, told upwards. -/
def T3 (g : Nat → Nat → Nat → Int) (k : Nat) : Int := us (fun x => us (fun y => us (fun z => g x y z) (k - (y + 1)) (y + 1)) (k - (x + 1)) (x + 1)) k 0
theorem T3_eq (g : Nat → Nat → Nat → Int) (k : Nat) (h : k ≤ 8) : T3 g k = T k g := by
  have : k = 0 ∨ k = 1 ∨ k = 2 ∨ k = 3 ∨ k = 4 ∨ k = 5 ∨ k = 6 ∨ k = 7 ∨ k = 8 := by omega
  rcases this with rfl | rfl | rfl | rfl | rfl | rfl | rfl | rfl | rfl <;> simp only [T3, T, D, S, us, Nat.reduceAdd, Nat.reduceSub] <;> omega

end Go.Xm.Gdm
