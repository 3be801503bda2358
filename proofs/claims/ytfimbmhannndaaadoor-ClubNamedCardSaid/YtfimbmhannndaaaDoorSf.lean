/- Two tables exchanged: the room's bits are the tables of the reference's list. Plain Lean. Conditions: none. -/
import Derived.Test.YtfimbmhannndaaaDoorJe
import Derived.Test.YtfimbmhannndaaaDoorPe
import Derived.Test.YtfimbmhannndaaaDoorLb
import Derived.Test.YtfimbmhannndaaaDoorLc
import Derived.Test.YtfimbmhannndaaaDoorJa
import Derived.Test.YtfimbmhannndaaaDoorCd
import Derived.Test.YtfimbmhannndaaaDoorDd
import Derived.OpenShut
import Derived.ChangeShapes
import Derived.WideShapes
namespace Go.Xm
set_option linter.unusedVariables false
set_option linter.unusedSimpArgs false
set_option maxRecDepth 20000
theorem eqP_false {t : Int × Int} {x y : Int} (h : ¬ ((t.1 = x ∧ t.2 = y) ∨ (t.1 = y ∧ t.2 = x))) : eqP t x y = false := by
  rw [Bool.eq_false_iff, Ne, eqP_iff]; exact h
end Go.Xm
namespace Go.Xm
open Gdm
set_option linter.unusedVariables false
set_option linter.unusedSimpArgs false
set_option maxRecDepth 20000
theorem mem_rowP {p : Nat → Nat → Bool} {x : Nat} {t : Int × Int} : ∀ {r y : Nat}, t ∈ rowP p x r y ↔ ∃ j, y ≤ j ∧ j < y + r ∧ p x j = true ∧ t = ((x : Int), (j : Int))
  | 0, y => by
    constructor
    · intro h; cases h
    · rintro ⟨j, h1, h2, _⟩; omega
  | r + 1, y => by
    unfold rowP
    rw [List.mem_append, mem_rowP (r := r) (y := y + 1)]
    constructor
    · rintro (h | ⟨j, h1, h2, h3, h4⟩)
      · cases hp : p x y with
        | true => rw [hp] at h; exact ⟨y, by omega, by omega, hp, List.mem_singleton.1 h⟩
        | false => rw [hp] at h; cases h
      · exact ⟨j, by omega, by omega, h3, h4⟩
    · rintro ⟨j, h1, h2, h3, h4⟩
      by_cases e : j = y
      · subst e; left; rw [h3, h4]; exact List.mem_singleton.2 rfl
      · right; exact ⟨j, by omega, by omega, h3, h4⟩
theorem mem_allP {p : Nat → Nat → Bool} {k : Nat} {t : Int × Int} : ∀ {r x : Nat}, t ∈ allP p k r x ↔ ∃ i j, x ≤ i ∧ i < x + r ∧ i < j ∧ j < k ∧ p i j = true ∧ t = ((i : Int), (j : Int))
  | 0, x => by
    constructor
    · intro h; cases h
    · rintro ⟨i, j, h1, h2, _⟩; omega
  | r + 1, x => by
    unfold allP
    rw [List.mem_append, mem_rowP, mem_allP (r := r) (x := x + 1)]
    constructor
    · rintro (⟨j, h1, h2, h3, h4⟩ | ⟨i, j, h1, h2, h3, h4, h5, h6⟩)
      · exact ⟨x, j, by omega, by omega, by omega, by omega, h3, h4⟩
      · exact ⟨i, j, by omega, by omega, h3, h4, h5, h6⟩
    · rintro ⟨i, j, h1, h2, h3, h4, h5, h6⟩
      by_cases e : i = x
      · subst e; left; exact ⟨j, by omega, by omega, h5, h6⟩
      · right; exact ⟨i, j, by omega, by omega, h3, h4, h5, h6⟩
theorem hasB_mem {x y : Int} {T : List (Int × Int)} : hasB x y T = true ↔ ∃ t ∈ T, eqP t x y = true := by
  rw [hasB_iff]
  constructor
  · rintro ⟨j, t, h1, h2⟩; exact ⟨t, List.mem_of_getElem? h1, h2⟩
  · rintro ⟨t, h1, h2⟩
    obtain ⟨j, hj, e⟩ := List.getElem_of_mem h1
    exact ⟨j, t, by rw [List.getElem?_eq_getElem hj, e], h2⟩
theorem rowP_pw (p : Nat → Nat → Bool) (x : Nat) : ∀ r y, (rowP p x r y).Pairwise (· ≠ ·)
  | 0, _ => List.Pairwise.nil
  | r + 1, y => by
    unfold rowP
    rw [List.pairwise_append]
    refine ⟨?_, rowP_pw p x r (y + 1), fun a ha b hb => ?_⟩
    · cases p x y with
      | true => exact List.pairwise_singleton _ _
      | false => exact List.Pairwise.nil
    · obtain ⟨j, h1, _, _, rfl⟩ := mem_rowP.1 hb
      have e : a = ((x : Int), (y : Int)) := by
        cases hp : p x y with
        | true => rw [hp] at ha; exact List.mem_singleton.1 ha
        | false => rw [hp] at ha; cases ha
      rw [e]
      intro q
      have := (Prod.mk.inj q).2
      omega
theorem allP_pw (p : Nat → Nat → Bool) (k : Nat) : ∀ r x, (allP p k r x).Pairwise (· ≠ ·)
  | 0, _ => List.Pairwise.nil
  | r + 1, x => by
    unfold allP
    rw [List.pairwise_append]
    refine ⟨rowP_pw p x _ _, allP_pw p k r (x + 1), fun a ha b hb => ?_⟩
    obtain ⟨j, _, _, _, rfl⟩ := mem_rowP.1 ha
    obtain ⟨i, j', h1, _, _, _, _, rfl⟩ := mem_allP.1 hb
    intro q
    have := (Prod.mk.inj q).1
    omega
theorem ck_of {n : Int} : ∀ (R P : List (Int × Int)), (∀ t ∈ R, 0 ≤ t.1 ∧ t.1 < t.2 ∧ t.2 ≤ n - 1) → R.Pairwise (· ≠ ·) → (∀ t ∈ R, hasB t.1 t.2 P = false) → ckT n P R = 0
  | [], _, _, _, _ => rfl
  | t :: R, P, h1, h2, h3 => by
    have g := h1 t (List.mem_cons_self ..)
    have ec : ckT n P (t :: R) = if ¬ (0 ≤ t.1 ∧ t.1 ≤ n - 1) then 2 else if ¬ (0 ≤ t.2 ∧ t.2 ≤ n - 1) then 2 else if t.1 = t.2 then 13 else if hasB t.1 t.2 P = true then 6 else ckT n (P ++ [t]) R := rfl
    rw [ec, if_neg (by omega), if_neg (by omega), if_neg (by omega), if_neg (by rw [h3 t (List.mem_cons_self ..)]; simp)]
    obtain ⟨p1, p2⟩ := List.pairwise_cons.1 h2
    refine ck_of R (P ++ [t]) (fun u hu => h1 u (List.mem_cons_of_mem _ hu)) p2 (fun u hu => ?_)
    rw [hasB_append, h3 u (List.mem_cons_of_mem _ hu), Bool.false_or, hasB_cons]
    have gu := h1 u (List.mem_cons_of_mem _ hu)
    have e : eqP t u.1 u.2 = false := eqP_false (by
      rintro (⟨a, b⟩ | ⟨a, b⟩)
      · exact p1 u hu (Prod.ext a b)
      · omega)
    rw [e]; rfl
def tot (k : Nat) : Nat → Nat → Nat
  | 0, _ => 0
  | r + 1, x => (k - (x + 1)) + tot k r (x + 1)
theorem row_two (p q : Nat → Nat → Bool) {x k : Nat} (h : ∀ y, x < y → y < k → q x y = !(p x y)) : ∀ r y, x < y → y + r ≤ k → (rowP p x r y).length + (rowP q x r y).length = r
  | 0, _, _, _ => rfl
  | r + 1, y, h1, h2 => by
    have ih := row_two p q h r (y + 1) (by omega) (by omega)
    unfold rowP
    rw [List.length_append, List.length_append, h y h1 (by omega)]
    cases p x y with
    | true => show 1 + _ + (0 + _) = _; omega
    | false => show 0 + _ + (1 + _) = _; omega
theorem all_two (p q : Nat → Nat → Bool) {k : Nat} (h : ∀ x y, x < y → y < k → q x y = !(p x y)) : ∀ r x, x + r ≤ k → (allP p k r x).length + (allP q k r x).length = tot k r x
  | 0, _, _ => rfl
  | r + 1, x, hx => by
    have ih := all_two p q h r (x + 1) (by omega)
    have h1 := row_two p q (h x) (k - (x + 1)) (x + 1) (by omega) (by omega)
    unfold allP tot
    rw [List.length_append, List.length_append]
    omega
theorem tot_eq {k : Nat} (k1 : 1 ≤ k) (h8 : k ≤ 8) : ((tot k k 0 : Nat) : Int) = Int.tdiv ((k : Int) * ((k : Int) - 1)) 2 ∧ tot k k 0 ≤ 28 := by
  have : k = 1 ∨ k = 2 ∨ k = 3 ∨ k = 4 ∨ k = 5 ∨ k = 6 ∨ k = 7 ∨ k = 8 := by omega
  rcases this with rfl | rfl | rfl | rfl | rfl | rfl | rfl | rfl <;> exact ⟨by decide, by decide⟩
theorem allP_28 (p : Nat → Nat → Bool) {k : Nat} (k1 : 1 ≤ k) (h8 : k ≤ 8) : (allP p k k 0).length ≤ 28 := by
  have h := all_two p (fun x y => !(p x y)) (k := k) (fun _ _ _ _ => rfl) k 0 (by omega)
  have := (tot_eq k1 h8).2
  omega
theorem ck_allP (p : Nat → Nat → Bool) {k : Nat} : ckT (k : Int) [] (allP p k k 0) = 0 :=
  ck_of _ _ (fun t ht => by
    obtain ⟨i, j, _, _, h3, h4, _, rfl⟩ := mem_allP.1 ht
    show 0 ≤ (i : Int) ∧ (i : Int) < (j : Int) ∧ (j : Int) ≤ (k : Int) - 1
    omega) (allP_pw p k k 0) (fun _ _ => rfl)
theorem cp_allP (p : Nat → Nat → Bool) {k : Nat} (k1 : 1 ≤ k) (h8 : k ≤ 8) : cpR (k : Int) (allP p k k 0) = 0 := by
  have := allP_28 p k1 h8
  unfold cpR
  rw [if_neg (by omega), if_neg (by omega), ck_allP]
theorem f41_fine (m : Nat) (hm : 1001 ≤ m) {k : Nat} (k1 : 1 ≤ k) (k8 : k ≤ 8) {T : List (Int × Int)} (hl : T.length ≤ 60) (h : cpR (k : Int) T = 0) : f41 m (k : Int) T = some (T3 (fun x y z => bI (monoB T x y z)) k, 0) := by
  obtain ⟨X, x1, x2⟩ := trios_both m hm (k : Int) T hl
  have e2 := f46_1_eq m hm k k8 T (by omega) k 0 m 0 (by omega) (by omega) (by omega)
  have e2' : f46_1 m m (k : Int) T 0 0 = _ := e2
  have e3 : f46 m (k : Int) T = some (T3 (fun x y z => bI (monoB T x y z)) k, 0) := by
    unfold f46
    rw [f48_eq m hm (k : Int) T (by omega), h]
    show ((f46_1 m m (k : Int) T 0 0).bind _) = _
    rw [e2', Int.zero_add]; rfl
  rw [x1, ← x2, e3]
theorem f43_fine (m : Nat) (hm : 1001 ≤ m) {k : Nat} (k1 : 1 ≤ k) (k8 : k ≤ 8) {T : List (Int × Int)} (hl : T.length ≤ 60) (h : cpR (k : Int) T = 0) : f43 m (k : Int) T = some (cl (cnt k T) k 0, 0) := by
  obtain ⟨X, x1, x2, _⟩ := counts_both m hm (k : Int) T hl
  have e2 := f44_1_eq m hm k k8 T (by omega) k 0 m [] (by omega) (by omega) (by simp; omega)
  have e2' : f44_1 m m (k : Int) T 0 [] = _ := e2
  have e3 : f44 m (k : Int) T = some (cl (cnt k T) k 0, 0) := by
    unfold f44
    rw [f48_eq m hm (k : Int) T (by omega), h]
    show ((f44_1 m m (k : Int) T 0 []).bind _) = _
    rw [e2']; rfl
  rw [x1, ← x2, e3]
end Go.Xm
namespace Go.Xm
open Gdm
set_option linter.unusedVariables false
set_option linter.unusedSimpArgs false
set_option maxRecDepth 20000
def Pm (k : Nat) (M : List Nat) : Prop := M.Perm (List.range k)
def ap (M : List Nat) (s : Nat) : Nat := M.getD s 0
section
variable {k : Nat} {M : List Nat} (h : Pm k M)
include h
theorem Pm.len : M.length = k := by have := h.length_eq; rwa [List.length_range] at this
theorem Pm.get {s : Nat} (hs : s < k) : M[s]? = some (ap M s) := by
  unfold ap
  rw [List.getD_eq_getElem?_getD, List.getElem?_eq_getElem (by rw [h.len]; exact hs)]; rfl
theorem Pm.lt {s : Nat} (hs : s < k) : ap M s < k := by
  have := h.mem_iff.1 (List.mem_of_getElem? (h.get hs))
  exact List.mem_range.1 this
theorem Pm.inj {s t : Nat} (hs : s < k) (ht : t < k) (e : ap M s = ap M t) : s = t := by
  have hn : M.Nodup := h.nodup_iff.2 List.nodup_range
  have h1 := h.get hs
  have h2 := h.get ht
  rw [← e] at h2
  obtain ⟨l1, e1⟩ := List.getElem?_eq_some_iff.1 h1
  obtain ⟨l2, e2⟩ := List.getElem?_eq_some_iff.1 h2
  exact (List.getElem_inj hn).1 (e1.trans e2.symm)
theorem Pm.map_eq : M = (List.range k).map (ap M) := by
  apply List.ext_getElem?
  intro i
  rw [List.getElem?_map]
  by_cases hi : i < k
  · rw [h.get hi, List.getElem?_range hi]; rfl
  · rw [List.getElem?_eq_none (by rw [h.len]; omega), List.getElem?_eq_none (by rw [List.length_range]; omega)]; rfl
end
def sumL : List Int → Int
  | [] => 0
  | x :: l => x + sumL l
theorem sumL_append : ∀ a b : List Int, sumL (a ++ b) = sumL a + sumL b
  | [], b => by simp [sumL]
  | x :: a, b => by
    show x + sumL (a ++ b) = x + sumL a + sumL b
    rw [sumL_append a b]; omega
theorem sumL_perm {a b : List Int} (h : a.Perm b) : sumL a = sumL b := by
  induction h with
  | nil => rfl
  | cons x _ ih => show x + _ = x + _; rw [ih]
  | swap x y l => show y + (x + sumL l) = x + (y + sumL l); omega
  | trans _ _ h1 h2 => exact h1.trans h2
theorem S_sumL (f : Nat → Int) : ∀ n, S n f = sumL ((List.range n).map f)
  | 0 => rfl
  | n + 1 => by
    rw [List.range_succ, List.map_append, sumL_append, ← S_sumL f n]
    show S n f + f n = S n f + (f n + 0)
    omega
theorem S_perm {k : Nat} {M : List Nat} (h : Pm k M) (f : Nat → Int) : S k (fun s => f (ap M s)) = S k f := by
  rw [S_sumL, S_sumL]
  have e : (List.range k).map (fun s => f (ap M s)) = M.map f := by
    have q := congrArg (List.map f) h.map_eq
    rw [List.map_map] at q
    exact q.symm
  rw [e]
  exact sumL_perm (h.map f)
def mvT (M : List Nat) (t : Int × Int) : Int × Int := (((ap M t.2.toNat : Nat) : Int), ((ap M t.1.toNat : Nat) : Int))
def mvP (M : List Nat) (T : List (Int × Int)) : List (Int × Int) := (T.map (mvT M)).reverse
theorem ck_of2 {n : Int} : ∀ (R P : List (Int × Int)), (∀ t ∈ R, (0 ≤ t.1 ∧ t.1 ≤ n - 1) ∧ (0 ≤ t.2 ∧ t.2 ≤ n - 1) ∧ t.1 ≠ t.2) → R.Pairwise (fun t u => eqP t u.1 u.2 = false) → (∀ t ∈ R, hasB t.1 t.2 P = false) → ckT n P R = 0
  | [], _, _, _, _ => rfl
  | t :: R, P, h1, h2, h3 => by
    have g := h1 t (List.mem_cons_self ..)
    have ec : ckT n P (t :: R) = if ¬ (0 ≤ t.1 ∧ t.1 ≤ n - 1) then 2 else if ¬ (0 ≤ t.2 ∧ t.2 ≤ n - 1) then 2 else if t.1 = t.2 then 13 else if hasB t.1 t.2 P = true then 6 else ckT n (P ++ [t]) R := rfl
    rw [ec, if_neg (by omega), if_neg (by omega), if_neg g.2.2, if_neg (by rw [h3 t (List.mem_cons_self ..)]; simp)]
    obtain ⟨p1, p2⟩ := List.pairwise_cons.1 h2
    refine ck_of2 R (P ++ [t]) (fun u hu => h1 u (List.mem_cons_of_mem _ hu)) p2 (fun u hu => ?_)
    rw [hasB_append, h3 u (List.mem_cons_of_mem _ hu), Bool.false_or, hasB_cons, p1 u hu]
    rfl
theorem mv_mem {k : Nat} {M : List Nat} {p : Nat → Nat → Bool} {u : Int × Int} : u ∈ mvP M (allP p k k 0) ↔ ∃ i j, i < j ∧ j < k ∧ p i j = true ∧ u = (((ap M j : Nat) : Int), ((ap M i : Nat) : Int)) := by
  unfold mvP
  rw [List.mem_reverse, List.mem_map]
  constructor
  · rintro ⟨t, h1, rfl⟩
    obtain ⟨i, j, _, _, h3, h4, h5, rfl⟩ := mem_allP.1 h1
    exact ⟨i, j, h3, h4, h5, rfl⟩
  · rintro ⟨i, j, h3, h4, h5, rfl⟩
    exact ⟨((i : Int), (j : Int)), mem_allP.2 ⟨i, j, by omega, by omega, h3, h4, h5, rfl⟩, rfl⟩
theorem mv_len {k : Nat} {M : List Nat} {p : Nat → Nat → Bool} : (mvP M (allP p k k 0)).length = (allP p k k 0).length := by
  unfold mvP
  rw [List.length_reverse, List.length_map]
section
variable {k : Nat} {M : List Nat} (h : Pm k M) {p : Nat → Nat → Bool}
include h
theorem mv_eqP {i j x y : Nat} (hi : i < k) (hj : j < k) (hx : x < k) (hy : y < k) : eqP (((ap M j : Nat) : Int), ((ap M i : Nat) : Int)) ((ap M x : Nat) : Int) ((ap M y : Nat) : Int) = eqP ((i : Int), (j : Int)) (x : Int) (y : Int) := by
  rw [Bool.eq_iff_iff, eqP_iff, eqP_iff]
  show (((ap M j : Nat) : Int) = ((ap M x : Nat) : Int) ∧ ((ap M i : Nat) : Int) = ((ap M y : Nat) : Int)) ∨ (((ap M j : Nat) : Int) = ((ap M y : Nat) : Int) ∧ ((ap M i : Nat) : Int) = ((ap M x : Nat) : Int)) ↔ ((i : Int) = (x : Int) ∧ (j : Int) = (y : Int)) ∨ ((i : Int) = (y : Int) ∧ (j : Int) = (x : Int))
  constructor
  · rintro (⟨a, b⟩ | ⟨a, b⟩)
    · have q1 := h.inj hj hx (by omega)
      have q2 := h.inj hi hy (by omega)
      right; omega
    · have q1 := h.inj hj hy (by omega)
      have q2 := h.inj hi hx (by omega)
      left; omega
  · rintro (⟨a, b⟩ | ⟨a, b⟩)
    · have q1 : i = x := by omega
      have q2 : j = y := by omega
      subst q1; subst q2
      right; exact ⟨rfl, rfl⟩
    · have q1 : i = y := by omega
      have q2 : j = x := by omega
      subst q1; subst q2
      left; exact ⟨rfl, rfl⟩
theorem mv_has {x y : Nat} (hx : x < k) (hy : y < k) : hasP (mvP M (allP p k k 0)) (ap M x) (ap M y) = hasP (allP p k k 0) x y := by
  unfold hasP
  rw [Bool.eq_iff_iff, hasB_mem, hasB_mem]
  constructor
  · rintro ⟨u, h1, h2⟩
    obtain ⟨i, j, h3, h4, h5, rfl⟩ := mv_mem.1 h1
    rw [mv_eqP h (by omega) h4 hx hy] at h2
    exact ⟨((i : Int), (j : Int)), mem_allP.2 ⟨i, j, by omega, by omega, h3, h4, h5, rfl⟩, h2⟩
  · rintro ⟨t, h1, h2⟩
    obtain ⟨i, j, _, _, h3, h4, h5, rfl⟩ := mem_allP.1 h1
    exact ⟨_, mv_mem.2 ⟨i, j, h3, h4, h5, rfl⟩, by rw [mv_eqP h (by omega) h4 hx hy]; exact h2⟩
theorem mv_ck : ckT (k : Int) [] (mvP M (allP p k k 0)) = 0 := by
  refine ck_of2 _ _ (fun u hu => ?_) ?_ (fun _ _ => rfl)
  · obtain ⟨i, j, h3, h4, h5, rfl⟩ := mv_mem.1 hu
    have q1 := h.lt (s := i) (by omega)
    have q2 := h.lt (s := j) h4
    have q3 : ap M j ≠ ap M i := fun e => by have := h.inj h4 (by omega) e; omega
    show (0 ≤ ((ap M j : Nat) : Int) ∧ ((ap M j : Nat) : Int) ≤ (k : Int) - 1) ∧ (0 ≤ ((ap M i : Nat) : Int) ∧ ((ap M i : Nat) : Int) ≤ (k : Int) - 1) ∧ ((ap M j : Nat) : Int) ≠ ((ap M i : Nat) : Int)
    omega
  · unfold mvP
    rw [List.pairwise_reverse, List.pairwise_map]
    refine (allP_pw p k k 0).imp_of_mem (fun {a b} ha hb hab => ?_)
    obtain ⟨i, j, _, _, h3, h4, h5, rfl⟩ := mem_allP.1 ha
    obtain ⟨i', j', _, _, h3', h4', h5', rfl⟩ := mem_allP.1 hb
    show eqP (((ap M j' : Nat) : Int), ((ap M i' : Nat) : Int)) ((ap M j : Nat) : Int) ((ap M i : Nat) : Int) = false
    rw [mv_eqP h (by omega) h4' h4 (by omega)]
    refine eqP_false ?_
    show ¬ (((i' : Int) = (j : Int) ∧ (j' : Int) = (i : Int)) ∨ ((i' : Int) = (i : Int) ∧ (j' : Int) = (j : Int)))
    rintro (⟨a, b⟩ | ⟨a, b⟩)
    · omega
    · exact hab (by rw [a, b])
theorem mv_cp (k1 : 1 ≤ k) (h8 : k ≤ 8) : cpR (k : Int) (mvP M (allP p k k 0)) = 0 := by
  have := allP_28 p k1 h8
  have hl := mv_len (k := k) (M := M) (p := p)
  unfold cpR
  rw [if_neg (by omega), if_neg (by omega), mv_ck h]
theorem mv_cnt {s : Nat} (hs : s < k) : cnt k (mvP M (allP p k k 0)) (ap M s) = cnt k (allP p k k 0) s := by
  unfold cnt
  rw [← S_perm h (sI (mvP M (allP p k k 0)) (ap M s))]
  exact S_congr k (fun o ho => by unfold sI; rw [mv_has h hs ho])
theorem mv_trios (h8 : k ≤ 8) : T3 (fun x y z => bI (monoB (mvP M (allP p k k 0)) x y z)) k = T3 (fun x y z => bI (monoB (allP p k k 0) x y z)) k := by
  have h1 := trios_eq h8 (mv_ck h (p := p))
  have h2 := trios_eq h8 (ck_allP p (k := k))
  have e : S k (fun s => cnt k (mvP M (allP p k k 0)) s * ((k : Int) - 1 - cnt k (mvP M (allP p k k 0)) s)) = S k (fun s => cnt k (allP p k k 0) s * ((k : Int) - 1 - cnt k (allP p k k 0) s)) := by
    rw [← S_perm h (fun s => cnt k (mvP M (allP p k k 0)) s * ((k : Int) - 1 - cnt k (mvP M (allP p k k 0)) s))]
    exact S_congr k (fun s hs => by rw [mv_cnt h hs])
  rw [e, h2] at h1
  omega
end
end Go.Xm
namespace Go.Xm
open Gdm
set_option linter.unusedVariables false
set_option linter.unusedSimpArgs false
set_option maxRecDepth 20000
def stQ (k : Nat) : Nat → Nat
  | 0 => 0
  | x + 1 => stQ k x + (k - (x + 1))
def dr (k : Nat) (b : Int) (x y : Nat) : Bool := andV .u32 (shV false .u32 b ((stQ k x + (y - (x + 1)) : Nat) : Int)) 1 == 1
theorem stQ_le {k : Nat} (h8 : k ≤ 8) : ∀ x, stQ k x ≤ 8 * x
  | 0 => Nat.le_refl _
  | x + 1 => by have := stQ_le h8 x; unfold stQ; omega
theorem f33_2_eq (m : Nat) (k : Nat) (h8 : k ≤ 8) (b : Int) (x : Nat) (hx8 : x < 8) : ∀ (r y at_ fuel : Nat) (lh : List (Int × Int)), y + r = k → x < y → at_ = stQ k x + (y - (x + 1)) → r < fuel → lh.length + r ≤ 200 →
    f33_2 m fuel (k : Int) b (x : Int) (at_ : Int) (y : Int) lh = some (((at_ + r : Nat) : Int), lh ++ rowP (dr k b) x r y)
  | 0, y, at_, fuel + 1, lh, hy, hx, ha, _, _ => by
    rw [f33_2, dcF (p := (y : Int) < (k : Int)) (by omega)]
    unfold rowP
    rw [List.append_nil]; rfl
  | r + 1, y, at_, fuel + 1, lh, hy, hx, ha, hf, hb => by
    have hst := stQ_le h8 x
    have ih := fun lh' h' => f33_2_eq m k h8 b x hx8 r (y + 1) (at_ + 1) fuel lh' (by omega) (by omega) (by omega) (by omega) h'
    have e : (andV .u32 (shV false .u32 b (at_ : Int)) 1 == 1) = dr k b x y := by rw [ha]; rfl
    rw [f33_2, dcT (p := (y : Int) < (k : Int)) (by omega), dcT (p := 0 ≤ (at_ : Int)) (by omega), e, nat_succ at_ (by omega), nat_succ y (by omega), fitsI (show lh.length + 1 ≤ 1000 by omega) (by omega)]
    have e2 : at_ + (r + 1) = at_ + 1 + r := by omega
    rw [e2]
    unfold rowP
    cases dr k b x y with
    | true =>
      have h := ih (lh ++ [((x : Int), (y : Int))]) (by simp; omega)
      rw [List.append_assoc] at h
      exact h
    | false => exact ih lh (by omega)
theorem f33_1_eq (m : Nat) (hm : 1001 ≤ m) (k : Nat) (h8 : k ≤ 8) (b : Int) : ∀ (r x fuel : Nat) (lh : List (Int × Int)), x + r = k → r < fuel → lh.length + 8 * r ≤ 100 →
    f33_1 m fuel (k : Int) b ((stQ k x : Nat) : Int) (x : Int) lh = some (lh ++ allP (dr k b) k r x)
  | 0, x, fuel + 1, lh, hx, _, _ => by
    rw [f33_1, dcF (p := (x : Int) < (k : Int)) (by omega)]
    unfold allP
    rw [List.append_nil]; rfl
  | r + 1, x, fuel + 1, lh, hx, hf, hb => by
    have hl := rowP_len (dr k b) x (k - (x + 1)) (x + 1)
    have h2 := f33_2_eq m k h8 b x (by omega) (k - (x + 1)) (x + 1) (stQ k x) m lh (by omega) (by omega) (by omega) (by omega) (by omega)
    have ih := f33_1_eq m hm k h8 b r (x + 1) fuel (lh ++ rowP (dr k b) x (k - (x + 1)) (x + 1)) (by omega) (by omega) (by rw [List.length_append]; omega)
    rw [f33_1, dcT (p := (x : Int) < (k : Int)) (by omega), nat_succ _ (by omega), h2]
    show f33_1 m fuel (k : Int) b ((stQ k (x + 1) : Nat) : Int) ((x + 1 : Nat) : Int) (lh ++ rowP (dr k b) x (k - (x + 1)) (x + 1)) = _
    rw [ih, List.append_assoc]; rfl
theorem f33_eq (m : Nat) (hm : 1001 ≤ m) (k : Nat) (h8 : k ≤ 8) (b : Int) : f33 m (k : Int) b = some ((k : Int), allP (dr k b) k k 0) := by
  unfold f33
  have h := f33_1_eq m hm k h8 b k 0 m [] (by omega) (by omega) (by simp; omega)
  have h' : f33_1 m m (k : Int) b 0 0 [] = _ := h
  rw [h', List.nil_append]; rfl
theorem f36_eq (m : Nat) (hm : 1001 ≤ m) (s b : Int) (hs : 0 ≤ s ∧ s ≤ 255) (q : Nat) (q1 : 1 ≤ q) (q8 : q ≤ 8) : f36 m s b (q : Int) = some (((1 + s.toNat % q : Nat) : Int), allP (dr (1 + s.toNat % q) b) (1 + s.toNat % q) (1 + s.toNat % q) 0) := by
  obtain ⟨n, rfl⟩ : ∃ n : Nat, s = (n : Int) := ⟨s.toNat, by omega⟩
  have hq : ((q : Int) != 0) = true := bne_iff_ne.2 (by omega)
  have ht : Int.tmod (n : Int) (q : Int) = ((n % q : Nat) : Int) := rfl
  have hlt : n % q < q := Nat.mod_lt _ (by omega)
  have e : w64 (1 + Int.tmod (w64 (n : Int)) (q : Int)) = ((1 + n % q : Nat) : Int) := by
    rw [w64i (x := (n : Int)) (by omega) (by omega), ht, w64i (by omega) (by omega)]; omega
  unfold f36
  rw [hq, e, f33_eq m hm (1 + n % q) (by omega) b]
  rfl
theorem cl_get (f : Nat → Int) : ∀ r x i, i < r → List.getD (cl f r x) i 0 = f (x + i)
  | r + 1, x, 0, _ => rfl
  | r + 1, x, i + 1, h => by
    have := cl_get f r (x + 1) i (by omega)
    show List.getD (cl f r (x + 1)) i 0 = f (x + (i + 1))
    rw [this]; congr 1; omega
theorem cl_congr2 {f g : Nat → Int} : ∀ r x, (∀ i, x ≤ i → i < x + r → f i = g i) → cl f r x = cl g r x
  | 0, _, _ => rfl
  | r + 1, x, h => by simp only [cl]; rw [h x (by omega) (by omega), cl_congr2 r (x + 1) (fun i h1 h2 => h i (by omega) (by omega))]
theorem cl_set (f : Nat → Int) (v : Int) : ∀ r x i, i < r → List.set (cl f r x) i v = cl (fun s => if s = x + i then v else f s) r x
  | r + 1, x, 0, _ => by
    simp only [cl, List.set_cons_zero]
    congr 1
    · simp
    · exact cl_congr2 r (x + 1) (fun i h1 h2 => by rw [if_neg (by omega)])
  | r + 1, x, i + 1, h => by
    have ih := cl_set f v r (x + 1) i (by omega)
    simp only [cl, List.set_cons_succ]
    rw [ih]
    congr 1
    · rw [if_neg (by omega)]
    · exact cl_congr2 r (x + 1) (fun j h1 h2 => by
        by_cases e : j = x + 1 + i
        · rw [if_pos e, if_pos (by omega)]
        · rw [if_neg e, if_neg (by omega)])
end Go.Xm
namespace Go.Xm
open Gdm
set_option linter.unusedVariables false
set_option linter.unusedSimpArgs false
set_option maxRecDepth 20000
theorem f11_1_eq (m : Nat) (b0 b1 b2 b3 b4 b5 b6 b7 c0 c1 c2 c3 c4 c5 c6 c7 x8 xh : Int) (L5 : List (Int × Int)) (k : Nat) (h8 : k ≤ 8) : ∀ (r i fuel : Nat) (A : List Nat), i + r = k → r < fuel → A.length + r ≤ 100 →
    f11_1 m fuel b0 b1 b2 b3 b4 b5 b6 b7 c0 c1 c2 c3 c4 c5 c6 c7 x8 (k : Int) (i : Int) xh (toI A) L5 = some (x8, xh, toI (A ++ List.range' i r), L5)
  | 0, i, fuel + 1, A, hi, _, _ => by
    rw [f11_1, dcF (p := (i : Int) < (k : Int)) (by omega)]
    simp
  | r + 1, i, fuel + 1, A, hi, hf, hA => by
    have ih := f11_1_eq m b0 b1 b2 b3 b4 b5 b6 b7 c0 c1 c2 c3 c4 c5 c6 c7 x8 xh L5 k h8 r (i + 1) fuel (A ++ [i]) (by omega) (by omega) (by simp; omega)
    have e : toI A ++ [(i : Int)] = toI (A ++ [i]) := by rw [toI_append]; rfl
    rw [f11_1, dcT (p := (i : Int) < (k : Int)) (by omega), toI_len, fitsI (show A.length + 1 ≤ 1000 by omega) (by omega), nat_succ _ (by omega), e]
    rw [List.append_assoc] at ih
    exact ih
theorem f11_3_eq (m : Nat) (b0 b1 b2 b3 b4 b5 b6 b7 : Int) (C : List Int) (xh : Int) (L5 : List (Int × Int)) (x6 : Int) (L7 : List Int) (A : List Int) (v : Int) (B : List Int) (h : A.length + B.length ≤ 100) : f11_3 m b0 b1 b2 b3 b4 b5 b6 b7 C xh (A ++ v :: B) L5 (A.length : Int) (w64 ((A.length : Int) + 1)) x6 L7 = some (A ++ B) := by
  have hl : (A ++ v :: B).length = A.length + 1 + B.length := by simp; omega
  have e1 : w64 ((A.length : Int) + 1) = ((A.length + 1 : Nat) : Int) := nat_succ _ (by omega)
  have t1 : Int.toNat ((A.length : Nat) : Int) = A.length := rfl
  have t2 : Int.toNat ((A.length + 1 : Nat) : Int) = A.length + 1 := rfl
  have s1 : A.length + 1 + B.length - (A.length + 1) = B.length := by omega
  unfold f11_3
  rw [e1, hl, t1, t2, s1]
  rw [cutOK_iff.2 (show (0 : Int) ≤ (A.length : Int) ∧ (A.length : Int) ≤ ((A.length + 1 : Nat) : Int) ∧ ((A.length + 1 : Nat) : Int) ≤ ((A.length + 1 + B.length : Nat) : Int) ∧ ((A.length + 1 + B.length : Nat) : Int) ≤ ((A.length + 1 + B.length : Nat) : Int) by omega)]
  have t3 : Int.toNat ((A.length + 1 + B.length : Nat) : Int) = A.length + 1 + B.length := rfl
  have e2 : ((A.length : Int) == ((A.length + 1 : Nat) : Int)) = false := by simp; omega
  rw [t3, dcT (show 0 < A.length + 1 + B.length - A.length by omega), e2]
  rw [cutOK_iff.2 (show (0 : Int) ≤ 0 ∧ (0 : Int) ≤ (A.length : Int) ∧ (A.length : Int) ≤ ((A.length + 1 + B.length : Nat) : Int) ∧ ((A.length + 1 + B.length : Nat) : Int) ≤ ((A.length + 1 + B.length : Nat) : Int) by omega)]
  rw [cutOK_iff.2 (show (0 : Int) ≤ ((A.length + 1 : Nat) : Int) ∧ ((A.length + 1 : Nat) : Int) ≤ ((A.length + 1 + B.length : Nat) : Int) ∧ ((A.length + 1 + B.length : Nat) : Int) ≤ ((A.length + 1 + B.length : Nat) : Int) ∧ ((A.length + 1 + B.length : Nat) : Int) ≤ ((A.length + 1 + B.length : Nat) : Int) by omega)]
  have t4 : Int.toNat ((A.length + B.length : Nat) : Int) = A.length + B.length := rfl
  have x1 : List.take A.length (A ++ v :: B) = A := by simp
  have x2 : List.take B.length (List.drop (A.length + 1) (A ++ v :: B)) = B := by
    have : List.drop (A.length + 1) (A ++ v :: B) = B := by rw [List.drop_append]; simp
    rw [this]; simp
  have x3 : (List.drop (A.length + B.length) (A ++ v :: B)).length = 1 := by rw [List.length_drop, hl]; omega
  obtain ⟨z, hz⟩ : ∃ z, List.drop (A.length + B.length) (A ++ v :: B) = [z] := by
    match hq : List.drop (A.length + B.length) (A ++ v :: B), x3 with
    | [z], _ => exact ⟨z, rfl⟩
  rw [dcT (show 1 ≤ A.length + 1 + B.length by omega), dcT (show A.length + B.length ≤ A.length + 1 + B.length by omega), dcT (Nat.le_refl B.length), dcT (show A.length + 1 + B.length ≤ A.length + 1 + B.length by omega)]
  rw [cutOK_iff.2 (show (0 : Int) ≤ ((A.length + B.length : Nat) : Int) ∧ ((A.length + B.length : Nat) : Int) ≤ ((A.length + 1 + B.length : Nat) : Int) ∧ ((A.length + 1 + B.length : Nat) : Int) ≤ ((A.length + 1 + B.length : Nat) : Int) ∧ ((A.length + 1 + B.length : Nat) : Int) ≤ ((A.length + 1 + B.length : Nat) : Int) by omega)]
  rw [t4, x1, x2, hz]
  have c1 : A.length + 1 + B.length - (A.length + B.length) = 1 := by omega
  rw [c1]
  have c2 : (A ++ B ++ [z]).length = A.length + B.length + 1 := by simp only [List.length_append, List.length_cons, List.length_nil]
  rw [c2, dcT (show A.length + B.length + 1 ≤ A.length + B.length + 1 from Nat.le_refl _)]
  have c3 : clearL 0 (A ++ B ++ [z]) (A.length + B.length) 1 = A ++ B ++ [0] := by
    unfold clearL
    have q : A.length + B.length = (A ++ B).length := (List.length_append ..).symm
    rw [q, List.take_left, List.drop_eq_nil_of_le (by simp only [List.length_append, List.length_cons, List.length_nil]; omega), List.append_nil]
    rfl
  rw [c3]
  have c4 : (A ++ B ++ [(0 : Int)]).length = A.length + B.length + 1 := by simp only [List.length_append, List.length_cons, List.length_nil]
  rw [c4, dcT (show A.length + B.length ≤ A.length + B.length + 1 by omega)]
  have c5 : List.take (A.length + B.length) (A ++ B ++ [(0 : Int)]) = A ++ B := by
    have q : A.length + B.length = (A ++ B).length := (List.length_append ..).symm
    rw [q, List.take_left]
  rw [c5]
  rfl
theorem split_at {L : List Nat} {q : Nat} (h : q < L.length) : ∃ A v B, L = A ++ v :: B ∧ A.length = q ∧ L.getD q 0 = v := by
  refine ⟨L.take q, L[q], L.drop (q + 1), ?_, ?_, ?_⟩
  · rw [← List.drop_eq_getElem_cons h, List.take_append_drop]
  · rw [List.length_take]; omega
  · rw [List.getD_eq_getElem?_getD, List.getElem?_eq_getElem h]; rfl
theorem f11_2_eq (m : Nat) (b0 b1 b2 b3 b4 b5 b6 b7 x8 xh : Int) (C : List Int) (hC : C.length = 8) (hC2 : ∀ z ∈ C, 0 ≤ z ∧ z ≤ 255) (L5 : List (Int × Int)) (k : Nat) (h8 : k ≤ 8) : ∀ (r i fuel : Nat) (L M : List Nat), L.length = r → i + r = k → r < fuel → M.length = i → (L ++ M).Perm (List.range k) →
    ∃ M', Pm k M' ∧ f11_2 m fuel b0 b1 b2 b3 b4 b5 b6 b7 x8 (k : Int) (i : Int) C xh (toI L) (toI M) L5 = some (x8, xh, toI M', L5)
  | 0, i, fuel + 1, L, M, hL, hi, _, hM, hp => by
    have e : L = [] := List.eq_nil_of_length_eq_zero hL
    subst e
    refine ⟨M, hp, ?_⟩
    rw [f11_2, dcF (p := (i : Int) < (k : Int)) (by omega)]; rfl
  | r + 1, i, fuel + 1, L, M, hL, hi, hf, hM, hp => by
    have hi8 : i < C.length := by omega
    have hc := hC2 _ (show C.getD i 0 ∈ C by rw [List.getD_eq_getElem?_getD, List.getElem?_eq_getElem hi8]; exact List.getElem_mem _)
    obtain ⟨n, hn⟩ : ∃ n : Nat, C.getD i 0 = (n : Int) := ⟨(C.getD i 0).toNat, by omega⟩
    have hlt : n % L.length < L.length := Nat.mod_lt _ (by omega)
    obtain ⟨A, v, B, e1, e2, e3⟩ := split_at hlt
    have ht : Int.tmod (w64 (C.getD i 0)) (((toI L).length : Nat) : Int) = ((n % L.length : Nat) : Int) := by
      rw [w64i (by omega) (by omega), hn, toI_len]; rfl
    have t : Int.toNat (i : Int) = i := rfl
    have t2 : Int.toNat ((n % L.length : Nat) : Int) = n % L.length := rfl
    have hlA : A.length + B.length + 1 = L.length := by rw [e1]; simp; omega
    have h3 := f11_3_eq m b0 b1 b2 b3 b4 b5 b6 b7 C xh L5 (v : Int) (toI M ++ [(v : Int)]) (toI A) (v : Int) (toI B) (by rw [toI_len, toI_len]; omega)
    have eL : toI A ++ (v : Int) :: toI B = toI L := by rw [e1, toI_append]; rfl
    have eAB : toI A ++ toI B = toI (A ++ B) := (toI_append A B).symm
    have eM : toI M ++ [(v : Int)] = toI (M ++ [v]) := by rw [toI_append]; rfl
    rw [eL, toI_len, e2, eAB] at h3
    have hp2 : ((A ++ B) ++ (M ++ [v])).Perm (List.range k) := by
      refine List.Perm.trans ?_ hp
      rw [e1]
      have q1 : ((A ++ B) ++ (M ++ [v])).Perm (v :: ((A ++ B) ++ M)) := by
        rw [← List.append_assoc]
        exact List.perm_append_singleton v ((A ++ B) ++ M)
      have q2 : (v :: ((A ++ B) ++ M)).Perm (A ++ v :: B ++ M) := by
        rw [List.append_assoc, List.append_assoc, List.cons_append]
        exact List.perm_middle.symm
      exact q1.trans q2
    obtain ⟨M', m1, m2⟩ := f11_2_eq m b0 b1 b2 b3 b4 b5 b6 b7 x8 xh C hC hC2 L5 k h8 r (i + 1) fuel (A ++ B) (M ++ [v]) (by simp; omega) (by omega) (by omega) (by simp; omega) hp2
    refine ⟨M', m1, ?_⟩
    have hne : ((((toI L).length : Nat) : Int) != 0) = true := bne_iff_ne.2 (by rw [toI_len]; omega)
    rw [f11_2, dcT (p := (i : Int) < (k : Int)) (by omega), inR (show i < 8 by omega), t, dcT hi8, hne, ht, t2, toI_len, inR hlt, toI_len, fitsI (show M.length + 1 ≤ 1000 by omega) (by omega), getD_toI, e3, h3, nat_succ _ (by omega), eM, ← m2]
    rfl
def cV (Bv : List Int) (k : Nat) (s : Nat) : Int := Int.tmod (w64 (Bv.getD s 0)) (k : Int)
def csF (Bv : List Int) (k i : Nat) (s : Nat) : Int := if s < i then cV Bv k s else 0
def mvF (M : List Nat) (Bv : List Int) (k : Nat) : Nat → Nat → Int
  | 0, _ => 0
  | i + 1, j => if j = ap M i then cV Bv k i else mvF M Bv k i j
theorem f11_4_eq (m : Nat) (k : Nat) (k1 : 1 ≤ k) (h8 : k ≤ 8) (M : List Nat) (h : Pm k M) (Bv : List Int) (hB : Bv.length = 8) (xh : Int) (T : List (Int × Int)) : ∀ (r i fuel : Nat), i + r = k → r < fuel →
    f11_4 m fuel (k : Int) (k : Int) (i : Int) Bv xh (toI M) (cl (csF Bv k i) k 0) (cl (mvF M Bv k i) k 0) T = some ((k : Int), xh, toI M, cl (csF Bv k k) k 0, cl (mvF M Bv k k) k 0, T)
  | 0, i, fuel + 1, hi, _ => by
    have e : i = k := by omega
    subst e
    rw [f11_4, dcF (p := (i : Int) < (i : Int)) (by omega)]; rfl
  | r + 1, i, fuel + 1, hi, hf => by
    have ih := f11_4_eq m k k1 h8 M h Bv hB xh T r (i + 1) fuel (by omega) (by omega)
    have hik : i < k := by omega
    have t : Int.toNat (i : Int) = i := rfl
    have hM := h.len
    have hap := h.lt hik
    have hne : ((k : Int) != 0) = true := bne_iff_ne.2 (by omega)
    have s1 : List.set (cl (csF Bv k i) k 0) i (cV Bv k i) = cl (csF Bv k (i + 1)) k 0 := by
      rw [cl_set _ _ k 0 i hik]
      exact cl_congr (k := k) (fun s hs => by
        unfold csF
        rw [Nat.zero_add]
        by_cases e : s = i
        · subst e; rw [if_pos rfl, if_pos (by omega)]
        · rw [if_neg e]
          by_cases e2 : s < i
          · rw [if_pos e2, if_pos (by omega)]
          · rw [if_neg e2, if_neg (by omega)]) k 0 (by omega)
    have s2 : List.getD (cl (csF Bv k (i + 1)) k 0) i 0 = cV Bv k i := by
      rw [cl_get _ k 0 i hik, Nat.zero_add]
      unfold csF
      rw [if_pos (by omega)]
    have s3 : List.set (cl (mvF M Bv k i) k 0) (ap M i) (cV Bv k i) = cl (mvF M Bv k (i + 1)) k 0 := by
      rw [cl_set _ _ k 0 (ap M i) hap]
      exact cl_congr (k := k) (fun s hs => by rw [Nat.zero_add]; rfl) k 0 (by omega)
    have t2 : ∀ n : Nat, Int.toNat ((n : Nat) : Int) = n := fun _ => rfl
    have gM : List.getD (toI M) i 0 = ((ap M i : Nat) : Int) := getD_toI M i
    rw [f11_4, dcT (p := (i : Int) < (k : Int)) (by omega), inR (show i < 8 by omega), t, dcT (show i < Bv.length by omega), hne, cl_len, inR hik, toI_len, hM, inR hik, gM, cl_len, inR hap, nat_succ _ (by omega), t2]
    show f11_4 m fuel (k : Int) (k : Int) ((i + 1 : Nat) : Int) Bv xh (toI M) (List.set (cl (csF Bv k i) k 0) i (cV Bv k i)) (List.set (cl (mvF M Bv k i) k 0) (ap M i) (List.getD (List.set (cl (csF Bv k i) k 0) i (cV Bv k i)) i 0)) T = _
    rw [s1, s2, s3, ih]
theorem mvF_get {k : Nat} {M : List Nat} (h : Pm k M) (Bv : List Int) : ∀ i, i ≤ k → ∀ s, s < i → mvF M Bv k i (ap M s) = cV Bv k s
  | 0, _, s, hs => by omega
  | i + 1, hi, s, hs => by
    unfold mvF
    by_cases e : ap M s = ap M i
    · rw [if_pos e, h.inj (by omega) (by omega) e]
    · rw [if_neg e]
      have : s ≠ i := fun q => e (by rw [q])
      exact mvF_get h Bv i (by omega) s (by omega)
theorem cl_map (f : Nat → Int) : ∀ r x, cl f r x = (List.range' x r).map f
  | 0, _ => rfl
  | r + 1, x => by
    show f x :: cl f r (x + 1) = _
    rw [cl_map f r (x + 1)]; rfl
theorem cl_map0 (f : Nat → Int) (k : Nat) : cl f k 0 = (List.range k).map f := by rw [cl_map, List.range_eq_range']
theorem moved_perm {k : Nat} {M : List Nat} (h : Pm k M) (Bv : List Int) : (cl (csF Bv k k) k 0).Perm (cl (mvF M Bv k k) k 0) := by
  rw [cl_map0, cl_map0]
  have e : (List.range k).map (csF Bv k k) = M.map (mvF M Bv k k) := by
    have q := congrArg (List.map (mvF M Bv k k)) h.map_eq
    rw [List.map_map] at q
    rw [q]
    refine List.map_congr_left (fun s hs => ?_)
    have hs := List.mem_range.1 hs
    show csF Bv k k s = mvF M Bv k k (ap M s)
    rw [mvF_get h Bv k (Nat.le_refl _) s hs]
    unfold csF
    rw [if_pos hs]
  rw [e]
  exact h.map _
theorem mvP_snoc (M : List Nat) (P : List (Int × Int)) (t : Int × Int) : mvP M (P ++ [t]) = [mvT M t] ++ mvP M P := by
  unfold mvP
  rw [List.map_append, List.reverse_append]; rfl
theorem f11_5_eq (m : Nat) (k : Nat) (h8 : k ≤ 8) (M : List Nat) (h : Pm k M) (x8 xh x2 : Int) (T : List (Int × Int)) (hT : T.length ≤ 100) (hr : ∀ t ∈ T, (0 ≤ t.1 ∧ t.1 ≤ (k : Int) - 1) ∧ (0 ≤ t.2 ∧ t.2 ≤ (k : Int) - 1)) : ∀ (R P : List (Int × Int)) (fuel : Nat), T = P ++ R → R.length < fuel →
    f11_5 m fuel x8 ((T.length : Nat) : Int) ((P.length : Nat) : Int) xh (toI M) x2 T (mvP M P) = some (x8, xh, toI M, x2, T, mvP M T)
  | [], P, fuel + 1, hP, _ => by
    rw [f11_5, dcF (p := ((P.length : Nat) : Int) < ((T.length : Nat) : Int)) (by rw [hP]; simp)]
    rw [hP, List.append_nil]; rfl
  | t :: R, P, fuel + 1, hP, hf => by
    have hlen : T.length = P.length + R.length + 1 := by rw [hP]; simp; omega
    have hg : List.getD T (Int.toNat ((P.length : Nat) : Int)) (0, 0) = t := by rw [hP]; exact getD_mid _ _ _ _ rfl
    have ht := hr t (by rw [hP]; simp)
    have hM := h.len
    have ih := f11_5_eq m k h8 M h x8 xh x2 T hT hr R (P ++ [t]) fuel (by rw [hP]; simp) (by simp at hf; omega)
    have e1 : (((P ++ [t]).length : Nat) : Int) = ((P.length + 1 : Nat) : Int) := by simp
    rw [e1, mvP_snoc] at ih
    have q1 : inRow t.2 (toI M).length = true := inRow_iff.2 ⟨ht.2.1, by rw [toI_len, hM]; omega⟩
    have q2 : inRow t.1 (toI M).length = true := inRow_iff.2 ⟨ht.1.1, by rw [toI_len, hM]; omega⟩
    have hl : (mvP M P).length = P.length := by unfold mvP; rw [List.length_reverse, List.length_map]
    rw [f11_5, dcT (p := ((P.length : Nat) : Int) < ((T.length : Nat) : Int)) (by omega), inR (show P.length < T.length by omega), hg, q1, q2, hl, fitsI (show 1 + P.length ≤ 1000 by omega) (by omega), nat_succ _ (by omega), getD_toI, getD_toI]
    exact ih
theorem f11_6_eq (m : Nat) (k : Nat) (h8 : k ≤ 8) (M : List Nat) (h : Pm k M) (c d : Nat → Int) (hcd : ∀ s, s < k → d (ap M s) = c s) : ∀ (r i fuel : Nat), i + r = k → r < fuel →
    f11_6 m fuel (k : Int) (i : Int) (toI M) (cl c k 0) (cl d k 0) = some .x8
  | 0, i, fuel + 1, hi, _ => by
    rw [f11_6, dcF (p := (i : Int) < (k : Int)) (by omega)]; rfl
  | r + 1, i, fuel + 1, hi, hf => by
    have ih := f11_6_eq m k h8 M h c d hcd r (i + 1) fuel (by omega) (by omega)
    have hik : i < k := by omega
    have t : Int.toNat (i : Int) = i := rfl
    have t2 : ∀ n : Nat, Int.toNat ((n : Nat) : Int) = n := fun _ => rfl
    have gM : List.getD (toI M) i 0 = ((ap M i : Nat) : Int) := getD_toI M i
    have hap := h.lt hik
    rw [f11_6, dcT (p := (i : Int) < (k : Int)) (by omega), cl_len, inR hik, toI_len, h.len, inR hik, t, gM, cl_len, inR hap, t2, cl_get c k 0 i hik, cl_get d k 0 (ap M i) hap, Nat.zero_add, Nat.zero_add, hcd i hik, nat_succ _ (by omega), ih]
    simp
end Go.Xm
namespace Go.Xm.Sn
set_option linter.unusedVariables false
set_option linter.unusedSimpArgs false
set_option maxRecDepth 20000
def fit (n : Int) : List Int → Bool
  | [] => true
  | x :: l => decide (0 ≤ x ∧ x ≤ n - 1) && fit n l
theorem f21_1_eq (m : Nat) (a : List Int) (h8 : a.length ≤ 8) : ∀ (r i fuel : Nat), i + r = a.length → r < fuel →
    (fit (a.length : Int) (a.drop i) = true ∧ f21_1 m fuel a ((a.length : Nat) : Int) (i : Int) ((a.length : Nat) : Int) = some (.x0 ((a.length : Nat) : Int))) ∨ (fit (a.length : Int) (a.drop i) = false ∧ ∃ j : Nat, f21_1 m fuel a ((a.length : Nat) : Int) (i : Int) ((a.length : Nat) : Int) = some (.r (j : Int) ((a.length : Nat) : Int)))
  | 0, i, fuel + 1, hi, _ => by
    rw [f21_1, dcF (p := (i : Int) < ((a.length : Nat) : Int)) (by omega), List.drop_eq_nil_of_le (by omega)]
    exact .inl ⟨rfl, rfl⟩
  | r + 1, i, fuel + 1, hi, hf => by
    have hil : i < a.length := by omega
    rw [f21_1, dcT (p := (i : Int) < ((a.length : Nat) : Int)) (by omega), inR hil]
    have t : Int.toNat (i : Int) = i := rfl
    rw [t, w64i (by omega) (by omega), in65, drop_getD hil, nat_succ _ (by omega)]
    unfold fit
    by_cases e : 0 ≤ a.getD i 0 ∧ a.getD i 0 ≤ ((a.length : Nat) : Int) - 1
    · rw [dcT e]
      rcases f21_1_eq m a h8 r (i + 1) fuel (by omega) (by omega) with ⟨q1, q2⟩ | ⟨q1, j, q2⟩
      · exact .inl ⟨by rw [q1]; rfl, q2⟩
      · exact .inr ⟨by rw [q1]; rfl, j, q2⟩
    · rw [dcF e]
      exact .inr ⟨rfl, i, rfl⟩
def ckR (a : List Int) : Int := if a.length = 0 then 4 else if 8 < a.length then 3 else if fit a.length a = true then 0 else 1
theorem f21_eq (m : Nat) (hm : 1001 ≤ m) (a : List Int) (hl : a.length ≤ 1000) : f21 m a = some (ckR a) := by
  unfold f21 ckR
  by_cases h0 : a.length = 0
  · rw [if_pos h0, h0]; rfl
  · rw [if_neg h0]
    have e0 : (((a.length : Nat) : Int) == 0) = false := by simp; intro q; subst q; simp at h0
    rw [e0]
    by_cases h8 : 8 < a.length
    · rw [if_pos h8, dcT (p := ((a.length : Nat) : Int) > 8) (by omega)]; rfl
    · rw [if_neg h8, dcF (p := ((a.length : Nat) : Int) > 8) (by omega)]
      show ((f21_1 m m a ((a.length : Nat) : Int) 0 ((a.length : Nat) : Int)).bind _) = _
      rcases f21_1_eq m a (by omega) a.length 0 m (by omega) (by omega) with ⟨q1, q2⟩ | ⟨q1, j, q2⟩
      · have q2' : f21_1 m m a ((a.length : Nat) : Int) 0 ((a.length : Nat) : Int) = _ := q2
        rw [List.drop_zero] at q1
        rw [q2', if_pos q1]
        rfl
      · have q2' : f21_1 m m a ((a.length : Nat) : Int) 0 ((a.length : Nat) : Int) = _ := q2
        rw [List.drop_zero] at q1
        rw [q2', if_neg (by rw [q1]; simp)]
        show cond (decide ((j : Int) ≥ 0)) (some (1 : Int)) (some (0 : Int)) = some 1
        rw [dcT (p := (j : Int) ≥ 0) (by omega)]
        rfl
theorem fit_of {n : Int} : ∀ {l : List Int}, (∀ x ∈ l, 0 ≤ x ∧ x ≤ n - 1) → fit n l = true
  | [], _ => rfl
  | y :: l, h => by
    unfold fit
    rw [dcT (h y (List.mem_cons_self ..)), fit_of (fun x hx => h x (List.mem_cons_of_mem _ hx))]
    rfl
theorem ckR_zero {a : List Int} (h1 : 1 ≤ a.length) (h8 : a.length ≤ 8) (hx : ∀ x ∈ a, 0 ≤ x ∧ x ≤ (a.length : Int) - 1) : ckR a = 0 := by
  unfold ckR
  rw [if_neg (by omega), if_neg (by omega), if_pos (fit_of hx)]
theorem f15_val (m : Nat) (hm : 1001 ≤ m) {a : List Int} {l : List Nat} (h1 : 1 ≤ a.length) (h8 : a.length ≤ 8) (hx : ∀ x ∈ a, 0 ≤ x ∧ x ≤ (a.length : Int) - 1) (hl : dsc a = toI l) : f15 m a = some (canN 8 l, 0) := by
  have hll : l.length = a.length := by rw [← toI_len, ← hl, dsc_len]
  have hs : ∀ x ∈ l, x ≤ 7 := fun x hx' => by
    have h2 : (x : Int) ∈ dsc a := by rw [hl]; exact List.mem_map.2 ⟨x, hx', rfl⟩
    have := hx _ ((dsc_perm a).mem_iff.1 h2)
    omega
  unfold f15
  rw [f21_eq m hm a (by omega), ckR_zero h1 h8 hx, f59_eq m hm a l hl (by omega) hs]
  rfl
structure Cn (a : List Int) : Prop where
  h1 : 1 ≤ a.length
  h8 : a.length ≤ 8
  hx : ∀ x ∈ a, 0 ≤ x ∧ x ≤ (a.length : Int) - 1
theorem Cn.cts {a : List Int} (h : Cn a) : Cts a := ⟨h.h8, fun x hx => by have := h.hx x hx; have := h.h8; omega⟩
theorem Cn.perm {a b : List Int} (h : Cn a) (q : a.Perm b) : Cn b := by
  have hl := q.length_eq
  exact ⟨by rw [← hl]; exact h.h1, by rw [← hl]; exact h.h8, fun x hx => by rw [← hl]; exact h.hx x (q.mem_iff.2 hx)⟩
theorem Cn.nat {a : List Int} (h : Cn a) : ∃ l : List Nat, dsc a = toI l := by
  refine ⟨(dsc a).map Int.toNat, ?_⟩
  unfold toI
  rw [List.map_map]
  have e : (dsc a).map (Int.ofNat ∘ Int.toNat) = (dsc a).map id := List.map_congr_left (fun x hx => by
    have := h.hx x ((dsc_perm a).mem_iff.1 hx)
    show ((x.toNat : Nat) : Int) = x
    omega)
  rw [e, List.map_id]
theorem f17_perm (m : Nat) (hm : 1001 ≤ m) {a b : List Int} (h : Cn a) (q : a.Perm b) : f17 m a = f17 m b := by
  have hb := h.perm q
  have hd : dsc a = dsc b := dsc_of_perm q
  have ha8 := h.h8
  have hb8 := hb.h8
  have s1 : ∀ {c : List Int}, Cn c → f17_1 m m c 0 ((c.length : Nat) : Int) 0 = some (dsc c).sum := fun {c} hc => by
    have hc8 := hc.h8
    rw [f17_1_eq]
    have h1 := f63_1_eq m c hc.cts c.length 0 m 0 (by omega) (by omega) (by omega) (by omega)
    have h1' : f63_1 m m c 0 0 = some (0 + (c.drop 0).sum) := h1
    rw [h1', sum_perm' (dsc_perm c)]
    simp
  have s2 : f59 m a = f59 m b := by rw [f59_dsc m hm a (by omega), f59_dsc m hm b (by omega), hd]
  have s3 : ∀ c : List Int, f17_2 m m c 1 (dsc b) = some ((fst1 (fun k => stB k (dsc b)) ((dsc b).length - 1) 1).getD (dsc b).length) := fun c => by
    have hl : (dsc b).length = b.length := dsc_len b
    have hb1 := hb.h1
    have h1 := f17_2_eq m hm c (dsc b) hb.cts.dsc ((dsc b).length - 1) 1 m (by omega) (by omega)
    exact h1
  unfold f17
  rw [f21_eq m hm a (by omega), f21_eq m hm b (by omega), ckR_zero h.h1 h.h8 h.hx, ckR_zero hb.h1 hb.h8 hb.hx, s1 h, s1 hb, s2, f61_eq m hm a (by omega), f61_eq m hm b (by omega), hd]
  simp [s3]
theorem f17_some (m : Nat) (hm : 1001 ≤ m) {a : List Int} (h : Cn a) (hs : ∃ r, f59 m a = some r) : ∃ r, f17 m a = some r := by
  have ha8 := h.h8
  obtain ⟨v, hv⟩ := hs
  have h1 := f63_1_eq m a h.cts a.length 0 m 0 (by omega) (by omega) (by omega) (by omega)
  have h1' : f63_1 m m a 0 0 = some (0 + (a.drop 0).sum) := h1
  have hl : (dsc a).length = a.length := dsc_len a
  have ha1 := h.h1
  have h2 := f17_2_eq m hm a (dsc a) h.cts.dsc ((dsc a).length - 1) 1 m (by omega) (by omega)
  have h2' : f17_2 m m a 1 (dsc a) = _ := h2
  unfold f17
  rw [f21_eq m hm a (by omega), ckR_zero h.h1 h.h8 h.hx, f17_1_eq, h1', hv, f61_eq m hm a (by omega)]
  show ∃ r, cond v (some (0, 13)) (cond (Int.tmod (0 + (a.drop 0).sum) 2 == 1) (some (0, 17)) ((f17_2 m m a 1 (dsc a)).bind fun o2 => some (o2, 0))) = some r
  rw [h2']
  cases v with
  | true => exact ⟨_, rfl⟩
  | false =>
    cases (Int.tmod (0 + (a.drop 0).sum) 2 == 1) with
    | true => exact ⟨_, rfl⟩
    | false => exact ⟨_, rfl⟩
end Go.Xm.Sn
namespace Go.Xm
open Gdm
set_option linter.unusedVariables false
set_option linter.unusedSimpArgs false
set_option maxRecDepth 20000
def CountOk (m : Nat) : Prop := ∀ a b : List Int, Sn.Cn a → a.length ≤ 6 → a.Perm b → ∃ N : Int, f26 m a = some (N, 0) ∧ f26 m b = some (N, 0) ∧ ∀ l : List Nat, dsc a = toI l → decide (N > 0) = canN 8 l
theorem f11_true (m : Nat) (hm : 1001 ≤ m) (hF : CountOk m) (s t : Int) (hs : 0 ≤ s ∧ s ≤ 255) (b0 b1 b2 b3 b4 b5 b6 b7 c0 c1 c2 c3 c4 c5 c6 c7 : Int) (hb : ∀ z ∈ [b0, b1, b2, b3, b4, b5, b6, b7], 0 ≤ z ∧ z ≤ 255) (hc : ∀ z ∈ [c0, c1, c2, c3, c4, c5, c6, c7], 0 ≤ z ∧ z ≤ 255) :
    f11 m s t b0 b1 b2 b3 b4 b5 b6 b7 c0 c1 c2 c3 c4 c5 c6 c7 = some true := by
  have h36 := f36_eq m hm s t hs 6 (by omega) (by omega)
  have hlt : s.toNat % 6 < 6 := Nat.mod_lt _ (by omega)
  generalize hk : 1 + s.toNat % 6 = k at h36
  have k1 : 1 ≤ k := by omega
  have k6 : k ≤ 6 := by omega
  have k8 : k ≤ 8 := by omega
  clear hk hlt
  generalize dr k t = p at h36
  generalize hB : [b0, b1, b2, b3, b4, b5, b6, b7] = Bv at hb
  generalize hC : [c0, c1, c2, c3, c4, c5, c6, c7] = Cv at hc
  have hBl : Bv.length = 8 := by rw [← hB]; rfl
  have hCl : Cv.length = 8 := by rw [← hC]; rfl
  have l1 := allP_28 p k1 k8
  have cT := cp_allP p k1 k8
  have e1 := f11_1_eq m b0 b1 b2 b3 b4 b5 b6 b7 c0 c1 c2 c3 c4 c5 c6 c7 (k : Int) (k : Int) (allP p k k 0) k k8 k 0 m [] (by omega) (by omega) (by simp; omega)
  rw [List.nil_append] at e1
  have hr : (List.range' 0 k ++ ([] : List Nat)).Perm (List.range k) := by rw [List.append_nil, ← List.range_eq_range']
  obtain ⟨M, hM, e2⟩ := f11_2_eq m b0 b1 b2 b3 b4 b5 b6 b7 (k : Int) (k : Int) Cv hCl hc (allP p k k 0) k k8 k 0 m (List.range' 0 k) [] (by simp) (by omega) (by omega) rfl hr
  have e4 := f11_4_eq m k k1 k8 M hM Bv hBl (k : Int) (allP p k k 0) k 0 m (by omega) (by omega)
  have z1 : cl (csF Bv k 0) k 0 = List.replicate (Int.toNat (k : Int)) (0 : Int) := by
    have : ∀ r x, cl (csF Bv k 0) r x = List.replicate r (0 : Int) := by
      intro r
      induction r with
      | zero => intro x; rfl
      | succ r ih =>
        intro x
        simp only [cl]
        rw [ih]
        rfl
    exact this k 0
  have z2 : cl (mvF M Bv k 0) k 0 = List.replicate (Int.toNat (k : Int)) (0 : Int) := by
    have : ∀ r x, cl (mvF M Bv k 0) r x = List.replicate r (0 : Int) := by
      intro r
      induction r with
      | zero => intro x; rfl
      | succ r ih =>
        intro x
        simp only [cl]
        rw [ih]
        rfl
    exact this k 0
  rw [z1, z2] at e4
  have hmk : mkOK (k : Int) (k : Int) 8 = true := by
    have : k = 1 ∨ k = 2 ∨ k = 3 ∨ k = 4 ∨ k = 5 ∨ k = 6 := by omega
    rcases this with rfl | rfl | rfl | rfl | rfl | rfl <;> rfl
  have hcV : ∀ i, i < k → 0 ≤ cV Bv k i ∧ cV Bv k i ≤ (k : Int) - 1 := fun i hi => by
    have hz := hb _ (show Bv.getD i 0 ∈ Bv by rw [List.getD_eq_getElem?_getD, List.getElem?_eq_getElem (show i < Bv.length by omega)]; exact List.getElem_mem _)
    obtain ⟨n, hn⟩ : ∃ n : Nat, Bv.getD i 0 = (n : Int) := ⟨(Bv.getD i 0).toNat, by omega⟩
    have hmod : n % k < k := Nat.mod_lt _ (by omega)
    have e : cV Bv k i = ((n % k : Nat) : Int) := by
      unfold cV
      rw [w64i (by omega) (by omega), hn]; rfl
    rw [e]; omega
  have hCn : Sn.Cn (cl (csF Bv k k) k 0) := by
    refine ⟨by rw [cl_len]; exact k1, by rw [cl_len]; exact k8, fun x hx => ?_⟩
    rw [cl_len]
    rw [cl_map0] at hx
    obtain ⟨i, hi, rfl⟩ := List.mem_map.1 hx
    have hi := List.mem_range.1 hi
    unfold csF
    rw [if_pos hi]
    exact hcV i hi
  have hperm := moved_perm hM Bv
  have hXl : (cl (csF Bv k k) k 0).length ≤ 6 := by rw [cl_len]; exact k6
  generalize cl (csF Bv k k) k 0 = X at e4 hCn hperm hXl
  generalize cl (mvF M Bv k k) k 0 = Y at e4 hperm
  have hYn := hCn.perm hperm
  obtain ⟨l, hl⟩ := hCn.nat
  obtain ⟨N, n1, n2, n3⟩ := hF X Y hCn hXl hperm
  have hN := n3 l hl
  have r1 := Sn.f15_val m hm hCn.h1 hCn.h8 hCn.hx hl
  have r2 := Sn.f15_val m hm hYn.h1 hYn.h8 hYn.hx (by rw [← hl]; exact (dsc_of_perm hperm).symm)
  have r3 := Sn.f17_perm m hm hCn hperm
  obtain ⟨W, w1⟩ := Sn.f17_some m hm hCn (by
    have := r1
    unfold f15 at this
    rw [Sn.f21_eq m hm X (by omega), Sn.ckR_zero hCn.h1 hCn.h8 hCn.hx] at this
    cases h : f59 m X with
    | none => rw [h] at this; cases this
    | some v => exact ⟨v, rfl⟩)
  rw [w1] at r3
  have lU := mv_len (k := k) (M := M) (p := p)
  have cU := mv_cp hM (p := p) k1 k8
  have e5 := f11_5_eq m k k8 M hM (k : Int) (k : Int) (k : Int) (allP p k k 0) (by omega) (fun u hu => by
    obtain ⟨i, j, _, _, g1, g2, _, rfl⟩ := mem_allP.1 hu
    show (0 ≤ (i : Int) ∧ (i : Int) ≤ (k : Int) - 1) ∧ (0 ≤ (j : Int) ∧ (j : Int) ≤ (k : Int) - 1)
    omega) (allP p k k 0) [] m rfl (by omega)
  have d1 := f43_fine m hm k1 k8 (T := allP p k k 0) (by omega) cT
  have d2 := f43_fine m hm k1 k8 (T := mvP M (allP p k k 0)) (by omega) cU
  have d3 := f41_fine m hm k1 k8 (T := allP p k k 0) (by omega) cT
  have d4 := f41_fine m hm k1 k8 (T := mvP M (allP p k k 0)) (by omega) cU
  rw [mv_trios hM k8] at d4
  have d5 : f47 m (k : Int) (mvP M (allP p k k 0)) = some 0 := by
    unfold f47
    rcases f74_eq m hm (k : Int) (mvP M (allP p k k 0)) (by omega) with ⟨h, _⟩ | ⟨_, _, _, _, _, _, _, h1⟩
    · exact absurd cU h
    · rw [h1]; rfl
  have e6 := f11_6_eq m k k8 M hM (cnt k (allP p k k 0)) (cnt k (mvP M (allP p k k 0))) (fun i hi => mv_cnt hM hi) k 0 m (by omega) (by omega)
  have e1' : f11_1 m m b0 b1 b2 b3 b4 b5 b6 b7 c0 c1 c2 c3 c4 c5 c6 c7 (k : Int) (k : Int) 0 (k : Int) [] (allP p k k 0) = _ := e1
  have e2' : f11_2 m m b0 b1 b2 b3 b4 b5 b6 b7 (k : Int) (k : Int) 0 Cv (k : Int) (toI (List.range' 0 k)) [] (allP p k k 0) = _ := e2
  have e4' : f11_4 m m (k : Int) (k : Int) 0 Bv (k : Int) (toI M) (List.replicate (Int.toNat (k : Int)) 0) (List.replicate (Int.toNat (k : Int)) 0) (allP p k k 0) = _ := e4
  have e5' : f11_5 m m (k : Int) (((allP p k k 0).length : Nat) : Int) 0 (k : Int) (toI M) (k : Int) (allP p k k 0) [] = _ := e5
  have e6' : f11_6 m m (k : Int) 0 (toI M) (cl (cnt k (allP p k k 0)) k 0) (cl (cnt k (mvP M (allP p k k 0))) k 0) = _ := e6
  generalize T3 (fun x y z => bI (monoB (allP p k k 0) x y z)) k = Q at d3 d4
  unfold f11
  rw [show (6 : Int) = ((6 : Nat) : Int) from rfl, h36]
  show ((f11_1 m m b0 b1 b2 b3 b4 b5 b6 b7 c0 c1 c2 c3 c4 c5 c6 c7 (k : Int) (k : Int) 0 (k : Int) [] (allP p k k 0)).bind _) = _
  rw [e1']
  show ((f11_2 m m b0 b1 b2 b3 b4 b5 b6 b7 (k : Int) (k : Int) 0 [c0, c1, c2, c3, c4, c5, c6, c7] (k : Int) (toI (List.range' 0 k)) [] (allP p k k 0)).bind _) = _
  rw [hC, e2']
  show cond (mkOK (k : Int) (k : Int) 8) ((f11_4 m m (k : Int) (k : Int) 0 [b0, b1, b2, b3, b4, b5, b6, b7] (k : Int) (toI M) (List.replicate (Int.toNat (k : Int)) 0) (List.replicate (Int.toNat (k : Int)) 0) (allP p k k 0)).bind _) none = _
  rw [hmk, hB, e4']
  show ((f15 m X).bind _) = _
  rw [r1]
  show ((f15 m Y).bind _) = _
  rw [r2]
  show ((f17 m X).bind _) = _
  rw [w1]
  show ((f17 m Y).bind _) = _
  rw [← r3]
  show ((f26 m X).bind _) = _
  rw [n1]
  show ((f26 m Y).bind _) = _
  rw [n2]
  simp [hN, e5', d1, d2, d3, d4, d5, cl_len, e6']
end Go.Xm
namespace Go.Xm
set_option linter.unusedVariables false
set_option linter.unusedSimpArgs false
set_option maxRecDepth 100000
theorem f72_1_b (m : Nat) (b c : List Int) : ∀ (fuel : Nat) (a : List (List Int × Int)) (x21_1 : Int) (x22_1 : Int) (lh2_1 : List Int) (lh3_1 : List Int), f72_1 m fuel a b x21_1 x22_1 lh2_1 lh3_1 = f72_1 m fuel a c x21_1 x22_1 lh2_1 lh3_1
  | 0, _, _, _, _, _ => rfl
  | fuel + 1, a, x21_1, x22_1, lh2_1, lh3_1 => by
    rw [f72_1, f72_1] <;> simp only [f72_1_b m b c fuel]
theorem f72_3_b (m : Nat) (b c : List Int) : ∀ (fuel : Nat) (x11_2 : Int) (x43_2 : Int) (x44_2 : Int) (mh0_2 : List (List Int × Int)) (lh2_2 : List Int) (lh3_2 : List Int) (x14_3 : Int) (lh4_3 : List Int), f72_3 m fuel b x11_2 x43_2 x44_2 mh0_2 lh2_2 lh3_2 x14_3 lh4_3 = f72_3 m fuel c x11_2 x43_2 x44_2 mh0_2 lh2_2 lh3_2 x14_3 lh4_3
  | 0, _, _, _, _, _, _, _, _ => rfl
  | fuel + 1, x11_2, x43_2, x44_2, mh0_2, lh2_2, lh3_2, x14_3, lh4_3 => by
    rw [f72_3, f72_3] <;> simp only [f72_3_b m b c fuel]
theorem f72_4_b (m : Nat) (b c : List Int) : ∀ (fuel : Nat) (mh0_2 : List (List Int × Int)) (lh2_2 : List Int) (lh3_2 : List Int) (lh6_4 : List Int), f72_4 m fuel b mh0_2 lh2_2 lh3_2 lh6_4 = f72_4 m fuel c mh0_2 lh2_2 lh3_2 lh6_4
  | 0, _, _, _, _ => rfl
  | fuel + 1, mh0_2, lh2_2, lh3_2, lh6_4 => by
    rw [f72_4, f72_4] <;> simp only [f72_4_b m b c fuel]
theorem f72_2_b (m : Nat) (F : (List (List Int × Int)) → (List Int) → Option (Int × (List (List Int × Int)))) (b c : List Int) : ∀ (fuel : Nat) (x11_2 : Int) (x43_2 : Int) (x44_2 : Int) (mh0_2 : List (List Int × Int)) (lh2_2 : List Int) (lh3_2 : List Int), f72_2 m F fuel b x11_2 x43_2 x44_2 mh0_2 lh2_2 lh3_2 = f72_2 m F fuel c x11_2 x43_2 x44_2 mh0_2 lh2_2 lh3_2
  | 0, _, _, _, _, _, _ => rfl
  | fuel + 1, x11_2, x43_2, x44_2, mh0_2, lh2_2, lh3_2 => by
    rw [f72_2, f72_2] <;> simp only [f72_2_b m F b c fuel, f72_3_b m b c, f72_4_b m b c]
theorem f72_dsc (m : Nat) (hm : 1001 ≤ m) {a : List Int} (h8 : a.length ≤ 8) (mp : List (List Int × Int)) : ∀ n, f72 m n mp a = f72 m n mp (dsc a)
  | 0 => rfl
  | n + 1 => by
    have h8d : (dsc a).length ≤ 8 := by rw [dsc_len]; exact h8
    rw [f72, f72, f61_eq m hm a (by omega), f61_eq m hm (dsc a) (by omega), dsc_dsc]
    simp only [f72_1_b m a (dsc a), f72_2_b m _ a (dsc a)]
theorem f26_dsc (m : Nat) (hm : 1001 ≤ m) {a : List Int} (h : Sn.Cn a) : f26 m a = f26 m (dsc a) := by
  have hd := h.perm (dsc_perm a).symm
  have h8 := h.h8
  have h8d := hd.h8
  unfold f26
  rw [Sn.f21_eq m hm a (by omega), Sn.f21_eq m hm (dsc a) (by omega), Sn.ckR_zero h.h1 h.h8 h.hx, Sn.ckR_zero hd.h1 hd.h8 hd.hx, f72_dsc m hm h8]
def ck26 (l : List Nat) : Bool := match f26 1001 (toI l) with
  | some (N, e) => e == 0 && (decide (N > 0) == canN 8 l)
  | none => false
theorem t26_1 : (dls 1 1).all ck26 = true := by kernel_rfl
theorem t26_2 : (dls 2 2).all ck26 = true := by kernel_rfl
theorem t26_3 : (dls 3 3).all ck26 = true := by kernel_rfl
theorem t26_4 : (dls 4 4).all ck26 = true := by kernel_rfl
theorem t26_5 : (dls 5 5).all ck26 = true := by kernel_rfl
theorem t26_6a : (((dls 6 6).drop 0).take 60).all ck26 = true := by kernel_rfl
theorem t26_6b : (((dls 6 6).drop 60).take 60).all ck26 = true := by kernel_rfl
theorem t26_6c : (((dls 6 6).drop 120).take 60).all ck26 = true := by kernel_rfl
theorem t26_6d : (((dls 6 6).drop 180).take 60).all ck26 = true := by kernel_rfl
theorem t26_6e : (((dls 6 6).drop 240).take 60).all ck26 = true := by kernel_rfl
theorem t26_6f : (((dls 6 6).drop 300).take 60).all ck26 = true := by kernel_rfl
theorem t26_6g : (((dls 6 6).drop 360).take 60).all ck26 = true := by kernel_rfl
theorem t26_6h : (((dls 6 6).drop 420).take 60).all ck26 = true := by kernel_rfl
theorem all_cut {α : Type} (p : α → Bool) (l : List α) (n k : Nat) (h1 : ((l.drop n).take k).all p = true) (h2 : (l.drop (n + k)).all p = true) : (l.drop n).all p = true := by
  rw [← List.take_append_drop k (l.drop n), List.all_append, h1, List.drop_drop, h2]; rfl
theorem t26_6 : (dls 6 6).all ck26 = true := by
  have h9 : ((dls 6 6).drop 480).all ck26 = true := by kernel_rfl
  have q8 := h9
  have q7 := all_cut ck26 (dls 6 6) 420 60 t26_6h q8
  have q6 := all_cut ck26 (dls 6 6) 360 60 t26_6g q7
  have q5 := all_cut ck26 (dls 6 6) 300 60 t26_6f q6
  have q4 := all_cut ck26 (dls 6 6) 240 60 t26_6e q5
  have q3 := all_cut ck26 (dls 6 6) 180 60 t26_6d q4
  have q2 := all_cut ck26 (dls 6 6) 120 60 t26_6c q3
  have q1 := all_cut ck26 (dls 6 6) 60 60 t26_6b q2
  have q0 := all_cut ck26 (dls 6 6) 0 60 t26_6a q1
  exact q0
theorem toI_inj {a b : List Nat} (h : toI a = toI b) : a = b := by
  unfold toI at h
  exact (List.map_inj_right (fun x y e => Int.ofNat.inj e)).1 h
theorem count_ok : CountOk 1001 := by
  intro a b ha h6 hp
  obtain ⟨l, hl⟩ := ha.nat
  have hll : l.length = a.length := by rw [← toI_len, ← hl, dsc_len]
  have h1 := ha.h1
  have hpw : l.Pairwise (· ≥ ·) := by
    have q := dsc_pw a
    rw [hl] at q
    unfold toI at q
    exact (List.pairwise_map.1 q).imp (fun {x y} g => by have g : (x : Int) ≥ (y : Int) := g; omega)
  have hx : ∀ x ∈ l, x < l.length := fun x hx' => by
    have h2 : (x : Int) ∈ dsc a := by rw [hl]; exact List.mem_map.2 ⟨x, hx', rfl⟩
    have := ha.hx _ ((dsc_perm a).mem_iff.1 h2)
    omega
  have key : ∀ n, n = l.length → l ∈ dls n n := fun n hn => mem_dls hn.symm hpw (fun x hx' => by have := hx x hx'; omega)
  have hck : ck26 l = true := by
    rcases (show l.length = 1 ∨ l.length = 2 ∨ l.length = 3 ∨ l.length = 4 ∨ l.length = 5 ∨ l.length = 6 by omega) with h | h | h | h | h | h
    · exact List.all_eq_true.1 t26_1 l (key 1 h.symm)
    · exact List.all_eq_true.1 t26_2 l (key 2 h.symm)
    · exact List.all_eq_true.1 t26_3 l (key 3 h.symm)
    · exact List.all_eq_true.1 t26_4 l (key 4 h.symm)
    · exact List.all_eq_true.1 t26_5 l (key 5 h.symm)
    · exact List.all_eq_true.1 t26_6 l (key 6 h.symm)
  have e1 : f26 1001 a = f26 1001 (toI l) := by rw [f26_dsc 1001 (by omega) ha, hl]
  have e2 : f26 1001 b = f26 1001 (toI l) := by rw [f26_dsc 1001 (by omega) (ha.perm hp), ← dsc_of_perm hp, hl]
  unfold ck26 at hck
  cases hf : f26 1001 (toI l) with
  | none => rw [hf] at hck; cases hck
  | some r =>
    obtain ⟨N, e⟩ := r
    rw [hf] at hck
    have hck : (e == 0 && (decide (N > 0) == canN 8 l)) = true := hck
    rw [Bool.and_eq_true] at hck
    have e0 : e = 0 := eq_of_beq hck.1
    subst e0
    exact ⟨N, by rw [e1, hf], by rw [e2, hf], fun l' h' => by
      have : l' = l := toI_inj (h'.symm.trans hl)
      rw [this]; exact eq_of_beq hck.2⟩
end Go.Xm
namespace Go.Xm
section
variable {H : Type} {enc : TypeId × Value → H} {P : Program} {w : World} {base : Nat} {spare : Nat → Bool} {held : Bool}
def AllI (q : IntKind) (cs : List Value) : Prop := ∀ v ∈ cs, ∃ z, v = .int q z ∧ (Lit.int q z).wf = true
theorem allI_list {q : IntKind} : ∀ {cs : List Value}, AllI q cs → ∃ zs : List Int, cs = zs.map (.int q) ∧ ∀ z ∈ zs, (Lit.int q z).wf = true
  | [], _ => ⟨[], rfl, by simp⟩
  | v :: cs, h => by
    obtain ⟨z, rfl, hz⟩ := h v (List.mem_cons_self ..)
    obtain ⟨zs, rfl, hw⟩ := allI_list (cs := cs) (fun v hv => h v (List.mem_cons_of_mem _ hv))
    refine ⟨z :: zs, rfl, fun y hy => ?_⟩
    rcases List.mem_cons.1 hy with rfl | hy
    · exact hz
    · exact hw y hy
theorem allI_int {q : IntKind} {e : TypeId} (he : P.underlying e = some (.int q)) {m : Nat} {cs : List Value} {x : DataW H × List MemPlace} (h : DataW.trod enc P w base spare held m e cs = some x) : AllI q cs := by
  obtain ⟨n, rfl, _, hw⟩ := DataW.trod_int he h
  intro v hv
  obtain rfl := List.mem_singleton.1 hv
  exact ⟨n, rfl, hw⟩
theorem allI_array {q : IntKind} {t e : TypeId} {n s : Nat} (ht : P.underlying t = some (.array n e)) (hs : P.cellsOf e = s) (hn : P.cellsOf t = n * s) (h0 : 0 < s)
    (hE : ∀ (m : Nat) (cs : List Value) (x : DataW H × List MemPlace), DataW.trod enc P w base spare held m e cs = some x → AllI q cs) {m : Nat} {cs : List Value} {x : DataW H × List MemPlace} (h : DataW.trod enc P w base spare held m t cs = some x) : AllI q cs := by
  obtain ⟨xs, m', _, _, hl, hx, hi⟩ := DataW.trod_array ht h
  intro v hv
  obtain ⟨j, hj, rfl⟩ := List.getElem_of_mem hv
  have hjn : j / s < n := by
    rw [Nat.div_lt_iff_lt_mul h0]; omega
  have h1 := hi (j / s) hjn
  have h2 : xs[j / s]? = some (xs[j / s]'(by omega)) := List.getElem?_eq_getElem _
  rw [h2, hs] at h1
  refine hE _ _ _ h1 _ ?_
  have hm : j / s * s + j % s = j := Nat.div_add_mod' j s
  have hlt : j % s < s := Nat.mod_lt _ h0
  refine List.mem_of_getElem? (i := j % s) ?_
  rw [List.getElem?_take, if_pos hlt, List.getElem?_drop, hm, List.getElem?_eq_getElem hj]
theorem okWide_array {r : Reach} {b0 : Nat} {t e : TypeId} {n : Nat} {v : Value} (ht : P.underlying t = some (.array n e)) (h : Value.okWide P w r b0 t v) : ∃ cs : Array Value, v = .agg cs ∧ cs.size = P.cellsOf t := by
  simp only [Value.okWide, ht] at h
  obtain ⟨cs, h1, h2, _⟩ := h
  exact ⟨cs, h1, h2⟩
theorem open_array1 {r : Reach} {b0 : Nat} {q : IntKind} {t e : TypeId} {n c : Nat} {v : Value} {d : DataW H} {ps : List MemPlace} (ht : P.underlying t = some (.array n e)) (he : P.underlying e = some (.int q)) (hs : P.cellsOf e = 1) (hn : P.cellsOf t = n * 1) (hc : P.cellsOf t = c)
    (hv : Value.okWide P w r b0 t v) (h : DataW.Trod enc P w base spare held t v d ps) : ∃ zs : List Int, v = .agg (zs.map (.int q)).toArray ∧ zs.length = c ∧ ∀ z ∈ zs, (Lit.int q z).wf = true := by
  obtain ⟨cs, rfl, hsz⟩ := okWide_array ht hv
  obtain ⟨m, hm⟩ := h
  obtain ⟨zs, h1, h2⟩ := allI_list (allI_array ht hs hn (by omega) (fun _ _ _ => allI_int he) hm)
  have h1 : cs.toList = zs.map (.int q) := h1
  refine ⟨zs, by rw [← h1], ?_, h2⟩
  have := congrArg List.length h1
  simp only [List.length_map, Array.length_toList] at this
  omega
theorem list8 {α : Type} {l : List α} (h : l.length = 8) : ∃ a0 a1 a2 a3 a4 a5 a6 a7, l = [a0, a1, a2, a3, a4, a5, a6, a7] := by
  match l, h with
  | [a0, a1, a2, a3, a4, a5, a6, a7], _ => exact ⟨a0, a1, a2, a3, a4, a5, a6, a7, rfl⟩
end
end Go.Xm
namespace Go.Proofs.YtfimbmhannndaaaDoor.clubNamed
open Go.Xm Go.RowKit
theorem u8b {z : Int} (h : (Lit.int .u8 z).wf = true) : 0 ≤ z ∧ z ≤ 255 := by
  simp [Lit.wf, IntKind.min, IntKind.max, IntKind.signed, IntKind.bits] at h
  omega
theorem walk (a0_0 : Int) (a0_1 : Int) (z1 : List Int) (z2 : List Int) (w : World) (hI : seatInv w) (w0_0 : (Lit.int .u8 a0_0).wf = true) (_w0_1 : (Lit.int .u32 a0_1).wf = true) (l1 : z1.length = 8) (w1 : ∀ z ∈ z1, (Lit.int .u8 z).wf = true) (l2 : z2.length = 8) (w2 : ∀ z ∈ z2, (Lit.int .u8 z).wf = true) :
    Calls Tryd.prog 11 #[.agg #[.int .u8 a0_0, .int .u32 a0_1], .agg (z1.map (.int .u8)).toArray, .agg (z2.map (.int .u8)).toArray] w fun e w' => e = .returned (.bool true) ∧ Below w.heap.size w w' := by
  obtain ⟨b0, b1, b2, b3, b4, b5, b6, b7, rfl⟩ := list8 l1
  obtain ⟨c0, c1, c2, c3, c4, c5, c6, c7, rfl⟩ := list8 l2
  exact f11_ok 1001 _ _ _ _ _ _ _ _ _ _ _ _ _ _ _ _ _ _ true (f11_true 1001 (by omega) count_ok a0_0 a0_1 (u8b w0_0) b0 b1 b2 b3 b4 b5 b6 b7 c0 c1 c2 c3 c4 c5 c6 c7 (fun x hx => u8b (w1 x hx)) (fun x hx => u8b (w2 x hx))) w hI
end Go.Proofs.YtfimbmhannndaaaDoor.clubNamed
