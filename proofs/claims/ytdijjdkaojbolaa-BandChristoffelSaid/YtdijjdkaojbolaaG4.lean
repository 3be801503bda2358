/- What the loops of 'uneven' come to, where Even and Against walk them. Conditions: none. -/
import Derived.Test.YtdijjdkaojbolaaG3
import Derived.Test.YtdijjdkaojbolaaDc
namespace Go.Xm
set_option linter.unusedVariables false
set_option linter.unusedSimpArgs false

/-! 13 -/
theorem f13_1_eq (m : Nat) {a : ByteArray} (hn : 0 < a.size) (hs : a.size ≤ 16) (hok : ∀ i, i < a.size → byteAt a i = 97 ∨ byteAt a i = 98) : ∀ (k p fuel : Nat), p + k = a.size + a.size → k < fuel →
    f13_1 m fuel a (pl a p) (catS a a) p = some (pl a (a.size + a.size))
  | 0, p, fuel + 1, h1, _ => by
    have e : p = a.size + a.size := by omega
    subst e
    simp only [f13_1, added_end, cond_false]
  | k + 1, p, fuel + 1, h1, h2 => by
    obtain ⟨q1, q2, q3, q4, q5⟩ := added_step hn hs hok p (by omega)
    have ih := f13_1_eq m hn hs hok k (p + 1) fuel (by omega) (by omega)
    simp only [f13_1, q1, q2, q3, q4, q5, cond_true]
    exact ih
  | _, _, 0, _, h => by omega

theorem f13_3_eq (m : Nat) {a : ByteArray} (hs : a.size ≤ 16) (x19 : Int) (l B : Nat) (hB : B + l ≤ a.size + a.size + 1) : ∀ (k i fuel : Nat) (x f : Int), i + k = B → k < fuel →
    f13_3 m fuel a (pl a (a.size + a.size)) x19 l x f B i = some (amin (prt a l) k i x f)
  | 0, i, fuel + 1, x, f, h1, _ => by
    have : ¬ ((i : Int) < (B : Int)) := by omega
    simp only [f13_3, decide_eq_false this, cond_false, amin]
  | k + 1, i, fuel + 1, x, f, h1, h2 => by
    have q1 : ((i : Int) < (B : Int)) := by omega
    obtain ⟨p1, p2, p3⟩ := part_of hs l i (by omega)
    have q6 : w64 ((i : Int) + 1) = ((i + 1 : Nat) : Int) := by rw [w64_id (by omega) (by omega)]; rfl
    simp only [f13_3, decide_eq_true q1, p1, p2, p3, q6, cond_true, amin]
    exact f13_3_eq m hs x19 l B hB k (i + 1) fuel _ _ (by omega) (by omega)
  | _, _, 0, _, _, _, h => by omega

theorem f13_5_eq (m : Nat) {a : ByteArray} (hs : a.size ≤ 16) (x19 x8 x9 x44 x45 v : Int) (l L : Nat) (hL : L + l ≤ a.size + a.size + 1) : ∀ (k i fuel : Nat), i + k = L → k < fuel →
    f13_5 m fuel a (pl a (a.size + a.size)) x19 l x8 x9 x44 x45 v L i = some (match fnd (fun y => decide (prt a l y + 2 ≤ v)) k i with | some y => .r y | none => .x6)
  | 0, i, fuel + 1, h1, _ => by
    have : ¬ ((i : Int) < (L : Int)) := by omega
    simp only [f13_5, decide_eq_false this, cond_false, fnd]
  | k + 1, i, fuel + 1, h1, h2 => by
    have q1 : ((i : Int) < (L : Int)) := by omega
    obtain ⟨p1, p2, p3⟩ := part_of hs l i (by omega)
    have hr := prt_range a l i
    have q5 : w64 (prt a l i + 2) = prt a l i + 2 := w64_id (by omega) (by omega)
    have q6 : w64 ((i : Int) + 1) = ((i + 1 : Nat) : Int) := by rw [w64_id (by omega) (by omega)]; rfl
    have ih := f13_5_eq m hs x19 x8 x9 x44 x45 v l L hL k (i + 1) fuel (by omega) (by omega)
    simp only [f13_5, decide_eq_true q1, p1, p2, p3, q5, q6, cond_true, fnd]
    cases decide (prt a l i + 2 ≤ v) with
    | true => rfl
    | false => exact ih
  | _, _, 0, _, h => by omega

theorem f13_4_eq (m : Nat) {a : ByteArray} (hs : a.size ≤ 16) (x19 f : Int) (l B L : Nat) (hB : B + l ≤ a.size + a.size + 1) (hL : L < B) (hf : -100 ≤ f ∧ f ≤ 100) (hm : 100 < m) : ∀ (k i fuel : Nat), i + k = B → k < fuel →
    f13_4 m fuel a (pl a (a.size + a.size)) x19 l L f B i = some (match fndM (ask (prt a l) L f) k i with | some (x, y) => .r x y | none => .x4)
  | 0, i, fuel + 1, h1, _ => by
    have : ¬ ((i : Int) < (B : Int)) := by omega
    simp only [f13_4, decide_eq_false this, cond_false, fndM]
  | k + 1, i, fuel + 1, h1, h2 => by
    have q1 : ((i : Int) < (B : Int)) := by omega
    obtain ⟨p1, p2, p3⟩ := part_of hs l i (by omega)
    have q5 : w64 (f + 2) = f + 2 := w64_id (by omega) (by omega)
    have q6 : w64 ((i : Int) + 1) = ((i + 1 : Nat) : Int) := by rw [w64_id (by omega) (by omega)]; rfl
    have q7 : w64 ((L : Int) + 1) = ((L + 1 : Nat) : Int) := by rw [w64_id (by omega) (by omega)]; rfl
    have q8 : ((L : Int) + 1).toNat = L + 1 := by omega
    have ih := f13_4_eq m hs x19 f l B L hB hL hf hm k (i + 1) fuel (by omega) (by omega)
    have r1 := f13_5_eq m hs x19 L f B i (prt a l i) l (L + 1) (by omega) (L + 1) 0 m (by omega) (by omega)
    have e0 : ((0 : Nat) : Int) = 0 := rfl
    rw [e0] at r1
    simp only [f13_4, decide_eq_true q1, p1, p2, p3, q5, q6, q7, cond_true, fndM, ask, q8]
    cases decide (prt a l i < f + 2) with
    | true =>
      simp only [cond_true]
      exact ih
    | false =>
      simp only [cond_false, r1, Option.bind_some]
      cases fnd (fun y => decide (prt a l y + 2 ≤ prt a l i)) (L + 1) 0 with
      | some y => rfl
      | none => exact ih
  | _, _, 0, _, h => by omega

theorem f13_2_eq (m : Nat) {a : ByteArray} (hn : 0 < a.size) (hs : a.size ≤ 16) (hm : 100 < m) : ∀ (k l fuel : Nat), l + k = a.size + 1 → k < fuel →
    f13_2 m fuel a (pl a (a.size + a.size)) (w64 (((a.size : Nat) : Int) + 1)) l = some (match fndM (fun l => two a (begs a false l) l) k l with | some (l, x, y) => .r x y l | none => .x0)
  | 0, l, fuel + 1, h1, _ => by
    have q0 : w64 (((a.size : Nat) : Int) + 1) = ((a.size + 1 : Nat) : Int) := by rw [w64_id (by omega) (by omega)]; rfl
    have : ¬ ((l : Int) < ((a.size + 1 : Nat) : Int)) := by omega
    simp only [f13_2, q0, decide_eq_false this, cond_false, fndM]
  | k + 1, l, fuel + 1, h1, h2 => by
    have q0 : w64 (((a.size : Nat) : Int) + 1) = ((a.size + 1 : Nat) : Int) := by rw [w64_id (by omega) (by omega)]; rfl
    have q1 : ((l : Int) < ((a.size + 1 : Nat) : Int)) := by omega
    have ih := f13_2_eq m hn hs hm k (l + 1) fuel (by omega) (by omega)
    rw [q0] at ih
    have qB : ((begs a false l : Nat) : Int) = ((a.size : Nat) : Int) := rfl
    have qB2 : begs a false l = a.size := rfl
    have hB0 : 0 < begs a false l := by simp only [begs, cond_true, cond_false]; omega
    have hB1 : begs a false l + l ≤ a.size + a.size + 1 := by simp only [begs, cond_true, cond_false]; omega
    have hB2 : begs a false l ≤ 17 := by simp only [begs, cond_true, cond_false]; omega
    have q6 : w64 ((l : Int) + 1) = ((l + 1 : Nat) : Int) := by rw [w64_id (by omega) (by omega)]; rfl
    have r1 := f13_3_eq m hs ((a.size + 1 : Nat) : Int) l (begs a false l) hB1 (begs a false l) 0 m 0 ((a.size + 1 : Nat) : Int) (by omega) (by omega)
    have e0 : ((0 : Nat) : Int) = 0 := rfl
    rw [e0] at r1
    have hlt : ∀ i, prt a l i < ((a.size + 1 : Nat) : Int) := fun i => by have := prt_range a l i; omega
    have ht := ask_two a (begs a false l) l hB0 _ hlt
    obtain ⟨a1, a2, a3⟩ := amin_ok (prt a l) (begs a false l) 0 0 ((a.size + 1 : Nat) : Int)
    obtain ⟨j, hj, hj1⟩ : ∃ j : Nat, j < begs a false l ∧ amin (prt a l) (begs a false l) 0 0 ((a.size + 1 : Nat) : Int) = ((j : Int), prt a l j) := by
      rcases a3 with a3 | ⟨j, b1, b2, b3⟩
      · have := a2 0 (Nat.le_refl _) (by omega)
        rw [a3] at this
        have := hlt 0
        omega
      · exact ⟨j, by omega, b3⟩
    rw [hj1] at r1 ht
    have hr := prt_range a l j
    have r2 := f13_4_eq m hs ((a.size + 1 : Nat) : Int) (prt a l j) l (begs a false l) j hB1 hj (by omega) hm (begs a false l) 0 m (by omega) (by omega)
    rw [e0] at r2
    rw [qB2] at r1 r2 ht
    simp only [f13_2, q0, decide_eq_true q1,  r1, r2, q6, cond_true, Option.bind_some, fndM, ht, qB2]
    cases two a a.size l with
    | some v => rfl
    | none => exact ih
  | _, _, 0, _, h => by omega

theorem f13_all (m : Nat) {a : ByteArray} (hc : chk a = 0) (hm : 100 < m) :
    f13_1 m m a [0] (catS a a) 0 = some (pl a (a.size + a.size)) ∧
    f13_2 m m a (pl a (a.size + a.size)) (w64 (((a.size : Nat) : Int) + 1)) 0 = some (match agn a false with | some (l, x, y) => .r x y l | none => .x0) := by
  obtain ⟨hn, hs, hok⟩ := chk_ok hc
  refine ⟨f13_1_eq m hn hs hok (a.size + a.size) 0 m (by omega) (by omega), ?_⟩
  rw [← agn_zero]
  exact f13_2_eq m hn hs hm (a.size + 1) 0 m (by omega) (by omega)

/-! 15 -/
theorem f15_1_eq (m : Nat) {a : ByteArray} (hn : 0 < a.size) (hs : a.size ≤ 16) (hok : ∀ i, i < a.size → byteAt a i = 97 ∨ byteAt a i = 98) : ∀ (k p fuel : Nat), p + k = a.size + a.size → k < fuel →
    f15_1 m fuel a (pl a p) (catS a a) p = some (pl a (a.size + a.size))
  | 0, p, fuel + 1, h1, _ => by
    have e : p = a.size + a.size := by omega
    subst e
    simp only [f15_1, added_end, cond_false]
  | k + 1, p, fuel + 1, h1, h2 => by
    obtain ⟨q1, q2, q3, q4, q5⟩ := added_step hn hs hok p (by omega)
    have ih := f15_1_eq m hn hs hok k (p + 1) fuel (by omega) (by omega)
    simp only [f15_1, q1, q2, q3, q4, q5, cond_true]
    exact ih
  | _, _, 0, _, h => by omega

theorem f15_3_eq (m : Nat) {a : ByteArray} (hs : a.size ≤ 16) (x19 : Int) (l B : Nat) (hB : B + l ≤ a.size + a.size + 1) : ∀ (k i fuel : Nat) (x f : Int), i + k = B → k < fuel →
    f15_3 m fuel a (pl a (a.size + a.size)) x19 l x f B i = some (amin (prt a l) k i x f)
  | 0, i, fuel + 1, x, f, h1, _ => by
    have : ¬ ((i : Int) < (B : Int)) := by omega
    simp only [f15_3, decide_eq_false this, cond_false, amin]
  | k + 1, i, fuel + 1, x, f, h1, h2 => by
    have q1 : ((i : Int) < (B : Int)) := by omega
    obtain ⟨p1, p2, p3⟩ := part_of hs l i (by omega)
    have q6 : w64 ((i : Int) + 1) = ((i + 1 : Nat) : Int) := by rw [w64_id (by omega) (by omega)]; rfl
    simp only [f15_3, decide_eq_true q1, p1, p2, p3, q6, cond_true, amin]
    exact f15_3_eq m hs x19 l B hB k (i + 1) fuel _ _ (by omega) (by omega)
  | _, _, 0, _, _, _, h => by omega

theorem f15_5_eq (m : Nat) {a : ByteArray} (hs : a.size ≤ 16) (x19 x8 x9 x44 x45 v : Int) (l L : Nat) (hL : L + l ≤ a.size + a.size + 1) : ∀ (k i fuel : Nat), i + k = L → k < fuel →
    f15_5 m fuel a (pl a (a.size + a.size)) x19 l x8 x9 x44 x45 v L i = some (match fnd (fun y => decide (prt a l y + 2 ≤ v)) k i with | some y => .r y | none => .x6)
  | 0, i, fuel + 1, h1, _ => by
    have : ¬ ((i : Int) < (L : Int)) := by omega
    simp only [f15_5, decide_eq_false this, cond_false, fnd]
  | k + 1, i, fuel + 1, h1, h2 => by
    have q1 : ((i : Int) < (L : Int)) := by omega
    obtain ⟨p1, p2, p3⟩ := part_of hs l i (by omega)
    have hr := prt_range a l i
    have q5 : w64 (prt a l i + 2) = prt a l i + 2 := w64_id (by omega) (by omega)
    have q6 : w64 ((i : Int) + 1) = ((i + 1 : Nat) : Int) := by rw [w64_id (by omega) (by omega)]; rfl
    have ih := f15_5_eq m hs x19 x8 x9 x44 x45 v l L hL k (i + 1) fuel (by omega) (by omega)
    simp only [f15_5, decide_eq_true q1, p1, p2, p3, q5, q6, cond_true, fnd]
    cases decide (prt a l i + 2 ≤ v) with
    | true => rfl
    | false => exact ih
  | _, _, 0, _, h => by omega

theorem f15_4_eq (m : Nat) {a : ByteArray} (hs : a.size ≤ 16) (x19 f : Int) (l B L : Nat) (hB : B + l ≤ a.size + a.size + 1) (hL : L < B) (hf : -100 ≤ f ∧ f ≤ 100) (hm : 100 < m) : ∀ (k i fuel : Nat), i + k = B → k < fuel →
    f15_4 m fuel a (pl a (a.size + a.size)) x19 l L f B i = some (match fndM (ask (prt a l) L f) k i with | some (x, y) => .r x y | none => .x4)
  | 0, i, fuel + 1, h1, _ => by
    have : ¬ ((i : Int) < (B : Int)) := by omega
    simp only [f15_4, decide_eq_false this, cond_false, fndM]
  | k + 1, i, fuel + 1, h1, h2 => by
    have q1 : ((i : Int) < (B : Int)) := by omega
    obtain ⟨p1, p2, p3⟩ := part_of hs l i (by omega)
    have q5 : w64 (f + 2) = f + 2 := w64_id (by omega) (by omega)
    have q6 : w64 ((i : Int) + 1) = ((i + 1 : Nat) : Int) := by rw [w64_id (by omega) (by omega)]; rfl
    have q7 : w64 ((L : Int) + 1) = ((L + 1 : Nat) : Int) := by rw [w64_id (by omega) (by omega)]; rfl
    have q8 : ((L : Int) + 1).toNat = L + 1 := by omega
    have ih := f15_4_eq m hs x19 f l B L hB hL hf hm k (i + 1) fuel (by omega) (by omega)
    have r1 := f15_5_eq m hs x19 L f B i (prt a l i) l (L + 1) (by omega) (L + 1) 0 m (by omega) (by omega)
    have e0 : ((0 : Nat) : Int) = 0 := rfl
    rw [e0] at r1
    simp only [f15_4, decide_eq_true q1, p1, p2, p3, q5, q6, q7, cond_true, fndM, ask, q8]
    cases decide (prt a l i < f + 2) with
    | true =>
      simp only [cond_true]
      exact ih
    | false =>
      simp only [cond_false, r1, Option.bind_some]
      cases fnd (fun y => decide (prt a l y + 2 ≤ prt a l i)) (L + 1) 0 with
      | some y => rfl
      | none => exact ih
  | _, _, 0, _, h => by omega

theorem f15_2_eq (m : Nat) {a : ByteArray} (hn : 0 < a.size) (hs : a.size ≤ 16) (hm : 100 < m) : ∀ (k l fuel : Nat), l + k = a.size + 1 → k < fuel →
    f15_2 m fuel a (pl a (a.size + a.size)) (w64 (((a.size : Nat) : Int) + 1)) l = some (match fndM (fun l => two a (begs a false l) l) k l with | some (l, x, y) => .r x y l | none => .x0)
  | 0, l, fuel + 1, h1, _ => by
    have q0 : w64 (((a.size : Nat) : Int) + 1) = ((a.size + 1 : Nat) : Int) := by rw [w64_id (by omega) (by omega)]; rfl
    have : ¬ ((l : Int) < ((a.size + 1 : Nat) : Int)) := by omega
    simp only [f15_2, q0, decide_eq_false this, cond_false, fndM]
  | k + 1, l, fuel + 1, h1, h2 => by
    have q0 : w64 (((a.size : Nat) : Int) + 1) = ((a.size + 1 : Nat) : Int) := by rw [w64_id (by omega) (by omega)]; rfl
    have q1 : ((l : Int) < ((a.size + 1 : Nat) : Int)) := by omega
    have ih := f15_2_eq m hn hs hm k (l + 1) fuel (by omega) (by omega)
    rw [q0] at ih
    have qB : ((begs a false l : Nat) : Int) = ((a.size : Nat) : Int) := rfl
    have qB2 : begs a false l = a.size := rfl
    have hB0 : 0 < begs a false l := by simp only [begs, cond_true, cond_false]; omega
    have hB1 : begs a false l + l ≤ a.size + a.size + 1 := by simp only [begs, cond_true, cond_false]; omega
    have hB2 : begs a false l ≤ 17 := by simp only [begs, cond_true, cond_false]; omega
    have q6 : w64 ((l : Int) + 1) = ((l + 1 : Nat) : Int) := by rw [w64_id (by omega) (by omega)]; rfl
    have r1 := f15_3_eq m hs ((a.size + 1 : Nat) : Int) l (begs a false l) hB1 (begs a false l) 0 m 0 ((a.size + 1 : Nat) : Int) (by omega) (by omega)
    have e0 : ((0 : Nat) : Int) = 0 := rfl
    rw [e0] at r1
    have hlt : ∀ i, prt a l i < ((a.size + 1 : Nat) : Int) := fun i => by have := prt_range a l i; omega
    have ht := ask_two a (begs a false l) l hB0 _ hlt
    obtain ⟨a1, a2, a3⟩ := amin_ok (prt a l) (begs a false l) 0 0 ((a.size + 1 : Nat) : Int)
    obtain ⟨j, hj, hj1⟩ : ∃ j : Nat, j < begs a false l ∧ amin (prt a l) (begs a false l) 0 0 ((a.size + 1 : Nat) : Int) = ((j : Int), prt a l j) := by
      rcases a3 with a3 | ⟨j, b1, b2, b3⟩
      · have := a2 0 (Nat.le_refl _) (by omega)
        rw [a3] at this
        have := hlt 0
        omega
      · exact ⟨j, by omega, b3⟩
    rw [hj1] at r1 ht
    have hr := prt_range a l j
    have r2 := f15_4_eq m hs ((a.size + 1 : Nat) : Int) (prt a l j) l (begs a false l) j hB1 hj (by omega) hm (begs a false l) 0 m (by omega) (by omega)
    rw [e0] at r2
    rw [qB2] at r1 r2 ht
    simp only [f15_2, q0, decide_eq_true q1,  r1, r2, q6, cond_true, Option.bind_some, fndM, ht, qB2]
    cases two a a.size l with
    | some v => rfl
    | none => exact ih
  | _, _, 0, _, h => by omega

theorem f15_all (m : Nat) {a : ByteArray} (hc : chk a = 0) (hm : 100 < m) :
    f15_1 m m a [0] (catS a a) 0 = some (pl a (a.size + a.size)) ∧
    f15_2 m m a (pl a (a.size + a.size)) (w64 (((a.size : Nat) : Int) + 1)) 0 = some (match agn a false with | some (l, x, y) => .r x y l | none => .x0) := by
  obtain ⟨hn, hs, hok⟩ := chk_ok hc
  refine ⟨f15_1_eq m hn hs hok (a.size + a.size) 0 m (by omega) (by omega), ?_⟩
  rw [← agn_zero]
  exact f15_2_eq m hn hs hm (a.size + 1) 0 m (by omega) (by omega)

end Go.Xm
