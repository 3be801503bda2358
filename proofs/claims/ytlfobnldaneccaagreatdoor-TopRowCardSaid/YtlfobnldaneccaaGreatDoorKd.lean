/- TopRow: parking, by lists of numbers: what is asked of all lists, and the lists. Conditions: none. -/
import Derived.Test.YtlfobnldaneccaaGreatDoorCc
namespace Go.Xm
open Go.RowKit
set_option maxRecDepth 100000
set_option linter.unusedVariables false
set_option linter.unusedSimpArgs false

def okB (x : Option Bool) : Bool := match x with
  | some true => true
  | _ => false

theorem okB_eq {x : Option Bool} (h : okB x = true) : x = some true := by
  unfold okB at h
  split at h
  · rfl
  · cases h

def ints (l : List Nat) : List Int := l.map Int.ofNat

def natsOf : List Int → Option (List Nat)
  | [] => some []
  | .ofNat n :: l => match natsOf l with
    | some ns => some (n :: ns)
    | none => none
  | _ => none

theorem natsOf_eq : ∀ {l : List Int} {ns : List Nat}, natsOf l = some ns → l = ints ns
  | [], ns, h => by cases h; rfl
  | z :: l, ns, h => by
    unfold natsOf at h
    split at h
    · rename_i e; cases e
    · rename_i n l' e
      cases e
      split at h
      · rename_i ns' hn
        cases h
        rw [natsOf_eq hn]
        rfl
      · cases h
    · cases h

/-- All lists of k numbers below n. -/
def wordsL (n : Nat) : Nat → List (List Nat)
  | 0 => [[]]
  | k + 1 => (List.range n).flatMap fun x => (wordsL n k).map (x :: ·)

theorem mem_words {n : Nat} : ∀ (l : List Nat), (∀ x ∈ l, x < n) → l ∈ wordsL n l.length
  | [], _ => List.mem_singleton.2 rfl
  | x :: l, h => List.mem_flatMap.2 ⟨x, List.mem_range.2 (h x (List.mem_cons_self ..)), List.mem_map.2 ⟨l, mem_words l (fun y hy => h y (List.mem_cons_of_mem _ hy)), rfl⟩⟩

/-- Different numbers below n. -/
def permOk (n : Nat) : List Nat → Bool
  | [] => true
  | x :: l => Nat.blt x n && (!(l.any fun y => Nat.beq x y) && permOk n l)

/-- All lists of k different numbers below n. -/
def permL (n : Nat) : Nat → List (List Nat)
  | 0 => [[]]
  | k + 1 => (permL n k).flatMap fun l => ((List.range n).filter fun x => !(l.any fun y => Nat.beq x y)).map (· :: l)

theorem mem_perm {n : Nat} : ∀ (l : List Nat), permOk n l = true → l ∈ permL n l.length
  | [], _ => List.mem_singleton.2 rfl
  | x :: l, h => by
    simp only [permOk, Bool.and_eq_true, Nat.blt_eq] at h
    obtain ⟨h1, h2, h3⟩ := h
    exact List.mem_flatMap.2 ⟨l, mem_perm l h3, List.mem_map.2 ⟨x, List.mem_filter.2 ⟨List.mem_range.2 h1, h2⟩, rfl⟩⟩

/-- The bays that are taken are different ones, below n; each cart has an answer. -/
def takenOk (n : Nat) (r : Option (Int × List Int)) : Bool :=
  match r with
  | some (.ofNat x, t) => Nat.beq x n && (match natsOf t with
    | some ts => Nat.ble ts.length n && permOk n ts
    | none => false)
  | _ => false

def parkOk (n : Nat) (l : List Nat) : Bool :=
  match f6 200 (.ofNat n) (ints l) with
  | some (p, .ofNat 0) => Nat.beq p.length l.length && takenOk n (f3_2 200 200 (.ofNat n) (.ofNat l.length) 0 [] p)
  | _ => false

theorem park_ok {n : Nat} {l : List Nat} (h : parkOk n l = true) : ∃ p ts, f6 200 (.ofNat n) (ints l) = some (p, 0) ∧ p.length = l.length ∧ f3_2 200 200 (.ofNat n) (.ofNat l.length) 0 [] p = some (.ofNat n, ints ts) ∧ ts.length ≤ n ∧ ts ∈ permL n ts.length := by
  unfold parkOk at h
  split at h
  · rename_i p hp
    rw [Bool.and_eq_true] at h
    obtain ⟨h1, h2⟩ := h
    unfold takenOk at h2
    split at h2
    · rename_i x t hx
      rw [Bool.and_eq_true] at h2
      obtain ⟨h3, h4⟩ := h2
      split at h4
      · rename_i ts hn
        rw [Bool.and_eq_true] at h4
        have h3 := Nat.eq_of_beq_eq_true h3
        subst h3
        rw [natsOf_eq hn] at hx
        exact ⟨p, ts, hp, Nat.eq_of_beq_eq_true h1, hx, Nat.le_of_ble_eq_true h4.1, mem_perm ts h4.2⟩
      · cases h4
    · cases h2
  · cases h

/-- What follows the parking. -/
def restR (n : Int) (t : List Int) : Option Bool :=
  (f24 200 1 n t []).bind fun r3 =>
    cond (r3.2.2.2.2.2.2 != 0) (
      some (false)
    ) (
      (f25 200 r3.1 r3.2.1 r3.2.2.1 r3.2.2.2.1 r3.2.2.2.2.1 r3.2.2.2.2.2.1).bind fun r4 =>
        cond (decide (r4.length = 25)) (
          cond (cutOK 0 r3.2.2.1 ((25 : Nat) : Int) 25) (
            cond (decide (0 + (Int.toNat r3.2.2.1) ≤ r4.length)) (
              cond (decide ((Int.toNat r3.2.2.1) ≤ 25)) (
                cond (fitsB (Int.toNat r3.2.2.1) 8) (
                  cond ((((List.take (Int.toNat r3.2.2.1) (List.drop 0 r4)).length : Nat) : Int) != n) (
                    some (false)
                  ) (
                    (f3_3 200 200 n n 0 t (List.take (Int.toNat r3.2.2.1) (List.drop 0 r4))).bind fun o3 =>
                      match o3 with
                      | .r =>
                        some (false)
                      | .x4 =>
                        some (true)
                  )
                ) none
              ) none
            ) none
          ) none
        ) none
    )

theorem f3_of {a b c0 c1 c2 c3 c4 N C : Int} {l p t : List Int} (hN : w64 (1 + Int.tmod (w64 a) 5) = N) (hz : (w64 (N + 1) != 0) = true) (hC : Int.tmod (w64 b) (w64 (N + 1)) = C) (h1 : f3_1 200 200 N C 0 [c0, c1, c2, c3, c4] [] = some (N, l))
    (h2 : f6 200 N l = some (p, 0)) (h3 : p.length = l.length) (h4 : f3_2 200 200 N ((p.length : Nat) : Int) 0 [] p = some (N, t)) (h5 : restR N t = some true) : f3 200 a b c0 c1 c2 c3 c4 = some true := by
  unfold f3
  rw [hN, hC, hz, h1]
  show ((f6 200 N l).bind fun r1 => _) = _
  rw [h2]
  have e : (((p.length : Nat) : Int) != ((l.length : Nat) : Int)) = false := by rw [h3]; simp
  show (cond ((0 : Int) != 0) (some false) (cond (((p.length : Nat) : Int) != ((l.length : Nat) : Int)) (some false) ((f3_2 200 200 N ((p.length : Nat) : Int) 0 [] p).bind fun o2 => _))) = _
  rw [e, h4]
  exact h5

end Go.Xm
namespace Go.Xm
open Go.RowKit
set_option maxRecDepth 100000
theorem restT : ((List.range 5).all fun n => (List.range (n + 2)).all fun k => (permL (n + 1) k).all fun t => okB (restR (.ofNat (n + 1)) (ints t))) = true := by kernel_rfl
theorem rem_1_0 (c0 c1 c2 c3 c4 : Int) : f3_1 200 200 (.ofNat 1) (.ofNat 0) 0 [c0, c1, c2, c3, c4] [] = some (.ofNat 1, (List.take 0 [c0, c1, c2, c3, c4]).map fun c => Int.tmod (w64 c) (.ofNat 1)) := by kernel_rfl
theorem rem_1_1 (c0 c1 c2 c3 c4 : Int) : f3_1 200 200 (.ofNat 1) (.ofNat 1) 0 [c0, c1, c2, c3, c4] [] = some (.ofNat 1, (List.take 1 [c0, c1, c2, c3, c4]).map fun c => Int.tmod (w64 c) (.ofNat 1)) := by kernel_rfl
theorem rem_2_0 (c0 c1 c2 c3 c4 : Int) : f3_1 200 200 (.ofNat 2) (.ofNat 0) 0 [c0, c1, c2, c3, c4] [] = some (.ofNat 2, (List.take 0 [c0, c1, c2, c3, c4]).map fun c => Int.tmod (w64 c) (.ofNat 2)) := by kernel_rfl
theorem rem_2_1 (c0 c1 c2 c3 c4 : Int) : f3_1 200 200 (.ofNat 2) (.ofNat 1) 0 [c0, c1, c2, c3, c4] [] = some (.ofNat 2, (List.take 1 [c0, c1, c2, c3, c4]).map fun c => Int.tmod (w64 c) (.ofNat 2)) := by kernel_rfl
theorem rem_2_2 (c0 c1 c2 c3 c4 : Int) : f3_1 200 200 (.ofNat 2) (.ofNat 2) 0 [c0, c1, c2, c3, c4] [] = some (.ofNat 2, (List.take 2 [c0, c1, c2, c3, c4]).map fun c => Int.tmod (w64 c) (.ofNat 2)) := by kernel_rfl
theorem rem_3_0 (c0 c1 c2 c3 c4 : Int) : f3_1 200 200 (.ofNat 3) (.ofNat 0) 0 [c0, c1, c2, c3, c4] [] = some (.ofNat 3, (List.take 0 [c0, c1, c2, c3, c4]).map fun c => Int.tmod (w64 c) (.ofNat 3)) := by kernel_rfl
theorem rem_3_1 (c0 c1 c2 c3 c4 : Int) : f3_1 200 200 (.ofNat 3) (.ofNat 1) 0 [c0, c1, c2, c3, c4] [] = some (.ofNat 3, (List.take 1 [c0, c1, c2, c3, c4]).map fun c => Int.tmod (w64 c) (.ofNat 3)) := by kernel_rfl
theorem rem_3_2 (c0 c1 c2 c3 c4 : Int) : f3_1 200 200 (.ofNat 3) (.ofNat 2) 0 [c0, c1, c2, c3, c4] [] = some (.ofNat 3, (List.take 2 [c0, c1, c2, c3, c4]).map fun c => Int.tmod (w64 c) (.ofNat 3)) := by kernel_rfl
theorem rem_3_3 (c0 c1 c2 c3 c4 : Int) : f3_1 200 200 (.ofNat 3) (.ofNat 3) 0 [c0, c1, c2, c3, c4] [] = some (.ofNat 3, (List.take 3 [c0, c1, c2, c3, c4]).map fun c => Int.tmod (w64 c) (.ofNat 3)) := by kernel_rfl
theorem rem_4_0 (c0 c1 c2 c3 c4 : Int) : f3_1 200 200 (.ofNat 4) (.ofNat 0) 0 [c0, c1, c2, c3, c4] [] = some (.ofNat 4, (List.take 0 [c0, c1, c2, c3, c4]).map fun c => Int.tmod (w64 c) (.ofNat 4)) := by kernel_rfl
theorem rem_4_1 (c0 c1 c2 c3 c4 : Int) : f3_1 200 200 (.ofNat 4) (.ofNat 1) 0 [c0, c1, c2, c3, c4] [] = some (.ofNat 4, (List.take 1 [c0, c1, c2, c3, c4]).map fun c => Int.tmod (w64 c) (.ofNat 4)) := by kernel_rfl
theorem rem_4_2 (c0 c1 c2 c3 c4 : Int) : f3_1 200 200 (.ofNat 4) (.ofNat 2) 0 [c0, c1, c2, c3, c4] [] = some (.ofNat 4, (List.take 2 [c0, c1, c2, c3, c4]).map fun c => Int.tmod (w64 c) (.ofNat 4)) := by kernel_rfl
theorem rem_4_3 (c0 c1 c2 c3 c4 : Int) : f3_1 200 200 (.ofNat 4) (.ofNat 3) 0 [c0, c1, c2, c3, c4] [] = some (.ofNat 4, (List.take 3 [c0, c1, c2, c3, c4]).map fun c => Int.tmod (w64 c) (.ofNat 4)) := by kernel_rfl
theorem rem_4_4 (c0 c1 c2 c3 c4 : Int) : f3_1 200 200 (.ofNat 4) (.ofNat 4) 0 [c0, c1, c2, c3, c4] [] = some (.ofNat 4, (List.take 4 [c0, c1, c2, c3, c4]).map fun c => Int.tmod (w64 c) (.ofNat 4)) := by kernel_rfl
theorem rem_5_0 (c0 c1 c2 c3 c4 : Int) : f3_1 200 200 (.ofNat 5) (.ofNat 0) 0 [c0, c1, c2, c3, c4] [] = some (.ofNat 5, (List.take 0 [c0, c1, c2, c3, c4]).map fun c => Int.tmod (w64 c) (.ofNat 5)) := by kernel_rfl
theorem rem_5_1 (c0 c1 c2 c3 c4 : Int) : f3_1 200 200 (.ofNat 5) (.ofNat 1) 0 [c0, c1, c2, c3, c4] [] = some (.ofNat 5, (List.take 1 [c0, c1, c2, c3, c4]).map fun c => Int.tmod (w64 c) (.ofNat 5)) := by kernel_rfl
theorem rem_5_2 (c0 c1 c2 c3 c4 : Int) : f3_1 200 200 (.ofNat 5) (.ofNat 2) 0 [c0, c1, c2, c3, c4] [] = some (.ofNat 5, (List.take 2 [c0, c1, c2, c3, c4]).map fun c => Int.tmod (w64 c) (.ofNat 5)) := by kernel_rfl
theorem rem_5_3 (c0 c1 c2 c3 c4 : Int) : f3_1 200 200 (.ofNat 5) (.ofNat 3) 0 [c0, c1, c2, c3, c4] [] = some (.ofNat 5, (List.take 3 [c0, c1, c2, c3, c4]).map fun c => Int.tmod (w64 c) (.ofNat 5)) := by kernel_rfl
theorem rem_5_4 (c0 c1 c2 c3 c4 : Int) : f3_1 200 200 (.ofNat 5) (.ofNat 4) 0 [c0, c1, c2, c3, c4] [] = some (.ofNat 5, (List.take 4 [c0, c1, c2, c3, c4]).map fun c => Int.tmod (w64 c) (.ofNat 5)) := by kernel_rfl
theorem rem_5_5 (c0 c1 c2 c3 c4 : Int) : f3_1 200 200 (.ofNat 5) (.ofNat 5) 0 [c0, c1, c2, c3, c4] [] = some (.ofNat 5, (List.take 5 [c0, c1, c2, c3, c4]).map fun c => Int.tmod (w64 c) (.ofNat 5)) := by kernel_rfl

theorem rem_all (n k : Nat) (h0 : 1 ≤ n) (h5 : n ≤ 5) (hk : k ≤ n) (c0 c1 c2 c3 c4 : Int) : f3_1 200 200 (.ofNat n) (.ofNat k) 0 [c0, c1, c2, c3, c4] [] = some (.ofNat n, (List.take k [c0, c1, c2, c3, c4]).map fun c => Int.tmod (w64 c) (.ofNat n)) := by
  have : n = 1 ∨ n = 2 ∨ n = 3 ∨ n = 4 ∨ n = 5 := by omega
  rcases this with rfl | rfl | rfl | rfl | rfl
  · have : k = 0 ∨ k = 1 := by omega
    rcases this with rfl | rfl
    · exact rem_1_0 c0 c1 c2 c3 c4
    · exact rem_1_1 c0 c1 c2 c3 c4
  · have : k = 0 ∨ k = 1 ∨ k = 2 := by omega
    rcases this with rfl | rfl | rfl
    · exact rem_2_0 c0 c1 c2 c3 c4
    · exact rem_2_1 c0 c1 c2 c3 c4
    · exact rem_2_2 c0 c1 c2 c3 c4
  · have : k = 0 ∨ k = 1 ∨ k = 2 ∨ k = 3 := by omega
    rcases this with rfl | rfl | rfl | rfl
    · exact rem_3_0 c0 c1 c2 c3 c4
    · exact rem_3_1 c0 c1 c2 c3 c4
    · exact rem_3_2 c0 c1 c2 c3 c4
    · exact rem_3_3 c0 c1 c2 c3 c4
  · have : k = 0 ∨ k = 1 ∨ k = 2 ∨ k = 3 ∨ k = 4 := by omega
    rcases this with rfl | rfl | rfl | rfl | rfl
    · exact rem_4_0 c0 c1 c2 c3 c4
    · exact rem_4_1 c0 c1 c2 c3 c4
    · exact rem_4_2 c0 c1 c2 c3 c4
    · exact rem_4_3 c0 c1 c2 c3 c4
    · exact rem_4_4 c0 c1 c2 c3 c4
  · have : k = 0 ∨ k = 1 ∨ k = 2 ∨ k = 3 ∨ k = 4 ∨ k = 5 := by omega
    rcases this with rfl | rfl | rfl | rfl | rfl | rfl
    · exact rem_5_0 c0 c1 c2 c3 c4
    · exact rem_5_1 c0 c1 c2 c3 c4
    · exact rem_5_2 c0 c1 c2 c3 c4
    · exact rem_5_3 c0 c1 c2 c3 c4
    · exact rem_5_4 c0 c1 c2 c3 c4
    · exact rem_5_5 c0 c1 c2 c3 c4

end Go.Xm
