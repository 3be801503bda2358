/- Free bays (table), and maps of bales as lists. Conditions: none. -/
import Derived.Test.YtglkjlafglpalaaGreatDoorEk
import Derived.Test.YtglkjlafglpalaaGreatDoorPh
import Derived.Test.YtglkjlafglpalaaGreatDoorEq
import Derived.Test.YtglkjlafglpalaaGreatDoorEv
import Derived.Test.YtglkjlafglpalaaGreatDoorEz
namespace Go.Xm
open Go.RowKit
set_option linter.unusedVariables false
theorem hasS_iff {α : Type} : ∀ {l : List (ByteArray × α)} {k : ByteArray}, hasS l k = true ↔ k ∈ l.map Prod.fst
 | [], k => by simp [hasS]
 | p :: t, k => by
  unfold hasS
  by_cases e : p.1 = k
  ·rw [if_pos e]; simp [e]
  ·rw [if_neg e, hasS_iff, List.map_cons, List.mem_cons]
   exact ⟨.inr, fun h => h.resolve_left fun q => e q.symm⟩
def allN (n : Nat) (p : Nat → Bool) : Bool := Nat.rec true (fun k ih => p k && ih) n
theorem allN_spec {p : Nat → Bool} : ∀ {n : Nat}, allN n p = true → ∀ i, i < n → p i = true
 | 0, _, i, hi => absurd hi (Nat.not_lt_zero i)
 | n + 1, h, i, hi => by
  have h : (p n && allN n p) = true := h
  simp only [Bool.and_eq_true] at h
  rcases Nat.lt_succ_iff_lt_or_eq.1 hi with q | q
  ·exact allN_spec h.2 i q
  ·subst q; exact h.1
def allS : Nat → List Int → (List Int → Bool) → Bool
 | 0, acc, p => p acc
 | k + 1, acc, p => allS k acc p && allS k ((k : Int) :: acc) p
theorem allS_spec {p : List Int → Bool} : ∀ (k : Nat) (acc : List Int), allS k acc p = true → ∀ l : List Int, l.Nodup → (∀ x ∈ l, 0 ≤ x ∧ x < (k : Int)) → ∃ l' : List Int, l'.Perm l ∧ p (l' ++ acc) = true
 | 0, acc, h, l, _, hr => by
  have : l = [] := List.eq_nil_iff_forall_not_mem.2 fun x hx => by have := hr x hx; omega
  subst this
  exact ⟨[], List.Perm.refl _, h⟩
 | k + 1, acc, h, l, hn, hr => by
  unfold allS at h
  simp only [Bool.and_eq_true] at h
  by_cases hk : (k : Int) ∈ l
  ·have hp := List.perm_cons_erase hk
   have hn' := hp.nodup_iff.1 hn
   obtain ⟨l', h1, h2⟩ := allS_spec k ((k : Int) :: acc) h.2 (l.erase k) (List.nodup_cons.1 hn').2 fun x hx => by
    have h1 := hr x (List.mem_of_mem_erase hx)
    have h2 : x ≠ k := fun e => (List.nodup_cons.1 hn').1 (e ▸ hx)
    omega
   refine ⟨l' ++ [(k : Int)], ?_, by simpa using h2⟩
   exact (List.perm_append_singleton ..).trans ((h1.cons _).trans hp.symm)
  ·exact allS_spec k acc h.1 l hn fun x hx => by
    have h1 := hr x hx
    have h2 : x ≠ k := fun e => hk (e ▸ hx)
    omega
def firstB (b : Nat) (l : List Int) (c : Nat) (r : Int × Int) : Bool :=
 cond (r.2 == 0) (Nat.ble c r.1.toNat && (decide (0 ≤ r.1) && (Nat.blt r.1.toNat b && (!(l.contains r.1) && allN b fun i => !(Nat.ble c i && Nat.blt i r.1.toNat) || l.contains (i : Int)))))
  (r.2 == 12 && allN b fun i => !(Nat.ble c i) || l.contains (i : Int))
def freeOk (b : Nat) (l : List Int) (c : Nat) : Bool := match f245 300 b l c with
 | some r => firstB b l c r
 | none => false
set_option maxRecDepth 100000 in
theorem free_tab0 : (allN 7 fun b => allS (b + 1) [] fun l => allN (b + 1) fun c => freeOk (b + 1) l c) = true := by kernel_rfl
set_option maxRecDepth 100000 in
theorem free_tab1 : (allS 8 [] fun l => allN 8 fun c => freeOk 8 l c) = true := by kernel_rfl
theorem contains_perm {l l' : List Int} (h : l'.Perm l) (x : Int) : l'.contains x = l.contains x := by
 rw [Bool.eq_iff_iff]; simp [h.mem_iff]
theorem firstB_perm {b : Nat} {l l' : List Int} (h : l'.Perm l) {c : Nat} {r : Int × Int} : firstB b l' c r = firstB b l c r := by
 unfold firstB
 simp only [contains_perm h]
theorem nodup_lenB : ∀ (k : Nat) (l : List Int), l.Nodup → (∀ x ∈ l, 0 ≤ x ∧ x < (k : Int)) → l.length ≤ k := by
 intro k
 induction k with
 | zero =>
  intro l _ hr
  have : l = [] := List.eq_nil_iff_forall_not_mem.2 fun x hx => by have := hr x hx; omega
  subst this; exact Nat.le_refl _
 | succ k ih =>
  intro l hn hr
  by_cases hk : (k : Int) ∈ l
  ·have hp := List.perm_cons_erase hk
   have hn' := hp.nodup_iff.1 hn
   have := ih (l.erase k) (List.nodup_cons.1 hn').2 fun x hx => by
    have h1 := hr x (List.mem_of_mem_erase hx)
    have h2 : x ≠ k := fun e => (List.nodup_cons.1 hn').1 (e ▸ hx)
    omega
   rw [hp.length_eq]; simp only [List.length_cons]; omega
  ·have := ih l hn fun x hx => by
    have h1 := hr x hx
    have h2 : x ≠ k := fun e => hk (e ▸ hx)
    omega
   omega
theorem free_some {b : Nat} (h1 : 1 ≤ b) (h8 : b ≤ 8) {l : List Int} (hn : l.Nodup) (hr : ∀ x ∈ l, 0 ≤ x ∧ x < (b : Int)) {c : Nat} (hc : c < b) : ∃ r, freeV 300 b l c = some r ∧ firstB b l c r = true := by
 have ht : (allS b [] fun l => allN b fun c => freeOk b l c) = true := by
  by_cases q : b = 8
  ·subst q; exact free_tab1
  ·have e : b = (b - 1) + 1 := by omega
   have := allN_spec free_tab0 (b - 1) (by omega)
   rw [e]; exact this
 obtain ⟨l', hp, hq⟩ := allS_spec b [] ht l hn hr
 rw [List.append_nil] at hq
 have hq := allN_spec hq c hc
 unfold freeOk at hq
 have hlen : l.length ≤ b := nodup_lenB b l hn hr
 have ok : ∀ l : List Int, l.Nodup → (∀ x ∈ l, 0 ≤ x ∧ x < (b : Int)) → l.length ≤ b → (decide (1 ≤ (b : Int)) && (decide ((b : Int) ≤ 8) && okBays b l)) = true := by
  intro l hn hr hl
  simp only [okBays, Bool.and_eq_true, decide_eq_true_eq]
  refine ⟨by omega, by omega, Nat.ble_eq ▸ (show l.length ≤ 8 by omega), List.all_eq_true.2 fun x hx => ?_, hn⟩
  have := hr x hx
  simp only [Bool.and_eq_true, decide_eq_true_eq]
  omega
 split at hq
 ·rename_i r hf
  have e' : freeV 300 b l' c = some r := by
   unfold freeV
   rw [ok l' (hp.nodup_iff.2 hn) (fun x hx => hr x (hp.mem_iff.1 hx)) (by rw [hp.length_eq]; exact hlen), cond_true]; exact hf
  refine ⟨r, ?_, (firstB_perm hp) ▸ hq⟩
  unfold freeV
  rw [ok l hn hr hlen, cond_true]
  exact freeV_perm hp e'
 ·cases hq
end Go.Xm
namespace Go.Xm
open Go.RowKit
set_option linter.unusedVariables false
def sameB (a b : ByteArray) : Bool := a.data.toList == b.data.toList
theorem sameB_eq {a b : ByteArray} (h : sameB a b = true) : a = b := by
 have h : a.data.toList = b.data.toList := by simpa [sameB] using h
 cases a; cases b; congr 1; exact Array.ext' h
theorem w64_small {n : Nat} (h : n < 256) : w64 (n : Int) = n := w64_in (by omega) (by omega)
def eqD : Deed → Deed → Bool
 | .nop, .nop => true | .shut, .shut => true | .closed, .closed => true | .undo, .undo => true
 | .arrive a k w, .arrive a' k' w' => sameB a a' && (decide (k = k') && decide (w = w'))
 | .move a w, .move a' w' => sameB a a' && decide (w = w')
 | .take a k, .take a' k' => sameB a a' && decide (k = k')
 | .count a b k, .count a' b' k' => sameB a a' && (decide (b = b') && decide (k = k'))
 | .supply n, .supply n' => decide (n = n') | .band n, .band n' => decide (n = n') | .spoil n, .spoil n' => decide (n = n')
 | .turn n, .turn n' => decide (n = n') | .leave n, .leave n' => decide (n = n')
 | _, _ => false
theorem eqD_eq {a b : Deed} (h : eqD a b = true) : a = b := by
 cases a <;> cases b <;> first
  | rfl
  | (simp only [eqD, Bool.and_eq_true, decide_eq_true_eq] at h; obtain ⟨h1, h2, h3⟩ := h; rw [sameB_eq h1, h2, h3])
  | (simp only [eqD, Bool.and_eq_true, decide_eq_true_eq] at h; obtain ⟨h1, h2⟩ := h; rw [sameB_eq h1, h2])
  | (simp only [eqD, decide_eq_true_eq] at h; rw [h])
  | (simp [eqD] at h)
end Go.Xm
namespace Go.Xm
open Go.RowKit
set_option linter.unusedVariables false
theorem not_in_contains {l : List Int} {x : Int} (h : l.contains x = false) : x ∉ l := fun q => by
 have : l.contains x = true := by simpa using q
 rw [this] at h; cases h
end Go.Xm
namespace Go.Xm
open Go.RowKit
set_option linter.unusedVariables false
theorem w64_succ {n : Nat} (h : n ≤ 1000000) : w64 ((n : Int) + 1) = ((n + 1 : Nat) : Int) := w64_in (by omega) (by omega)
theorem inRow_nat {i n : Nat} (h : i < n) : inRow (i : Int) n = true := inRow_iff.2 ⟨by omega, by omega⟩
theorem getD_get {α : Type} {l : List α} {i : Nat} (h : i < l.length) (d : α) : l.getD i d = l[i] := by
 rw [List.getD_eq_getElem?_getD, List.getElem?_eq_getElem h]; rfl
theorem bays_w {A : Nat} (hA : A < 256) : w64 (1 + Int.tmod (w64 (A : Int)) 8) = ((1 + A % 8 : Nat) : Int) := by
 rw [w64_small hA]
 have e : Int.tmod (A : Int) 8 = ((A % 8 : Nat) : Int) := rfl
 rw [e]
 exact w64_in (by omega) (by omega)
theorem putS_new {α : Type} {v : α} : ∀ {l : List (ByteArray × α)} {k : ByteArray}, hasS l k = false → putS l k v = l ++ [(k, v)]
 | [], _, _ => rfl
 | p :: t, k, h => by
  unfold hasS at h; unfold putS
  by_cases e : p.1 = k
  ·rw [if_pos e] at h; cases h
  ·rw [if_neg e] at h ⊢; rw [putS_new h]; rfl
end Go.Xm
