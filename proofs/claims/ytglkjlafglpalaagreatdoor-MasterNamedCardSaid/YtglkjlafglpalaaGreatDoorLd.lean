/- Free bays (table), and maps of bales as lists. Conditions: none. -/
import Derived.Test.YtglkjlafglpalaaGreatDoorEk
import Derived.Test.YtglkjlafglpalaaGreatDoorPh
import Derived.Test.YtglkjlafglpalaaGreatDoorEq
import Derived.Test.YtglkjlafglpalaaGreatDoorEv
import Derived.Test.YtglkjlafglpalaaGreatDoorEz
namespace Go.Xm
open Go.RowKit
set_option linter.unusedVariables false
theorem hasS_iff {α : Type} : ∀ {l : List (ByteArray × α)} {k : ByteArray}, hasS l k = true ↔ k ∈ l.map Prod.fst
 | [], k => by simp [hasS]
 | p :: t, k => by
  unfold hasS
  by_cases e : p.1 = k
  ·rw [if_pos e]; simp [e]
  ·rw [if_neg e, hasS_iff, List.map_cons, List.mem_cons]
   exact ⟨.inr, fun h => h.resolve_left fun q => e q.symm⟩
theorem hasS_not {α : Type} {l : List (ByteArray × α)} {k : ByteArray} (h : hasS l k = false) : k ∉ l.map Prod.fst := fun q => by rw [hasS_iff.2 q] at h; cases h
theorem delS_not {α : Type} : ∀ {l : List (ByteArray × α)} {k : ByteArray}, hasS l k = false → delS l k = l
 | [], _, _ => rfl
 | p :: t, k, h => by
  unfold hasS at h; unfold delS
  by_cases e : p.1 = k
  ·rw [if_pos e] at h; cases h
  ·rw [if_neg e] at h ⊢; rw [delS_not h]
theorem putS_perm {α : Type} (v : α) : ∀ (l : List (ByteArray × α)) (k : ByteArray), (putS l k v).Perm ((k, v) :: delS l k)
 | [], _ => List.Perm.refl _
 | p :: t, k => by
  unfold putS delS
  by_cases e : p.1 = k
  ·rw [if_pos e, if_pos e]
  ·rw [if_neg e, if_neg e]
   exact ((putS_perm v t k).cons p).trans (List.Perm.swap ..)
theorem delS_put {α : Type} (v : α) : ∀ (l : List (ByteArray × α)) (k : ByteArray), delS (putS l k v) k = delS l k
 | [], k => by simp [putS, delS]
 | p :: t, k => by
  unfold putS
  by_cases e : p.1 = k
  ·rw [if_pos e]; unfold delS; rw [if_pos rfl, if_pos e]
  ·rw [if_neg e]; unfold delS; rw [if_neg e, if_neg e, delS_put v t k]
theorem has_perm {α : Type} (d : α) : ∀ {l : List (ByteArray × α)} {k : ByteArray}, hasS l k = true → l.Perm ((k, getS d l k) :: delS l k)
 | [], k, h => by cases h
 | p :: t, k, h => by
  unfold hasS at h; unfold getS delS
  by_cases e : p.1 = k
  ·rw [if_pos e, if_pos e]; subst e; exact List.Perm.refl _
  ·rw [if_neg e] at h; rw [if_neg e, if_neg e]
   exact ((has_perm d h).cons p).trans (List.Perm.swap ..)
def allN (n : Nat) (p : Nat → Bool) : Bool := Nat.rec true (fun k ih => p k && ih) n
theorem allN_spec {p : Nat → Bool} : ∀ {n : Nat}, allN n p = true → ∀ i, i < n → p i = true
 | 0, _, i, hi => absurd hi (Nat.not_lt_zero i)
 | n + 1, h, i, hi => by
  have h : (p n && allN n p) = true := h
  simp only [Bool.and_eq_true] at h
  rcases Nat.lt_succ_iff_lt_or_eq.1 hi with q | q
  ·exact allN_spec h.2 i q
  ·subst q; exact h.1
def allS : Nat → List Int → (List Int → Bool) → Bool
 | 0, acc, p => p acc
 | k + 1, acc, p => allS k acc p && allS k ((k : Int) :: acc) p
theorem allS_spec {p : List Int → Bool} : ∀ (k : Nat) (acc : List Int), allS k acc p = true → ∀ l : List Int, l.Nodup → (∀ x ∈ l, 0 ≤ x ∧ x < (k : Int)) → ∃ l' : List Int, l'.Perm l ∧ p (l' ++ acc) = true
 | 0, acc, h, l, _, hr => by
  have : l = [] := List.eq_nil_iff_forall_not_mem.2 fun x hx => by have := hr x hx; omega
  subst this
  exact ⟨[], List.Perm.refl _, h⟩
 | k + 1, acc, h, l, hn, hr => by
  unfold allS at h
  simp only [Bool.and_eq_true] at h
  by_cases hk : (k : Int) ∈ l
  ·have hp := List.perm_cons_erase hk
   have hn' := hp.nodup_iff.1 hn
   obtain ⟨l', h1, h2⟩ := allS_spec k ((k : Int) :: acc) h.2 (l.erase k) (List.nodup_cons.1 hn').2 fun x hx => by
    have h1 := hr x (List.mem_of_mem_erase hx)
    have h2 : x ≠ k := fun e => (List.nodup_cons.1 hn').1 (e ▸ hx)
    omega
   refine ⟨l' ++ [(k : Int)], ?_, by simpa using h2⟩
   exact (List.perm_append_singleton ..).trans ((h1.cons _).trans hp.symm)
  ·exact allS_spec k acc h.1 l hn fun x hx => by
    have h1 := hr x hx
    have h2 : x ≠ k := fun e => hk (e ▸ hx)
    omega
def firstB (b : Nat) (l : List Int) (c : Nat) (r : Int × Int) : Bool :=
 cond (r.2 == 0) (Nat.ble c r.1.toNat && (decide (0 ≤ r.1) && (Nat.blt r.1.toNat b && (!(l.contains r.1) && allN b fun i => !(Nat.ble c i && Nat.blt i r.1.toNat) || l.contains (i : Int)))))
  (r.2 == 12 && allN b fun i => !(Nat.ble c i) || l.contains (i : Int))
def freeOk (b : Nat) (l : List Int) (c : Nat) : Bool := match f245 300 b l c with
 | some r => firstB b l c r
 | none => false
set_option maxRecDepth 100000 in
theorem free_tab0 : (allN 7 fun b => allS (b + 1) [] fun l => allN (b + 1) fun c => freeOk (b + 1) l c) = true := by kernel_rfl
set_option maxRecDepth 100000 in
theorem free_tab1 : (allS 8 [] fun l => allN 8 fun c => freeOk 8 l c) = true := by kernel_rfl
theorem contains_perm {l l' : List Int} (h : l'.Perm l) (x : Int) : l'.contains x = l.contains x := by
 rw [Bool.eq_iff_iff]; simp [h.mem_iff]
theorem firstB_perm {b : Nat} {l l' : List Int} (h : l'.Perm l) {c : Nat} {r : Int × Int} : firstB b l' c r = firstB b l c r := by
 unfold firstB
 simp only [contains_perm h]
theorem nodup_lenB : ∀ (k : Nat) (l : List Int), l.Nodup → (∀ x ∈ l, 0 ≤ x ∧ x < (k : Int)) → l.length ≤ k := by
 intro k
 induction k with
 | zero =>
  intro l _ hr
  have : l = [] := List.eq_nil_iff_forall_not_mem.2 fun x hx => by have := hr x hx; omega
  subst this; exact Nat.le_refl _
 | succ k ih =>
  intro l hn hr
  by_cases hk : (k : Int) ∈ l
  ·have hp := List.perm_cons_erase hk
   have hn' := hp.nodup_iff.1 hn
   have := ih (l.erase k) (List.nodup_cons.1 hn').2 fun x hx => by
    have h1 := hr x (List.mem_of_mem_erase hx)
    have h2 : x ≠ k := fun e => (List.nodup_cons.1 hn').1 (e ▸ hx)
    omega
   rw [hp.length_eq]; simp only [List.length_cons]; omega
  ·have := ih l hn fun x hx => by
    have h1 := hr x hx
    have h2 : x ≠ k := fun e => hk (e ▸ hx)
    omega
   omega
theorem free_some {b : Nat} (h1 : 1 ≤ b) (h8 : b ≤ 8) {l : List Int} (hn : l.Nodup) (hr : ∀ x ∈ l, 0 ≤ x ∧ x < (b : Int)) {c : Nat} (hc : c < b) : ∃ r, freeV 300 b l c = some r ∧ firstB b l c r = true := by
 have ht : (allS b [] fun l => allN b fun c => freeOk b l c) = true := by
  by_cases q : b = 8
  ·subst q; exact free_tab1
  ·have e : b = (b - 1) + 1 := by omega
   have := allN_spec free_tab0 (b - 1) (by omega)
   rw [e]; exact this
 obtain ⟨l', hp, hq⟩ := allS_spec b [] ht l hn hr
 rw [List.append_nil] at hq
 have hq := allN_spec hq c hc
 unfold freeOk at hq
 have hlen : l.length ≤ b := nodup_lenB b l hn hr
 have ok : ∀ l : List Int, l.Nodup → (∀ x ∈ l, 0 ≤ x ∧ x < (b : Int)) → l.length ≤ b → (decide (1 ≤ (b : Int)) && (decide ((b : Int) ≤ 8) && okBays b l)) = true := by
  intro l hn hr hl
  simp only [okBays, Bool.and_eq_true, decide_eq_true_eq]
  refine ⟨by omega, by omega, Nat.ble_eq ▸ (show l.length ≤ 8 by omega), List.all_eq_true.2 fun x hx => ?_, hn⟩
  have := hr x hx
  simp only [Bool.and_eq_true, decide_eq_true_eq]
  omega
 split at hq
 ·rename_i r hf
  have e' : freeV 300 b l' c = some r := by
   unfold freeV
   rw [ok l' (hp.nodup_iff.2 hn) (fun x hx => hr x (hp.mem_iff.1 hx)) (by rw [hp.length_eq]; exact hlen), cond_true]; exact hf
  refine ⟨r, ?_, (firstB_perm hp) ▸ hq⟩
  unfold freeV
  rw [ok l hn hr hlen, cond_true]
  exact freeV_perm hp e'
 ·cases hq
inductive Cm where
 | arr (w n v : Nat) | mov (w v : Nat) | tak (w n : Nat) | cnt (w n : Nat)
 | sup (n : Nat) | ban (n : Nat) | spo (n : Nat) | key (k : Nat) | out (n : Nat) | shut | close | undo
def nmB (w : Nat) : ByteArray := strN [97 + (w : Int)]
def itN (n : Nat) : ByteArray := itoaV (n : Int)
def lnC : Cm → ByteArray
 | .arr w n v => catS (catS (catS (catS (catS (bs [98, 97, 108, 101, 32]) (nmB w)) (bs [32])) (itN (1 + n))) (bs [32])) (itN v)
 | .mov w v => catS (catS (catS (bs [109, 111, 118, 101, 32]) (nmB w)) (bs [32])) (itN v)
 | .tak w n => catS (catS (catS (bs [116, 97, 107, 101, 32]) (nmB w)) (bs [32])) (itN (1 + n))
 | .cnt w n => catS (catS (catS (bs [99, 111, 117, 110, 116, 32]) (nmB w)) (bs [32])) (itN (1 + n))
 | .sup n => catS (bs [115, 116, 97, 109, 112, 115, 32]) (itN (1 + n))
 | .ban n => catS (bs [98, 97, 110, 100, 32]) (itN (1 + n))
 | .spo n => catS (bs [115, 112, 111, 105, 108, 32]) (itN (1 + n))
 | .key k => catS (bs [107, 101, 121, 32]) (itN k)
 | .out n => catS (bs [111, 117, 116, 32]) (itN (1 + n))
 | .shut => bs [115, 104, 117, 116]
 | .close => bs [99, 108, 111, 115, 101]
 | .undo => bs [117, 110, 100, 111]
def dC : Cm → Deed
 | .arr w n v => .arrive (nmB w) (1 + n : Nat) v
 | .mov w v => .move (nmB w) v
 | .tak w n => .take (nmB w) (1 + n : Nat)
 | .cnt w n => .count (nmB w) 0 (1 + n : Nat)
 | .sup n => .supply (1 + n : Nat)
 | .ban n => .band (1 + n : Nat)
 | .spo n => .spoil (1 + n : Nat)
 | .key k => .turn k
 | .out n => .leave (1 + n : Nat)
 | .shut => .shut
 | .close => .closed
 | .undo => .undo
def okC (b : Nat) : Cm → Bool
 | .arr w n v => Nat.blt w 6 && (Nat.blt n 40 && Nat.blt v b)
 | .mov w v => Nat.blt w 6 && Nat.blt v b
 | .tak w n => Nat.blt w 6 && Nat.blt n 40
 | .cnt w n => Nat.blt w 6 && Nat.blt n 40
 | .sup n => Nat.blt n 40
 | .ban n => Nat.blt n 40
 | .spo n => Nat.blt n 40
 | .key k => Nat.blt k 3
 | .out n => Nat.blt n 40
 | _ => true
def cmOf (k w n v : Nat) : Cm :=
 match k with
 | 0 => .arr w n v | 1 => .arr w n v | 2 => .arr w n v | 3 => .arr w n v
 | 4 => .mov w v | 5 => .mov w v
 | 6 => .tak w n | 7 => .tak w n
 | 8 => .cnt w n
 | 9 => .sup n | 10 => .sup n
 | 11 => .ban n | 12 => .ban n
 | 13 => .spo n
 | 14 => .key (w % 3) | 15 => .key (w % 3)
 | 16 => .out n
 | 17 => .shut
 | 18 => .close
 | _ => .undo
def sameB (a b : ByteArray) : Bool := a.data.toList == b.data.toList
theorem sameB_eq {a b : ByteArray} (h : sameB a b = true) : a = b := by
 have h : a.data.toList = b.data.toList := by simpa [sameB] using h
 cases a; cases b; congr 1; exact Array.ext' h
def isLn (k w n v : Nat) : Bool := match f78 0 k w n v 8 true with
 | some l => sameB l (lnC (cmOf k w n v))
 | none => false
set_option maxRecDepth 100000 in
theorem ln_tab0 : (allN 10 fun k => allN 6 fun w => allN 40 fun n => allN 8 fun v => isLn k w n v) = true := by kernel_rfl
set_option maxRecDepth 100000 in
theorem ln_tab1 : (allN 10 fun k => allN 6 fun w => allN 40 fun n => allN 8 fun v => isLn (10 + k) w n v) = true := by kernel_rfl
theorem ln_tab {k w n v : Nat} (hk : k < 20) (hw : w < 6) (hn : n < 40) (hv : v < 8) : isLn k w n v = true := by
 by_cases h : k < 10
 ·exact allN_spec (allN_spec (allN_spec (allN_spec ln_tab0 k h) w hw) n hn) v hv
 ·have e : k = 10 + (k - 10) := by omega
  rw [e]
  exact allN_spec (allN_spec (allN_spec (allN_spec ln_tab1 (k - 10) (by omega)) w hw) n hn) v hv
theorem w64_small {n : Nat} (h : n < 256) : w64 (n : Int) = n := w64_in (by omega) (by omega)
theorem tmod_nat (a b : Nat) : Int.tmod (a : Int) (b : Int) = ((a % b : Nat) : Int) := rfl
theorem f78_red {m K W N V b : Nat} (hK : K < 256) (hW : W < 256) (hN : N < 256) (hV : V < 256) (h1 : 1 ≤ b) (h8 : b ≤ 8) :
 f78 m K W N V b true = f78 0 (K % 20 : Nat) (W % 6 : Nat) (N % 40 : Nat) (V % b : Nat) 8 true := by
 have hv : V % b < 8 := Nat.lt_of_lt_of_le (Nat.mod_lt _ h1) h8
 have eK : Int.tmod (K : Int) 20 = Int.tmod ((K % 20 : Nat) : Int) 20 := by rw [show (20 : Int) = ((20 : Nat) : Int) from rfl, tmod_nat, tmod_nat, Nat.mod_mod]
 have eW : Int.tmod (W : Int) 6 = Int.tmod ((W % 6 : Nat) : Int) 6 := by rw [show (6 : Int) = ((6 : Nat) : Int) from rfl, tmod_nat, tmod_nat, Nat.mod_mod]
 have eW3 : Int.tmod (w64 (W : Int)) 3 = Int.tmod (w64 ((W % 6 : Nat) : Int)) 3 := by
  rw [w64_small hW, w64_small (by omega), show (3 : Int) = ((3 : Nat) : Int) from rfl, tmod_nat, tmod_nat]
  congr 1; omega
 have eN : Int.tmod (w64 (N : Int)) 40 = Int.tmod (w64 ((N % 40 : Nat) : Int)) 40 := by
  rw [w64_small hN, w64_small (by omega), show (40 : Int) = ((40 : Nat) : Int) from rfl, tmod_nat, tmod_nat, Nat.mod_mod]
 have eV : Int.tmod (w64 (V : Int)) (b : Int) = Int.tmod (w64 ((V % b : Nat) : Int)) 8 := by
  rw [w64_small hV, w64_small (by omega), show (8 : Int) = ((8 : Nat) : Int) from rfl, tmod_nat, tmod_nat, Nat.mod_eq_of_lt hv]
 have eb : ((b : Int) != 0) = ((8 : Int) != 0) := by
  have : (b : Int) ≠ 0 := by omega
  rw [bne_iff_ne.2 this]; rfl
 unfold f78
 rw [eK, eW, eN, eV, eb, eW3]
theorem f78_cm {m K W N V b : Nat} (hK : K < 256) (hW : W < 256) (hN : N < 256) (hV : V < 256) (h1 : 1 ≤ b) (h8 : b ≤ 8) :
 ∃ c, okC b c = true ∧ f78 m K W N V b true = some (lnC c) := by
 have hk : K % 20 < 20 := Nat.mod_lt _ (by omega)
 have hw : W % 6 < 6 := Nat.mod_lt _ (by omega)
 have hn : N % 40 < 40 := Nat.mod_lt _ (by omega)
 have hvb : V % b < b := Nat.mod_lt _ h1
 have ht := ln_tab hk hw hn (Nat.lt_of_lt_of_le hvb h8)
 rw [f78_red hK hW hN hV h1 h8]
 refine ⟨cmOf (K % 20) (W % 6) (N % 40) (V % b), ?_, ?_⟩
 ·generalize K % 20 = k at hk
  have h3 : W % 6 % 3 < 3 := Nat.mod_lt _ (by omega)
  have B : ∀ {a c : Nat}, a < c → Nat.blt a c = true := fun h => by simpa [Nat.blt_eq] using h
  unfold cmOf
  split <;> simp only [okC, B hw, B hn, B hvb, B h3, Bool.and_self]
 ·unfold isLn at ht
  split at ht
  ·rename_i l hl; rw [hl, sameB_eq ht]
  ·cases ht
def eqD : Deed → Deed → Bool
 | .nop, .nop => true | .shut, .shut => true | .closed, .closed => true | .undo, .undo => true
 | .arrive a k w, .arrive a' k' w' => sameB a a' && (decide (k = k') && decide (w = w'))
 | .move a w, .move a' w' => sameB a a' && decide (w = w')
 | .take a k, .take a' k' => sameB a a' && decide (k = k')
 | .count a b k, .count a' b' k' => sameB a a' && (decide (b = b') && decide (k = k'))
 | .supply n, .supply n' => decide (n = n') | .band n, .band n' => decide (n = n') | .spoil n, .spoil n' => decide (n = n')
 | .turn n, .turn n' => decide (n = n') | .leave n, .leave n' => decide (n = n')
 | _, _ => false
theorem eqD_eq {a b : Deed} (h : eqD a b = true) : a = b := by
 cases a <;> cases b <;> first
  | rfl
  | (simp only [eqD, Bool.and_eq_true, decide_eq_true_eq] at h; obtain ⟨h1, h2, h3⟩ := h; rw [sameB_eq h1, h2, h3])
  | (simp only [eqD, Bool.and_eq_true, decide_eq_true_eq] at h; obtain ⟨h1, h2⟩ := h; rw [sameB_eq h1, h2])
  | (simp only [eqD, decide_eq_true_eq] at h; rw [h])
  | (simp [eqD] at h)
def isArr : Cm → Bool | .arr _ _ _ => true | _ => false
def isSup : Cm → Bool | .sup _ => true | _ => false
def isKey : Cm → Bool | .key _ => true | _ => false
def isOut : Cm → Bool | .out _ => true | _ => false
def isShut : Cm → Bool | .shut => true | _ => false
def isClose : Cm → Bool | .close => true | _ => false
def isUndo : Cm → Bool | .undo => true | _ => false
def numC : Cm → Nat | .arr _ n _ => 1 + n | .sup n => 1 + n | .out n => 1 + n | _ => 0
def cutL (l : ByteArray) : ByteArray := cutT l 0 (iMax 0 (lastB l 32))
def lineOk (c : Cm) : Bool :=
 (match f53 300 (lnC c) with | some d => eqD d (dC c) | none => false) &&
 (((lnC c).data.toList == [117, 110, 100, 111]) == isUndo c &&
 (((lnC c).data.toList == [99, 108, 111, 115, 101]) == isClose c &&
 (((lnC c).data.toList == [115, 104, 117, 116]) == isShut c &&
 (hasV (lnC c) (bs [111, 117, 116, 32]) == isOut c &&
 (hasV (lnC c) (bs [107, 101, 121, 32]) == isKey c &&
 (hasV (lnC c) (bs [98, 97, 108, 101, 32]) == isArr c &&
 (hasV (lnC c) (bs [115, 116, 97, 109, 112, 115, 32]) == isSup c &&
 ((okS (lnC c) && (!(isOut c || isSup c) || decide (lastV (lnC c) = (numC c : Int)))) &&
 (!(isArr c) || (cutOk 0 (iMax 0 (lastB (lnC c) 32)) (lnC c).size && (okS (cutL (lnC c)) && decide (lastV (cutL (lnC c)) = (numC c : Int)))))))))))))
set_option maxRecDepth 100000 in
theorem l_arr0 : (allN 3 fun w => allN 40 fun n => allN 8 fun v => lineOk (.arr w n v)) = true := by kernel_rfl
set_option maxRecDepth 100000 in
theorem l_arr1 : (allN 3 fun w => allN 40 fun n => allN 8 fun v => lineOk (.arr (3 + w) n v)) = true := by kernel_rfl
set_option maxRecDepth 100000 in
theorem l_mov : (allN 6 fun w => allN 8 fun v => lineOk (.mov w v)) = true := by kernel_rfl
set_option maxRecDepth 100000 in
theorem l_num : (allN 40 fun n => (allN 6 fun w => lineOk (.tak w n) && lineOk (.cnt w n)) && (lineOk (.sup n) && (lineOk (.ban n) && (lineOk (.spo n) && lineOk (.out n))))) = true := by kernel_rfl
set_option maxRecDepth 100000 in
theorem l_oth : ((allN 3 fun k => lineOk (.key k)) && (lineOk .shut && (lineOk .close && lineOk .undo))) = true := by kernel_rfl
theorem line_ok {b : Nat} (h8 : b ≤ 8) {c : Cm} (h : okC b c = true) : lineOk c = true := by
 have L : ∀ {a c : Nat}, Nat.blt a c = true → a < c := fun h => by simpa [Nat.blt_eq] using h
 have ho := l_oth
 simp only [Bool.and_eq_true] at ho
 have hn : ∀ n, n < 40 → _ := allN_spec l_num
 simp only [Bool.and_eq_true] at hn
 cases c with
 | arr w n v =>
  simp only [okC, Bool.and_eq_true] at h
  obtain ⟨h1, h2, h3⟩ := h
  have h3 := Nat.lt_of_lt_of_le (L h3) h8
  by_cases q : w < 3
  ·exact allN_spec (allN_spec (allN_spec l_arr0 w q) n (L h2)) v h3
  ·have e : w = 3 + (w - 3) := by omega
   rw [e]
   exact allN_spec (allN_spec (allN_spec l_arr1 (w - 3) (by have := L h1; omega)) n (L h2)) v h3
 | mov w v =>
  simp only [okC, Bool.and_eq_true] at h
  exact allN_spec (allN_spec l_mov w (L h.1)) v (Nat.lt_of_lt_of_le (L h.2) h8)
 | tak w n =>
  simp only [okC, Bool.and_eq_true] at h
  have := allN_spec (hn n (L h.2)).1 w (L h.1)
  simp only [Bool.and_eq_true] at this; exact this.1
 | cnt w n =>
  simp only [okC, Bool.and_eq_true] at h
  have := allN_spec (hn n (L h.2)).1 w (L h.1)
  simp only [Bool.and_eq_true] at this; exact this.2
 | sup n => exact (hn n (L h)).2.1
 | ban n => exact (hn n (L h)).2.2.1
 | spo n => exact (hn n (L h)).2.2.2.1
 | out n => exact (hn n (L h)).2.2.2.2
 | key k => exact allN_spec ho.1 k (L h)
 | shut => exact ho.2.1
 | close => exact ho.2.2.1
 | undo => exact ho.2.2.2
def sumK : List (ByteArray × Bl) → Int
 | [] => 0
 | p :: l => p.2.2.2 + sumK l
theorem sumK_perm {l l' : List (ByteArray × Bl)} (h : l.Perm l') : sumK l = sumK l' := by
 induction h with
 | nil => rfl
 | cons x _ ih => simp only [sumK, ih]
 | swap x y l => simp only [sumK]; omega
 | trans _ _ h1 h2 => rw [h1, h2]
structure Bale1 (b : Nat) (p : ByteArray × Bl) : Prop where
 name : p.2.1 = p.1
 one : ∃ w, w < 6 ∧ p.1 = nmB w
 lo : 0 ≤ p.2.2.1
 hi : p.2.2.1 < (b : Int)
 kil : 1 ≤ p.2.2.2
structure Bales (b : Nat) (l : List (ByteArray × Bl)) : Prop where
 all : ∀ p, p ∈ l → Bale1 b p
 nd1 : (l.map Prod.fst).Nodup
 nd2 : (l.map (fun p => p.2.2.1)).Nodup
theorem Bales.perm {b : Nat} {l l' : List (ByteArray × Bl)} (h : Bales b l) (hp : l.Perm l') : Bales b l' :=
 ⟨fun p q => h.all p (hp.mem_iff.2 q), (hp.map _).nodup_iff.1 h.nd1, (hp.map _).nodup_iff.1 h.nd2⟩
theorem Bales.tail {b : Nat} {p : ByteArray × Bl} {l : List (ByteArray × Bl)} (h : Bales b (p :: l)) : Bales b l ∧ Bale1 b p ∧ p.1 ∉ l.map Prod.fst ∧ p.2.2.1 ∉ l.map (fun p => p.2.2.1) := by
 have h1 := h.nd1
 have h2 := h.nd2
 rw [List.map_cons, List.nodup_cons] at h1 h2
 exact ⟨⟨fun q hq => h.all q (List.mem_cons_of_mem _ hq), h1.2, h2.2⟩, h.all p (List.mem_cons_self ..), h1.1, h2.1⟩
theorem Bales.cons {b : Nat} {p : ByteArray × Bl} {l : List (ByteArray × Bl)} (h : Bales b l) (h1 : Bale1 b p) (h2 : p.1 ∉ l.map Prod.fst) (h3 : p.2.2.1 ∉ l.map (fun p => p.2.2.1)) : Bales b (p :: l) :=
 ⟨fun q hq => (List.mem_cons.1 hq).elim (fun e => e ▸ h1) (h.all q), (by rw [List.map_cons, List.nodup_cons]; exact ⟨h2, h.nd1⟩), (by rw [List.map_cons, List.nodup_cons]; exact ⟨h3, h.nd2⟩)⟩
theorem Bales.nil (b : Nat) : Bales b [] := ⟨fun p q => (by cases q), List.nodup_nil, List.nodup_nil⟩
theorem sumK_pos {b : Nat} : ∀ {l : List (ByteArray × Bl)}, Bales b l → 0 ≤ sumK l
 | [], _ => Int.le_refl 0
 | p :: l, h => by
  have h1 := sumK_pos h.tail.1
  have h2 := h.tail.2.1.kil
  simp only [sumK]; omega
theorem Bales.range {b : Nat} {l : List (ByteArray × Bl)} (h : Bales b l) : ∀ x ∈ l.map (fun p => p.2.2.1), 0 ≤ x ∧ x < (b : Int) := fun x hx => by
 obtain ⟨p, hp, rfl⟩ := List.mem_map.1 hx
 exact ⟨(h.all p hp).lo, (h.all p hp).hi⟩
theorem not_in_contains {l : List Int} {x : Int} (h : l.contains x = false) : x ∉ l := fun q => by
 have : l.contains x = true := by simpa using q
 rw [this] at h; cases h
def wA : Cm → Nat | .arr _ n _ => 1 + n | _ => 0
def wS : Cm → Nat | .sup n => 1 + n | _ => 0
def wY : Cm → Nat | .close => 1 | _ => 0
def sumW (f : Cm → Nat) : List Cm → Nat
 | [] => 0
 | c :: l => f c + sumW f l
theorem sumW_snoc (f : Cm → Nat) (c : Cm) : ∀ l : List Cm, sumW f (l ++ [c]) = sumW f l + f c
 | [] => by simp [sumW]
 | x :: l => by simp only [List.cons_append, sumW, sumW_snoc f c l]; omega
theorem sumW_le {f : Cm → Nat} {k : Nat} : ∀ {l : List Cm}, (∀ c, c ∈ l → f c ≤ k) → sumW f l ≤ k * l.length
 | [], _ => Nat.le_refl _
 | x :: l, h => by
  have h1 := sumW_le (l := l) fun c hc => h c (List.mem_cons_of_mem _ hc)
  have h2 := h x (List.mem_cons_self ..)
  simp only [sumW, List.length_cons, Nat.mul_succ]; omega
def kc1 (l : List Nat) : Cm → List Nat
 | .key k => l ++ [k]
 | .shut => []
 | _ => l
def kc (cs : List Cm) : List Nat := cs.foldl kc1 []
theorem kc_snoc (cs : List Cm) (c : Cm) : kc (cs ++ [c]) = kc1 (kc cs) c := by simp [kc]
def keyP (k : Nat) : Int × Bool := ((k : Int), true)
theorem getM_key : ∀ (l : List Nat) (k : Nat), getM false (l.map keyP) (k : Int) = decide (k ∈ l)
 | [], k => by simp [getM]
 | x :: l, k => by
  show (if ((x : Int) = (k : Int)) then true else getM false (l.map keyP) (k : Int)) = _
  by_cases e : x = k
  ·subst e; simp
  ·have : ¬ ((x : Int) = (k : Int)) := by omega
   rw [if_neg this, getM_key l k]
   have e' : ¬ k = x := fun q => e q.symm
   simp [e']
theorem putM_key : ∀ (l : List Nat) (k : Nat), k ∉ l → putM (l.map keyP) (k : Int) true = (l ++ [k]).map keyP
 | [], k, _ => rfl
 | x :: l, k, h => by
  have h1 : ¬ k = x := fun q => h (q ▸ List.mem_cons_self ..)
  have h2 : k ∉ l := fun q => h (List.mem_cons_of_mem _ q)
  show (if ((x : Int) = (k : Int)) then ((k : Int), true) :: l.map keyP else keyP x :: putM (l.map keyP) (k : Int) true) = keyP x :: (l ++ [k]).map keyP
  have : ¬ ((x : Int) = (k : Int)) := by omega
  rw [if_neg this, putM_key l k h2]
structure Good (b : Nat) (cs : List Cm) (n : Now) : Prop where
 bays : n.bays = (b : Int)
 came : n.came = (sumW wA cs : Int)
 st : n.chest + n.bond + n.spoilt + n.out = (sumW wS cs : Int)
 p1 : 0 ≤ n.chest
 p2 : 0 ≤ n.bond
 p3 : 0 ≤ n.spoilt
 p4 : 0 ≤ n.out
 p5 : 0 ≤ n.taken
 kil : sumK n.bales + n.taken = n.came
 bal : Bales b n.bales
 keys : n.keys = (kc cs).map keyP
 knd : (kc cs).Nodup
 year : n.year = (sumW wY cs : Int)
structure Did (b : Nat) (cs : List Cm) (n : Now) (c : Cm) (e : Int) (n' : Now) : Prop where
 good : e = 0 → Good b (cs ++ [c]) n'
 out : e = 0 → n'.out = n.out + (cond (isOut c) (numC c : Int) 0)
 outE : isOut c = true → (n.keys.length < 2 → e = 20) ∧ (2 ≤ n.keys.length → e = 0 ∨ e = 15)
 closeE : isClose c = true → (n.keys.length = 0 → e = 0) ∧ (n.keys.length ≠ 0 → e = 21)
theorem Did.no {b : Nat} {cs : List Cm} {n n' : Now} {c : Cm} {e : Int} (he : e ≠ 0) (h1 : isOut c = false) (h2 : isClose c = false) : Did b cs n c e n' :=
 ⟨fun q => absurd q he, fun q => absurd q he, fun q => (by rw [h1] at q; cases q), fun q => (by rw [h2] at q; cases q)⟩
theorem Did.yes {b : Nat} {cs : List Cm} {n n' : Now} {c : Cm} (hg : Good b (cs ++ [c]) n') (ho : n'.out = n.out) (h1 : isOut c = false) (h2 : isClose c = false) : Did b cs n c 0 n' :=
 ⟨fun _ => hg, fun _ => (by rw [h1, ho]; simp), fun q => (by rw [h1] at q; cases q), fun q => (by rw [h2] at q; cases q)⟩
theorem wA_le {b : Nat} {c : Cm} (h : okC b c = true) : wA c ≤ 40 := by
 cases c <;> simp only [wA] <;> try omega
 simp only [okC, Bool.and_eq_true, Nat.blt_eq] at h
 omega
theorem wS_le {b : Nat} {c : Cm} (h : okC b c = true) : wS c ≤ 40 := by
 cases c <;> simp only [wS] <;> try omega
 simp only [okC, Nat.blt_eq] at h
 omega
theorem wY_le (c : Cm) : wY c ≤ 40 := by cases c <;> simp only [wY] <;> omega
theorem free_at {b : Nat} (h1 : 1 ≤ b) (h8 : b ≤ 8) {l : List (ByteArray × Bl)} (hb : Bales b l) {v : Nat} (hv : v < b) : ∃ r, freeV 300 (b : Int) (l.map (fun p => p.2.2.1)) (v : Int) = some r ∧
 ((r.2 == 0) = false ∨ ((r.2 == 0) = true ∧ 0 ≤ r.1 ∧ r.1 < (b : Int) ∧ r.1 ∉ l.map (fun p => p.2.2.1))) := by
 obtain ⟨r, hr1, hr2⟩ := free_some h1 h8 hb.nd2 hb.range hv
 refine ⟨r, hr1, ?_⟩
 unfold firstB at hr2
 cases hz : (r.2 == 0) with
 | false => exact .inl rfl
 | true =>
  rw [hz, cond_true] at hr2
  simp only [Bool.and_eq_true, Bool.not_eq_true', decide_eq_true_eq, Nat.blt_eq] at hr2
  obtain ⟨_, q1, q2, q3, _⟩ := hr2
  exact .inr ⟨rfl, q1, by omega, not_in_contains q3⟩
theorem do_did {b : Nat} (h1 : 1 ≤ b) (h8 : b ≤ 8) {cs : List Cm} {n : Now} (hg : Good b cs n) (hl : cs.length ≤ 200) (ho : ∀ c, c ∈ cs → okC b c = true) {c : Cm} (hc : okC b c = true) (hu : isUndo c = false) :
 ∃ e n', doS 300 n (dC c) = some (e, n') ∧ Did b cs n c e n' := by
 have hA : sumW wA cs ≤ 40 * cs.length := sumW_le fun c hc => wA_le (ho c hc)
 have hS : sumW wS cs ≤ 40 * cs.length := sumW_le fun c hc => wS_le (ho c hc)
 have hY : sumW wY cs ≤ 40 * cs.length := sumW_le fun c _ => wY_le c
 have hA' : sumW wA (cs ++ [c]) = sumW wA cs + wA c := sumW_snoc _ _ _
 have hS' : sumW wS (cs ++ [c]) = sumW wS cs + wS c := sumW_snoc _ _ _
 have hY' : sumW wY (cs ++ [c]) = sumW wY cs + wY c := sumW_snoc _ _ _
 have hK' := kc_snoc cs c
 obtain ⟨g1, g2, g3, g4, g5, g6, g7, g8, g9, g10, g11, g12, g13⟩ := hg
 obtain ⟨bays, came, taken, chest, bond, spoilt, out, year, bales, keys⟩ := n
 simp only at g1 g2 g3 g4 g5 g6 g7 g8 g9 g10 g11 g12 g13
 subst g1
 have hpos := sumK_pos g10
 cases c with
 | undo => cases hu
 | arr w n0 v =>
  simp only [okC, Bool.and_eq_true, Nat.blt_eq] at hc
  obtain ⟨c1, c2, c3⟩ := hc
  unfold doS
  simp only [dC]
  rw [show decide (((1 + n0 : Nat) : Int) < 1) = false from decide_eq_false (by omega), show decide (((1 + n0 : Nat) : Int) > 999) = false from decide_eq_false (by omega), cond_false, cond_false]
  cases hh : hasS bales (nmB w) with
  | true => exact ⟨6, _, rfl, .no (by decide) rfl rfl⟩
  | false =>
   obtain ⟨r, hr, hr2⟩ := free_at h1 h8 g10 c3
   rw [cond_false, hr]
   simp only [Option.bind_some]
   rcases hr2 with hz | ⟨hz, r1, r2, r3⟩
   ·rw [hz, cond_false]
    exact ⟨_, _, rfl, .no (by simpa using hz) rfl rfl⟩
   ·rw [hz, cond_true]
    have e0 : r.2 = 0 := by simpa using hz
    rw [e0]
    refine ⟨_, _, rfl, .yes ?_ rfl rfl rfl⟩
    have hp := putS_perm (nmB w, r.1, ((1 + n0 : Nat) : Int)) bales (nmB w)
    rw [delS_not hh] at hp
    have hw : w64 (came + ((1 + n0 : Nat) : Int)) = came + ((1 + n0 : Nat) : Int) := w64_in (by omega) (by omega)
    refine ⟨rfl, ?_, ?_, g4, g5, g6, g7, g8, ?_, ?_, ?_, ?_, ?_⟩
    ·show w64 _ = _
     rw [hw, hA']; simp only [wA]; omega
    ·rw [hS']; simp only [wS]; omega
    ·show sumK (putS _ _ _) + taken = w64 _
     rw [sumK_perm hp, hw]; simp only [sumK]; omega
    ·exact (g10.cons (p := (nmB w, nmB w, r.1, ((1 + n0 : Nat) : Int))) ⟨rfl, ⟨w, c1, rfl⟩, r1, r2, by show 1 ≤ ((1 + n0 : Nat) : Int); omega⟩ (hasS_not hh) r3).perm hp.symm
    ·rw [hK']; exact g11
    ·rw [hK']; exact g12
    ·rw [hY']; simp only [wY]; omega
 | mov w v =>
  simp only [okC, Bool.and_eq_true, Nat.blt_eq] at hc
  obtain ⟨c1, c3⟩ := hc
  unfold doS
  simp only [dC]
  cases hh : hasS bales (nmB w) with
  | false => exact ⟨8, _, rfl, .no (by decide) rfl rfl⟩
  | true =>
   rw [Bool.not_true, cond_false]
   have hp := has_perm ((bs []), 0, 0) hh
   have hq := (g10.perm hp).tail
   obtain ⟨q1, q2, q3, q4⟩ := hq
   obtain ⟨r, hr, hr2⟩ := free_at h1 h8 q1 c3
   rw [hr]
   simp only [Option.bind_some]
   rcases hr2 with hz | ⟨hz, r1, r2, r3⟩
   ·exact ⟨_, _, rfl, .no (by simpa using hz) rfl rfl⟩
   ·have e0 : r.2 = 0 := by simpa using hz
    rw [e0]
    refine ⟨_, _, rfl, .yes ?_ rfl rfl rfl⟩
    have hnh : hasS (delS bales (nmB w)) (nmB w) = false := by
     cases hx : hasS (delS bales (nmB w)) (nmB w) with
     | false => rfl
     | true => exact absurd (hasS_iff.1 hx) q3
    have hp2 := putS_perm ((getS ((bs []), 0, 0) bales (nmB w)).1, r.1, (getS ((bs []), 0, 0) bales (nmB w)).2.2) (delS bales (nmB w)) (nmB w)
    rw [delS_not hnh] at hp2
    have hs := sumK_perm hp
    simp only [sumK] at hs
    refine ⟨rfl, ?_, ?_, g4, g5, g6, g7, g8, ?_, ?_, ?_, ?_, ?_⟩
    ·rw [hA']; simp only [wA]; omega
    ·rw [hS']; simp only [wS]; omega
    ·show sumK (putS _ _ _) + taken = came
     rw [sumK_perm hp2]; simp only [sumK]; omega
    ·exact (q1.cons (p := (nmB w, (getS ((bs []), 0, 0) bales (nmB w)).1, r.1, (getS ((bs []), 0, 0) bales (nmB w)).2.2)) ⟨q2.name, ⟨w, c1, rfl⟩, r1, r2, q2.kil⟩ q3 r3).perm hp2.symm
    ·rw [hK']; exact g11
    ·rw [hK']; exact g12
    ·rw [hY']; simp only [wY]; omega
 | tak w n0 =>
  simp only [okC, Bool.and_eq_true, Nat.blt_eq] at hc
  obtain ⟨c1, c2⟩ := hc
  unfold doS
  simp only [dC]
  cases hh : hasS bales (nmB w) with
  | false => exact ⟨8, _, rfl, .no (by decide) rfl rfl⟩
  | true =>
   rw [show decide (((1 + n0 : Nat) : Int) < 1) = false from decide_eq_false (by omega), show decide (((1 + n0 : Nat) : Int) > 999) = false from decide_eq_false (by omega), Bool.not_true, cond_false, cond_false, cond_false]
   have hp := has_perm ((bs []), 0, 0) hh
   obtain ⟨q1, q2, q3, q4⟩ := (g10.perm hp).tail
   have hs := sumK_perm hp
   simp only [sumK] at hs
   have hps := sumK_pos q1
   generalize hG : getS ((bs []), 0, 0) bales (nmB w) = G at *
   obtain ⟨G1, G2, G3⟩ := G
   simp only at hs q2 q4 ⊢
   by_cases hk : ((1 + n0 : Nat) : Int) > G3
   ·rw [decide_eq_true hk]; exact ⟨15, _, rfl, .no (by decide) rfl rfl⟩
   ·rw [decide_eq_false hk, cond_false]
    have hw : w64 (G3 - ((1 + n0 : Nat) : Int)) = G3 - ((1 + n0 : Nat) : Int) := w64_in (by omega) (by omega)
    have hw2 : w64 (taken + ((1 + n0 : Nat) : Int)) = taken + ((1 + n0 : Nat) : Int) := w64_in (by omega) (by omega)
    rw [hw, hw2]
    by_cases hz : G3 - ((1 + n0 : Nat) : Int) = 0
    ·rw [show (G3 - ((1 + n0 : Nat) : Int) == 0) = true by simpa using hz, cond_true]
     refine ⟨_, _, rfl, .yes ?_ rfl rfl rfl⟩
     rw [delS_put]
     refine ⟨rfl, ?_, ?_, g4, g5, g6, g7, ?_, ?_, q1, ?_, ?_, ?_⟩
     ·rw [hA']; simp only [wA]; omega
     ·rw [hS']; simp only [wS]; omega
     ·show 0 ≤ taken + _; omega
     ·show sumK (delS _ _) + (taken + _) = came; omega
     ·rw [hK']; exact g11
     ·rw [hK']; exact g12
     ·rw [hY']; simp only [wY]; omega
    ·rw [show (G3 - ((1 + n0 : Nat) : Int) == 0) = false by simpa using hz, cond_false]
     refine ⟨_, _, rfl, .yes ?_ rfl rfl rfl⟩
     have hp2 := putS_perm (G1, G2, G3 - ((1 + n0 : Nat) : Int)) bales (nmB w)
     refine ⟨rfl, ?_, ?_, g4, g5, g6, g7, ?_, ?_, ?_, ?_, ?_, ?_⟩
     ·rw [hA']; simp only [wA]; omega
     ·rw [hS']; simp only [wS]; omega
     ·show 0 ≤ taken + _; omega
     ·show sumK (putS _ _ _) + (taken + _) = came
      rw [sumK_perm hp2]; simp only [sumK]; omega
     ·exact (q1.cons (p := (nmB w, G1, G2, G3 - ((1 + n0 : Nat) : Int))) ⟨q2.name, ⟨w, c1, rfl⟩, q2.lo, q2.hi, by show 1 ≤ G3 - _; omega⟩ q3 q4).perm hp2.symm
     ·rw [hK']; exact g11
     ·rw [hK']; exact g12
     ·rw [hY']; simp only [wY]; omega
 | cnt w n0 =>
  unfold doS
  simp only [dC]
  cases hh : hasS bales (nmB w) with
  | false => exact ⟨8, _, rfl, .no (by decide) rfl rfl⟩
  | true =>
   rw [Bool.not_true, cond_false]
   cases hz : ((getS ((bs []), 0, 0) bales (nmB w)).2.2 != ((1 + n0 : Nat) : Int)) with
   | true => exact ⟨17, _, rfl, .no (by decide) rfl rfl⟩
   | false =>
    refine ⟨_, _, rfl, .yes ⟨rfl, ?_, ?_, g4, g5, g6, g7, g8, g9, g10, ?_, ?_, ?_⟩ rfl rfl rfl⟩
    ·rw [hA']; simp only [wA]; omega
    ·rw [hS']; simp only [wS]; omega
    ·rw [hK']; exact g11
    ·rw [hK']; exact g12
    ·rw [hY']; simp only [wY]; omega
 | sup n0 =>
  simp only [okC, Nat.blt_eq] at hc
  unfold doS
  simp only [dC]
  rw [show (((1 + n0 : Nat) : Int) == 0) = false by simp; omega, cond_false]
  have hw : w64 (chest + ((1 + n0 : Nat) : Int)) = chest + ((1 + n0 : Nat) : Int) := w64_in (by omega) (by omega)
  rw [hw]
  refine ⟨_, _, rfl, .yes ⟨rfl, ?_, ?_, ?_, g5, g6, g7, g8, g9, g10, ?_, ?_, ?_⟩ rfl rfl rfl⟩
  ·rw [hA']; simp only [wA]; omega
  ·rw [hS']; simp only [wS]; omega
  ·show 0 ≤ chest + _; omega
  ·rw [hK']; exact g11
  ·rw [hK']; exact g12
  ·rw [hY']; simp only [wY]; omega
 | ban n0 =>
  simp only [okC, Nat.blt_eq] at hc
  unfold doS
  simp only [dC]
  rw [show (((1 + n0 : Nat) : Int) == 0) = false by simp; omega, cond_false]
  have hw : w64 (chest - ((1 + n0 : Nat) : Int)) = chest - ((1 + n0 : Nat) : Int) := w64_in (by omega) (by omega)
  have hw2 : w64 (bond + ((1 + n0 : Nat) : Int)) = bond + ((1 + n0 : Nat) : Int) := w64_in (by omega) (by omega)
  rw [hw, hw2]
  by_cases hz : chest - ((1 + n0 : Nat) : Int) < 0
  ·rw [decide_eq_true hz]; exact ⟨15, _, rfl, .no (by decide) rfl rfl⟩
  ·rw [decide_eq_false hz, cond_false]
   refine ⟨_, _, rfl, .yes ⟨rfl, ?_, ?_, ?_, ?_, g6, g7, g8, g9, g10, ?_, ?_, ?_⟩ rfl rfl rfl⟩
   ·rw [hA']; simp only [wA]; omega
   ·rw [hS']; simp only [wS]; omega
   ·show 0 ≤ chest - _; omega
   ·show 0 ≤ bond + _; omega
   ·rw [hK']; exact g11
   ·rw [hK']; exact g12
   ·rw [hY']; simp only [wY]; omega
 | spo n0 =>
  simp only [okC, Nat.blt_eq] at hc
  unfold doS
  simp only [dC]
  rw [show (((1 + n0 : Nat) : Int) == 0) = false by simp; omega, cond_false]
  have hw : w64 (chest - ((1 + n0 : Nat) : Int)) = chest - ((1 + n0 : Nat) : Int) := w64_in (by omega) (by omega)
  have hw2 : w64 (spoilt + ((1 + n0 : Nat) : Int)) = spoilt + ((1 + n0 : Nat) : Int) := w64_in (by omega) (by omega)
  rw [hw, hw2]
  by_cases hz : chest - ((1 + n0 : Nat) : Int) < 0
  ·rw [decide_eq_true hz]; exact ⟨15, _, rfl, .no (by decide) rfl rfl⟩
  ·rw [decide_eq_false hz, cond_false]
   refine ⟨_, _, rfl, .yes ⟨rfl, ?_, ?_, ?_, g5, ?_, g7, g8, g9, g10, ?_, ?_, ?_⟩ rfl rfl rfl⟩
   ·rw [hA']; simp only [wA]; omega
   ·rw [hS']; simp only [wS]; omega
   ·show 0 ≤ chest - _; omega
   ·show 0 ≤ spoilt + _; omega
   ·rw [hK']; exact g11
   ·rw [hK']; exact g12
   ·rw [hY']; simp only [wY]; omega
 | key k =>
  simp only [okC, Nat.blt_eq] at hc
  unfold doS
  simp only [dC]
  rw [show decide ((k : Int) ≥ 3) = false from decide_eq_false (by omega), cond_false, g11, getM_key]
  by_cases hk : k ∈ kc cs
  ·rw [decide_eq_true hk]; exact ⟨6, _, rfl, .no (by decide) rfl rfl⟩
  ·rw [decide_eq_false hk, cond_false, putM_key _ _ hk]
   refine ⟨_, _, rfl, .yes ⟨rfl, ?_, ?_, g4, g5, g6, g7, g8, g9, g10, ?_, ?_, ?_⟩ rfl rfl rfl⟩
   ·rw [hA']; simp only [wA]; omega
   ·rw [hS']; simp only [wS]; omega
   ·rw [hK']; rfl
   ·rw [hK']
    exact List.nodup_append.2 ⟨g12, by simp, fun a ha b hb e => by
     rw [List.mem_singleton.1 hb] at e; exact hk (e ▸ ha)⟩
   ·rw [hY']; simp only [wY]; omega
 | out n0 =>
  simp only [okC, Nat.blt_eq] at hc
  unfold doS
  simp only [dC]
  rw [show (((1 + n0 : Nat) : Int) == 0) = false by simp; omega, show decide (((1 + n0 : Nat) : Int) > 0) = true from decide_eq_true (by omega), cond_true, cond_false]
  have hw : w64 (bond - ((1 + n0 : Nat) : Int)) = bond - ((1 + n0 : Nat) : Int) := w64_in (by omega) (by omega)
  have hw2 : w64 (out + ((1 + n0 : Nat) : Int)) = out + ((1 + n0 : Nat) : Int) := w64_in (by omega) (by omega)
  rw [hw, hw2]
  by_cases hk : ((keys.length : Nat) : Int) < 2
  ·rw [decide_eq_true hk]
   exact ⟨20, _, rfl, ⟨fun q => (by cases q), fun q => (by cases q), fun _ => ⟨fun _ => rfl, fun q => (by simp only at q; omega)⟩, fun q => (by cases q)⟩⟩
  ·rw [decide_eq_false hk, cond_false]
   by_cases hz : bond - ((1 + n0 : Nat) : Int) < 0
   ·rw [decide_eq_true hz]
    exact ⟨15, _, rfl, ⟨fun q => (by cases q), fun q => (by cases q), fun _ => ⟨fun q => (by simp only at q; omega), fun _ => .inr rfl⟩, fun q => (by cases q)⟩⟩
   ·rw [decide_eq_false hz, cond_false]
    refine ⟨_, _, rfl, ⟨fun _ => ⟨rfl, ?_, ?_, g4, ?_, g6, ?_, g8, g9, g10, ?_, ?_, ?_⟩, fun _ => rfl, fun _ => ⟨fun q => (by simp only at q; omega), fun _ => .inl rfl⟩, fun q => (by cases q)⟩⟩
    ·rw [hA']; simp only [wA]; omega
    ·rw [hS']; simp only [wS]; omega
    ·show 0 ≤ bond - _; omega
    ·show 0 ≤ out + _; omega
    ·rw [hK']; exact g11
    ·rw [hK']; exact g12
    ·rw [hY']; simp only [wY]; omega
 | shut =>
  unfold doS
  simp only [dC]
  by_cases hk : ((keys.length : Nat) : Int) = 0
  ·rw [show (((keys.length : Nat) : Int) == 0) = true by simpa using hk]
   exact ⟨20, _, rfl, .no (by decide) rfl rfl⟩
  ·rw [show (((keys.length : Nat) : Int) == 0) = false by simpa using hk, cond_false]
   refine ⟨_, _, rfl, .yes ⟨rfl, ?_, ?_, g4, g5, g6, g7, g8, g9, g10, ?_, ?_, ?_⟩ rfl rfl rfl⟩
   ·rw [hA']; simp only [wA]; omega
   ·rw [hS']; simp only [wS]; omega
   ·rw [hK']; rfl
   ·rw [hK']; exact List.nodup_nil
   ·rw [hY']; simp only [wY]; omega
 | close =>
  unfold doS
  simp only [dC]
  by_cases hk : ((keys.length : Nat) : Int) > 0
  ·rw [decide_eq_true hk]
   exact ⟨21, _, rfl, ⟨fun q => (by cases q), fun q => (by cases q), fun q => (by cases q), fun _ => ⟨fun q => (by simp only at q; omega), fun _ => rfl⟩⟩⟩
  ·rw [decide_eq_false hk, cond_false]
   have hw : w64 (year + 1) = year + 1 := w64_in (by omega) (by omega)
   rw [hw]
   refine ⟨_, _, rfl, ⟨fun _ => ⟨rfl, ?_, ?_, g4, g5, g6, g7, g8, g9, g10, ?_, ?_, ?_⟩, fun _ => (by simp [isOut]), fun q => (by cases q), fun _ => ⟨fun _ => rfl, fun q => (by simp only at q; omega)⟩⟩⟩
   ·rw [hA']; simp only [wA]; omega
   ·rw [hS']; simp only [wS]; omega
   ·rw [hK']; exact g11
   ·rw [hK']; exact g12
   ·rw [hY']; simp only [wY]; omega
structure Inv (b : Nat) (cs : List Cm) (s : BkS) : Prop where
 lines : s.lines = cs.map lnC
 ok : ∀ c, c ∈ cs → okC b c = true
 nu : ∀ c, c ∈ cs → isUndo c = false
 now : Good b cs s.now
 len : s.before.length = cs.length
 bef : ∀ i n, s.before[i]? = some n → Good b (cs.take i) n
structure Tells (b : Nat) (cs : List Cm) (s : BkS) (c : Cm) (e : Int) (s' : BkS) : Prop where
 und0 : isUndo c = true → cs = [] → e = 4 ∧ s' = s
 und1 : isUndo c = true → cs ≠ [] → e = 0 ∧ Inv b cs.dropLast s'
 no : isUndo c = false → e ≠ 0 → s' = s
 yes : isUndo c = false → e = 0 → Inv b (cs ++ [c]) s'
 did : isUndo c = false → ∃ n', Did b cs s.now c e n' ∧ (e = 0 → s'.now = n')
theorem Inv.new (b : Nat) : Inv b [] (newS (b : Int)) :=
 ⟨rfl, fun c q => (by cases q), fun c q => (by cases q), ⟨rfl, rfl, rfl, Int.le_refl _, Int.le_refl _, Int.le_refl _, Int.le_refl _, Int.le_refl _, rfl, Bales.nil b, rfl, List.nodup_nil, rfl⟩, rfl, fun i n q => (by simp [newS] at q)⟩
theorem line_deed {b : Nat} (h8 : b ≤ 8) {c : Cm} (h : okC b c = true) : f53 300 (lnC c) = some (dC c) := by
 have := line_ok h8 h
 unfold lineOk at this
 simp only [Bool.and_eq_true] at this
 have h1 := this.1
 split at h1
 ·rename_i d hd; rw [hd, eqD_eq h1]
 ·cases h1
theorem tell_inv {b : Nat} (h1 : 1 ≤ b) (h8 : b ≤ 8) {cs : List Cm} {s : BkS} (hI : Inv b cs s) (hl : cs.length < 200) {c : Cm} (hc : okC b c = true) :
 ∃ e s', tellS 300 s (lnC c) = some (e, s') ∧ Tells b cs s c e s' := by
 have hb : (s.now.bays == 0) = false := by
  rw [hI.now.bays]
  have : ((b : Int)) ≠ 0 := by omega
  simpa using this
 have hlen : s.lines.length = cs.length := by rw [hI.lines, List.length_map]
 cases hu : isUndo c with
 | true =>
  unfold tellS
  rw [hb, cond_false, line_deed h8 hc]
  have hd : dC c = .undo := by cases c <;> first | rfl | cases hu
  rw [hd]
  simp only [Option.bind_some]
  unfold undoS
  rw [hlen]
  rcases List.eq_nil_or_concat cs with hn | ⟨cs', x, hx⟩
  ·subst hn
   exact ⟨4, s, rfl, fun _ _ => ⟨rfl, rfl⟩, fun _ q => absurd rfl q, fun q => (by cases hu.symm.trans q), fun q => (by cases hu.symm.trans q), fun q => (by cases hu.symm.trans q)⟩
  ·have hx : cs = cs' ++ [x] := by simpa using hx
   subst hx
   have e0 : ((((cs' ++ [x]).length : Nat) : Int) == 0) = false := by simp; omega
   have e1 : (Nat.ble (cs' ++ [x]).length 1000000 && Nat.beq s.before.length (cs' ++ [x]).length) = true := by
    rw [Bool.and_eq_true, Nat.ble_eq, Nat.beq_eq]
    exact ⟨by omega, hI.len⟩
   rw [e0, e1, cond_false, cond_true]
   refine ⟨_, _, rfl, fun _ q => (by simp at q), fun _ _ => ⟨rfl, ?_⟩, fun q => (by cases hu.symm.trans q), fun q => (by cases hu.symm.trans q), fun q => (by cases hu.symm.trans q)⟩
   have hbl : s.before.length = cs'.length + 1 := by rw [hI.len]; simp
   rw [List.dropLast_concat]
   refine ⟨?_, fun c q => hI.ok c (List.mem_append_left _ q), fun c q => hI.nu c (List.mem_append_left _ q), ?_, ?_, fun i n q => ?_⟩
   ·show s.lines.dropLast = _
    rw [hI.lines, List.map_append, List.map_singleton, List.dropLast_concat]
   ·have hg : s.before[cs'.length]? = some (s.before[cs'.length]'(by omega)) := List.getElem?_eq_getElem (by omega)
    have := hI.bef cs'.length _ hg
    rw [List.take_left' rfl] at this
    show Good b cs' (s.before.getLast?.getD s.now)
    rw [List.getLast?_eq_getElem?, hbl, Nat.add_sub_cancel, hg]
    exact this
   ·show s.before.dropLast.length = _
    rw [List.length_dropLast, hbl]; rfl
   ·have q : s.before.dropLast[i]? = some n := q
    have hi : i < s.before.dropLast.length := (List.getElem?_eq_some_iff.1 q).1
    have hi2 : i < cs'.length := by rw [List.length_dropLast, hbl] at hi; omega
    have q2 : s.before[i]? = some n := by
     rw [← q, List.getElem?_dropLast, if_pos (by omega)]
    have := hI.bef i n q2
    rw [List.take_append_of_le_length (by omega)] at this
    exact this
 | false =>
  obtain ⟨e, n', hd, hdid⟩ := do_did h1 h8 hI.now (by omega) hI.ok hc hu
  have hs : tellS 300 s (lnC c) = someS 300 s (lnC c) (dC c) := by
   unfold tellS
   rw [hb, cond_false, line_deed h8 hc]
   cases c <;> first | rfl | cases hu
  rw [hs]
  unfold someS
  have e0 : (((s.lines.length : Nat) : Int) == 200) = false := by
   rw [hlen]
   have : ((cs.length : Nat) : Int) ≠ 200 := by omega
   simpa using this
  rw [e0, cond_false, hd, Option.bind_some]
  unfold endN
  by_cases he : e = 0
  ·subst he
   have f1 : fitsB (s.before.length + 1) 80 = true := by
    unfold fitsB; rw [Bool.and_eq_true, Nat.ble_eq, Nat.ble_eq, hI.len]; omega
   have f2 : fitsB (s.lines.length + 1) 16 = true := by
    unfold fitsB; rw [Bool.and_eq_true, Nat.ble_eq, Nat.ble_eq, hlen]; omega
   rw [show ((0 : Int) != 0) = false from rfl, f1, f2, cond_false, cond_true, cond_true]
   refine ⟨_, _, rfl, fun q => (by cases hu.symm.trans q), fun q => (by cases hu.symm.trans q), fun _ q => absurd rfl q, fun _ _ => ?_, fun _ => ⟨n', hdid, fun _ => rfl⟩⟩
   refine ⟨?_, fun x q => ?_, fun x q => ?_, hdid.good rfl, ?_, fun i n q => ?_⟩
   ·show s.lines ++ [lnC c] = _
    rw [hI.lines, List.map_append]; rfl
   ·rcases List.mem_append.1 q with q | q
    ·exact hI.ok x q
    ·rw [List.mem_singleton.1 q]; exact hc
   ·rcases List.mem_append.1 q with q | q
    ·exact hI.nu x q
    ·rw [List.mem_singleton.1 q]; exact hu
   ·show (s.before ++ [s.now]).length = _
    rw [List.length_append, List.length_append, hI.len]; rfl
   ·have q : (s.before ++ [s.now])[i]? = some n := q
    by_cases hi : i < s.before.length
    ·rw [List.getElem?_append_left hi] at q
     have := hI.bef i n q
     rw [List.take_append_of_le_length (by rw [hI.len] at hi; omega)]
     exact this
    ·rw [List.getElem?_append_right (by omega)] at q
     have h0 : i - s.before.length = 0 := by
      have := (List.getElem?_eq_some_iff.1 q).1
      simp only [List.length_singleton] at this
      omega
     have hi' : i = cs.length := by rw [← hI.len]; omega
     rw [h0] at q
     cases q
     rw [hi', List.take_left' rfl]
     exact hI.now
  ·have hne : (e != 0) = true := by simpa using he
   rw [hne, cond_true]
   exact ⟨_, _, rfl, fun q => (by cases hu.symm.trans q), fun q => (by cases hu.symm.trans q), fun _ _ => rfl, fun _ q => absurd q he, fun _ => ⟨n', hdid, fun q => absurd q he⟩⟩
theorem w64_succ {n : Nat} (h : n ≤ 1000000) : w64 ((n : Int) + 1) = ((n + 1 : Nat) : Int) := w64_in (by omega) (by omega)
theorem inRow_nat {i n : Nat} (h : i < n) : inRow (i : Int) n = true := inRow_iff.2 ⟨by omega, by omega⟩
theorem getD_get {α : Type} {l : List α} {i : Nat} (h : i < l.length) (d : α) : l.getD i d = l[i] := by
 rw [List.getD_eq_getElem?_getD, List.getElem?_eq_getElem h]; rfl
theorem bays_w {A : Nat} (hA : A < 256) : w64 (1 + Int.tmod (w64 (A : Int)) 8) = ((1 + A % 8 : Nat) : Int) := by
 rw [w64_small hA]
 have e : Int.tmod (A : Int) 8 = ((A % 8 : Nat) : Int) := rfl
 rw [e]
 exact w64_in (by omega) (by omega)
theorem f37_1_run (m : Nat) {A : Nat} (hA : A < 256) {ds : List (Int × Int × Int × Int)} (hd : ∀ z ∈ ds, u8q z) {n : Nat} (hn : n ≤ ds.length) (h40 : n ≤ 40) :
 ∀ (k i fuel : Nat) (cs : List Cm), i + k = n → k < fuel → cs.length = i → (∀ c, c ∈ cs → okC (1 + A % 8) c = true) →
  ∃ cs' : List Cm, f37_1 m fuel (A : Int) ds true n (n : Int) (i : Int) (cs.map lnC) = some (cs'.map lnC) ∧ cs'.length = n ∧ ∀ c, c ∈ cs' → okC (1 + A % 8) c = true
 | _, _, 0, _, _, h, _, _ => by omega
 | 0, i, fuel + 1, cs, hi, _, hc, ho => by
  obtain rfl : i = n := by omega
  unfold f37_1
  rw [show decide ((i : Int) < (i : Int)) = false from decide_eq_false (by omega)]
  exact ⟨cs, rfl, hc, ho⟩
 | k + 1, i, fuel + 1, cs, hi, hf, hc, ho => by
  have hin : i < n := by omega
  have hid : i < ds.length := by omega
  obtain ⟨z1, z2, z3, z4⟩ := hd _ (List.getElem_mem hid)
  obtain ⟨K, k1, k2⟩ := lit_u8 z1
  obtain ⟨W, w1, w2⟩ := lit_u8 z2
  obtain ⟨N, n1, n2⟩ := lit_u8 z3
  obtain ⟨V, v1, v2⟩ := lit_u8 z4
  obtain ⟨c, c1, c2⟩ := f78_cm (m := m) k1 w1 n1 v1 (b := 1 + A % 8) (by omega) (by omega)
  unfold f37_1
  have ht : Int.toNat (i : Int) = i := rfl
  rw [show decide ((i : Int) < (n : Int)) = true from decide_eq_true (by omega), inRow_nat hin, ht, decide_eq_true hid, getD_get hid, bays_w hA, k2, w2, n2, v2, c2]
  simp only [cond_true, Option.isSome_some, Option.getD_some]
  have f1 : fitsB ((cs.map lnC).length + 1) 16 = true := by
   unfold fitsB; rw [Bool.and_eq_true, Nat.ble_eq, Nat.ble_eq, List.length_map, hc]; omega
  rw [f1, w64_succ (by omega)]
  have e : cs.map lnC ++ [lnC c] = (cs ++ [c]).map lnC := by simp
  rw [cond_true, e]
  exact f37_1_run m hA hd hn h40 k (i + 1) fuel (cs ++ [c]) (by omega) (by omega) (by simp [hc]) fun x q => by
   rcases List.mem_append.1 q with q | q
   ·exact ho x q
   ·rw [List.mem_singleton.1 q]; exact c1
theorem f37_run {m : Nat} (hm : 41 ≤ m) {A : Nat} (hA : A < 256) {ds : List (Int × Int × Int × Int)} (hd : ∀ z ∈ ds, u8q z) :
 ∃ cs : List Cm, f37 m (A : Int) ds true = some (cs.map lnC) ∧ cs.length ≤ 40 ∧ ∀ c, c ∈ cs → okC (1 + A % 8) c = true := by
 obtain ⟨n, hn, hn2, hn3⟩ : ∃ n : Nat, iMin ((ds.length : Nat) : Int) 40 = (n : Int) ∧ n ≤ ds.length ∧ n ≤ 40 := by
  unfold iMin
  split
  ·exact ⟨40, rfl, by omega, by omega⟩
  ·exact ⟨ds.length, rfl, by omega, by omega⟩
 obtain ⟨cs, c1, c2, c3⟩ := f37_1_run m hA hd hn2 hn3 n 0 m [] (by omega) (by omega) rfl (fun c q => by cases q)
 refine ⟨cs, ?_, by omega, c3⟩
 unfold f37
 rw [hn]
 have i1 : cutOK 0 (n : Int) ((ds.length : Nat) : Int) ds.length = true := by
  simp only [cutOK, Bool.and_eq_true, decide_eq_true_eq]
  omega
 have ht : Int.toNat (n : Int) = n := rfl
 rw [i1, cond_true, ht]
 have c1 : f37_1 m m (A : Int) ds true n (n : Int) 0 [] = some (cs.map lnC) := c1
 rw [c1]; rfl
theorem Inv.bays0 {b : Nat} (h1 : 1 ≤ b) {cs : List Cm} {s : BkS} (h : Inv b cs s) : (s.now.bays == 0) = false := by
 rw [h.now.bays]
 have : ((b : Int)) ≠ 0 := by omega
 simpa using this
theorem Inv.linesS {b : Nat} (h1 : 1 ≤ b) {cs : List Cm} {s : BkS} (h : Inv b cs s) (hl : cs.length ≤ 200) (m : Nat) : Go.Xm.linesS m s = some (cs.map lnC) := by
 unfold Go.Xm.linesS
 rw [h.bays0 h1, cond_false, h.lines]
 have f1 : fitsB (cs.map lnC).length 16 = true := by
  unfold fitsB; rw [Bool.and_eq_true, Nat.ble_eq, Nat.ble_eq, List.length_map]; omega
 rw [f1]; rfl
theorem Inv.keysS {b : Nat} (h1 : 1 ≤ b) {cs : List Cm} {s : BkS} (h : Inv b cs s) (m : Nat) (hl : (kc cs).length ≤ 1000000) : Go.Xm.keysS m s = some (sortI ((kc cs).map fun k : Nat => (k : Int))) := by
 unfold Go.Xm.keysS
 rw [h.bays0 h1, cond_false, h.now.keys]
 have : Nat.ble ((kc cs).map keyP).length 1000000 = true := by rw [Nat.ble_eq, List.length_map]; exact hl
 rw [this, cond_true, List.map_map]; rfl
def sumL : List Bl → Int
 | [] => 0
 | x :: l => x.2.2 + sumL l
theorem sumL_perm {l l' : List Bl} (h : l.Perm l') : sumL l = sumL l' := by
 induction h with
 | nil => rfl
 | cons x _ ih => simp only [sumL, ih]
 | swap x y l => simp only [sumL]; omega
 | trans _ _ h1 h2 => rw [h1, h2]
theorem sumL_map : ∀ l : List (ByteArray × Bl), sumL (l.map (·.2)) = sumK l
 | [] => rfl
 | p :: l => by simp only [List.map_cons, sumL, sumK, sumL_map l]
structure Row (b : Nat) (s : BkS) (R : List Bl) : Prop where
 perm : R.Perm (s.now.bales.map (·.2))
 asc : R.Pairwise (fun x y => x.2.1 < y.2.1)
 nd : (R.map (·.1)).Nodup
 all : ∀ z, z ∈ R → 0 ≤ z.2.1 ∧ z.2.1 < (b : Int) ∧ 1 ≤ z.2.2
 len : R.length ≤ b
 sum : sumL R = sumK s.now.bales
theorem Inv.balesS {b : Nat} (h1 : 1 ≤ b) (h8 : b ≤ 8) {cs : List Cm} {s : BkS} (h : Inv b cs s) {m : Nat} (hm : 20 ≤ m) : ∃ R, Go.Xm.balesS m s = some R ∧ Row b s R := by
 have hb := h.now.bal
 have hbay : (s.now.bales.map (·.2)).map (fun x => x.2.1) = s.now.bales.map (fun p => p.2.2.1) := by rw [List.map_map]; rfl
 have hnm : (s.now.bales.map (·.2)).map (·.1) = s.now.bales.map Prod.fst := by
  rw [List.map_map]
  exact List.map_congr_left fun p hp => (hb.all p hp).name
 have hlen : s.now.bales.length ≤ b := by
  have := nodup_lenB b _ hb.nd2 hb.range
  rwa [List.length_map] at this
 have hnd := hb.nd2
 rw [← hbay] at hnd
 have hp := sortB_perm (s.now.bales.map (·.2))
 refine ⟨sortB (s.now.bales.map (·.2)), ?_, hp, ?_, ?_, ?_, ?_, ?_⟩
 ·unfold Go.Xm.balesS
  rw [h.bays0 h1, cond_false]
  have : (Nat.ble 20 m && okL (s.now.bales.map (·.2))) = true := by
   simp only [okL, okBays, Bool.and_eq_true, Nat.ble_eq, List.all_eq_true, decide_eq_true_eq, List.length_map]
   refine ⟨hm, by omega, fun x hx => ?_, hnd⟩
   rw [hbay] at hx
   have := hb.range x hx
   omega
  rw [this]; rfl
 ·have h2 := sortB_asc (s.now.bales.map (·.2))
  have h3 : ((sortB (s.now.bales.map (·.2))).map (fun x => x.2.1)).Nodup := (hp.map _).nodup_iff.2 hnd
  rw [List.nodup_iff_pairwise_ne, List.pairwise_map] at h3
  exact (h2.and h3).imp fun q => by
   have q1 := q.1
   have q2 := q.2
   show _ < _
   have q1 : _ ≤ _ := q1
   omega
 ·exact (hp.map _).nodup_iff.2 (hnm ▸ hb.nd1)
 ·intro z hz
  obtain ⟨p, hp1, rfl⟩ := List.mem_map.1 (hp.mem_iff.1 hz)
  have := hb.all p hp1
  exact ⟨this.lo, this.hi, this.kil⟩
 ·rw [hp.length_eq, List.length_map]; exact hlen
 ·rw [sumL_perm hp, sumL_map]
theorem Tells.inv {b : Nat} {cs : List Cm} {s s' : BkS} {c : Cm} {e : Int} (hI : Inv b cs s) (h : Tells b cs s c e s') : ∃ cs', Inv b cs' s' ∧ cs'.length ≤ cs.length + 1 := by
 cases hu : isUndo c with
 | true =>
  by_cases hn : cs = []
  ·obtain ⟨_, rfl⟩ := h.und0 hu hn; exact ⟨cs, hI, by omega⟩
  ·exact ⟨_, (h.und1 hu hn).2, by rw [List.length_dropLast]; omega⟩
 | false =>
  by_cases he : e = 0
  ·exact ⟨_, h.yes hu he, by simp⟩
  ·have := h.no hu he
   subst this
   exact ⟨cs, hI, by omega⟩
theorem kc_len : ∀ cs : List Cm, (kc cs).length ≤ cs.length := by
 have key : ∀ (cs : List Cm) (l : List Nat), (cs.foldl kc1 l).length ≤ l.length + cs.length := by
  intro cs
  induction cs with
  | nil => intro l; exact Nat.le_refl _
  | cons c cs ih =>
   intro l
   have := ih (kc1 l c)
   have h2 : (kc1 l c).length ≤ l.length + 1 := by cases c <;> simp [kc1]
   simp only [List.foldl_cons, List.length_cons]; omega
 intro cs
 have := key cs []
 simpa [kc] using this
theorem encD_plain (l : List (Int × Int × Int × Int)) : (rowC encD l).all plain = true := by
 induction l with
 | nil => rfl
 | cons x l ih => rw [rowC_cons, List.all_append, ih]; rfl
end Go.Xm
