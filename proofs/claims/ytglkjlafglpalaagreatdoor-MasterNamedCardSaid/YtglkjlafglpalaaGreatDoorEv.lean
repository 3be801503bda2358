/- The bales of a book, sorted by their bays; its keys. Conditions: those of the theorems. -/
import Derived.Test.YtglkjlafglpalaaGreatDoorEu
import Derived.Test.YtglkjlafglpalaaGreatDoorPe
namespace Go.Xm
open Go.RowKit
set_option linter.unusedVariables false
set_option linter.unusedSimpArgs false
def insR (x : Bl) : List Bl → List Bl → List Bl
 | [], B => x :: B
 | y :: A, B => cond (decide (x.2.1 < y.2.1)) (insR x A (y :: B)) ((y :: A).reverse ++ x :: B)
theorem insR_append (x : Bl) (R : List Bl) : ∀ (A B : List Bl), insR x A (B ++ R) = insR x A B ++ R
 | [], B => rfl
 | y :: A, B => by
  unfold insR
  cases decide (x.2.1 < y.2.1) with
  | true => exact insR_append x R A (y :: B)
  | false => simp
theorem insR_perm (x : Bl) : ∀ (A B : List Bl), (insR x A B).Perm (x :: (A ++ B))
 | [], B => List.Perm.refl _
 | y :: A, B => by
  unfold insR
  cases decide (x.2.1 < y.2.1) with
  | true =>
   refine (insR_perm x A (y :: B)).trans (List.Perm.cons x ?_)
   exact (List.perm_middle).trans (List.Perm.refl _)
  | false =>
   show (((y :: A).reverse) ++ x :: B).Perm _
   refine (List.perm_middle).trans (List.Perm.cons x ?_)
   exact List.Perm.append_right B (List.reverse_perm _)
abbrev leB (x y : Bl) : Prop := x.2.1 ≤ y.2.1
theorem insR_asc (x : Bl) : ∀ (A B : List Bl), (A.reverse ++ B).Pairwise leB → (∀ z, z ∈ B → leB x z) → (insR x A B).Pairwise leB
 | [], B, h, hb => List.pairwise_cons.2 ⟨hb, h⟩
 | y :: A, B, h, hb => by
  unfold insR
  cases hc : decide (x.2.1 < y.2.1) with
  | true =>
   refine insR_asc x A (y :: B) (by simpa using h) fun z hz => ?_
   rcases List.mem_cons.1 hz with rfl | hz
   ·have := of_decide_eq_true hc
    show x.2.1 ≤ z.2.1
    omega
   ·exact hb z hz
  | false =>
   have hxy : y.2.1 ≤ x.2.1 := by
    have := of_decide_eq_false hc
    omega
   obtain ⟨h1, h2, h3⟩ := List.pairwise_append.1 h
   show ((y :: A).reverse ++ x :: B).Pairwise leB
   refine List.pairwise_append.2 ⟨h1, List.pairwise_cons.2 ⟨hb, h2⟩, fun a ha b hb' => ?_⟩
   rcases List.mem_cons.1 hb' with rfl | hb'
   ·rw [List.reverse_cons] at ha h1
    rcases List.mem_append.1 ha with ha | ha
    ·have := (List.pairwise_append.1 h1).2.2 a ha y (by simp)
     show a.2.1 ≤ b.2.1
     have : a.2.1 ≤ y.2.1 := this
     omega
    ·rw [List.mem_singleton.1 ha]; exact hxy
   ·exact h3 a ha b hb'
theorem getD_mid {α : Type} (A : List α) (x d : α) (B : List α) : (A ++ x :: B).getD A.length d = x := by
 rw [List.getD_eq_getElem?_getD, List.getElem?_append_right (Nat.le_refl _), Nat.sub_self]
 rfl
theorem set_mid {α : Type} (A : List α) (x y : α) (B : List α) : (A ++ x :: B).set A.length y = A ++ y :: B := by
 rw [List.set_append_right _ _ (Nat.le_refl _), Nat.sub_self]
 rfl
theorem f31_3_run (m : Nat) (b : Bk) (x2 x8 : Int) (x : Bl) : ∀ (A B : List Bl) (fuel : Nat), A.length < fuel → A.length + B.length ≤ 1000 → (∀ z, z ∈ x :: (A ++ B) → 0 ≤ z.2.1 ∧ z.2.1 ≤ 1000) → f31_3 m fuel b x2 x8 ((A.length : Nat) : Int) (A.reverse ++ x :: B) = some (insR x A B)
 | _, _, 0, h, _, _ => by omega
 | [], B, fuel + 1, _, _, _ => rfl
 | y :: A, B, fuel + 1, h, hl, hr => by
  unfold f31_3
  have hL : (y :: A).length = A.length + 1 := rfl
  have hl' : A.length + 1 + B.length ≤ 1000 := hl
  have e0 : decide ((((y :: A).length : Nat) : Int) > 0) = true := by
   rw [decide_eq_true_eq, hL]; omega
  have hw : w64 ((((y :: A).length : Nat) : Int) - 1) = ((A.length : Nat) : Int) := by
   have e : (((y :: A).length : Nat) : Int) - 1 = ((A.length : Nat) : Int) := by rw [hL]; omega
   rw [e]
   exact w64_in (by omega) (by omega)
  have hlen : ((y :: A).reverse ++ x :: B).length = A.length + 1 + (B.length + 1) := by simp; omega
  have e1 : inRow (((y :: A).length : Nat) : Int) ((y :: A).reverse ++ x :: B).length = true := inRow_iff.2 ⟨by omega, by rw [hlen, hL]; omega⟩
  have e2 : inRow ((A.length : Nat) : Int) ((y :: A).reverse ++ x :: B).length = true := inRow_iff.2 ⟨by omega, by rw [hlen]; omega⟩
  have t1 : Int.toNat (((y :: A).length : Nat) : Int) = ((y :: A).reverse).length := by simp
  have t2 : Int.toNat ((A.length : Nat) : Int) = (A.reverse).length := by simp
  have hsplit : (y :: A).reverse ++ x :: B = A.reverse ++ y :: (x :: B) := by simp
  have g1 : ∀ d, ((y :: A).reverse ++ x :: B).getD ((y :: A).reverse).length d = x := fun d => getD_mid _ x d B
  have g2 : ∀ d, ((y :: A).reverse ++ x :: B).getD (A.reverse).length d = y := fun d => by rw [hsplit]; exact getD_mid _ y d _
  rw [hw, e0, e1, e2, t1, t2, g1, g2]
  simp only [cond_true]
  have hx := hr x (by simp)
  have hy := hr y (by simp)
  have hf : f75 m x.1 x.2.1 x.2.2 y.1 y.2.1 y.2.2 = some (x.2.1 - y.2.1) := by
   unfold f75
   rw [w64_in (by omega) (by omega)]
  rw [hf]
  show cond (decide (x.2.1 - y.2.1 < 0)) _ _ = _
  unfold insR
  have hd : decide (x.2.1 - y.2.1 < 0) = decide (x.2.1 < y.2.1) := by
   congr 1
   refine propext ⟨fun q => by omega, fun q => by omega⟩
  rw [hd]
  cases decide (x.2.1 < y.2.1) with
  | false => rfl
  | true =>
   have hs : List.set (List.set ((y :: A).reverse ++ x :: B) ((y :: A).reverse).length (y.1, y.2.1, y.2.2)) (A.reverse).length (x.1, x.2.1, x.2.2) = A.reverse ++ x :: (y :: B) := by
    rw [set_mid]
    have e : (y :: A).reverse ++ (y.1, y.2.1, y.2.2) :: B = A.reverse ++ y :: (y :: B) := by simp
    rw [e, set_mid]
   show f31_3 m fuel b x2 x8 ((A.length : Nat) : Int) (List.set (List.set _ _ _) _ _) = _
   rw [hs]
   have h' : A.length + 1 < fuel + 1 := h
   exact f31_3_run m b x2 x8 x A (y :: B) fuel (by omega) (by simp; omega) (fun z hz => hr z (by
    simp only [List.mem_cons, List.mem_append] at hz ⊢
    rcases hz with q | q | q | q
    ·exact .inl q
    ·exact .inr (.inl (.inr q))
    ·exact .inr (.inl (.inl q))
    ·exact .inr (.inr q)))
theorem f31_2_run (m : Nat) (b : Bk) (n : Nat) : ∀ (R S : List Bl) (fuel : Nat), R.length < fuel → n = S.length + R.length → n < m → n ≤ 900 → (∀ z, z ∈ S ++ R → 0 ≤ z.2.1 ∧ z.2.1 ≤ 1000) → S.Pairwise leB →
 ∃ r, f31_2 m fuel b ((n : Nat) : Int) ((S.length : Nat) : Int) (S ++ R) = some r ∧ r.Perm (S ++ R) ∧ r.Pairwise leB
 | _, _, 0, h, _, _, _, _, _ => by omega
 | [], S, fuel + 1, _, hn, _, _, _, hs => by
  unfold f31_2
  have : n = S.length := by simpa using hn
  subst this
  have e0 : decide (((S.length : Nat) : Int) < ((S.length : Nat) : Int)) = false := by simp
  rw [e0]
  exact ⟨S ++ [], rfl, List.Perm.refl _, by simpa using hs⟩
 | x :: R, S, fuel + 1, h, hn, hm, h9, hr, hs => by
  unfold f31_2
  have hn' : n = S.length + (R.length + 1) := hn
  have e0 : decide (((S.length : Nat) : Int) < ((n : Nat) : Int)) = true := by
   rw [decide_eq_true_eq]; omega
  rw [e0]
  simp only [cond_true]
  have hrun := f31_3_run m b (n : Int) (S.length : Int) x S.reverse R m (by rw [List.length_reverse]; omega) (by rw [List.length_reverse]; omega) (fun z hz => hr z (by
   simp only [List.mem_cons, List.mem_append, List.mem_reverse] at hz ⊢
   rcases hz with q | q | q
   ·exact .inr (.inl q)
   ·exact .inl q
   ·exact .inr (.inr q)))
  rw [List.length_reverse, List.reverse_reverse] at hrun
  rw [hrun]
  have hi : insR x S.reverse R = insR x S.reverse [] ++ R := by
   have := insR_append x R S.reverse []
   simpa using this
  have hp := insR_perm x S.reverse []
  have hlen : (insR x S.reverse []).length = S.length + 1 := by
   rw [hp.length_eq]; simp
  have ha : (insR x S.reverse []).Pairwise leB := insR_asc x S.reverse [] (by simpa using hs) (fun z hz => (by cases hz))
  have hw : w64 (((S.length : Nat) : Int) + 1) = (((insR x S.reverse []).length : Nat) : Int) := by
   rw [hlen, w64_in (by omega) (by omega)]; rfl
  show ∃ r, f31_2 m fuel b _ (w64 _) (insR x S.reverse R) = some r ∧ _
  rw [hw, hi]
  have hp2 : (insR x S.reverse []).Perm (x :: S) := hp.trans (by
   rw [List.append_nil]
   exact List.Perm.cons x (List.reverse_perm S))
  have hall : (insR x S.reverse [] ++ R).Perm (S ++ x :: R) := (hp2.append_right R).trans (List.perm_middle).symm
  obtain ⟨r, r1, r2, r3⟩ := f31_2_run m b n R (insR x S.reverse []) fuel (by have : R.length + 1 < fuel + 1 := h; omega) (by rw [hlen]; omega) hm h9 (fun z hz => hr z (hall.mem_iff.1 hz)) ha
  exact ⟨r, r1, r2.trans hall, r3⟩
def insB (x : Bl) : List Bl → List Bl
 | [] => [x]
 | y :: l => cond (decide (x.2.1 ≤ y.2.1)) (x :: y :: l) (y :: insB x l)
def sortB : List Bl → List Bl
 | [] => []
 | x :: l => insB x (sortB l)
theorem insB_perm (x : Bl) : ∀ l : List Bl, (insB x l).Perm (x :: l)
 | [] => List.Perm.refl _
 | y :: l => by
  unfold insB
  cases decide (x.2.1 ≤ y.2.1) with
  | true => exact List.Perm.refl _
  | false => exact ((insB_perm x l).cons y).trans (List.Perm.swap x y l)
theorem sortB_perm : ∀ l : List Bl, (sortB l).Perm l
 | [] => List.Perm.refl _
 | x :: l => (insB_perm x (sortB l)).trans ((sortB_perm l).cons x)
theorem insB_asc (x : Bl) : ∀ l : List Bl, l.Pairwise leB → (insB x l).Pairwise leB
 | [], _ => List.pairwise_singleton _ _
 | y :: l, h => by
  obtain ⟨h1, h2⟩ := List.pairwise_cons.1 h
  unfold insB
  cases hc : decide (x.2.1 ≤ y.2.1) with
  | true =>
   have hxy := of_decide_eq_true hc
   refine List.pairwise_cons.2 ⟨fun z hz => ?_, h⟩
   rcases List.mem_cons.1 hz with rfl | hz
   ·exact hxy
   ·have : y.2.1 ≤ z.2.1 := h1 z hz
    show x.2.1 ≤ z.2.1
    omega
  | false =>
   have hxy := of_decide_eq_false hc
   refine List.pairwise_cons.2 ⟨fun z hz => ?_, insB_asc x l h2⟩
   rcases List.mem_cons.1 ((insB_perm x l).mem_iff.1 hz) with rfl | hz
   ·show y.2.1 ≤ z.2.1
    omega
   ·exact h1 z hz
theorem sortB_asc : ∀ l : List Bl, (sortB l).Pairwise leB
 | [] => List.Pairwise.nil
 | x :: l => insB_asc x _ (sortB_asc l)
theorem bay_inj {l : List Bl} (h : (l.map (fun x => x.2.1)).Nodup) {a b : Bl} (ha : a ∈ l) (hb : b ∈ l) (e : a.2.1 = b.2.1) : a = b := by
 induction l with
 | nil => cases ha
 | cons x l ih =>
  rw [List.map_cons, List.nodup_cons] at h
  rcases List.mem_cons.1 ha with p | p
  ·rcases List.mem_cons.1 hb with q | q
   ·rw [p, q]
   ·exact (h.1 (List.mem_map.2 ⟨b, q, by rw [← e, p]⟩)).elim
  ·rcases List.mem_cons.1 hb with q | q
   ·exact (h.1 (List.mem_map.2 ⟨a, p, by rw [e, q]⟩)).elim
   ·exact ih h.2 p q
theorem sorted_uniq {l r s : List Bl} (hn : (l.map (fun x => x.2.1)).Nodup) (hr : r.Perm l) (hs : s.Perm l) (ar : r.Pairwise leB) (br : s.Pairwise leB) : r = s :=
 List.Perm.eq_of_pairwise (le := leB) (fun a b ha hb h1 h2 => bay_inj hn (hr.mem_iff.1 ha) (hs.mem_iff.1 hb) (by have h1 : a.2.1 ≤ b.2.1 := h1; have h2 : b.2.1 ≤ a.2.1 := h2; omega)) ar br (hr.trans hs.symm)
def okL (l : List Bl) : Bool := okBays 8 (l.map (fun x => x.2.1))
def balesS (m : Nat) (s : BkS) : Option (List Bl) := cond (s.now.bays == 0) (some []) (cond (Nat.ble 20 m && okL (s.now.bales.map (·.2))) (some (sortB (s.now.bales.map (·.2)))) none)
def keysS (m : Nat) (s : BkS) : Option (List Int) := cond (s.now.bays == 0) (some []) (cond (Nat.ble s.now.keys.length 1000000) (some (sortI (List.map (fun p => p.1) s.now.keys))) none)
theorem keys_cr {m : Nat} {s : BkS} {r : List Int} (h : keysS m s = some r) : CRX E0 33 (bookX s) [] (encI .i64) 3 1 r :=
 CRX.ofKC (a := bs []) (encI_ok .i64) (by decide) rfl fun l hl => f33_ok m (bkT s l) r h
theorem len_tab : ((List.range 13).all fun n => (f126 0 (IntKind.wrap .u64 ((n : Nat) : Int))).isSome) = true := by kernel_rfl
theorem len_ok (m : Nat) {n : Nat} (h : n ≤ 12) : ∃ r, f126 m (IntKind.wrap .u64 ((n : Nat) : Int)) = some r := by
 have := List.all_eq_true.1 len_tab n (List.mem_range.2 (by omega))
 obtain ⟨r, hr⟩ := Option.isSome_iff_exists.1 this
 exact ⟨r, hr⟩
theorem sort_run {m : Nat} (hm : 20 ≤ m) (b : Bk) {l : List Bl} (h8 : l.length ≤ 8) (hr : ∀ z, z ∈ l → 0 ≤ z.2.1 ∧ z.2.1 ≤ 1000) (x : Int) : ∃ r, f31_1 m m b l ((l.length : Nat) : Int) x = some r ∧ r.Perm l ∧ r.Pairwise leB := by
 obtain ⟨k, rfl⟩ : ∃ k, m = k + 1 := ⟨m - 1, by omega⟩
 have hdef : f31_1 (k + 1) (k + 1) b l ((l.length : Nat) : Int) x = cond (decide ((w64 (((l.length : Nat) : Int) - 0)) ≤ 12)) ((f31_2 (k + 1) (k + 1) b ((l.length : Nat) : Int) 1 l).bind fun o2 => some o2) none := rfl
 rw [hdef]
 have hw : w64 (((l.length : Nat) : Int) - 0) = ((l.length : Nat) : Int) := by
  rw [Int.sub_zero]; exact w64_in (by omega) (by omega)
 have e0 : decide (((l.length : Nat) : Int) ≤ 12) = true := by rw [decide_eq_true_eq]; omega
 rw [hw, e0]
 simp only [cond_true]
 cases l with
 | nil =>
  refine ⟨[], ?_, List.Perm.refl _, List.Pairwise.nil⟩
  rfl
 | cons y R =>
  obtain ⟨r, r1, r2, r3⟩ := f31_2_run (k + 1) b (y :: R).length R [y] (k + 1) (by have : R.length + 1 ≤ 8 := h8; omega) (by simp; omega) (by omega) (by omega) (fun z hz => hr z hz) (List.pairwise_singleton _ _)
  exact ⟨r, by
   have r1 : f31_2 (k + 1) (k + 1) b (((y :: R).length : Nat) : Int) 1 (y :: R) = some r := r1
   rw [r1]; rfl, r2, r3⟩
theorem bales_cr {m : Nat} {s : BkS} {r : List Bl} (h : balesS m s = some r) : CRX E0 31 (bookX s) [] encL 74 3 r := by
 refine CRX.ofKC (a := bs []) encL_ok (by decide) rfl fun l hl => f31_ok m (bkT s l) r fun l1 hp => ?_
 have hp : l1.Perm (s.now.bales.map (·.2)) := hp
 unfold balesS at h
 unfold f31
 show cond (s.now.bays == 0) _ _ = _
 cases hb : (s.now.bays == 0) with
 | true => rw [hb] at h; exact h
 | false =>
  rw [hb, cond_false] at h
  rw [cond_false]
  cases hc : (Nat.ble 20 m && okL (s.now.bales.map (·.2))) with
  | false => rw [hc] at h; cases h
  | true =>
   rw [hc, cond_true] at h
   have h := Option.some.inj h
   simp only [Bool.and_eq_true, okL, okBays, List.length_map, List.all_eq_true, decide_eq_true_eq] at hc
   obtain ⟨hm, hlen, hall, hnd⟩ := hc
   have hm := Nat.le_of_ble_eq_true hm
   have hlen := Nat.le_of_ble_eq_true hlen
   have hl1 : l1.length ≤ 8 := by rw [hp.length_eq, List.length_map]; exact hlen
   have hbig : Nat.ble (bkT s l).bales.length 1000000 = true := by
    show Nat.ble s.now.bales.length 1000000 = true
    rw [Nat.ble_eq]; omega
   rw [hbig, cond_true]
   obtain ⟨x, hx⟩ := len_ok m (n := l1.length) (by omega)
   rw [hx]
   obtain ⟨r', r1, r2, r3⟩ := sort_run hm (bkT s l) hl1 (fun z hz => by
    have := hall z.2.1 (List.mem_map.2 ⟨z, hp.mem_iff.1 hz, rfl⟩)
    omega) x
   show (f31_1 m m (bkT s l) l1 ((l1.length : Nat) : Int) x).bind _ = _
   rw [r1]
   have hle : decide (l1.length = r'.length) = true := by rw [decide_eq_true_eq, r2.length_eq]
   show cond (decide (l1.length = r'.length)) _ _ = _
   rw [hle, cond_true, ← h]
   exact congrArg some (sorted_uniq hnd (r2.trans hp) (sortB_perm _) r3 (sortB_asc _))
end Go.Xm
