/- HeapKept: the choice that is kept, heap by heap, is the first one of the largest; all that cannot be added to are as large. Plain Lean. Conditions: none. -/
import Derived.Test.YtfdeihnkoaihfaaHm
import Derived.Test.YtfdeihnkoaihfaaEb
namespace Go.Xm
set_option linter.unusedVariables false
set_option linter.unusedSimpArgs false
def bitsR : Nat → Nat → Nat → List Int
 | 0, _, _ => []
 | n + 1, j, s => if s % 2 = 1 then (j : Int) :: bitsR n (j + 1) (s / 2) else bitsR n (j + 1) (s / 2)
theorem bitsR_in : ∀ (n j s : Nat), ∀ x ∈ bitsR n j s, (j : Int) ≤ x ∧ x < j + n
 | 0, _, _, x, h => by cases h
 | n + 1, j, s, x, h => by
  unfold bitsR at h
  split at h
  ·rcases List.mem_cons.1 h with rfl | h
   ·omega
   ·have := bitsR_in n (j + 1) (s / 2) x h; omega
  ·have := bitsR_in n (j + 1) (s / 2) x h; omega
def lexB : List Int → List Int → Bool
 | [], [] => false
 | [], _ :: _ => true
 | _ :: _, [] => false
 | x :: a, y :: b => if x < y then true else if x > y then false else lexB a b
theorem lexB_cons {x : Int} {a b : List Int} (h : a = b ∨ lexB a b = true) : x :: a = x :: b ∨ lexB (x :: a) (x :: b) = true := by
 rcases h with rfl | h
 ·exact .inl rfl
 ·right
  unfold lexB
  rw [if_neg (by omega), if_neg (by omega)]
  exact h
def selS : List Hp → Nat → List Hp
 | [], _ => []
 | h :: L, s => if s % 2 = 1 then h :: selS L (s / 2) else selS L (s / 2)
theorem selS_len : ∀ (l : List Hp) (i s : Nat), (selS l s).length = (bitsR l.length i s).length
 | [], _, _ => rfl
 | h :: L, i, s => by
  have := selS_len L (i + 1) (s / 2)
  show (selS (h :: L) s).length = (bitsR (L.length + 1) i s).length
  unfold selS bitsR
  split
  ·rw [List.length_cons, List.length_cons, this]
  ·exact this
theorem selS_cons (h : Hp) (L : List Hp) (s : Nat) : selS (h :: L) s = if s % 2 = 1 then h :: selS L (s / 2) else selS L (s / 2) := rfl
theorem selS_mem {x : Hp} : ∀ {l : List Hp} {s : Nat}, x ∈ selS l s → x ∈ l
 | [], _, h => by cases h
 | y :: L, s, h => by
  unfold selS at h
  split at h
  ·rcases List.mem_cons.1 h with rfl | h
   ·exact List.mem_cons_self ..
   ·exact List.mem_cons_of_mem _ (selS_mem h)
  ·exact List.mem_cons_of_mem _ (selS_mem h)
def zipS : List Hp → Nat → Nat → List (Hp × Bool × Bool)
 | [], _, _ => []
 | h :: L, s, u => (h, decide (s % 2 = 1), decide (u % 2 = 1)) :: zipS L (s / 2) (u / 2)
theorem zipS_l : ∀ (l : List Hp) (s u : Nat), ((zipS l s u).filter fun z => z.2.1).map (fun z => z.1) = selS l s
 | [], _, _ => rfl
 | h :: L, s, u => by
  have ih := zipS_l L (s / 2) (u / 2)
  unfold zipS selS
  by_cases e : s % 2 = 1
  ·rw [if_pos e, List.filter_cons_of_pos (by simp [e]), List.map_cons, ih]
  ·rw [if_neg e, List.filter_cons_of_neg (by simp [e]), ih]
theorem zipS_r : ∀ (l : List Hp) (s u : Nat), ((zipS l s u).filter fun z => z.2.2).map (fun z => z.1) = selS l u
 | [], _, _ => rfl
 | h :: L, s, u => by
  have ih := zipS_r L (s / 2) (u / 2)
  unfold zipS selS
  by_cases e : u % 2 = 1
  ·rw [if_pos e, List.filter_cons_of_pos (by simp [e]), List.map_cons, ih]
  ·rw [if_neg e, List.filter_cons_of_neg (by simp [e]), ih]
theorem zipS_all : ∀ (l : List Hp) (s u : Nat), (zipS l s u).map (fun z => z.1) = l
 | [], _, _ => rfl
 | h :: L, s, u => by
  have ih := zipS_all L (s / 2) (u / 2)
  unfold zipS
  rw [List.map_cons, ih]
theorem countP_sel (f : Hp × Bool × Bool → Bool) (Z : List (Hp × Bool × Bool)) : Z.countP f = ((Z.filter f).map fun z => z.1).length := by
 rw [List.length_map, List.countP_eq_length_filter]
theorem most_sel {k : Nat} {l : List Hp} (ho : OkL l) (s u : Nat) (hs : Fits k (selS l s)) (hu : Fits k (selS l u)) (hn : ∀ z ∈ zipS l s u, z.2.1 = false → ¬ Fits k (z.1 :: selS l s)) : (selS l u).length ≤ (selS l s).length := by
 have := kept_most (k := k) (fun z : Hp × Bool × Bool => z.1) (fun z => z.2.1) (fun z => z.2.2) (zipS l s u) (by rw [zipS_all]; exact ho) (by rw [zipS_l]; exact hs) (by rw [zipS_r]; exact hu) (fun z hz _ hp => by rw [zipS_l]; exact hn z hz hp)
 rw [countP_sel, countP_sel, zipS_l, zipS_r] at this
 exact this
theorem crw_pair (h : Hp) (l : List Hp) (a b : Int) : crw (h :: l) a b = crw [h] a b + crw l a b := by
 have := crw_cons1 h l a b
 have := crw_cons1 h [] a b
 have : crw [] a b = 0 := rfl
 omega
theorem crw_plus (A B : List Hp) (a b : Int) : crw (A ++ B) a b = crw A a b + crw B a b := by unfold crw; rw [List.countP_append]
theorem fits_sub {k : Nat} {A B : List Hp} (h : ∀ a b, crw A a b ≤ crw B a b) (hf : Fits k B) : Fits k A := fun a b h1 h2 h3 => by
 have := hf a b h1 h2 h3
 have := h a b
 omega
theorem sel_more : ∀ (l : List Hp) (i s : Nat) (hi : i < l.length), s / 2 ^ i % 2 ≠ 1 → ∀ a b, crw (selS l (s + 2 ^ i)) a b = crw (l[i] :: selS l s) a b
 | [], i, s, hi, _, a, b => by simp at hi
 | h :: L, 0, s, hi, hb, a, b => by
  rw [Nat.pow_zero, Nat.div_one] at hb
  unfold selS
  rw [if_pos (show (s + 2 ^ 0) % 2 = 1 by rw [Nat.pow_zero]; omega), if_neg hb, Nat.pow_zero, show (s + 1) / 2 = s / 2 by omega]
  rfl
 | h :: L, i + 1, s, hi, hb, a, b => by
  have hi2 : i < L.length := by simpa using hi
  have e : s / 2 ^ (i + 1) = s / 2 / 2 ^ i := by rw [Nat.div_div_eq_div_mul, Nat.pow_succ, Nat.mul_comm]
  have hpow : 2 ^ (i + 1) = 2 * 2 ^ i := by rw [Nat.pow_succ]; omega
  rw [e] at hb
  have ih := sel_more L i (s / 2) hi2 hb a b
  have e1 : (s + 2 ^ (i + 1)) % 2 = s % 2 := by omega
  have e2 : (s + 2 ^ (i + 1)) / 2 = s / 2 + 2 ^ i := by omega
  have e3 : (h :: L)[i + 1] = L[i] := rfl
  rw [e3, selS_cons, selS_cons, e1, e2]
  by_cases q : s % 2 = 1
  ·rw [if_pos q, if_pos q]
   have a1 := crw_pair h (selS L (s / 2 + 2 ^ i)) a b
   have a2 := crw_pair L[i] (h :: selS L (s / 2)) a b
   have a3 := crw_pair h (selS L (s / 2)) a b
   have a4 := crw_pair L[i] (selS L (s / 2)) a b
   rw [a1, ih, a4, a2, a3]
   omega
  ·rw [if_neg q, if_neg q]
   exact ih
theorem zipS_at : ∀ (l : List Hp) (s u : Nat), ∀ z ∈ zipS l s u, ∃ i : Nat, ∃ hi : i < l.length, z.1 = l[i] ∧ z.2.1 = decide (s / 2 ^ i % 2 = 1)
 | [], _, _, z, hz => by cases hz
 | h :: L, s, u, z, hz => by
  unfold zipS at hz
  rcases List.mem_cons.1 hz with rfl | hz
  ·exact ⟨0, by simp, rfl, by rw [Nat.pow_zero, Nat.div_one]⟩
  ·obtain ⟨i, hi, h1, h2⟩ := zipS_at L (s / 2) (u / 2) z hz
   refine ⟨i + 1, by simpa using hi, h1, ?_⟩
   rw [h2, Nat.div_div_eq_div_mul, Nat.pow_succ, Nat.mul_comm 2]
noncomputable def kpL (k : Nat) : List Hp → Nat → List Hp → List Int
 | [], _, _ => []
 | h :: L, i, kept => if fitsB' k (kept ++ [h]) = true then (i : Int) :: kpL k L (i + 1) (kept ++ [h]) else kpL k L (i + 1) kept
theorem crw_one_le (kept X : List Hp) (h : Hp) (a b : Int) : crw (kept ++ [h]) a b ≤ crw (h :: (kept ++ X)) a b := by
 rw [crw_pair h (kept ++ X), crw_plus, crw_plus]; omega
theorem kp_is (k : Nat) : ∀ (L : List Hp) (i : Nat) (kept : List Hp), Fits k kept → ∃ s, s < 2 ^ L.length ∧ bitsR L.length i s = kpL k L i kept ∧ Fits k (kept ++ selS L s) ∧ ∀ u, ∀ z ∈ zipS L s u, z.2.1 = false → ¬ Fits k (z.1 :: (kept ++ selS L s))
 | [], i, kept, hf => ⟨0, by decide, rfl, by rw [show selS [] 0 = [] from rfl, List.append_nil]; exact hf, fun u z hz => by cases hz⟩
 | h :: L, i, kept, hf => by
  have hpow : 2 ^ (L.length + 1) = 2 * 2 ^ L.length := by rw [Nat.pow_succ]; omega
  show ∃ s, s < 2 ^ (L.length + 1) ∧ bitsR (L.length + 1) i s = kpL k (h :: L) i kept ∧ _
  unfold kpL
  by_cases e : fitsB' k (kept ++ [h]) = true
  ·obtain ⟨s, s1, s2, s3, s4⟩ := kp_is k L (i + 1) (kept ++ [h]) (fitsB'_iff.1 e)
   have es : selS (h :: L) (2 * s + 1) = h :: selS L s := by
    rw [selS_cons, if_pos (by omega), show (2 * s + 1) / 2 = s by omega]
   have ea : kept ++ [h] ++ selS L s = kept ++ h :: selS L s := by simp
   rw [ea] at s3 s4
   refine ⟨2 * s + 1, by omega, ?_, by rw [es]; exact s3, fun u z hz hz2 => ?_⟩
   ·unfold bitsR
    rw [if_pos (by omega), show (2 * s + 1) / 2 = s by omega, s2, if_pos e]
   ·rw [es]
    unfold zipS at hz
    rcases List.mem_cons.1 hz with rfl | hz
    ·have : (2 * s + 1) % 2 = 1 := by omega
     simp [this] at hz2
    ·rw [show (2 * s + 1) / 2 = s by omega] at hz
     exact s4 _ z hz hz2
  ·obtain ⟨s, s1, s2, s3, s4⟩ := kp_is k L (i + 1) kept hf
   have es : selS (h :: L) (2 * s) = selS L s := by
    rw [selS_cons, if_neg (by omega), show 2 * s / 2 = s by omega]
   refine ⟨2 * s, by omega, ?_, by rw [es]; exact s3, fun u z hz hz2 => ?_⟩
   ·unfold bitsR
    rw [if_neg (by omega), show 2 * s / 2 = s by omega, s2, if_neg e]
   ·rw [es]
    unfold zipS at hz
    rcases List.mem_cons.1 hz with rfl | hz
    ·intro hf2
     exact e (fitsB'_iff.2 (fits_sub (fun a b => crw_one_le kept (selS L s) h a b) hf2))
    ·rw [show 2 * s / 2 = s by omega] at hz
     exact s4 _ z hz hz2
theorem kp_first (k : Nat) : ∀ (L : List Hp) (i s : Nat) (kept : List Hp), Fits k (kept ++ selS L s) → (bitsR L.length i s).length = (kpL k L i kept).length → kpL k L i kept = bitsR L.length i s ∨ lexB (kpL k L i kept) (bitsR L.length i s) = true
 | [], i, s, kept, _, _ => .inl rfl
 | h :: L, i, s, kept, hf, hl => by
  have hl : (bitsR (L.length + 1) i s).length = (kpL k (h :: L) i kept).length := hl
  show kpL k (h :: L) i kept = bitsR (L.length + 1) i s ∨ lexB (kpL k (h :: L) i kept) (bitsR (L.length + 1) i s) = true
  unfold selS at hf
  unfold bitsR kpL at hl ⊢
  by_cases e : s % 2 = 1
  ·rw [if_pos e] at hf hl ⊢
   have ef : fitsB' k (kept ++ [h]) = true := fitsB'_iff.2 (fits_sub (fun a b => by rw [crw_plus, crw_plus, crw_pair h (selS L (s / 2))]; omega) hf)
   rw [if_pos ef] at hl ⊢
   rw [List.length_cons, List.length_cons] at hl
   exact lexB_cons (kp_first k L (i + 1) (s / 2) (kept ++ [h]) (by rw [List.append_assoc]; exact hf) (by omega))
  ·rw [if_neg e] at hf hl ⊢
   by_cases ef : fitsB' k (kept ++ [h]) = true
   ·rw [if_pos ef] at hl ⊢
    right
    have hin := bitsR_in L.length (i + 1) (s / 2)
    cases hb : bitsR L.length (i + 1) (s / 2) with
    | nil => rw [hb] at hl; simp at hl
    | cons x X =>
     rw [hb] at hin
     have := (hin x (List.mem_cons_self ..)).1
     show lexB ((i : Int) :: _) (x :: X) = true
     unfold lexB
     rw [if_pos (by omega)]
   ·rw [if_neg ef] at hl ⊢
    exact kp_first k L (i + 1) (s / 2) kept hf hl
theorem fits_nil (k : Nat) : Fits k [] := fun a b h1 h2 h3 => by
 have : crw [] a b = 0 := rfl
 have := mul_nn (k := k) (x := b - a + 1) (by omega)
 omega
theorem kept_all {k : Nat} {l : List Hp} (ho : OkL l) : 
  (∃ s, s < 2 ^ l.length ∧ Fits k (selS l s) ∧ bitsR l.length 0 s = kpL k l 0 []) ∧
  (∀ s, Fits k (selS l s) → (bitsR l.length 0 s).length ≤ (kpL k l 0 []).length) ∧
  (∀ s, Fits k (selS l s) → (bitsR l.length 0 s).length = (kpL k l 0 []).length → kpL k l 0 [] = bitsR l.length 0 s ∨ lexB (kpL k l 0 []) (bitsR l.length 0 s) = true) ∧
  (∀ s, Fits k (selS l s) → (∀ i, i < l.length → s / 2 ^ i % 2 ≠ 1 → ¬ Fits k (selS l (s + 2 ^ i))) → (bitsR l.length 0 s).length = (kpL k l 0 []).length) := by
 obtain ⟨s0, s1, s2, s3, s4⟩ := kp_is k l 0 [] (fits_nil k)
 rw [List.nil_append] at s3 s4
 have hle : ∀ s, Fits k (selS l s) → (bitsR l.length 0 s).length ≤ (kpL k l 0 []).length := fun s hs => by
  rw [← s2, ← selS_len, ← selS_len]
  exact most_sel ho s0 s s3 hs (s4 s)
 refine ⟨⟨s0, s1, s3, s2⟩, hle, fun s hs hl => kp_first k l 0 s [] hs hl, fun s hs hn => ?_⟩
 refine Nat.le_antisymm (hle s hs) ?_
 rw [← s2, ← selS_len, ← selS_len]
 refine most_sel ho s s0 hs s3 (fun z hz hz2 => ?_)
 obtain ⟨i, hi, h1, h2⟩ := zipS_at l s s0 z hz
 rw [hz2] at h2
 have hb : s / 2 ^ i % 2 ≠ 1 := fun q => by simp [q] at h2
 intro hf
 refine hn i hi hb (fits_sub (fun a b => ?_) hf)
 rw [sel_more l i s hi hb a b, h1]
 exact Nat.le_refl _
end Go.Xm
