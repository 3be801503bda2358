/- The plan that is returned is a plan, and what Verify says of it. Conditions: none. -/
import Derived.Test.YtfdeihnkoaihfaaBf
import Derived.Test.YtfdeihnkoaihfaaEb
namespace Go.Xm
set_option linter.unusedVariables false
set_option linter.unusedSimpArgs false
set_option maxRecDepth 20000
theorem getDi (l : List Hp) {i : Nat} (h : i < l.length) : List.getD l (Int.toNat (i : Int)) (0, 0) = l[i] := by simp [h]
noncomputable def firstH (k : Nat) (l : List Hp) (i : Nat) : Nat → Int → Int
 | 0, x => x
 | d + 1, x => cond (fitsB' k (l.set i (x, x))) x (firstH k l i d (x + 1))
theorem firstH_spec {k : Nat} {l : List Hp} {i : Nat} : ∀ {d : Nat} {x y : Int}, x ≤ y → y < x + d → Fits k (l.set i (y, y)) → x ≤ firstH k l i d x ∧ firstH k l i d x ≤ y ∧ Fits k (l.set i (firstH k l i d x, firstH k l i d x)) ∧ ∀ z, x ≤ z → z < firstH k l i d x → ¬ Fits k (l.set i (z, z))
 | 0, x, y, h1, h2, _ => by omega
 | d + 1, x, y, h1, h2, hy => by
  unfold firstH
  cases hb : fitsB' k (l.set i (x, x)) with
  | true => exact ⟨by simp, by simpa using h1, by simpa using fitsB'_iff.1 hb, fun z z1 z2 => by simp at z2; omega⟩
  | false =>
   have hne : ¬ Fits k (l.set i (x, x)) := fun q => by rw [fitsB'_iff.2 q] at hb; cases hb
   have hxy : x ≠ y := fun q => hne (by rw [q]; exact hy)
   obtain ⟨q1, q2, q3, q4⟩ := firstH_spec (d := d) (x := x + 1) (y := y) (by omega) (by omega) hy
   refine ⟨by simp; omega, by simpa using q2, by simpa using q3, fun z z1 z2 => ?_⟩
   by_cases ez : z = x
   ·rw [ez]; exact hne
   ·exact q4 z (by omega) (by simpa using z2)
noncomputable def planL (k : Nat) : Nat → Nat → List Hp → List Int → List Int
 | 0, _, _, acc => acc
 | r + 1, i, l, acc => planL k r (i + 1) (l.set i (firstH k l i 24 (List.getD l i (0, 0)).1, firstH k l i 24 (List.getD l i (0, 0)).1)) (acc ++ [firstH k l i 24 (List.getD l i (0, 0)).1])
theorem planL_succ (k r i : Nat) (l : List Hp) (acc : List Int) : planL k (r + 1) i l acc = planL k r (i + 1) (l.set i (firstH k l i 24 (List.getD l i (0, 0)).1, firstH k l i 24 (List.getD l i (0, 0)).1)) (acc ++ [firstH k l i 24 (List.getD l i (0, 0)).1]) := rfl
theorem OkL.set {l : List Hp} (h : OkL l) {i : Nat} {x : Int} (h1 : 0 ≤ x) (h2 : x ≤ 23) : OkL (l.set i (x, x)) := by
 intro y hy
 rcases List.mem_or_eq_of_mem_set hy with q | q
 ·exact h y q
 ·subst q; exact ⟨h1, by simp, h2⟩
theorem firstH_in {k : Nat} {l : List Hp} (ho : OkL l) (hf : Fits k l) {i : Nat} (hi : i < l.length) :
  (l[i]).1 ≤ firstH k l i 24 (l[i]).1 ∧ firstH k l i 24 (l[i]).1 ≤ (l[i]).2 ∧ Fits k (l.set i (firstH k l i 24 (l[i]).1, firstH k l i 24 (l[i]).1)) ∧ ∀ z, (l[i]).1 ≤ z → z < firstH k l i 24 (l[i]).1 → ¬ Fits k (l.set i (z, z)) := by
 obtain ⟨y, y1, y2, y3⟩ := fits_some ho hf hi
 have hh := ho _ (List.getElem_mem hi)
 obtain ⟨q1, q2, q3, q4⟩ := firstH_spec (d := 24) y1 (by omega) y3
 exact ⟨q1, by omega, q3, q4⟩
theorem f18_2_eq (m : Nat) (hm : 1001 ≤ m) (a : List Hp) (b : Int) (k : Nat) (hk : b = (k : Int)) (hk1 : 1 ≤ k) (hk2 : k ≤ 10) (l : List Hp) (h10 : l.length ≤ 10) (ho : OkL l) (i : Nat) (hi : i < l.length) (x27 : Int) (acc : List Int) (ha : acc.length ≤ 900) (lo hi' : Int) (hh : hi' ≤ 23) :
  ∀ (d fuel : Nat) (x y : Int) (l' : List Hp), (l' = l ∨ ∃ u, l' = l.set i (u, u)) → 0 ≤ x → x ≤ y → y < x + d → y ≤ hi' → Fits k (l.set i (y, y)) → d < fuel →
  f18_2 m fuel a b x27 (i : Int) acc x l' lo hi' = some (l.set i (firstH k l i d x, firstH k l i d x), acc ++ [firstH k l i d x])
 | 0, fuel, x, y, l', _, _, h1, h2, _, _, _ => by omega
 | d + 1, fuel + 1, x, y, l', hl', h0, h1, h2, hy, hF, hfu => by
  have hset : List.set l' i (x, x) = l.set i (x, x) := by
   rcases hl' with rfl | ⟨u, rfl⟩
   ·rfl
   ·rw [List.set_set]
  have hlen : l'.length = l.length := by
   rcases hl' with rfl | ⟨u, rfl⟩ <;> simp
  rw [f18_2, dcT (p := x ≤ hi') (by omega), inR (show i < l'.length by omega), Int.toNat_natCast, hset, f58_eq m hm (l.set i (x, x)) b k hk (by omega) (by rw [List.length_set]; omega) (ho.set h0 (by omega)) (.inl hk1), fitsI (n := acc.length + 1) (by omega) (by omega), w64i (x := x + 1) (by omega) (by omega)]
  unfold firstH
  cases hb : fitsB' k (l.set i (x, x)) with
  | true => rfl
  | false =>
   have hxy : x ≠ y := fun q => by
    subst q
    rw [fitsB'_iff.2 hF] at hb; cases hb
   exact f18_2_eq m hm a b k hk hk1 hk2 l h10 ho i hi x27 acc ha lo hi' hh d fuel (x + 1) y _ (.inr ⟨x, rfl⟩) (by omega) (by omega) (by omega) hy hF (by omega)
theorem f18_1_eq (m : Nat) (hm : 1001 ≤ m) (a : List Hp) (b : Int) (k : Nat) (hk : b = (k : Int)) (hk1 : 1 ≤ k) (hk2 : k ≤ 10) (h10 : a.length ≤ 10) : ∀ (r i fuel : Nat) (l : List Hp) (acc : List Int), i + r = a.length → r < fuel → l.length = a.length → l.drop i = a.drop i → OkL l → Fits k l → acc.length = i →
  f18_1 m fuel a b ((a.length : Nat) : Int) (i : Int) l acc = some (planL k r i l acc)
 | 0, i, fuel + 1, l, acc, hr, hf, hl, hd, ho, hF, hacc => by
  rw [f18_1, dcF (p := (i : Int) < ((a.length : Nat) : Int)) (by omega)]
  rfl
 | r + 1, i, fuel + 1, l, acc, hr, hf, hl, hd, ho, hF, hacc => by
  have hi : i < a.length := by omega
  have hil : i < l.length := by omega
  have he : l[i] = a[i] := by
   rw [List.drop_eq_getElem_cons hi, List.drop_eq_getElem_cons hil] at hd
   exact (List.cons.inj hd).1
  obtain ⟨q1, q2, q3, q4⟩ := firstH_in ho hF hil
  have hh := ho _ (List.getElem_mem hil)
  have hg : List.getD l i (0, 0) = l[i] := by simp [hil]
  rw [f18_1, dcT (p := (i : Int) < ((a.length : Nat) : Int)) (by omega), inR hi, getDi a hi, ← he, nat_succ i (by omega)]
  show (f18_2 m m a b ((a.length : Nat) : Int) (i : Int) acc (l[i]).1 l (l[i]).1 (l[i]).2).bind (fun o2 => f18_1 m fuel a b ((a.length : Nat) : Int) ((i + 1 : Nat) : Int) o2.1 o2.2) = _
  rw [f18_2_eq m hm a b k hk hk1 hk2 l (by omega) ho i hil _ acc (by omega) _ _ (by omega) 24 m _ (firstH k l i 24 (l[i]).1) l (.inl rfl) (by omega) q1 (by omega) q2 q3 (by omega)]
  show f18_1 m fuel a b ((a.length : Nat) : Int) ((i + 1 : Nat) : Int) _ _ = _
  rw [f18_1_eq m hm a b k hk hk1 hk2 h10 r (i + 1) fuel _ _ (by omega) (by omega) (by rw [List.length_set]; exact hl) ?_ (ho.set (by omega) (by omega)) q3 (by simp [hacc])]
  ·rw [planL_succ, hg]
  ·rw [List.drop_set_of_lt (by omega)]
   have e1 : l.drop (i + 1) = (l.drop i).drop 1 := by rw [List.drop_drop]
   have e2 : a.drop (i + 1) = (a.drop i).drop 1 := by rw [List.drop_drop]
   rw [e1, e2, hd]
theorem f18_ok1 (m : Nat) (hm : 1001 ≤ m) (l : List Hp) (h10 : l.length ≤ 10) (ho : OkL l) (k : Nat) (hk1 : 1 ≤ k) (hk2 : k ≤ 10) : f18 m l (k : Int) = some (cond (fitsB' k l) (planL k l.length 0 l [], 0) ([], 12)) := by
 unfold f18
 rw [f57_ok0 m (by omega) l ho h10 _ ⟨by omega, by omega⟩]
 show (f58 m l (k : Int)).bind _ = _
 rw [f58_eq m hm l _ k rfl (by omega) (by omega) ho (.inl (by omega)), fitsI (by omega) (by omega)]
 cases hb : fitsB' k l with
 | false => rfl
 | true =>
  show (f18_1 m m l (k : Int) ((l.length : Nat) : Int) ((0 : Nat) : Int) l []).bind _ = _
  rw [f18_1_eq m hm l _ k rfl hk1 hk2 h10 l.length 0 m l [] (by omega) (by omega) rfl rfl ho (fitsB'_iff.1 hb) rfl]
  rfl
def dup (x : Int) : Hp := (x, x)
theorem planL_plan (k : Nat) : ∀ (R : List Hp) (acc : List Int), OkL (acc.map dup ++ R) → Fits k (acc.map dup ++ R) →
  ∃ p, planL k R.length acc.length (acc.map dup ++ R) acc = acc ++ p ∧ p.length = R.length ∧ Fits k ((acc ++ p).map dup) ∧ ∀ x ∈ R.zip p, x.1.1 ≤ x.2 ∧ x.2 ≤ x.1.2
 | [], acc, ho, hf => ⟨[], by simp [planL], rfl, by simpa using hf, by simp⟩
 | y :: R, acc, ho, hf => by
  have hlen : acc.length = (acc.map dup).length := by simp
  have hi : acc.length < (acc.map dup ++ y :: R).length := by simp
  have e : (acc.map dup ++ y :: R)[acc.length] = y := by simp
  obtain ⟨q1, q2, q3, _⟩ := firstH_in ho hf hi
  rw [e] at q1 q2 q3
  have hy := ho y (by simp)
  show ∃ p, planL k (R.length + 1) acc.length (acc.map dup ++ y :: R) acc = acc ++ p ∧ _
  rw [planL_succ, getD_mid _ y R _ hlen]
  generalize firstH k (acc.map dup ++ y :: R) acc.length 24 y.1 = z at q1 q2 q3
  rw [set_mid _ y _ R hlen] at q3 ⊢
  have e2 : acc.map dup ++ (z, z) :: R = (acc ++ [z]).map dup ++ R := by simp [dup]
  rw [e2] at q3 ⊢
  obtain ⟨p, p1, p2, p3, p4⟩ := planL_plan k R (acc ++ [z]) (by
   intro h hh
   rw [← e2] at hh
   simp only [List.mem_append, List.mem_cons] at hh
   rcases hh with hh | rfl | hh
   ·exact ho h (by simp [hh])
   ·exact ⟨by show 0 ≤ z; omega, by simp, by show z ≤ 23; omega⟩
   ·exact ho h (by simp [hh])) q3
  refine ⟨z :: p, ?_, by simp [p2], by simpa using p3, fun x hx => ?_⟩
  ·have : (acc ++ [z]).length = acc.length + 1 := by simp
   rw [this] at p1
   rw [p1]; simp
  ·rw [List.zip_cons_cons] at hx
   rcases List.mem_cons.1 hx with rfl | hx
   ·exact ⟨q1, q2⟩
   ·exact p4 x hx
end Go.Xm
