/- HeapMore: the number of hands that is returned is the least one; a wider heap, a heap less. Conditions: none. -/
import Derived.Test.YtfdeihnkoaihfaaGp
import Derived.Test.YtfdeihnkoaihfaaCa
import Derived.Test.YtfdeihnkoaihfaaCg
namespace Go.Xm
set_option linter.unusedVariables false
set_option linter.unusedSimpArgs false
set_option maxRecDepth 20000
noncomputable def needN (l : List Hp) : Nat → Nat → Nat
 | 0, n => n
 | d + 1, n => cond (fitsB' n l) n (needN l d (n + 1))
noncomputable def need (l : List Hp) : Nat := needN l l.length 0
end Go.Xm
namespace Go.Xm
set_option linter.unusedVariables false
set_option linter.unusedSimpArgs false
set_option maxRecDepth 20000
theorem iMax_eq (x y : Int) : iMax x y = max x y := by unfold iMax; split <;> omega
def cutL (l : List Hp) (x : Int) : List Hp := l.map fun h => (h.1, min h.2 x)
def mxF (l : List Hp) (c : Int) : Int := l.foldl (fun c h => max c h.1) c
theorem mxF_ge : ∀ (l : List Hp) (c : Int), c ≤ mxF l c ∧ ∀ h ∈ l, h.1 ≤ mxF l c
 | [], c => ⟨Int.le_refl _, fun h hh => by cases hh⟩
 | x :: l, c => by
  obtain ⟨h1, h2⟩ := mxF_ge l (max c x.1)
  have e : mxF (x :: l) c = mxF l (max c x.1) := rfl
  rw [e]
  refine ⟨by omega, fun h hh => ?_⟩
  rcases List.mem_cons.1 hh with rfl | hh
  ·omega
  ·exact h2 h hh
theorem mxF_le {b : Int} : ∀ (l : List Hp) (c : Int), c ≤ b → (∀ h ∈ l, h.1 ≤ b) → mxF l c ≤ b
 | [], c, h, _ => h
 | x :: l, c, h, hl => mxF_le l (max c x.1) (by have := hl x (List.mem_cons_self ..); omega) (fun y hy => hl y (List.mem_cons_of_mem _ hy))
theorem mxF_is : ∀ (l : List Hp) (c : Int), mxF l c = c ∨ ∃ h ∈ l, mxF l c = h.1
 | [], c => .inl rfl
 | x :: l, c => by
  have e : mxF (x :: l) c = mxF l (max c x.1) := rfl
  rw [e]
  rcases mxF_is l (max c x.1) with h | ⟨h, hh, h2⟩
  ·by_cases q : c ≤ x.1
   ·exact .inr ⟨x, List.mem_cons_self .., by rw [h]; omega⟩
   ·exact .inl (by rw [h]; omega)
  ·exact .inr ⟨h, List.mem_cons_of_mem _ hh, h2⟩
theorem cutL_ok {l : List Hp} (ho : OkL l) {x : Int} (hx : ∀ h ∈ l, h.1 ≤ x) : OkL (cutL l x) := by
 intro h hh
 obtain ⟨y, hy, rfl⟩ := List.mem_map.1 hh
 have := ho y hy
 have := hx y hy
 simp only
 omega
theorem cutL_23 {l : List Hp} (ho : OkL l) : cutL l 23 = l := by
 unfold cutL
 conv => rhs; rw [← List.map_id l]
 refine List.map_congr_left (fun h hh => ?_)
 have := ho h hh
 show (h.1, min h.2 23) = h
 have e : min h.2 23 = h.2 := by omega
 rw [e]
theorem f31_1_eq (m : Nat) (l : List Hp) (h10 : l.length ≤ 1000) (b : Int) : ∀ (r i fuel : Nat) (c : Int), i + r = l.length → r < fuel → f31_1 m fuel l b c ((l.length : Nat) : Int) (i : Int) = some (mxF (l.drop i) c)
 | 0, i, fuel + 1, c, hr, hf => by
  rw [f31_1, dcF (p := (i : Int) < ((l.length : Nat) : Int)) (by omega), List.drop_eq_nil_of_le (by omega)]
  rfl
 | r + 1, i, fuel + 1, c, hr, hf => by
  have hi : i < l.length := by omega
  rw [f31_1, dcT (p := (i : Int) < ((l.length : Nat) : Int)) (by omega), inR hi, getDi l hi, nat_succ i (by omega), iMax_eq, List.drop_eq_getElem_cons hi]
  exact f31_1_eq m l h10 b r (i + 1) fuel _ (by omega) (by omega)
theorem f31_3_eq (m : Nat) (l : List Hp) (h10 : l.length ≤ 1000) (b x : Int) : ∀ (r i fuel : Nat) (lh : List Hp), i + r = l.length → r < fuel → lh.length = l.length → (∀ (j : Nat) (h1 : j < lh.length) (h2 : j < l.length), (lh[j]).1 = (l[j]).1) → lh.take i = (cutL l x).take i →
  f31_3 m fuel l b x ((l.length : Nat) : Int) (i : Int) lh = some (cutL l x)
 | 0, i, fuel + 1, lh, hr, hf, hl, hj, ht => by
  rw [f31_3, dcF (p := (i : Int) < ((l.length : Nat) : Int)) (by omega)]
  have h1 : (cutL l x).length = l.length := by simp [cutL]
  rw [List.take_of_length_le (by omega), List.take_of_length_le (by omega)] at ht
  rw [ht]; rfl
 | r + 1, i, fuel + 1, lh, hr, hf, hl, hj, ht => by
  have hi : i < l.length := by omega
  have hil : i < lh.length := by omega
  have h1 : (cutL l x).length = l.length := by simp [cutL]
  rw [f31_3, dcT (p := (i : Int) < ((l.length : Nat) : Int)) (by omega), inR hi, inR hil, getDi l hi, getDi lh hil, nat_succ i (by omega), iMin_eq, Int.toNat_natCast]
  show f31_3 m fuel l b x _ ((i + 1 : Nat) : Int) (lh.set i ((lh[i]).1, min (l[i]).2 x)) = _
  refine f31_3_eq m l h10 b x r (i + 1) fuel _ (by omega) (by omega) (by rw [List.length_set]; exact hl) (fun j q1 q2 => ?_) ?_
  ·rw [List.getElem_set]
   split
   ·rename_i e; subst e; exact hj i hil hi
   ·exact hj j _ q2
  ·rw [List.take_succ_eq_append_getElem (by rw [List.length_set]; exact hil), List.take_succ_eq_append_getElem (by rw [h1]; exact hi), List.take_set_of_le (by omega), ht, List.getElem_set_self]
   congr 2
   rw [hj i hil hi]
   simp [cutL]
noncomputable def endN (k : Nat) (l : List Hp) : Nat → Int → Int
 | 0, x => x
 | d + 1, x => cond (fitsB' k (cutL l x)) x (endN k l d (x + 1))
theorem endN_spec {k : Nat} {l : List Hp} : ∀ {d : Nat} {x y : Int}, x ≤ y → y < x + d → Fits k (cutL l y) → x ≤ endN k l d x ∧ endN k l d x ≤ y ∧ Fits k (cutL l (endN k l d x)) ∧ ∀ z, x ≤ z → z < endN k l d x → ¬ Fits k (cutL l z)
 | 0, x, y, h1, h2, _ => by omega
 | d + 1, x, y, h1, h2, hy => by
  unfold endN
  cases hb : fitsB' k (cutL l x) with
  | true => exact ⟨by simp, by simpa using h1, by simpa using fitsB'_iff.1 hb, fun z z1 z2 => by simp at z2; omega⟩
  | false =>
   have hne : ¬ Fits k (cutL l x) := fun q => by rw [fitsB'_iff.2 q] at hb; cases hb
   have hxy : x ≠ y := fun q => hne (by rw [q]; exact hy)
   obtain ⟨q1, q2, q3, q4⟩ := endN_spec (d := d) (x := x + 1) (y := y) (by omega) (by omega) hy
   refine ⟨by simp; omega, by simpa using q2, by simpa using q3, fun z z1 z2 => ?_⟩
   by_cases ez : z = x
   ·rw [ez]; exact hne
   ·exact q4 z (by omega) (by simpa using z2)
theorem cutL_len (l : List Hp) (x : Int) : (cutL l x).length = l.length := by simp [cutL]
theorem f31_2_eq (m : Nat) (hm : 1001 ≤ m) (l : List Hp) (h10 : l.length ≤ 10) (ho : OkL l) (b : Int) (k : Nat) (hk : b = (k : Int)) (hk1 : 1 ≤ k) (hk2 : k ≤ 10) : ∀ (d fuel : Nat) (x y : Int) (lh : List Hp), lh.length = l.length → (∀ (j : Nat) (h1 : j < lh.length) (h2 : j < l.length), (lh[j]).1 = (l[j]).1) → 0 ≤ x → (∀ h ∈ l, h.1 ≤ x) → x ≤ y → y < x + d → y ≤ 23 → Fits k (cutL l y) → d < fuel →
  f31_2 m fuel l b x lh = some (endN k l d x)
 | 0, fuel, x, y, lh, _, _, _, _, h1, h2, _, _, _ => by omega
 | d + 1, fuel + 1, x, y, lh, hl, hj, h0, hx, h1, h2, hy, hF, hfu => by
  rw [f31_2]
  show (f31_3 m m l b x ((l.length : Nat) : Int) ((0 : Nat) : Int) lh).bind _ = _
  rw [f31_3_eq m l (by omega) b x l.length 0 m lh (by omega) (by omega) hl hj (by simp)]
  show (f58 m (cutL l x) b).bind _ = _
  rw [f58_eq m hm (cutL l x) b k hk (by omega) (by rw [cutL_len]; omega) (cutL_ok ho hx) (.inl hk1), w64i (x := x + 1) (by omega) (by omega)]
  unfold endN
  cases hb : fitsB' k (cutL l x) with
  | true => rfl
  | false =>
   have hxy : x ≠ y := fun q => by
    subst q
    rw [fitsB'_iff.2 hF] at hb; cases hb
   exact f31_2_eq m hm l h10 ho b k hk hk1 hk2 d fuel (x + 1) y _ (cutL_len l x) (fun j q1 q2 => by simp [cutL]) (by omega) (fun h hh => by have := hx h hh; omega) (by omega) (by omega) hy hF (by omega)
theorem fin_end {k : Nat} {l : List Hp} (ho : OkL l) (hf : Fits k l) : 0 ≤ mxF l 0 ∧ mxF l 0 ≤ endN k l 24 (mxF l 0) ∧ endN k l 24 (mxF l 0) ≤ 23 ∧ Fits k (cutL l (endN k l 24 (mxF l 0))) ∧ ∀ z, mxF l 0 ≤ z → z < endN k l 24 (mxF l 0) → ¬ Fits k (cutL l z) := by
 obtain ⟨h1, h2⟩ := mxF_ge l 0
 have h3 := mxF_le (b := 23) l 0 (by omega) (fun h hh => by have := ho h hh; omega)
 obtain ⟨q1, q2, q3, q4⟩ := endN_spec (k := k) (l := l) (d := 24) (x := mxF l 0) (y := 23) h3 (by omega) (by rw [cutL_23 ho]; exact hf)
 exact ⟨h1, q1, q2, q3, q4⟩
theorem f31_ok1 (m : Nat) (hm : 1001 ≤ m) (l : List Hp) (ho : OkL l) (h10 : l.length ≤ 10) (k : Nat) (hk1 : 1 ≤ k) (hk2 : k ≤ 10) : f31 m l (k : Int) = some (cond (fitsB' k l) (endN k l 24 (mxF l 0), 0) (0, 12)) := by
 unfold f31
 rw [f57_ok0 m (by omega) l ho h10 _ ⟨by omega, by omega⟩]
 show (f58 m l (k : Int)).bind _ = _
 rw [f58_eq m hm l _ k rfl (by omega) (by omega) ho (.inl (by omega)), fitsI (by omega) (by omega)]
 cases hb : fitsB' k l with
 | false => rfl
 | true =>
  obtain ⟨q0, q1, q2, q3, q4⟩ := fin_end ho (fitsB'_iff.1 hb)
  show (f31_1 m m l (k : Int) 0 ((l.length : Nat) : Int) ((0 : Nat) : Int)).bind _ = _
  rw [f31_1_eq m l (by omega) _ l.length 0 m 0 (by omega) (by omega), List.drop_zero]
  show (f31_2 m m l (k : Int) (mxF l 0) l).bind _ = _
  rw [f31_2_eq m hm l h10 ho _ k rfl (by omega) (by omega) 24 m (mxF l 0) (endN k l 24 (mxF l 0)) l rfl (fun j q1 q2 => rfl) q0 (mxF_ge l 0).2 q1 (by omega) q2 q3 (by omega)]
  rfl
end Go.Xm
