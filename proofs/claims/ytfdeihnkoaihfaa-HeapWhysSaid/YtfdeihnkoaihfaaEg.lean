/- HeapWhys: the earliest end on both sides, and the walk. Conditions: none. -/
import Derived.Test.YtfdeihnkoaihfaaBm
import Derived.Test.YtfdeihnkoaihfaaEe
import Derived.Test.YtfdeihnkoaihfaaEh
import Derived.Test.YtfdeihnkoaihfaaAr
namespace Go.Xm
set_option linter.unusedVariables false
set_option linter.unusedSimpArgs false
set_option maxRecDepth 20000

theorem iMax_eq (x y : Int) : iMax x y = max x y := by unfold iMax; split <;> omega

/-! ### The earliest end -/
def cutL (l : List Hp) (x : Int) : List Hp := l.map fun h => (h.1, min h.2 x)
def mxF (l : List Hp) (c : Int) : Int := l.foldl (fun c h => max c h.1) c

theorem mxF_ge : ∀ (l : List Hp) (c : Int), c ≤ mxF l c ∧ ∀ h ∈ l, h.1 ≤ mxF l c
  | [], c => ⟨Int.le_refl _, fun h hh => by cases hh⟩
  | x :: l, c => by
    obtain ⟨h1, h2⟩ := mxF_ge l (max c x.1)
    have e : mxF (x :: l) c = mxF l (max c x.1) := rfl
    rw [e]
    refine ⟨by omega, fun h hh => ?_⟩
    rcases List.mem_cons.1 hh with rfl | hh
    · omega
    · exact h2 h hh

theorem mxF_le {b : Int} : ∀ (l : List Hp) (c : Int), c ≤ b → (∀ h ∈ l, h.1 ≤ b) → mxF l c ≤ b
  | [], c, h, _ => h
  | x :: l, c, h, hl => mxF_le l (max c x.1) (by have := hl x (List.mem_cons_self ..); omega) (fun y hy => hl y (List.mem_cons_of_mem _ hy))

theorem mxF_is : ∀ (l : List Hp) (c : Int), mxF l c = c ∨ ∃ h ∈ l, mxF l c = h.1
  | [], c => .inl rfl
  | x :: l, c => by
    have e : mxF (x :: l) c = mxF l (max c x.1) := rfl
    rw [e]
    rcases mxF_is l (max c x.1) with h | ⟨h, hh, h2⟩
    · by_cases q : c ≤ x.1
      · exact .inr ⟨x, List.mem_cons_self .., by rw [h]; omega⟩
      · exact .inl (by rw [h]; omega)
    · exact .inr ⟨h, List.mem_cons_of_mem _ hh, h2⟩

theorem cutL_ok {l : List Hp} (ho : OkL l) {x : Int} (hx : ∀ h ∈ l, h.1 ≤ x) : OkL (cutL l x) := by
  intro h hh
  obtain ⟨y, hy, rfl⟩ := List.mem_map.1 hh
  have := ho y hy
  have := hx y hy
  simp only
  omega

theorem cutL_23 {l : List Hp} (ho : OkL l) : cutL l 23 = l := by
  unfold cutL
  conv => rhs; rw [← List.map_id l]
  refine List.map_congr_left (fun h hh => ?_)
  have := ho h hh
  show (h.1, min h.2 23) = h
  have e : min h.2 23 = h.2 := by omega
  rw [e]

theorem f31_1_eq (m : Nat) (l : List Hp) (h10 : l.length ≤ 1000) (b : Int) : ∀ (r i fuel : Nat) (c : Int), i + r = l.length → r < fuel → f31_1 m fuel l b c ((l.length : Nat) : Int) (i : Int) = some (mxF (l.drop i) c)
  | 0, i, fuel + 1, c, hr, hf => by
    rw [f31_1, dcF (p := (i : Int) < ((l.length : Nat) : Int)) (by omega), List.drop_eq_nil_of_le (by omega)]
    rfl
  | r + 1, i, fuel + 1, c, hr, hf => by
    have hi : i < l.length := by omega
    rw [f31_1, dcT (p := (i : Int) < ((l.length : Nat) : Int)) (by omega), inR hi, getDi l hi, nat_succ i (by omega), iMax_eq, List.drop_eq_getElem_cons hi]
    exact f31_1_eq m l h10 b r (i + 1) fuel _ (by omega) (by omega)

theorem f31_3_eq (m : Nat) (l : List Hp) (h10 : l.length ≤ 1000) (b x : Int) : ∀ (r i fuel : Nat) (lh : List Hp), i + r = l.length → r < fuel → lh.length = l.length → (∀ (j : Nat) (h1 : j < lh.length) (h2 : j < l.length), (lh[j]).1 = (l[j]).1) → lh.take i = (cutL l x).take i →
    f31_3 m fuel l b x ((l.length : Nat) : Int) (i : Int) lh = some (cutL l x)
  | 0, i, fuel + 1, lh, hr, hf, hl, hj, ht => by
    rw [f31_3, dcF (p := (i : Int) < ((l.length : Nat) : Int)) (by omega)]
    have h1 : (cutL l x).length = l.length := by simp [cutL]
    rw [List.take_of_length_le (by omega), List.take_of_length_le (by omega)] at ht
    rw [ht]; rfl
  | r + 1, i, fuel + 1, lh, hr, hf, hl, hj, ht => by
    have hi : i < l.length := by omega
    have hil : i < lh.length := by omega
    have h1 : (cutL l x).length = l.length := by simp [cutL]
    rw [f31_3, dcT (p := (i : Int) < ((l.length : Nat) : Int)) (by omega), inR hi, inR hil, getDi l hi, getDi lh hil, nat_succ i (by omega), iMin_eq, Int.toNat_natCast]
    show f31_3 m fuel l b x _ ((i + 1 : Nat) : Int) (lh.set i ((lh[i]).1, min (l[i]).2 x)) = _
    refine f31_3_eq m l h10 b x r (i + 1) fuel _ (by omega) (by omega) (by rw [List.length_set]; exact hl) (fun j q1 q2 => ?_) ?_
    · rw [List.getElem_set]
      split
      · rename_i e; subst e; exact hj i hil hi
      · exact hj j _ q2
    · rw [List.take_succ_eq_append_getElem (by rw [List.length_set]; exact hil), List.take_succ_eq_append_getElem (by rw [h1]; exact hi), List.take_set_of_le (by omega), ht, List.getElem_set_self]
      congr 2
      rw [hj i hil hi]
      simp [cutL]

/-- The first end from x on that does. -/
noncomputable def endN (k : Nat) (l : List Hp) : Nat → Int → Int
  | 0, x => x
  | d + 1, x => cond (fitsB' k (cutL l x)) x (endN k l d (x + 1))

theorem endN_spec {k : Nat} {l : List Hp} : ∀ {d : Nat} {x y : Int}, x ≤ y → y < x + d → Fits k (cutL l y) → x ≤ endN k l d x ∧ endN k l d x ≤ y ∧ Fits k (cutL l (endN k l d x)) ∧ ∀ z, x ≤ z → z < endN k l d x → ¬ Fits k (cutL l z)
  | 0, x, y, h1, h2, _ => by omega
  | d + 1, x, y, h1, h2, hy => by
    unfold endN
    cases hb : fitsB' k (cutL l x) with
    | true => exact ⟨by simp, by simpa using h1, by simpa using fitsB'_iff.1 hb, fun z z1 z2 => by simp at z2; omega⟩
    | false =>
      have hne : ¬ Fits k (cutL l x) := fun q => by rw [fitsB'_iff.2 q] at hb; cases hb
      have hxy : x ≠ y := fun q => hne (by rw [q]; exact hy)
      obtain ⟨q1, q2, q3, q4⟩ := endN_spec (d := d) (x := x + 1) (y := y) (by omega) (by omega) hy
      refine ⟨by simp; omega, by simpa using q2, by simpa using q3, fun z z1 z2 => ?_⟩
      by_cases ez : z = x
      · rw [ez]; exact hne
      · exact q4 z (by omega) (by simpa using z2)

theorem cutL_len (l : List Hp) (x : Int) : (cutL l x).length = l.length := by simp [cutL]

theorem f31_2_eq (m : Nat) (hm : 1001 ≤ m) (l : List Hp) (h10 : l.length ≤ 10) (ho : OkL l) (b : Int) (k : Nat) (hk : b = (k : Int)) (hk1 : 1 ≤ k) (hk2 : k ≤ 10) : ∀ (d fuel : Nat) (x y : Int) (lh : List Hp), lh.length = l.length → (∀ (j : Nat) (h1 : j < lh.length) (h2 : j < l.length), (lh[j]).1 = (l[j]).1) → 0 ≤ x → (∀ h ∈ l, h.1 ≤ x) → x ≤ y → y < x + d → y ≤ 23 → Fits k (cutL l y) → d < fuel →
    f31_2 m fuel l b x lh = some (endN k l d x)
  | 0, fuel, x, y, lh, _, _, _, _, h1, h2, _, _, _ => by omega
  | d + 1, fuel + 1, x, y, lh, hl, hj, h0, hx, h1, h2, hy, hF, hfu => by
    rw [f31_2]
    show (f31_3 m m l b x ((l.length : Nat) : Int) ((0 : Nat) : Int) lh).bind _ = _
    rw [f31_3_eq m l (by omega) b x l.length 0 m lh (by omega) (by omega) hl hj (by simp)]
    show (f58 m (cutL l x) b).bind _ = _
    rw [f58_eq m hm (cutL l x) b k hk (by omega) (by rw [cutL_len]; omega) (cutL_ok ho hx) (.inl hk1), w64i (x := x + 1) (by omega) (by omega)]
    unfold endN
    cases hb : fitsB' k (cutL l x) with
    | true => rfl
    | false =>
      have hxy : x ≠ y := fun q => by
        subst q
        rw [fitsB'_iff.2 hF] at hb; cases hb
      exact f31_2_eq m hm l h10 ho b k hk hk1 hk2 d fuel (x + 1) y _ (cutL_len l x) (fun j q1 q2 => by simp [cutL]) (by omega) (fun h hh => by have := hx h hh; omega) (by omega) (by omega) hy hF (by omega)

/-- The end, by the reference. -/
theorem f70_1_eq (m : Nat) (l : List Hp) (h10 : l.length ≤ 900) (b : Int) : ∀ (r i fuel : Nat) (acc : List Hp), i + r = l.length → r < fuel → acc.length ≤ i →
    f70_1 m fuel l b (i : Int) acc = some (if ∀ h ∈ l.drop i, h.1 ≤ b then .x0 (acc ++ cutL (l.drop i) b) else .r)
  | 0, i, fuel + 1, acc, hr, hf, ha => by
    rw [f70_1, dcF (p := (i : Int) < ((l.length : Nat) : Int)) (by omega), List.drop_eq_nil_of_le (by omega), if_pos (fun h hh => by cases hh)]
    simp [cutL]
  | r + 1, i, fuel + 1, acc, hr, hf, ha => by
    have hi : i < l.length := by omega
    rw [f70_1, dcT (p := (i : Int) < ((l.length : Nat) : Int)) (by omega), inR hi, getDi l hi, nat_succ i (by omega), iMin_eq, fitsI (n := acc.length + 1) (by omega) (by omega), List.drop_eq_getElem_cons hi]
    by_cases e : (l[i]).1 > b
    · rw [dcT e, if_neg (fun q => by have := q _ (List.mem_cons_self ..); omega)]
      rfl
    · rw [dcF e]
      show f70_1 m fuel l b ((i + 1 : Nat) : Int) (acc ++ [((l[i]).1, min (l[i]).2 b)]) = _
      rw [f70_1_eq m l h10 b r (i + 1) fuel _ (by omega) (by omega) (by simp; omega)]
      by_cases e2 : ∀ h ∈ l.drop (i + 1), h.1 ≤ b
      · rw [if_pos e2, if_pos (fun h hh => by
          rcases List.mem_cons.1 hh with rfl | hh
          · omega
          · exact e2 h hh), List.append_assoc]
        rfl
      · rw [if_neg e2, if_neg (fun q => e2 (fun h hh => q h (List.mem_cons_of_mem _ hh)))]

theorem f70_eq (m : Nat) (hm : 1001 ≤ m) (l : List Hp) (hl : l.length ≤ 900) (b : Int) : f70 m l b = some (if ∀ h ∈ l, h.1 ≤ b then (cutL l b, true) else ([], false)) := by
  unfold f70
  show (f70_1 m m l b ((0 : Nat) : Int) []).bind _ = _
  rw [f70_1_eq m l hl b l.length 0 m [] (by omega) (by omega) (by simp), List.drop_zero]
  split <;> rfl

theorem f32_1_eq (m : Nat) (hm : 1001 ≤ m) (l : List Hp) (h10 : l.length ≤ 10) (b : Int) (k : Nat) (hk : b = (k : Int)) (hk2 : k ≤ 10) (e : Int) (he : e ≤ 23) (h1 : ∀ h ∈ l, h.1 ≤ e) (h2 : Fits k (cutL l e)) (h3 : ∀ z : Int, (∀ h ∈ l, h.1 ≤ z) → 0 ≤ z → z < e → ¬ Fits k (cutL l z)) :
    ∀ (d fuel : Nat) (t : Int), 0 ≤ t → t ≤ e → t + d = 23 → d < fuel → (f32_1 m fuel l b t).bind (fun o1 => match o1 with | .r x4_r1 => some (x4_r1, (0 : Int)) | .x0 => some ((23 : Int), 0)) = some (e, 0)
  | 0, fuel + 1, t, h0, ht, hd, hfu => by
    rw [f32_1, dcF (p := t < 23) (by omega)]
    show some ((23 : Int), (0 : Int)) = _
    have : e = 23 := by omega
    rw [this]
  | d + 1, fuel + 1, t, h0, ht, hd, hfu => by
    rw [f32_1, dcT (p := t < 23) (by omega), f70_eq m hm l (by omega), w64i (x := t + 1) (by omega) (by omega)]
    by_cases e1 : ∀ h ∈ l, h.1 ≤ t
    · rw [if_pos e1]
      show (((f60 m (cutL l t) b).bind fun r8 => cond r8 (some (Of32_1.r t)) (f32_1 m fuel l b (t + 1))).bind _) = _
      rw [f60_eq m hm (cutL l t) (by rw [cutL_len]; omega) b k hk (by omega)]
      cases hb : fitsB' k (cutL l t) with
      | true =>
        have : t = e := by
          by_cases q : t = e
          · exact q
          · exact absurd (fitsB'_iff.1 hb) (h3 t e1 h0 (by omega))
        subst this
        rfl
      | false =>
        have : t ≠ e := fun q => by
          subst q
          rw [fitsB'_iff.2 h2] at hb; cases hb
        exact f32_1_eq m hm l h10 b k hk hk2 e he h1 h2 h3 d fuel (t + 1) (by omega) (by omega) (by omega) (by omega)
    · rw [if_neg e1]
      have : t ≠ e := fun q => e1 (by rw [q]; exact h1)
      exact f32_1_eq m hm l h10 b k hk hk2 e he h1 h2 h3 d fuel (t + 1) (by omega) (by omega) (by omega) (by omega)

/-- Finish, as both sides answer. -/
noncomputable def finR (l : List Hp) (b : Int) : Int × Int :=
  if hnd l b ≠ 0 then (0, hnd l b) else cond (fitsB' b.toNat l) (endN b.toNat l 24 (mxF l 0), 0) (0, 12)

theorem fin_end {k : Nat} {l : List Hp} (ho : OkL l) (hf : Fits k l) : 0 ≤ mxF l 0 ∧ mxF l 0 ≤ endN k l 24 (mxF l 0) ∧ endN k l 24 (mxF l 0) ≤ 23 ∧ Fits k (cutL l (endN k l 24 (mxF l 0))) ∧ ∀ z, mxF l 0 ≤ z → z < endN k l 24 (mxF l 0) → ¬ Fits k (cutL l z) := by
  obtain ⟨h1, h2⟩ := mxF_ge l 0
  have h3 := mxF_le (b := 23) l 0 (by omega) (fun h hh => by have := ho h hh; omega)
  obtain ⟨q1, q2, q3, q4⟩ := endN_spec (k := k) (l := l) (d := 24) (x := mxF l 0) (y := 23) h3 (by omega) (by rw [cutL_23 ho]; exact hf)
  exact ⟨h1, q1, q2, q3, q4⟩

theorem f31_eq (m : Nat) (hm : 1001 ≤ m) (l : List Hp) (hl : l.length ≤ 1000) (b : Int) : f31 m l b = some (finR l b) := by
  unfold f31 finR
  rw [f57_eq m hm l hl]
  show cond (hnd l b != 0) _ _ = _
  by_cases e : hnd l b = 0
  · rw [if_neg (fun q => q e)]
    have : (hnd l b != 0) = false := by simp [e]
    rw [this]
    obtain ⟨ho, h10, b1, b2⟩ := hnd_ok e
    obtain ⟨k, rfl⟩ : ∃ k : Nat, b = (k : Int) := ⟨b.toNat, by omega⟩
    rw [f58_eq m hm l _ k rfl (by omega) (by omega) ho (.inl (by omega)), Int.toNat_natCast, fitsI (by omega) (by omega)]
    cases hb : fitsB' k l with
    | false => rfl
    | true =>
      obtain ⟨q0, q1, q2, q3, q4⟩ := fin_end ho (fitsB'_iff.1 hb)
      show (f31_1 m m l (k : Int) 0 ((l.length : Nat) : Int) ((0 : Nat) : Int)).bind _ = _
      rw [f31_1_eq m l hl _ l.length 0 m 0 (by omega) (by omega), List.drop_zero]
      show (f31_2 m m l (k : Int) (mxF l 0) l).bind _ = _
      rw [f31_2_eq m hm l h10 ho _ k rfl (by omega) (by omega) 24 m (mxF l 0) (endN k l 24 (mxF l 0)) l rfl (fun j q1 q2 => rfl) q0 (mxF_ge l 0).2 q1 (by omega) q2 q3 (by omega)]
      rfl
  · rw [if_pos e]
    have : (hnd l b != 0) = true := by simp [e]
    rw [this]
    rfl

theorem f32_eq (m : Nat) (hm : 1001 ≤ m) (l : List Hp) (hl : l.length ≤ 1000) (b : Int) : f32 m l b = some (finR l b) := by
  unfold f32 finR
  rw [f59_eq m hm l hl]
  show cond (hnd l b == 0) _ (cond (hnd l b != 0) _ _) = _
  by_cases e : hnd l b = 0
  · rw [if_neg (fun q => q e), e]
    obtain ⟨ho, h10, b1, b2⟩ := hnd_ok e
    obtain ⟨k, rfl⟩ : ∃ k : Nat, b = (k : Int) := ⟨b.toNat, by omega⟩
    rw [f60_eq m hm l hl _ k rfl (by omega), Int.toNat_natCast]
    cases hb : fitsB' k l with
    | false => rfl
    | true =>
      obtain ⟨q0, q1, q2, q3, q4⟩ := fin_end ho (fitsB'_iff.1 hb)
      exact f32_1_eq m hm l h10 _ k rfl (by omega) _ q2 (fun h hh => by have := (mxF_ge l 0).2 h hh; omega) q3 (fun z z1 z2 z3 => q4 z (mxF_le l 0 z2 z1) z3) 23 m 0 (by omega) (by omega) (by omega) (by omega)
  · rw [if_pos e]
    have e1 : (hnd l b != 0) = true := by simp [e]
    have e2 : (hnd l b == 0) = false := by simp [e]
    rw [e1, e2]
    rfl

theorem f4_true (m : Nat) (hm : 1001 ≤ m) (a : List Hp) (b c d : Int) : f4 m a b c d = some true := by
  unfold f4
  by_cases ha : a.length > 60
  · rw [dcT (p := ((a.length : Nat) : Int) > 60) (by omega)]; rfl
  · rw [dcF (p := ((a.length : Nat) : Int) > 60) (by omega)]
    have hne : ∀ x : Int, (x != x) = false := fun x => by simp
    simp only [cond_false, cond_true, Option.bind_some, f17_eq m hm a (by omega), f25_eq m hm a (by omega), f26_eq m hm a (by omega), f27_eq m hm a (by omega), f28_eq m hm a (by omega), f29_eq m hm a (by omega), f30_eq m hm a (by omega), f31_eq m hm a (by omega), f32_eq m hm a (by omega), hne, beq_self_eq_true]
end Go.Xm

namespace Go.Proofs.Ytfdeihnkoaihfaa.heapWhys
open Go.Xm Go.RowKit

theorem walk (v0 : Value) (z0 : List (Int × Int)) (a1 a2 a3 : Int) (w : World) (g0 : RowIn w v0 2 (rowC (encQ .i64) z0) z0.length) (_w0 : ∀ z ∈ z0, (Lit.int .i64 z.1).wf = true ∧ (Lit.int .i64 z.2).wf = true) (_w1 : (Lit.int .i64 a1).wf = true) (_w2 : (Lit.int .i64 a2).wf = true) (_w3 : (Lit.int .i64 a3).wf = true) :
    Calls Try.prog 4 #[v0, .int .i64 a1, .int .i64 a2, .int .i64 a3] w fun e w' => e = .returned (.bool true) ∧ Below w.heap.size w w' := by
  have hp : ∀ l : List Value, l.all scal = true → l.all plain = true := fun l h => List.all_eq_true.2 fun v hv => by
    have := List.all_eq_true.1 h v hv
    cases v <;> simp_all [scal, plain]
  exact KC.calls1 (E := E0) (n := z0.length) (by decide) rfl (hp _ (rowC_scal (encQ_ok .i64) z0)) rfl (fun z y => f4_ok 1001 z y z0 a1 a2 a3 true (f4_true 1001 (by omega) z0 a1 a2 a3)) w g0 (Nat.zero_le _) trivial

end Go.Proofs.Ytfdeihnkoaihfaa.heapWhys
