/- HeapDual: the hours that are returned are the first ones of their size, and so are the heaps that have no hour in common. Plain Lean. Conditions: none. -/
import Derived.Test.YtfdeihnkoaihfaaHa
namespace Go.Xm
set_option linter.unusedVariables false
set_option linter.unusedSimpArgs false

/-! ### Sets as ascending lists -/
def bitsR : Nat → Nat → Nat → List Int
  | 0, _, _ => []
  | n + 1, j, s => if s % 2 = 1 then (j : Int) :: bitsR n (j + 1) (s / 2) else bitsR n (j + 1) (s / 2)

theorem bitsR_in : ∀ (n j s : Nat), ∀ x ∈ bitsR n j s, (j : Int) ≤ x ∧ x < j + n
  | 0, _, _, x, h => by cases h
  | n + 1, j, s, x, h => by
    unfold bitsR at h
    split at h
    · rcases List.mem_cons.1 h with rfl | h
      · omega
      · have := bitsR_in n (j + 1) (s / 2) x h; omega
    · have := bitsR_in n (j + 1) (s / 2) x h; omega

theorem bitsR_asc : ∀ (n j s : Nat), (bitsR n j s).Pairwise (· < ·)
  | 0, _, _ => List.Pairwise.nil
  | n + 1, j, s => by
    unfold bitsR
    split
    · refine List.pairwise_cons.2 ⟨fun x hx => ?_, bitsR_asc n (j + 1) (s / 2)⟩
      have := bitsR_in n (j + 1) (s / 2) x hx; omega
    · exact bitsR_asc n (j + 1) (s / 2)

theorem bitsR_len : ∀ (n j s : Nat), (bitsR n j s).length ≤ n
  | 0, _, _ => Nat.le_refl _
  | n + 1, j, s => by
    have := bitsR_len n (j + 1) (s / 2)
    unfold bitsR
    split
    · rw [List.length_cons]; omega
    · omega

theorem bitsR_of : ∀ (n j : Nat) (X : List Int), X.Pairwise (· < ·) → (∀ x ∈ X, (j : Int) ≤ x ∧ x < j + n) → ∃ s, s < 2 ^ n ∧ bitsR n j s = X
  | 0, j, X, _, h => ⟨0, by decide, by
      cases X with
      | nil => rfl
      | cons x X => have := h x (List.mem_cons_self ..); omega⟩
  | n + 1, j, X, hp, h => by
    have hpow : 2 ^ (n + 1) = 2 * 2 ^ n := by rw [Nat.pow_succ]; omega
    have even : (∀ x ∈ X, ((j + 1 : Nat) : Int) ≤ x) → ∃ s, s < 2 ^ (n + 1) ∧ bitsR (n + 1) j s = X := fun h2 => by
      obtain ⟨s, s1, s2⟩ := bitsR_of n (j + 1) X hp (fun x hx => by have := h x hx; have := h2 x hx; omega)
      refine ⟨2 * s, by omega, ?_⟩
      unfold bitsR
      rw [if_neg (by omega), show 2 * s / 2 = s by omega]
      exact s2
    cases X with
    | nil => exact even (fun x hx => by cases hx)
    | cons x X =>
      obtain ⟨p1, p2⟩ := List.pairwise_cons.1 hp
      have hx := h x (List.mem_cons_self ..)
      by_cases e : x = (j : Int)
      · obtain ⟨s, s1, s2⟩ := bitsR_of n (j + 1) X p2 (fun y hy => by have := h y (List.mem_cons_of_mem _ hy); have := p1 y hy; omega)
        refine ⟨2 * s + 1, by omega, ?_⟩
        unfold bitsR
        rw [if_pos (by omega), show (2 * s + 1) / 2 = s by omega, s2, e]
      · refine even (fun y hy => ?_)
        rcases List.mem_cons.1 hy with rfl | hy
        · omega
        · have := p1 y hy; omega

/-! ### Which list is first -/
def lexB : List Int → List Int → Bool
  | [], [] => false
  | [], _ :: _ => true
  | _ :: _, [] => false
  | x :: a, y :: b => if x < y then true else if x > y then false else lexB a b

theorem lexB_self : ∀ a : List Int, lexB a a = false
  | [] => rfl
  | x :: a => by unfold lexB; rw [if_neg (by omega), if_neg (by omega)]; exact lexB_self a

theorem lexB_asymm : ∀ {a b : List Int}, lexB a b = true → lexB b a = false
  | [], [], h => by cases h
  | [], _ :: _, h => rfl
  | _ :: _, [], h => by cases h
  | x :: a, y :: b, h => by
    unfold lexB at h ⊢
    by_cases e1 : x < y
    · rw [if_neg (by omega), if_pos e1]
    · rw [if_neg e1] at h
      by_cases e2 : x > y
      · rw [if_pos e2] at h; cases h
      · rw [if_neg e2] at h
        rw [if_neg e2, if_neg e1]
        exact lexB_asymm h

theorem lexB_cons {x : Int} {a b : List Int} (h : a = b ∨ lexB a b = true) : x :: a = x :: b ∨ lexB (x :: a) (x :: b) = true := by
  rcases h with rfl | h
  · exact .inl rfl
  · right
    unfold lexB
    rw [if_neg (by omega), if_neg (by omega)]
    exact h

/-! ### All are tried -/
def btr (σ : Bool) (a b : Int) : Bool := match σ with | true => decide (a < b) | false => decide (b < a)

def stepB (σ : Bool) (good : Nat → Bool) (own : Nat → List Int) (st : Int × List Int) (s : Nat) : Int × List Int :=
  cond (good s && (btr σ st.1 ((own s).length : Int) || (decide (((own s).length : Int) = st.1) && lexB (own s) st.2))) (((own s).length : Int), own s) st

def runB (σ : Bool) (good : Nat → Bool) (own : Nat → List Int) : Nat → Nat → Int × List Int → Int × List Int
  | 0, _, st => st
  | r + 1, s, st => runB σ good own r (s + 1) (stepB σ good own st s)

theorem btr_irr (σ : Bool) (a : Int) : btr σ a a = false := by cases σ <;> simp [btr]
theorem btr_asymm {σ : Bool} {a b : Int} (h : btr σ a b = true) : btr σ b a = false ∧ a ≠ b := by
  cases σ <;> simp only [btr, decide_eq_true_eq, decide_eq_false_iff_not] at h ⊢ <;> omega

theorem best (σ : Bool) (good : Nat → Bool) (own : Nat → List Int) (N : Nat) (T : List Int) (s0 : Nat) (hs0 : s0 < N) (h0 : good s0 = true) (hT : own s0 = T) (F0 : Int) (hF : ∀ s, s < N → btr σ F0 ((own s).length : Int) = true)
    (hb : ∀ s, s < N → good s = true → btr σ ((own s).length : Int) (T.length : Int) = true ∨ (own s).length = T.length ∧ (own s = T ∨ lexB T (own s) = true)) : runB σ good own N 0 (F0, []) = ((T.length : Int), T) := by
  have keep : ∀ s, s < N → stepB σ good own ((T.length : Int), T) s = ((T.length : Int), T) := fun s hs => by
    unfold stepB
    cases hg : good s with
    | false => rfl
    | true =>
      rcases hb s hs hg with h | ⟨h1, rfl | h2⟩
      · obtain ⟨q1, q2⟩ := btr_asymm h
        rw [q1, decide_eq_false q2]; rfl
      · rw [btr_irr, lexB_self, Bool.and_false]; rfl
      · rw [h1, btr_irr, lexB_asymm h2, Bool.and_false]; rfl
  have get : ∀ st, (st = (F0, []) ∨ ∃ s, s < N ∧ good s = true ∧ st = (((own s).length : Int), own s)) → stepB σ good own st s0 = ((T.length : Int), T) := by
    rintro st (rfl | ⟨s, hs, hg, rfl⟩)
    · unfold stepB
      have := hF s0 hs0
      rw [hT] at this
      rw [h0, hT, this]; rfl
    · unfold stepB
      rw [h0, hT]
      rcases hb s hs hg with h | ⟨h1, h2 | h2⟩
      · rw [h]; rfl
      · rw [h2, btr_irr, lexB_self, Bool.and_false]; rfl
      · rw [h2, decide_eq_true (by omega), Bool.and_self, Bool.or_true]; rfl
  have inv : ∀ st s, s < N → (st = (F0, []) ∨ ∃ s, s < N ∧ good s = true ∧ st = (((own s).length : Int), own s)) → (stepB σ good own st s = (F0, []) ∨ ∃ s', s' < N ∧ good s' = true ∧ stepB σ good own st s = (((own s').length : Int), own s')) := by
    intro st s hs hst
    unfold stepB
    cases hg : good s with
    | false => exact hst
    | true =>
      cases (btr σ st.1 ((own s).length : Int) || (decide (((own s).length : Int) = st.1) && lexB (own s) st.2)) with
      | true => exact .inr ⟨s, hs, hg, rfl⟩
      | false => exact hst
  have run2 : ∀ r s, s + r = N → runB σ good own r s ((T.length : Int), T) = ((T.length : Int), T) := by
    intro r
    induction r with
    | zero => intro s _; rfl
    | succ r ih =>
      intro s hs
      show runB σ good own r (s + 1) (stepB σ good own ((T.length : Int), T) s) = _
      rw [keep s (by omega)]
      exact ih (s + 1) (by omega)
  have run1 : ∀ r s st, s + r = N → s ≤ s0 → (st = (F0, []) ∨ ∃ s, s < N ∧ good s = true ∧ st = (((own s).length : Int), own s)) → runB σ good own r s st = ((T.length : Int), T) := by
    intro r
    induction r with
    | zero => intro s st h1 h2 _; omega
    | succ r ih =>
      intro s st hs hle hst
      show runB σ good own r (s + 1) (stepB σ good own st s) = _
      by_cases e : s = s0
      · subst e
        rw [get st hst]
        exact run2 r (s + 1) (by omega)
      · exact ih (s + 1) _ (by omega) (by omega) (inv st s (by omega) hst)
  exact run1 N 0 _ (by omega) (Nat.zero_le _) (.inl rfl)

/-! ### Hours -/
theorem allH_stb {l : List Hp} {X : List Int} : allH l X = true ↔ Stb l X := by
  unfold allH Stb
  rw [List.all_eq_true]
  refine forall_congr' fun h => forall_congr' fun _ => ?_
  unfold anyH hasB
  rw [List.any_eq_true]
  simp only [decide_eq_true_eq]

theorem hr_ok : ∀ (d : Nat) (t : Int) (S : List Hp), OkL S → (∀ x ∈ S, t ≤ x.2) → t + d = 24 → (hrL d t S).Pairwise (· < ·) ∧ (∀ z ∈ hrL d t S, t ≤ z ∧ ∃ x ∈ S, z ≤ x.2) ∧ Stb S (hrL d t S)
  | 0, t, S, ho, h, hd => by
    cases S with
    | nil => exact ⟨List.Pairwise.nil, (fun z hz => by cases hz), fun x hx => by cases hx⟩
    | cons y l =>
      have := h y (List.mem_cons_self ..)
      have := ho y (List.mem_cons_self ..)
      omega
  | d + 1, t, [], _, _, _ => ⟨List.Pairwise.nil, (fun z hz => by cases hz), fun x hx => by cases hx⟩
  | d + 1, t, y :: l, ho, h, hd => by
    rw [hrL_cons]
    by_cases e : mt (rem t (y :: l)) + 1 = mt (y :: l)
    · rw [if_pos e]
      obtain ⟨q1, q2, q3⟩ := hr_ok d (t + 1) _ (ho.rem t) (fun x hx => by
        have := rem_later h x hx
        have := ho x (mem_rem.1 hx).1
        omega) (by omega)
      refine ⟨List.pairwise_cons.2 ⟨fun z hz => ?_, q1⟩, fun z hz => ?_, fun x hx => ?_⟩
      · have := (q2 z hz).1; omega
      · rcases List.mem_cons.1 hz with rfl | hz
        · exact ⟨Int.le_refl _, y, List.mem_cons_self .., h y (List.mem_cons_self ..)⟩
        · obtain ⟨z1, x, z2, z3⟩ := q2 z hz
          exact ⟨by omega, x, (mem_rem.1 z2).1, z3⟩
      · by_cases e2 : x.1 ≤ t ∧ t ≤ x.2
        · exact ⟨t, List.mem_cons_self .., e2⟩
        · obtain ⟨z, z1, z2⟩ := q3 x (mem_rem.2 ⟨hx, e2⟩)
          exact ⟨z, List.mem_cons_of_mem _ z1, z2⟩
    · rw [if_neg e]
      obtain ⟨q1, q2, q3⟩ := hr_ok d (t + 1) _ ho (not_taken ho h (by simp) e) (by omega)
      exact ⟨q1, fun z hz => ⟨by have := (q2 z hz).1; omega, (q2 z hz).2⟩, q3⟩

theorem hr_first : ∀ (d : Nat) (t : Int) (S : List Hp) (X : List Int), OkL S → (∀ x ∈ S, t ≤ x.2) → t + d = 24 → X.Pairwise (· < ·) → (∀ x ∈ X, t ≤ x) → Stb S X → X.length = mt S → hrL d t S = X ∨ lexB (hrL d t S) X = true
  | d, t, [], X, _, _, _, _, _, _, hl => by
    have : X = [] := List.eq_nil_of_length_eq_zero hl
    subst this
    cases d <;> exact .inl rfl
  | 0, t, y :: l, X, ho, h, hd, _, _, _, _ => by
    have := h y (List.mem_cons_self ..)
    have := ho y (List.mem_cons_self ..)
    omega
  | d + 1, t, y :: l, X, ho, h, hd, hp, hX, hs, hl => by
    rw [hrL_cons]
    cases X with
    | nil => rw [mt_cons ho] at hl; simp only [List.length_nil] at hl; omega
    | cons x X =>
      obtain ⟨p1, p2⟩ := List.pairwise_cons.1 hp
      have hx := hX x (List.mem_cons_self ..)
      by_cases ex : x = t
      · subst ex
        have hs2 : Stb (rem x (y :: l)) X := fun z hz => by
          obtain ⟨z1, z2⟩ := mem_rem.1 hz
          obtain ⟨u, u1, u2⟩ := hs z z1
          rcases List.mem_cons.1 u1 with rfl | u1
          · exact absurd u2 z2
          · exact ⟨u, u1, u2⟩
        have h1 := mt_le (ho.rem x) hs2
        have h2 := mt_rem ho x
        simp only [List.length_cons] at hl
        have e : mt (rem x (y :: l)) + 1 = mt (y :: l) := by omega
        rw [if_pos e]
        refine lexB_cons (hr_first d (x + 1) _ X (ho.rem x) (fun z hz => ?_) (by omega) p2 (fun z hz => by have := p1 z hz; omega) hs2 (by omega))
        have := rem_later h z hz
        have := ho z (mem_rem.1 hz).1
        omega
      · by_cases e : mt (rem t (y :: l)) + 1 = mt (y :: l)
        · rw [if_pos e]
          right
          unfold lexB
          rw [if_pos (by omega)]
        · rw [if_neg e]
          exact hr_first d (t + 1) _ _ ho (not_taken ho h (by simp) e) (by omega) hp (fun z hz => by
            rcases List.mem_cons.1 hz with rfl | hz
            · omega
            · have := p1 z hz; omega) hs hl

theorem hours_best (l : List Hp) (ho : OkL l) (h8 : ∀ x ∈ l, x.2 ≤ 8) : runB false (fun s => allH l (bitsR 9 0 s)) (fun s => bitsR 9 0 s) 512 0 (100, []) = (((hrL 24 0 l).length : Int), hrL 24 0 l) := by
  have h0 : ∀ x ∈ l, (0 : Int) ≤ x.2 := fun x hx => by have := ho x hx; omega
  obtain ⟨q1, q2, q3⟩ := hr_ok 24 0 l ho h0 (by omega)
  have hlen := hrL_len 24 0 l ho h0 (by omega)
  obtain ⟨s0, s1, s2⟩ := bitsR_of 9 0 (hrL 24 0 l) q1 (fun x hx => by
    obtain ⟨z1, y, z2, z3⟩ := q2 x hx
    have := h8 y z2
    exact ⟨z1, by omega⟩)
  refine best false _ _ 512 (hrL 24 0 l) s0 s1 (by show allH l (bitsR 9 0 s0) = true; rw [s2]; exact allH_stb.2 q3) s2 100 (fun s _ => ?_) (fun s hs hg => ?_)
  · have := bitsR_len 9 0 s
    exact decide_eq_true (by omega)
  · have hst := allH_stb.1 hg
    have h1 := mt_le ho hst
    by_cases e : (bitsR 9 0 s).length = mt l
    · right
      refine ⟨by rw [hlen]; exact e, ?_⟩
      rcases hr_first 24 0 l _ ho h0 (by omega) (bitsR_asc 9 0 s) (fun x hx => (bitsR_in 9 0 s x hx).1) hst e with h | h
      · exact .inl h.symm
      · exact .inr h
    · left
      exact decide_eq_true (by rw [hlen]; omega)

/-! ### Heaps without an hour in common -/
def goodS : List Hp → Nat → List Hp → Bool
  | [], _, _ => true
  | h :: L, s, ch => if s % 2 = 1 then cmp ch h && goodS L (s / 2) (ch ++ [h]) else goodS L (s / 2) ch

theorem apL_acc : ∀ (L : List Hp) (i : Nat) (ch : List Hp) (acc : List Int), apL L i ch acc = acc ++ apL L i ch []
  | [], i, ch, acc => by simp [apL]
  | h :: L, i, ch, acc => by
    unfold apL
    split
    · rw [apL_acc L (i + 1) _ (acc ++ [(i : Int)]), apL_acc L (i + 1) _ ([] ++ [(i : Int)])]
      simp
    · exact apL_acc L (i + 1) ch acc

theorem OkL.comp2c {h : Hp} {L : List Hp} (ho : OkL (h :: L)) (ch : List Hp) : OkL (h :: comp2 ch L) := fun x hx => by
  rcases List.mem_cons.1 hx with rfl | hx
  · exact ho _ (List.mem_cons_self ..)
  · exact ho.tail.filter _ x hx

theorem comp2_take {h : Hp} {L ch : List Hp} (ho : OkL (h :: L)) (hc : cmp ch h = true) : 1 + mt (comp2 (ch ++ [h]) L) ≤ mt (comp2 ch (h :: L)) := by
  rw [comp2_cons, if_pos hc, comp2_snoc]
  exact mt_ge1 (ho.comp2c ch)

theorem comp2_mono {h : Hp} {L ch : List Hp} (ho : OkL (h :: L)) : mt (comp2 ch L) ≤ mt (comp2 ch (h :: L)) := by
  rw [comp2_cons]
  split
  · exact mt_mono (ho.comp2c ch) (fun x hx => List.mem_cons_of_mem _ hx)
  · exact Nat.le_refl _

theorem ap_le : ∀ (L : List Hp) (i s : Nat) (ch : List Hp), OkL L → goodS L s ch = true → (bitsR L.length i s).length ≤ mt (comp2 ch L)
  | [], i, s, ch, _, _ => Nat.zero_le _
  | h :: L, i, s, ch, ho, hg => by
    unfold goodS at hg
    show (bitsR (L.length + 1) i s).length ≤ _
    unfold bitsR
    by_cases e : s % 2 = 1
    · rw [if_pos e] at hg ⊢
      simp only [Bool.and_eq_true] at hg
      have h1 := ap_le L (i + 1) (s / 2) _ ho.tail hg.2
      have h2 := comp2_take ho hg.1
      rw [List.length_cons]
      omega
    · rw [if_neg e] at hg ⊢
      exact Nat.le_trans (ap_le L (i + 1) (s / 2) _ ho.tail hg) (comp2_mono ho)

theorem ap_first : ∀ (L : List Hp) (i s : Nat) (ch : List Hp), OkL L → goodS L s ch = true → (bitsR L.length i s).length = mt (comp2 ch L) → apL L i ch [] = bitsR L.length i s ∨ lexB (apL L i ch []) (bitsR L.length i s) = true
  | [], i, s, ch, _, _, _ => .inl rfl
  | h :: L, i, s, ch, ho, hg, hl => by
    unfold goodS at hg
    have hl : (bitsR (L.length + 1) i s).length = mt (comp2 ch (h :: L)) := hl
    show apL (h :: L) i ch [] = bitsR (L.length + 1) i s ∨ lexB (apL (h :: L) i ch []) (bitsR (L.length + 1) i s) = true
    unfold bitsR at hl ⊢
    unfold apL
    by_cases e : s % 2 = 1
    · rw [if_pos e] at hg hl ⊢
      simp only [Bool.and_eq_true] at hg
      have h1 := ap_le L (i + 1) (s / 2) _ ho.tail hg.2
      have h2 := comp2_take ho hg.1
      rw [List.length_cons] at hl
      rw [if_pos ⟨hg.1, by omega⟩, apL_acc]
      exact lexB_cons (ap_first L (i + 1) (s / 2) _ ho.tail hg.2 (by omega))
    · rw [if_neg e] at hg hl ⊢
      by_cases e2 : cmp ch h = true ∧ 1 + mt (comp2 (ch ++ [h]) L) = mt (comp2 ch (h :: L))
      · rw [if_pos e2, apL_acc]
        right
        have hin := bitsR_in L.length (i + 1) (s / 2)
        cases hb : bitsR L.length (i + 1) (s / 2) with
        | nil => rw [hb] at hl; simp only [List.length_nil] at hl; omega
        | cons x X =>
          rw [hb] at hin
          have := (hin x (List.mem_cons_self ..)).1
          show lexB ((i : Int) :: _) (x :: X) = true
          unfold lexB
          rw [if_pos (by omega)]
      · rw [if_neg e2]
        exact ap_first L (i + 1) (s / 2) ch ho.tail hg (by rw [mt_skip ho e2]; exact hl)

theorem ap_is : ∀ (L : List Hp) (i : Nat) (ch : List Hp), OkL L → ∃ s, s < 2 ^ L.length ∧ goodS L s ch = true ∧ bitsR L.length i s = apL L i ch []
  | [], i, ch, _ => ⟨0, by decide, rfl, rfl⟩
  | h :: L, i, ch, ho => by
    have hpow : 2 ^ (L.length + 1) = 2 * 2 ^ L.length := by rw [Nat.pow_succ]; omega
    show ∃ s, s < 2 ^ (L.length + 1) ∧ goodS (h :: L) s ch = true ∧ bitsR (L.length + 1) i s = apL (h :: L) i ch []
    unfold apL
    by_cases e2 : cmp ch h = true ∧ 1 + mt (comp2 (ch ++ [h]) L) = mt (comp2 ch (h :: L))
    · obtain ⟨s, s1, s2, s3⟩ := ap_is L (i + 1) (ch ++ [h]) ho.tail
      refine ⟨2 * s + 1, by omega, ?_, ?_⟩
      · unfold goodS
        rw [if_pos (by omega), show (2 * s + 1) / 2 = s by omega, e2.1, s2]; rfl
      · unfold bitsR
        rw [if_pos (by omega), show (2 * s + 1) / 2 = s by omega, if_pos e2, apL_acc, s3]; rfl
    · obtain ⟨s, s1, s2, s3⟩ := ap_is L (i + 1) ch ho.tail
      refine ⟨2 * s, by omega, ?_, ?_⟩
      · unfold goodS
        rw [if_neg (by omega), show 2 * s / 2 = s by omega, s2]
      · unfold bitsR
        rw [if_neg (by omega), show 2 * s / 2 = s by omega, if_neg e2, s3]

theorem ap_len0 (l : List Hp) (ho : OkL l) : (apL l 0 [] []).length = mt l := by
  rw [apL_len l 0 [] [] ho, comp2_nil]; simp

theorem apart_best (l : List Hp) (ho : OkL l) : runB true (fun s => goodS l s []) (fun s => bitsR l.length 0 s) (2 ^ l.length) 0 (-1, []) = (((apL l 0 [] []).length : Int), apL l 0 [] []) := by
  obtain ⟨s0, s1, s2, s3⟩ := ap_is l 0 [] ho
  have hlen := ap_len0 l ho
  refine best true _ _ (2 ^ l.length) (apL l 0 [] []) s0 s1 s2 s3 (-1) (fun s _ => (decide_eq_true (by omega) : decide ((-1 : Int) < ((bitsR l.length 0 s).length : Int)) = true)) (fun s hs hg => ?_)
  have h1 := ap_le l 0 s [] ho hg
  rw [comp2_nil] at h1
  by_cases e : (bitsR l.length 0 s).length = mt l
  · right
    refine ⟨by rw [hlen]; exact e, ?_⟩
    rcases ap_first l 0 s [] ho hg (by rw [comp2_nil]; exact e) with h | h
    · exact .inl h.symm
    · exact .inr h
  · left
    exact decide_eq_true (by rw [hlen]; omega)

end Go.Xm
