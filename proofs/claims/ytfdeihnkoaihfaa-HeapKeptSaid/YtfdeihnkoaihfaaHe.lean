/- The search through all plans finds the plan that is made heap by heap. Conditions: none. -/
import Derived.Test.YtfdeihnkoaihfaaCd
import Derived.Test.YtfdeihnkoaihfaaGp
namespace Go.Xm
set_option linter.unusedVariables false
set_option linter.unusedSimpArgs false
set_option maxRecDepth 20000

theorem crw_dup (p : List Int) (t : Int) : crw (p.map dup) t t = p.count t := by
  unfold crw
  rw [List.countP_map, List.count_eq_countP]
  refine List.countP_congr (fun x hx => ?_)
  show (decide (t ≤ x) && decide (x ≤ t)) = true ↔ (x == t) = true
  simp only [Bool.and_eq_true, decide_eq_true_eq, beq_iff_eq]
  omega

theorem crw_app (A B : List Hp) (a b : Int) : crw (A ++ B) a b = crw A a b + crw B a b := by unfold crw; rw [List.countP_append]

theorem zip_dup : ∀ p : List Int, ∀ x ∈ (p.map dup).zip p, x.1.1 ≤ x.2 ∧ x.2 ≤ x.1.2
  | [], x, h => by cases h
  | a :: p, x, h => by
    rw [List.map_cons, List.zip_cons_cons] at h
    rcases List.mem_cons.1 h with rfl | h
    · exact ⟨Int.le_refl _, Int.le_refl _⟩
    · exact zip_dup p x h

/-- Points that are not too often. -/
theorem fits_dup {k : Nat} {p : List Int} (h : ∀ t, p.count t ≤ k) : Fits k (p.map dup) := fits_of_plan (p := p) ⟨by simp, zip_dup p, h⟩

theorem getD_busy {L : List Int} {y : Nat} (h : y < L.length) : List.getD L y 0 = L[y] := by simp [h]
theorem set_back {L : List Int} {y : Nat} (h : y < L.length) (v : Int) : (L.set y v).set y (List.getD L y 0) = L := by
  rw [List.set_set, getD_busy h, List.set_getElem_self]

/-- What the search keeps: hours so far, and how often each is taken. -/
def Busy (busy : List Int) (P : List Int) : Prop := busy.length = 24 ∧ ∀ y : Nat, y < 24 → List.getD busy y 0 = ((P.count (y : Int) : Nat) : Int)

theorem Busy.snoc {busy P : List Int} (h : Busy busy P) {y : Nat} (hy : y < 24) : Busy (busy.set y (List.getD busy y 0 + 1)) (P ++ [(y : Int)]) := by
  refine ⟨by rw [List.length_set]; exact h.1, fun z hz => ?_⟩
  rw [getD_set_eq (by rw [h.1]; exact hy), List.count_append]
  by_cases e : y = z
  · subst e
    rw [if_pos rfl, h.2 y hy, List.count_cons_self]
    simp
  · rw [if_neg e, h.2 z hz]
    have : List.count (z : Int) [(y : Int)] = 0 := List.count_eq_zero_of_not_mem (by simp; omega)
    rw [this]
    rfl

def hour (x : Int) : Prop := 0 ≤ x ∧ x ≤ 23

/-- What is left to be planned. -/
def stt (P : List Int) (l : List Hp) : List Hp := P.map dup ++ l.drop P.length

theorem stt_cons {P : List Int} {l : List Hp} (h : P.length < l.length) : stt P l = P.map dup ++ l[P.length] :: l.drop (P.length + 1) := by
  unfold stt; rw [List.drop_eq_getElem_cons h]
theorem stt_snoc {P : List Int} {l : List Hp} (x : Int) : stt (P ++ [x]) l = P.map dup ++ (x, x) :: l.drop (P.length + 1) := by
  unfold stt; simp [dup]
theorem stt_set {P : List Int} {l : List Hp} (h : P.length < l.length) (x : Int) : (stt P l).set P.length (x, x) = stt (P ++ [x]) l := by
  rw [stt_cons h, stt_snoc, set_mid _ _ _ _ (by simp)]
theorem stt_len {P : List Int} {l : List Hp} (h : P.length ≤ l.length) : (stt P l).length = l.length := by
  unfold stt; rw [List.length_append, List.length_map, List.length_drop]; omega
theorem stt_ok {P : List Int} {l : List Hp} (ho : OkL l) (hP : ∀ x ∈ P, hour x) : OkL (stt P l) := by
  intro h hh
  rcases List.mem_append.1 hh with q | q
  · obtain ⟨x, x1, rfl⟩ := List.mem_map.1 q
    have := hP x x1
    exact ⟨this.1, Int.le_refl _, this.2⟩
  · exact ho h (List.mem_of_mem_drop q)
theorem stt_get {P : List Int} {l : List Hp} (h : P.length < l.length) (h2 : P.length < (stt P l).length) : (stt P l)[P.length] = l[P.length] := by
  have e := stt_cons h
  simp only [e]
  simp

/-- An hour that is full does not do. -/
theorem full_not {k : Nat} {P : List Int} {l : List Hp} {x : Int} (hx : hour x) (h : k ≤ P.count x) : ¬ Fits k (stt (P ++ [x]) l) := fun hf => by
  have h1 := hf x x hx.1 (Int.le_refl _) hx.2
  have e : stt (P ++ [x]) l = (P ++ [x]).map dup ++ l.drop (P ++ [x]).length := rfl
  rw [e, crw_app, crw_dup, List.count_append, List.count_cons_self] at h1
  have : (k : Int) * (x - x + 1) = k := by rw [Int.sub_self, Int.zero_add, Int.mul_one]
  omega

theorem snoc_count {k : Nat} {P : List Int} {x : Int} (h : ∀ t, P.count t ≤ k) (hx : P.count x < k) : ∀ t, (P ++ [x]).count t ≤ k := fun t => by
  rw [List.count_append]
  by_cases e : x = t
  · subst e; rw [List.count_cons_self]; simp; omega
  · have : List.count t [x] = 0 := List.count_eq_zero_of_not_mem (by simp; omega)
    rw [this]; exact h t

theorem take_set {p : List Int} {i : Nat} (hi : i < p.length) (x : Int) : (p.set i x).take (i + 1) = p.take i ++ [x] := by
  rw [List.take_succ_eq_append_getElem (by rw [List.length_set]; exact hi), List.getElem_set_self, List.take_set_of_le (Nat.le_refl _)]

/-- What the search answers behind hours P: with the plan, or with nothing changed. -/
def Ans (k : Nat) (l : List Hp) (r : Nat) (P busy : List Int) (n : Nat) (o : Option Of42_1) : Prop :=
  (Fits k (stt P l) ∧ ∃ p' b', o = some (.a p' b' (planL k r P.length (stt P l) P)) ∧ b'.length = 24) ∨ (¬ Fits k (stt P l) ∧ ∃ p', o = some (.b p' busy) ∧ p'.length = n ∧ p'.take P.length = P)

theorem f42_2_eq (m : Nat) (l : List Hp) (k : Nat) (hk2 : k ≤ 10) (h10 : l.length ≤ 10) (ho : OkL l) (r : Nat) (P : List Int) (hi : P.length < l.length) (hP : ∀ x ∈ P, hour x) (hc : ∀ t, P.count t ≤ k) (F : List Hp → Int → Int → List Int → List Int → Option Of42_1)
    (hF : ∀ (x : Int) (p busy : List Int), hour x → p.length = l.length → p.take (P.length + 1) = P ++ [x] → Busy busy (P ++ [x]) → (∀ t, (P ++ [x]).count t ≤ k) → Ans k l r (P ++ [x]) busy l.length (F l (k : Int) ((P.length + 1 : Nat) : Int) p busy)) :
    ∀ (d fuel : Nat) (x : Int) (p busy : List Int), (l[P.length]).1 ≤ x → x + d = (l[P.length]).2 + 1 → d < fuel → p.length = l.length → p.take P.length = P → Busy busy P → 
      (∃ z, x ≤ z ∧ z ≤ (l[P.length]).2 ∧ Fits k (stt (P ++ [z]) l) ∧ (∀ y, x ≤ y → y < z → ¬ Fits k (stt (P ++ [y]) l)) ∧ ∃ p' b', f42_2 m F fuel l (k : Int) (P.length : Int) x p busy = some (.r p' b' (planL k r (P.length + 1) (stt (P ++ [z]) l) (P ++ [z]))) ∧ b'.length = 24) ∨
      ((∀ y, x ≤ y → y ≤ (l[P.length]).2 → ¬ Fits k (stt (P ++ [y]) l)) ∧ ∃ p', f42_2 m F fuel l (k : Int) (P.length : Int) x p busy = some (.x0 p' busy) ∧ p'.length = l.length ∧ p'.take P.length = P)
  | 0, fuel + 1, x, p, busy, h1, h2, hf, hp, hpt, hb => by
    right
    refine ⟨fun y y1 y2 => by omega, p, ?_, hp, hpt⟩
    rw [f42_2, inR hi, getDi l hi, dcF (p := x ≤ (l[P.length]).2) (by omega)]
    rfl
  | d + 1, fuel + 1, x, p, busy, h1, h2, hf, hp, hpt, hb => by
    have hh := ho _ (List.getElem_mem hi)
    have hx : hour x := ⟨by omega, by omega⟩
    obtain ⟨y, rfl⟩ : ∃ y : Nat, x = (y : Int) := ⟨x.toNat, by have := hx.1; omega⟩
    have hy : y < 24 := by have := hx.2; omega
    have hbl := hb.1
    have hbv := hb.2 y hy
    have hcy := hc (y : Int)
    have hPp : P.length < p.length := by omega
    have step : f42_2 m F (fuel + 1) l (k : Int) (P.length : Int) (y : Int) p busy = cond (decide (((P.count (y : Int) : Nat) : Int) < (k : Int)))
        ((F l (k : Int) ((P.length + 1 : Nat) : Int) (p.set P.length (y : Int)) (busy.set y (List.getD busy y 0 + 1))).bind fun r18_ => match r18_ with
          | .a lh7_a1_18 lh9_a1_18 lh11_a1_18 => cond (decide (y < lh9_a1_18.length)) (some (.r lh7_a1_18 (List.set lh9_a1_18 y (w64 ((List.getD lh9_a1_18 y 0) - 1))) lh11_a1_18)) none
          | .b lh7_b1_18 lh9_b1_18 => cond (decide (y < lh9_b1_18.length)) (f42_2 m F fuel l (k : Int) (P.length : Int) ((y + 1 : Nat) : Int) lh7_b1_18 (List.set lh9_b1_18 y (w64 ((List.getD lh9_b1_18 y 0) - 1)))) none)
        (f42_2 m F fuel l (k : Int) (P.length : Int) ((y + 1 : Nat) : Int) p busy) := by
      rw [f42_2, inR hi, getDi l hi, dcT (p := (y : Int) ≤ (l[P.length]).2) (by omega), inR (show y < 24 from hy), Int.toNat_natCast, Int.toNat_natCast, dcT (p := y < busy.length) (by omega), hbv, inR hPp, nat_succ P.length (by omega), nat_succ y (by omega),
        w64i (x := ((P.count (y : Int) : Nat) : Int) + 1) (by omega) (by omega)]
      rfl
    rw [step]
    -- the rest of the hours
    have rest : ∀ p2, p2.length = l.length → p2.take P.length = P → ¬ Fits k (stt (P ++ [(y : Int)]) l) → 
        (∃ z, (y : Int) ≤ z ∧ z ≤ (l[P.length]).2 ∧ Fits k (stt (P ++ [z]) l) ∧ (∀ u, (y : Int) ≤ u → u < z → ¬ Fits k (stt (P ++ [u]) l)) ∧ ∃ p' b', f42_2 m F fuel l (k : Int) (P.length : Int) ((y + 1 : Nat) : Int) p2 busy = some (.r p' b' (planL k r (P.length + 1) (stt (P ++ [z]) l) (P ++ [z]))) ∧ b'.length = 24) ∨
        ((∀ u, (y : Int) ≤ u → u ≤ (l[P.length]).2 → ¬ Fits k (stt (P ++ [u]) l)) ∧ ∃ p', f42_2 m F fuel l (k : Int) (P.length : Int) ((y + 1 : Nat) : Int) p2 busy = some (.x0 p' busy) ∧ p'.length = l.length ∧ p'.take P.length = P) := fun p2 e1 e2 hn => by
      rcases f42_2_eq m l k hk2 h10 ho r P hi hP hc F hF d fuel ((y + 1 : Nat) : Int) p2 busy (by omega) (by omega) (by omega) e1 e2 hb with ⟨z, z1, z2, z3, z4, z5⟩ | ⟨z1, z2⟩
      · refine .inl ⟨z, by omega, z2, z3, fun u u1 u2 => ?_, z5⟩
        by_cases e : u = (y : Int)
        · rw [e]; exact hn
        · exact z4 u (by omega) u2
      · refine .inr ⟨fun u u1 u2 => ?_, z2⟩
        by_cases e : u = (y : Int)
        · rw [e]; exact hn
        · exact z1 u (by omega) u2
    by_cases hlt : P.count (y : Int) < k
    · rw [dcT (p := ((P.count (y : Int) : Nat) : Int) < (k : Int)) (by omega)]
      simp only [cond_true]
      rcases hF (y : Int) (p.set P.length (y : Int)) (busy.set y (List.getD busy y 0 + 1)) hx (by rw [List.length_set]; exact hp) (by rw [take_set hPp, hpt]) (hb.snoc hy) (snoc_count hc hlt) with ⟨g1, p', b', g2, g6⟩ | ⟨g1, p', g2, g3, g4⟩
      · left
        refine ⟨(y : Int), Int.le_refl _, by omega, g1, fun u u1 u2 => by omega, ?_⟩
        rw [g2]
        have g5 : (P ++ [(y : Int)]).length = P.length + 1 := by simp
        rw [g5]
        simp only [Option.bind_some]
        rw [dcT (p := y < b'.length) (by omega)]
        exact ⟨_, _, rfl, by rw [List.length_set]; exact g6⟩
      · rw [g2]
        simp only [Option.bind_some]
        rw [dcT (p := y < (busy.set y (List.getD busy y 0 + 1)).length) (by rw [List.length_set]; omega), getD_set_eq (by omega), if_pos rfl, show List.getD busy y 0 + 1 - 1 = List.getD busy y 0 by omega, hbv, w64i (by omega) (by omega), ← hbv, set_back (by omega)]
        refine rest p' g3 ?_ g1
        have g5 : (P ++ [(y : Int)]).length = P.length + 1 := by simp
        rw [g5] at g4
        have : p'.take P.length = (p'.take (P.length + 1)).take P.length := by rw [List.take_take]; congr 1; omega
        rw [this, g4, List.take_left]
    · rw [dcF (p := ((P.count (y : Int) : Nat) : Int) < (k : Int)) (by omega)]
      exact rest p hp hpt (full_not hx (by omega))

theorem fits_widen {k : Nat} {A R : List Hp} {h : Hp} {z : Int} (h1 : h.1 ≤ z) (h2 : z ≤ h.2) (hf : Fits k (A ++ (z, z) :: R)) : Fits k (A ++ h :: R) := fun a b e1 e2 e3 => by
  have := hf a b e1 e2 e3
  rw [crw_mid] at this ⊢
  generalize (k : Int) * (b - a + 1) = X at this ⊢
  by_cases q : a ≤ h.1 ∧ h.2 ≤ b
  · have q2 : a ≤ z ∧ z ≤ b := by omega
    rw [if_pos (show a ≤ ((z, z) : Hp).1 ∧ ((z, z) : Hp).2 ≤ b from q2)] at this
    rw [if_pos q]; exact this
  · rw [if_neg q]
    omega

theorem f42_1_eq (m : Nat) (hm : 1001 ≤ m) (l : List Hp) (k : Nat) (hk2 : k ≤ 10) (h10 : l.length ≤ 10) (ho : OkL l) : ∀ (r fuel : Nat) (P p busy : List Int), P.length + r = l.length → r < fuel → p.length = l.length → p.take P.length = P → Busy busy P → (∀ x ∈ P, hour x) → (∀ t, P.count t ≤ k) →
    Ans k l r P busy l.length (f42_1 m fuel l (k : Int) (P.length : Int) p busy)
  | 0, fuel + 1, P, p, busy, hr, hf, hp, hpt, hb, hP, hc => by
    left
    have hpP : p = P := by rw [← hpt, List.take_of_length_le (by omega)]
    have e : stt P l = P.map dup := by unfold stt; rw [List.drop_eq_nil_of_le (by omega), List.append_nil]
    have e1 : (((P.length : Nat) : Int) == ((l.length : Nat) : Int)) = true := by rw [beq_iff_eq]; omega
    refine ⟨by rw [e]; exact fits_dup hc, p, busy, ?_, hb.1⟩
    rw [f42_1, e1, fitsI (n := p.length) (by omega) (by omega)]
    show some (Of42_1.a p busy p) = some (Of42_1.a p busy P)
    rw [hpP]
  | r + 1, fuel + 1, P, p, busy, hr, hf, hp, hpt, hb, hP, hc => by
    have hi : P.length < l.length := by omega
    have hh := ho _ (List.getElem_mem hi)
    have e1 : (((P.length : Nat) : Int) == ((l.length : Nat) : Int)) = false := by rw [beq_eq_false_iff_ne]; omega
    have key := f42_2_eq m l k hk2 h10 ho r P hi hP hc (f42_1 m fuel) (fun x p busy hx g1 g2 g3 g4 => by
      have e2 : (P ++ [x]).length = P.length + 1 := by simp
      have := f42_1_eq m hm l k hk2 h10 ho r fuel (P ++ [x]) p busy (by omega) (by omega) g1 (by rw [e2]; exact g2) g3 (fun y hy => by
        rcases List.mem_append.1 hy with hy | hy
        · exact hP y hy
        · rw [List.mem_singleton.1 hy]; exact hx) g4
      rw [e2] at this
      exact this) ((l[P.length]).2 + 1 - (l[P.length]).1).toNat m (l[P.length]).1 p busy (Int.le_refl _) (by omega) (by omega) hp hpt hb
    have hS : P.length < (stt P l).length := by rw [stt_len (by omega)]; exact hi
    have hg := stt_get hi hS
    have hok := stt_ok ho hP
    have step : f42_1 m (fuel + 1) l (k : Int) (P.length : Int) p busy = (f42_2 m (f42_1 m fuel) m l (k : Int) (P.length : Int) (l[P.length]).1 p busy).bind fun o2 => match o2 with | .r a b c => some (.a a b c) | .x0 a b => some (.b a b) := by
      rw [f42_1, e1, inR hi, getDi l hi]
      rfl
    rw [step]
    rcases key with ⟨z, z1, z2, z3, z4, p', b', z5, z6⟩ | ⟨z1, p', z2, z3, z4⟩
    · left
      have hfS : Fits k (stt P l) := by
        rw [stt_cons hi]
        rw [stt_snoc] at z3
        exact fits_widen z1 z2 z3
      refine ⟨hfS, p', b', ?_, z6⟩
      rw [z5, planL_succ]
      have hgd : List.getD (stt P l) P.length (0, 0) = l[P.length] := by rw [← hg]; simp [hS]
      rw [hgd]
      obtain ⟨q1, q2, q3, q4⟩ := firstH_in hok hfS hS
      rw [hg] at q1 q2 q3 q4
      rw [stt_set hi] at q3 ⊢
      have hz : firstH k (stt P l) P.length 24 (l[P.length]).1 = z := by
        rcases Int.lt_trichotomy (firstH k (stt P l) P.length 24 (l[P.length]).1) z with q | q | q
        · exact absurd q3 (z4 _ q1 q)
        · exact q
        · have := q4 z z1 q
          rw [stt_set hi] at this
          exact absurd z3 this
      rw [hz]
      rfl
    · right
      refine ⟨fun hf => ?_, p', by rw [z2]; rfl, z3, z4⟩
      obtain ⟨x, x1, x2, x3⟩ := fits_some hok hf hS
      rw [hg] at x1 x2
      rw [stt_set hi] at x3
      exact z1 x x1 x2 x3

/-- FIRST: the plan that is made heap by heap. -/
theorem f42_eq (m : Nat) (hm : 1001 ≤ m) (l : List Hp) (k : Nat) (hk2 : k ≤ 10) (h10 : l.length ≤ 10) (ho : OkL l) : f42 m l (k : Int) = some (cond (fitsB' k l) (planL k l.length 0 l [], true) ([], false)) := by
  have hz : Busy [0, 0, 0, 0, 0, 0, 0, 0, 0, 0, 0, 0, 0, 0, 0, 0, 0, 0, 0, 0, 0, 0, 0, 0] [] := by
    refine ⟨rfl, fun y hy => ?_⟩
    have : ∀ y : Fin 24, List.getD [(0 : Int), 0, 0, 0, 0, 0, 0, 0, 0, 0, 0, 0, 0, 0, 0, 0, 0, 0, 0, 0, 0, 0, 0, 0] y.val 0 = 0 := by decide
    rw [this ⟨y, hy⟩]
    rfl
  have key := f42_1_eq m hm l k hk2 h10 ho l.length m [] (List.replicate l.length 0) _ (by simp) (by omega) (by simp) rfl hz (fun x hx => by cases hx) (fun t => by simp)
  have e : stt [] l = l := rfl
  unfold Ans at key
  rw [e] at key
  have hmk : mkOK ((l.length : Nat) : Int) ((l.length : Nat) : Int) 8 = true := by
    unfold mkOK
    simp
    omega
  unfold f42
  rw [hmk, Int.toNat_natCast]
  show (f42_1 m m l (k : Int) (([] : List Int).length : Int) (List.replicate l.length 0) [0, 0, 0, 0, 0, 0, 0, 0, 0, 0, 0, 0, 0, 0, 0, 0, 0, 0, 0, 0, 0, 0, 0, 0]).bind _ = _
  rcases key with ⟨g1, p', b', g2, _⟩ | ⟨g1, p', g2, _⟩
  · rw [g2, fitsB'_iff.2 g1]; rfl
  · have : fitsB' k l = false := by
      cases hb : fitsB' k l with
      | false => rfl
      | true => exact absurd (fitsB'_iff.1 hb) g1
    rw [g2, this]; rfl

end Go.Xm
