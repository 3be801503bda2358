/- HeapHours: the first hours by the reference, hours that meet, and the walk. Conditions: none. -/
import Derived.Test.YtfdeihnkoaihfaaBz
import Derived.Test.YtfdeihnkoaihfaaFc
import Derived.Test.YtfdeihnkoaihfaaEh
import Derived.Test.YtfdeihnkoaihfaaEk
import Derived.Test.YtfdeihnkoaihfaaAr
namespace Go.Xm
set_option linter.unusedVariables false
set_option linter.unusedSimpArgs false
set_option maxRecDepth 20000

theorem hrL_le : ∀ (d : Nat) (t : Int) (S : List Hp), (hrL d t S).length ≤ d
  | 0, t, S => Nat.le_refl _
  | d + 1, t, [] => Nat.zero_le _
  | d + 1, t, h :: l => by
    rw [hrL_cons]
    split
    · have := hrL_le d (t + 1) (rem t (h :: l))
      simp only [List.length_cons]; omega
    · have := hrL_le d (t + 1) (h :: l)
      omega

theorem rem_cons (t : Int) (h : Hp) (l : List Hp) : rem t (h :: l) = if hasB t h = true then rem t l else h :: rem t l := by
  unfold rem
  rw [List.filter_cons]
  cases hasB t h <;> rfl

theorem f78_2_eq (m : Nat) (a : List Hp) (h10 : a.length ≤ 500) (c t : Int) : ∀ (r i fuel : Nat) (acc : List Hp), i + r = a.length → r < fuel → acc.length ≤ i → f78_2 m fuel a c t (i : Int) acc = some (acc ++ rem t (a.drop i))
  | 0, i, fuel + 1, acc, hr, hf, hl => by
    rw [f78_2, dcF (p := (i : Int) < ((a.length : Nat) : Int)) (by omega), List.drop_eq_nil_of_le (by omega)]
    show some acc = some (acc ++ [])
    rw [List.append_nil]
  | r + 1, i, fuel + 1, acc, hr, hf, hl => by
    have hi : i < a.length := by omega
    rw [f78_2, dcT (p := (i : Int) < ((a.length : Nat) : Int)) (by omega), inR hi, getDi a hi, f63_eq, fitsI (n := acc.length + 1) (by omega) (by omega), nat_succ i (by omega), List.drop_eq_getElem_cons hi, rem_cons]
    show cond (!hasB t a[i]) (f78_2 m fuel a c t ((i + 1 : Nat) : Int) (acc ++ [a[i]])) (f78_2 m fuel a c t ((i + 1 : Nat) : Int) acc) = _
    cases hasB t a[i] with
    | true =>
      rw [if_pos rfl]
      exact f78_2_eq m a h10 c t r (i + 1) fuel acc (by omega) (by omega) (by omega)
    | false =>
      rw [if_neg (by simp)]
      show f78_2 m fuel a c t ((i + 1 : Nat) : Int) (acc ++ [a[i]]) = _
      rw [f78_2_eq m a h10 c t r (i + 1) fuel _ (by omega) (by omega) (by simp; omega), List.append_assoc]
      rfl

theorem f78_3_eq (m : Nat) (a : List Hp) (h10 : a.length ≤ 500) (c t : Int) : ∀ (r i fuel : Nat), i + r = a.length → r < fuel → (f78_3 m fuel a c t (i : Int) = some .r ∧ ∃ h ∈ a.drop i, h.2 ≤ t) ∨ (f78_3 m fuel a c t (i : Int) = some .x4 ∧ ∀ h ∈ a.drop i, t + 1 ≤ h.2)
  | 0, i, fuel + 1, hr, hf => by
    right
    rw [f78_3, dcF (p := (i : Int) < ((a.length : Nat) : Int)) (by omega), List.drop_eq_nil_of_le (by omega)]
    exact ⟨rfl, fun h hh => by cases hh⟩
  | r + 1, i, fuel + 1, hr, hf => by
    have hi : i < a.length := by omega
    rw [f78_3, dcT (p := (i : Int) < ((a.length : Nat) : Int)) (by omega), inR hi, getDi a hi, nat_succ i (by omega), List.drop_eq_getElem_cons hi]
    by_cases e : (a[i]).2 ≤ t
    · rw [dcT e]
      exact .inl ⟨rfl, a[i], List.mem_cons_self .., e⟩
    · rw [dcF e]
      rcases f78_3_eq m a h10 c t r (i + 1) fuel (by omega) (by omega) with ⟨q1, h, q2, q3⟩ | ⟨q1, q2⟩
      · exact .inl ⟨q1, h, List.mem_cons_of_mem _ q2, q3⟩
      · refine .inr ⟨q1, fun h hh => ?_⟩
        rcases List.mem_cons.1 hh with rfl | hh
        · omega
        · exact q2 h hh

/-- What the reference's search finds: these hours, if they are just as many as are needed. -/
def Res (S : List Hp) (d : Nat) (t : Int) (k : Nat) (r : List Int × Bool) : Prop := (mt S = k → r = (hrL d t S, true)) ∧ (mt S ≠ k → r.2 = false)

def resOf1 : Of78_1 → List Int × Bool
  | .r b l => (l, b)
  | .x0 => ([], false)

theorem f78_1_eq (m : Nat) (hm : 1001 ≤ m) (F : List Hp → Int → Int → Option (List Int × Bool)) (k : Nat) (hk : k ≤ 100) (hF : ∀ (S : List Hp) (t : Int) (d : Nat), OkL S → S.length ≤ 100 → (∀ x ∈ S, t ≤ x.2) → 0 ≤ t → t + d = 24 → k ≤ mt S → ∃ r, F S t (k : Int) = some r ∧ Res S d t k r) (S : List Hp) (ho : OkL S) (hS : S.length ≤ 100) (hkS : k + 1 ≤ mt S) :
    ∀ (d fuel : Nat) (t : Int), (∀ x ∈ S, t ≤ x.2) → 0 ≤ t → t + d = 24 → d < fuel → ∃ o, f78_1 m F fuel S ((k + 1 : Nat) : Int) t = some o ∧ Res S d t (k + 1) (resOf1 o)
  | 0, fuel + 1, t, h, h0, hd, hf => by
    refine ⟨.x0, ?_, fun q => ?_, fun _ => rfl⟩
    · rw [f78_1, dcF (p := t ≤ 23) (by omega)]
      rfl
    · exfalso
      cases S with
      | nil => rw [mt_nil] at q; omega
      | cons y l =>
        have := h y (List.mem_cons_self ..)
        have := ho y (List.mem_cons_self ..)
        omega
  | d + 1, fuel + 1, t, h, h0, hd, hf => by
    have hlater := rem_later h
    have h1 := mt_rem ho t
    have hrl := rem_len t S
    have hne : S ≠ [] := fun q => by subst q; rw [mt_nil] at hkS; omega
    have hl2 : ∀ x ∈ rem t S, t + 1 ≤ x.2 := fun x hx => by
      have := hlater x hx
      have := ho x (mem_rem.1 hx).1
      omega
    obtain ⟨r, r1, r2, r3⟩ := hF (rem t S) (t + 1) d (ho.rem t) (by omega) hl2 (by omega) (by omega) (by omega)
    rw [f78_1, dcT (p := t ≤ 23) (by omega)]
    show ∃ o, (f78_2 m m S ((k + 1 : Nat) : Int) t ((0 : Nat) : Int) []).bind _ = some o ∧ _
    rw [f78_2_eq m S (by omega) _ t S.length 0 m [] (by omega) (by omega) (by simp), List.drop_zero, List.nil_append, w64i (x := t + 1) (by omega) (by omega)]
    have e1 : w64 (((k + 1 : Nat) : Int) - 1) = (k : Int) := by rw [w64i (by omega) (by omega)]; omega
    rw [e1]
    show ∃ o, (F (rem t S) (t + 1) (k : Int)).bind _ = some o ∧ _
    rw [r1]
    by_cases e : mt (rem t S) = k
    · rw [r2 e]
      have hle := hrL_le d (t + 1) (rem t S)
      show ∃ o, cond (fitsB (1 + (hrL d (t + 1) (rem t S)).length) 8) (some (Of78_1.r true ([t] ++ hrL d (t + 1) (rem t S)))) none = some o ∧ Res S (d + 1) t (k + 1) (resOf1 o)
      rw [fitsI (by omega) (by omega)]
      refine ⟨_, rfl, fun _ => ?_, fun q => by omega⟩
      show ([t] ++ hrL d (t + 1) (rem t S), true) = (hrL (d + 1) t S, true)
      cases S with
      | nil => exact absurd rfl hne
      | cons y l => rw [hrL_cons, if_pos (by omega)]; rfl
    · have hr := r3 e
      obtain ⟨rl, rb⟩ := r
      have hr : rb = false := hr
      subst hr
      show ∃ o, (f78_3 m m S ((k + 1 : Nat) : Int) t ((0 : Nat) : Int)).bind _ = some o ∧ _
      rcases f78_3_eq m S (by omega) ((k + 1 : Nat) : Int) t S.length 0 m (by omega) (by omega) with ⟨q1, x, q2, q3⟩ | ⟨q1, q2⟩
      · rw [q1]
        refine ⟨.r false [], rfl, fun q => ?_, fun _ => rfl⟩
        exfalso
        rw [List.drop_zero] at q2
        have := not_taken ho h hne (by omega) x q2
        omega
      · rw [q1]
        rw [List.drop_zero] at q2
        obtain ⟨o, o1, o2, o3⟩ := f78_1_eq m hm F k hk hF S ho hS hkS d fuel (t + 1) q2 (by omega) (by omega) (by omega)
        refine ⟨o, o1, fun q => ?_, o3⟩
        rw [o2 q]
        cases S with
        | nil => exact absurd rfl hne
        | cons y l => rw [hrL_cons, if_neg (by omega)]

theorem f78_eq (m : Nat) (hm : 1001 ≤ m) : ∀ (k fuel : Nat), k ≤ 100 → k < fuel → ∀ (S : List Hp) (t : Int) (d : Nat), OkL S → S.length ≤ 100 → (∀ x ∈ S, t ≤ x.2) → 0 ≤ t → t + d = 24 → k ≤ mt S → ∃ r, f78 m fuel S t (k : Int) = some r ∧ Res S d t k r
  | 0, fuel + 1, _, _, S, t, d, ho, hS, h, h0, hd, hk => by
    rw [f78]
    refine ⟨_, rfl, fun q => ?_, fun q => ?_⟩
    · have := mt_zero ho q
      subst this
      cases d <;> rfl
    · show (((S.length : Nat) : Int) == 0) = false
      rw [beq_eq_false_iff_ne]
      intro q2
      have : S = [] := List.eq_nil_of_length_eq_zero (by omega)
      subst this
      exact q mt_nil
  | k + 1, fuel + 1, hk, hf, S, t, d, ho, hS, h, h0, hd, hkS => by
    have e : (((k + 1 : Nat) : Int) == 0) = false := by rw [beq_eq_false_iff_ne]; omega
    rw [f78, e]
    obtain ⟨o, o1, o2⟩ := f78_1_eq m hm (f78 m fuel) k (by omega) (f78_eq m hm k fuel (by omega) (by omega)) S ho hS hkS d m t h h0 hd (by omega)
    show ∃ r, (f78_1 m (f78 m fuel) m S ((k + 1 : Nat) : Int) t).bind _ = some r ∧ _
    rw [o1]
    refine ⟨resOf1 o, ?_, o2⟩
    cases o <;> rfl

theorem f36_eq (m : Nat) (hm : 1001 ≤ m) (l : List Hp) (hl : l.length ≤ 1000) : f36 m l = some (hrR l) := by
  unfold f36 hrR
  rw [f38_eq m hm l hl]
  unfold apR
  by_cases e : chk l = 0
  · rw [if_neg (fun q => q e), if_neg (fun q => q e)]
    obtain ⟨ho, h10⟩ := chk_ok e
    have hlen := apL_len l 0 [] [] ho
    rw [comp2_nil] at hlen
    have hml := mt_len ho
    obtain ⟨r, r1, r2, _⟩ := f78_eq m hm (mt l) m (by omega) (by omega) l 0 24 ho (by omega) (fun x hx => by have := ho x hx; omega) (by omega) (by omega) (Nat.le_refl _)
    show (f78 m m l 0 (((apL l 0 [] []).length : Nat) : Int)).bind _ = _
    rw [hlen, List.length_nil, Nat.zero_add, r1, r2 rfl]
    rfl
  · rw [if_pos e, if_pos e]
    have e1 : (chk l != 0) = true := by simp [e]
    show cond (chk l != 0) _ _ = _
    rw [e1]
    rfl

/-! ### Hours that meet -/
def chkH : Int → List Int → Int
  | _, [] => 0
  | p, x :: l => if ¬ (0 ≤ x ∧ x ≤ 23) then 1 else if x ≤ p then 7 else chkH x l

def ofH39 (v : Int) : Of39_1 := if v = 0 then .x0 else .r v
def ofH40 (v : Int) : Of40_1 := if v = 0 then .x0 else .r v

theorem f39_1_eq (m : Nat) (a : List Hp) (b : List Int) (hb : b.length ≤ 1000) : ∀ (r i fuel : Nat) (p : Int), i + r = b.length → r < fuel → f39_1 m fuel a b p ((b.length : Nat) : Int) (i : Int) = some (ofH39 (chkH p (b.drop i)))
  | 0, i, fuel + 1, p, hr, hf => by
    rw [f39_1, dcF (p := (i : Int) < ((b.length : Nat) : Int)) (by omega), List.drop_eq_nil_of_le (by omega)]
    rfl
  | r + 1, i, fuel + 1, p, hr, hf => by
    have hi : i < b.length := by omega
    rw [f39_1, dcT (p := (i : Int) < ((b.length : Nat) : Int)) (by omega), inR hi, getDz b hi, f64_eq, nat_succ i (by omega), List.drop_eq_getElem_cons hi]
    unfold chkH
    by_cases e1 : 0 ≤ b[i] ∧ b[i] ≤ 23
    · rw [dcT e1, if_neg (fun q => q e1)]
      by_cases e2 : b[i] ≤ p
      · rw [dcT e2, if_pos e2]; rfl
      · rw [dcF e2, if_neg e2]
        exact f39_1_eq m a b hb r (i + 1) fuel _ (by omega) (by omega)
    · rw [dcF e1, if_pos e1]; rfl

theorem f40_1_eq (m : Nat) (a : List Hp) (b : List Int) (hb : b.length ≤ 1000) : ∀ (r i fuel : Nat) (p : Int), i + r = b.length → r < fuel → (i = 0 → p = -1) → (∀ (h : i - 1 < b.length), 0 < i → p = b[i - 1]) → f40_1 m fuel a b (i : Int) = some (ofH40 (chkH p (b.drop i)))
  | 0, i, fuel + 1, p, hr, hf, h1, h2 => by
    rw [f40_1, dcF (p := (i : Int) < ((b.length : Nat) : Int)) (by omega), List.drop_eq_nil_of_le (by omega)]
    rfl
  | r + 1, i, fuel + 1, p, hr, hf, h1, h2 => by
    have hi : i < b.length := by omega
    have next := f40_1_eq m a b hb r (i + 1) fuel b[i] (by omega) (by omega) (fun q => by omega) (fun h _ => rfl)
    rw [f40_1, dcT (p := (i : Int) < ((b.length : Nat) : Int)) (by omega), inR hi, getDz b hi, f63_eq, nat_succ i (by omega), List.drop_eq_getElem_cons hi]
    unfold chkH
    by_cases e1 : 0 ≤ b[i] ∧ b[i] ≤ 23
    · rw [dcT e1, if_neg (fun q => q e1)]
      by_cases ei : i = 0
      · subst ei
        have hp := h1 rfl
        subst hp
        rw [dcF (p := ((0 : Nat) : Int) > 0) (by omega), if_neg (by omega)]
        exact next
      · have hi1 : i - 1 < b.length := by omega
        have hp := h2 hi1 (by omega)
        have e3 : w64 ((i : Int) - 1) = ((i - 1 : Nat) : Int) := by rw [w64i (by omega) (by omega)]; omega
        rw [dcT (p := (i : Int) > 0) (by omega), e3, inR hi1, getDz b hi1, ← hp]
        by_cases e2 : b[i] ≤ p
        · rw [dcT e2, if_pos e2]; rfl
        · rw [dcF e2, if_neg e2]
          exact next
    · rw [dcF e1, if_pos e1]; rfl

def anyH (b : List Int) (h : Hp) : Bool := b.any fun t => hasB t h
def allH (a : List Hp) (b : List Int) : Bool := a.all (anyH b)

theorem anyH_cons (x : Int) (b : List Int) (h : Hp) : anyH (x :: b) h = (hasB x h || anyH b h) := rfl

theorem f39_3_eq (m : Nat) (a : List Hp) (b : List Int) (hb : b.length ≤ 1000) (h : Hp) (y0 y1 : Int) : ∀ (r i fuel : Nat), i + r = b.length → r < fuel →
    (anyH (b.drop i) h = true ∧ ∃ k : Nat, f39_3 m fuel a b h.1 h.2 ((b.length : Nat) : Int) (i : Int) y0 y1 = some (.r (k : Int) y0 y1)) ∨ (anyH (b.drop i) h = false ∧ f39_3 m fuel a b h.1 h.2 ((b.length : Nat) : Int) (i : Int) y0 y1 = some (.x0 y0 y1))
  | 0, i, fuel + 1, hr, hf => by
    right
    rw [f39_3, dcF (p := (i : Int) < ((b.length : Nat) : Int)) (by omega), List.drop_eq_nil_of_le (by omega)]
    exact ⟨rfl, rfl⟩
  | r + 1, i, fuel + 1, hr, hf => by
    have hi : i < b.length := by omega
    rw [f39_3, dcT (p := (i : Int) < ((b.length : Nat) : Int)) (by omega), inR hi, getDz b hi, f64_eq, nat_succ i (by omega), List.drop_eq_getElem_cons hi, anyH_cons]
    have e : decide (h.1 ≤ b[i] ∧ b[i] ≤ h.2) = hasB b[i] h := rfl
    rw [e]
    cases hasB b[i] h with
    | true => exact .inl ⟨rfl, i, rfl⟩
    | false => exact f39_3_eq m a b hb h y0 y1 r (i + 1) fuel (by omega) (by omega)

theorem f39_2_eq (m : Nat) (hm : 1001 ≤ m) (a : List Hp) (ha : a.length ≤ 1000) (b : List Int) (hb : b.length ≤ 1000) : ∀ (r i fuel : Nat), i + r = a.length → r < fuel → f39_2 m fuel a b ((a.length : Nat) : Int) (i : Int) = some (cond (allH (a.drop i) b) .x3 .r)
  | 0, i, fuel + 1, hr, hf => by
    rw [f39_2, dcF (p := (i : Int) < ((a.length : Nat) : Int)) (by omega), List.drop_eq_nil_of_le (by omega)]
    rfl
  | r + 1, i, fuel + 1, hr, hf => by
    have hi : i < a.length := by omega
    rw [f39_2, dcT (p := (i : Int) < ((a.length : Nat) : Int)) (by omega), inR hi, getDi a hi, nat_succ i (by omega), List.drop_eq_getElem_cons hi]
    have e : allH (a[i] :: a.drop (i + 1)) b = (anyH b a[i] && allH (a.drop (i + 1)) b) := rfl
    rw [e]
    show (f39_3 m m a b (a[i]).1 (a[i]).2 ((b.length : Nat) : Int) ((0 : Nat) : Int) (a[i]).1 (a[i]).2).bind _ = _
    rcases f39_3_eq m a b hb a[i] (a[i]).1 (a[i]).2 b.length 0 m (by omega) (by omega) with ⟨q1, k, q2⟩ | ⟨q1, q2⟩
    · rw [List.drop_zero] at q1
      rw [q2, q1]
      show cond (!decide ((k : Int) ≥ 0)) (some Of39_2.r) (f39_2 m fuel a b ((a.length : Nat) : Int) ((i + 1 : Nat) : Int)) = _
      rw [dcT (p := (k : Int) ≥ 0) (by omega)]
      exact f39_2_eq m hm a ha b hb r (i + 1) fuel (by omega) (by omega)
    · rw [List.drop_zero] at q1
      rw [q2, q1]
      rfl

theorem f83_2_eq (m : Nat) (a : List Hp) (b : List Int) (hb : b.length ≤ 1000) (k : Nat) (hk : k < a.length) : ∀ (r i fuel : Nat) (f : Bool), i + r = b.length → r < fuel → f83_2 m fuel a b (k : Int) f (i : Int) = some (f || anyH (b.drop i) a[k])
  | 0, i, fuel + 1, f, hr, hf => by
    rw [f83_2, dcF (p := (i : Int) < ((b.length : Nat) : Int)) (by omega), List.drop_eq_nil_of_le (by omega)]
    show some f = some (f || false)
    rw [Bool.or_false]
  | r + 1, i, fuel + 1, f, hr, hf => by
    have hi : i < b.length := by omega
    rw [f83_2, dcT (p := (i : Int) < ((b.length : Nat) : Int)) (by omega), inR hi, inR hk, getDz b hi, getDi a hk, f63_eq, nat_succ i (by omega), List.drop_eq_getElem_cons hi, anyH_cons]
    cases f with
    | true =>
      show f83_2 m fuel a b (k : Int) true ((i + 1 : Nat) : Int) = _
      rw [f83_2_eq m a b hb k hk r (i + 1) fuel true (by omega) (by omega)]
      rfl
    | false =>
      show f83_2 m fuel a b (k : Int) (hasB b[i] a[k]) ((i + 1 : Nat) : Int) = _
      rw [f83_2_eq m a b hb k hk r (i + 1) fuel _ (by omega) (by omega)]
      rfl

theorem f83_1_eq (m : Nat) (hm : 1001 ≤ m) (a : List Hp) (ha : a.length ≤ 1000) (b : List Int) (hb : b.length ≤ 1000) : ∀ (r i fuel : Nat), i + r = a.length → r < fuel → f83_1 m fuel a b (i : Int) = some (cond (allH (a.drop i) b) .x0 .r)
  | 0, i, fuel + 1, hr, hf => by
    rw [f83_1, dcF (p := (i : Int) < ((a.length : Nat) : Int)) (by omega), List.drop_eq_nil_of_le (by omega)]
    rfl
  | r + 1, i, fuel + 1, hr, hf => by
    have hi : i < a.length := by omega
    rw [f83_1, dcT (p := (i : Int) < ((a.length : Nat) : Int)) (by omega), nat_succ i (by omega), List.drop_eq_getElem_cons hi]
    have e : allH (a[i] :: a.drop (i + 1)) b = (anyH b a[i] && allH (a.drop (i + 1)) b) := rfl
    rw [e]
    show (f83_2 m m a b (i : Int) false ((0 : Nat) : Int)).bind _ = _
    rw [f83_2_eq m a b hb i hi b.length 0 m false (by omega) (by omega), List.drop_zero, Bool.false_or]
    show cond (!anyH b a[i]) (some .r) (f83_1 m fuel a b ((i + 1 : Nat) : Int)) = _
    cases anyH b a[i] with
    | true => exact f83_1_eq m hm a ha b hb r (i + 1) fuel (by omega) (by omega)
    | false => rfl

/-- Meets, as both sides answer. -/
def mtsR (a : List Hp) (b : List Int) : Int := if chk a ≠ 0 then chk a else if chkH (-1) b ≠ 0 then chkH (-1) b else cond (allH a b) 0 14

theorem f39_eq (m : Nat) (hm : 1001 ≤ m) (a : List Hp) (ha : a.length ≤ 1000) (b : List Int) (hb : b.length ≤ 1000) : f39 m a b = some (mtsR a b) := by
  unfold f39 mtsR
  rw [f23_eq m hm a ha]
  show cond (chk a != 0) _ _ = _
  by_cases e : chk a = 0
  · have e1 : (chk a != 0) = false := by simp [e]
    rw [e1, if_neg (fun q => q e)]
    show (f39_1 m m a b (-1) ((b.length : Nat) : Int) ((0 : Nat) : Int)).bind _ = _
    rw [f39_1_eq m a b hb b.length 0 m (-1) (by omega) (by omega), List.drop_zero]
    by_cases e2 : chkH (-1) b = 0
    · rw [if_neg (fun q => q e2)]
      have : ofH39 (chkH (-1) b) = .x0 := by unfold ofH39; rw [if_pos e2]
      rw [this]
      show (f39_2 m m a b ((a.length : Nat) : Int) ((0 : Nat) : Int)).bind _ = _
      rw [f39_2_eq m hm a ha b hb a.length 0 m (by omega) (by omega), List.drop_zero]
      cases allH a b <;> rfl
    · rw [if_pos e2]
      have : ofH39 (chkH (-1) b) = .r (chkH (-1) b) := by unfold ofH39; rw [if_neg e2]
      rw [this]
      rfl
  · have e1 : (chk a != 0) = true := by simp [e]
    rw [e1, if_pos e]; rfl

theorem f40_eq (m : Nat) (hm : 1001 ≤ m) (a : List Hp) (ha : a.length ≤ 1000) (b : List Int) (hb : b.length ≤ 1000) : f40 m a b = some (mtsR a b) := by
  unfold f40 mtsR
  rw [f24_eq m hm a ha]
  show cond (chk a != 0) _ _ = _
  by_cases e : chk a = 0
  · have e1 : (chk a != 0) = false := by simp [e]
    rw [e1, if_neg (fun q => q e)]
    show (f40_1 m m a b ((0 : Nat) : Int)).bind _ = _
    rw [f40_1_eq m a b hb b.length 0 m (-1) (by omega) (by omega) (fun _ => rfl) (fun _ q => by omega), List.drop_zero]
    by_cases e2 : chkH (-1) b = 0
    · rw [if_neg (fun q => q e2)]
      have : ofH40 (chkH (-1) b) = .x0 := by unfold ofH40; rw [if_pos e2]
      rw [this]
      show (f83 m a b).bind _ = _
      unfold f83
      show ((f83_1 m m a b ((0 : Nat) : Int)).bind _).bind _ = _
      rw [f83_1_eq m hm a ha b hb a.length 0 m (by omega) (by omega), List.drop_zero]
      cases allH a b <;> rfl
    · rw [if_pos e2]
      have : ofH40 (chkH (-1) b) = .r (chkH (-1) b) := by unfold ofH40; rw [if_neg e2]
      rw [this]
      rfl
  · have e1 : (chk a != 0) = true := by simp [e]
    rw [e1, if_pos e]; rfl

theorem hrR_len (l : List Hp) : (hrR l).1.length ≤ 24 := by
  unfold hrR
  split
  · simp
  · exact hrL_le 24 0 l

theorem apR_len (l : List Hp) : (apR l).1.length ≤ l.length := by
  unfold apR
  split
  · simp
  · rename_i h
    obtain ⟨ho, _⟩ := chk_ok (show chk l = 0 by simpa using h)
    show (apL l 0 [] []).length ≤ _
    rw [apL_len l 0 [] [] ho, comp2_nil]
    have := mt_len ho
    simpa using this

theorem f6_true (m : Nat) (hm : 1001 ≤ m) (a : List Hp) (b : List Int) : f6 m a b = some true := by
  unfold f6 f15
  by_cases ha : a.length > 60
  · rw [dcT (p := ((a.length : Nat) : Int) > 60) (by omega)]; rfl
  · rw [dcF (p := ((a.length : Nat) : Int) > 60) (by omega)]
    by_cases hb : b.length > 60
    · rw [dcT (p := ((b.length : Nat) : Int) > 60) (by omega)]; rfl
    · rw [dcF (p := ((b.length : Nat) : Int) > 60) (by omega)]
      have h1 := hrR_len a
      have h2 := apR_len a
      simp only [cond_false, cond_true, Option.bind_some, f17_eq m hm a (by omega), f35_eq m hm a (by omega), f36_eq m hm a (by omega), f37_eq m hm a (by omega), f38_eq m hm a (by omega), f20_same m hm (hrR a).1 (by omega), f20_same m hm (apR a).1 (by omega), f39_eq m hm a (by omega) b (by omega), f40_eq m hm a (by omega) b (by omega), beq_self_eq_true]
/-- A call at two rows. -/
theorem KC.calls20 {E : Env} {K n n1 es es1 : Nat} {V v0 v1 : Value} {cs cs1 : List Value} (hes : es ≠ 0) (hes1 : es1 ≠ 0) (hc : cs.all plain = true) (hc1 : cs1.all plain = true) (hV : plain V = true)
    (hx : ∀ z y z1 y1, KC E K [.slice (some ⟨0, 0, none⟩) n n, .slice (some ⟨1, 0, none⟩) n1 n1] [(1, .cells cs1 z1 y1 es1), (0, .cells cs z y es)] 2 (fun v _ _ => v = V)) (w : World) (h0 : RowIn w v0 es cs n) (h1 : RowIn w v1 es1 cs1 n1) (hG : E.G ≤ w.heap.size) (hI : E.inv w) :
    Calls E.P K #[v0, v1] w (fun e w' => e = .returned V ∧ Go.RowKit.Below w.heap.size w w') := by
  obtain ⟨L, fz, el, l1, l2, l3⟩ := h0.loc hes hc
  obtain ⟨M, fz1, el1, m1, m2, m3⟩ := h1.loc hes1 hc1
  have hh : HRel w.heap.size [L, M] [(1, .cells cs1 fz1 el1 es1), (0, .cells cs fz el es)] w := HRel.ofFrozen (fun i o hi => by
    rw [hget_cons] at hi
    split at hi
    · rename_i e; subst e; cases hi
      exact ⟨M, rfl, frz_of m2, m1 _⟩
    · rw [hget_cons] at hi
      split at hi
      · rename_i e; subst e; cases hi
        exact ⟨L, rfl, frz_of l2, l1 _⟩
      · simp [hget_nil] at hi)
  have ha : Cells [L, M] [.slice (some ⟨0, 0, none⟩) n n, .slice (some ⟨1, 0, none⟩) n1 n1] [v0, v1] := by
    refine ⟨rfl, fun i a a' h1 h2 => ?_⟩
    match i with
    | 0 => simp at h1 h2; subst h1; subst h2; exact l3 _ 0 rfl
    | 1 => simp at h1 h2; subst h1; subst h2; exact m3 _ 1 rfl
    | i + 2 => simp at h1
  obtain ⟨q1, q2⟩ := hx fz el fz1 el1 w.heap.size [L, M] w _ ha hh rfl (Nat.le_refl _) hG hI
  refine q2.mono ?_
  rintro e w' ⟨v1, v', ρ', h', c', rfl, e2, e3, e4, e5, e6, rfl⟩
  exact ⟨by rw [e2.plain_eq hV], e6⟩
end Go.Xm

namespace Go.Proofs.Ytfdeihnkoaihfaa.heapHours
open Go.Xm Go.RowKit

theorem walk (v0 : Value) (z0 : List (Int × Int)) (v1 : Value) (z1 : List Int) (w : World) (g0 : RowIn w v0 2 (rowC (encQ .i64) z0) z0.length) (_w0 : ∀ z ∈ z0, (Lit.int .i64 z.1).wf = true ∧ (Lit.int .i64 z.2).wf = true) (g1 : RowIn w v1 1 (rowC (encI .i64) z1) z1.length) (_w1 : ∀ z ∈ z1, (Lit.int .i64 z).wf = true) :
    Calls Try.prog 6 #[v0, v1] w fun e w' => e = .returned (.bool true) ∧ Below w.heap.size w w' := by
  have hp : ∀ l : List Value, l.all scal = true → l.all plain = true := fun l h => List.all_eq_true.2 fun v hv => by
    have := List.all_eq_true.1 h v hv
    cases v <;> simp_all [scal, plain]
  exact KC.calls20 (E := E0) (by decide) (by decide) (hp _ (rowC_scal (encQ_ok .i64) z0)) (hp _ (rowC_scal (encI_ok .i64) z1)) rfl (fun z y z1' y1 => f6_ok 1001 z y z1' y1 z0 z1 true (f6_true 1001 (by omega) z0 z1)) w g0 g1 (Nat.zero_le _) trivial

end Go.Proofs.Ytfdeihnkoaihfaa.heapHours
