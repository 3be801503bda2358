/- Heaps apart, as the program and the reference compute them. Conditions: none. -/
import Derived.Test.YtfdeihnkoaihfaaBu
import Derived.Test.YtfdeihnkoaihfaaBx
import Derived.Test.YtfdeihnkoaihfaaFb
namespace Go.Xm
set_option linter.unusedVariables false
set_option linter.unusedSimpArgs false
set_option maxRecDepth 20000

/-! ### The program -/
theorem f95_79 (m : Nat) (hm : 1001 ≤ m) (L : List Hp) (hL : L.length ≤ 1000) (h : Hp) : f79 m L h.1 h.2 = some (decide (h ∈ L)) := by
  have key := idx_gen L (fun x => h.1 == x.1 && h.2 == x.2) (fun fuel i => f95_1 m fuel L h.1 h.2 ((L.length : Nat) : Int) i) .x0 .r
    (fun fuel => by
      show f95_1 m (fuel + 1) L h.1 h.2 ((L.length : Nat) : Int) ((L.length : Nat) : Int) = _
      rw [f95_1, dcF (by omega)]; rfl)
    (fun fuel i hi => by
      show f95_1 m (fuel + 1) L h.1 h.2 ((L.length : Nat) : Int) (i : Int) = _
      rw [f95_1, dcT (p := (i : Int) < ((L.length : Nat) : Int)) (by omega), inR hi, getDi L hi, nat_succ i (by omega)]
      rfl) L.length 0 m (by omega) (by omega)
  unfold f79 f95
  rcases key with ⟨k, hk, _, k2, _, k4⟩ | ⟨k3, k4⟩
  · have k4 : f95_1 m m L h.1 h.2 ((L.length : Nat) : Int) 0 = some (.r (k : Int)) := k4
    rw [k4]
    show some (decide ((k : Int) ≥ 0)) = _
    simp only [Bool.and_eq_true, beq_iff_eq] at k2
    have : h ∈ L := by
      have e : h = L[k] := by rw [Prod.ext_iff]; exact k2
      rw [e]; exact List.getElem_mem hk
    rw [dcT (by omega), dcT this]
  · have k4 : f95_1 m m L h.1 h.2 ((L.length : Nat) : Int) 0 = some .x0 := k4
    rw [k4]
    show some (decide ((-1 : Int) ≥ 0)) = _
    have : ¬ h ∈ L := fun hh => by
      obtain ⟨j, hj, e⟩ := List.getElem_of_mem hh
      have := k3 j hj (Nat.zero_le _)
      rw [e] at this
      simp at this
    rw [dcF (by omega), dcF this]

/-- What goes behind a heap that is taken. -/
def goP (h : Hp) (left : List Hp) (o : Hp) : Bool := shrd h o || !decide (o ∈ left)

theorem goP_1 {h o : Hp} {left : List Hp} (h1 : o.1 ≤ h.2) (h2 : h.1 ≤ o.2) : goP h left o = true := by
  unfold goP shrd
  rw [dcT ⟨h2, h1⟩]; rfl
theorem goP_2 {h o : Hp} {left : List Hp} (h1 : ¬ (h.1 ≤ o.2 ∧ o.1 ≤ h.2)) : goP h left o = !decide (o ∈ left) := by
  unfold goP shrd
  rw [dcF h1]; rfl

theorem f37_3_step (m : Nat) (hm : 1001 ≤ m) (fuel : Nat) (a : List Hp) (acc : List Int) (left : List Hp) (hl : left.length ≤ 1000) (h : Hp) (L : List Hp) (hL : L.length ≤ 1000) (i : Nat) (hi : i < L.length) :
    f37_3 m (fuel + 1) a acc left h.1 h.2 L ((L.length : Nat) : Int) (i : Int) = cond (goP h left L[i]) (some (.r (i : Int))) (f37_3 m fuel a acc left h.1 h.2 L ((L.length : Nat) : Int) ((i + 1 : Nat) : Int)) := by
  rw [f37_3, dcT (p := (i : Int) < ((L.length : Nat) : Int)) (by omega), inR hi, getDi L hi, nat_succ i (by omega), f95_79 m hm left hl (L[i])]
  by_cases e1 : (L[i]).1 ≤ h.2
  · rw [dcT e1]
    by_cases e2 : h.1 ≤ (L[i]).2
    · rw [dcT e2, goP_1 e1 e2]; rfl
    · rw [dcF e2, goP_2 (fun q => e2 q.1)]; rfl
  · rw [dcF e1, goP_2 (fun q => e1 q.2)]; rfl

theorem f37_4_step (m : Nat) (hm : 1001 ≤ m) (fuel : Nat) (a : List Hp) (acc : List Int) (left : List Hp) (hl : left.length ≤ 1000) (h : Hp) (i k : Nat) (lh : List Hp) (hk : k < lh.length) (hlh : lh.length ≤ 1000) (hik : i < k) :
    f37_4 m (fuel + 1) a acc left h.1 h.2 (i : Int) (k : Int) lh = cond (!goP h left lh[k]) (f37_4 m fuel a acc left h.1 h.2 ((i + 1 : Nat) : Int) ((k + 1 : Nat) : Int) (lh.set i lh[k])) (f37_4 m fuel a acc left h.1 h.2 (i : Int) ((k + 1 : Nat) : Int) lh) := by
  rw [f37_4, dcT (p := (k : Int) < ((lh.length : Nat) : Int)) (by omega), inR hk, getDi lh hk, nat_succ i (by omega), nat_succ k (by omega), inR (show i < lh.length by omega), Int.toNat_natCast, f95_79 m hm left hl (lh[k])]
  by_cases e1 : (lh[k]).1 ≤ h.2
  · rw [dcT e1]
    by_cases e2 : h.1 ≤ (lh[k]).2
    · rw [dcT e2, goP_1 e1 e2]; rfl
    · rw [dcF e2, goP_2 (fun q => e2 q.1)]; rfl
  · rw [dcF e1, goP_2 (fun q => e1 q.2)]; rfl

theorem f37_2_eq (m : Nat) (hm : 1001 ≤ m) (a : List Hp) (acc : List Int) (left : List Hp) (hl : left.length ≤ 1000) (h : Hp) (L : List Hp) (hL : L.length ≤ 1000) : f37_2 m a acc left h.1 h.2 L = some (L.filter fun o => !goP h left o) := by
  have key := del_gen L hL (goP h left) m hm (fun fuel i => f37_3 m fuel a acc left h.1 h.2 L ((L.length : Nat) : Int) i) .x0 .r
    (fun fuel => by
      show f37_3 m (fuel + 1) a acc left h.1 h.2 L ((L.length : Nat) : Int) ((L.length : Nat) : Int) = _
      rw [f37_3, dcF (by omega)]; rfl)
    (fun fuel i hi => f37_3_step m hm fuel a acc left hl h L hL i hi)
    (fun fuel i k lh => f37_4 m fuel a acc left h.1 h.2 i k lh)
    (fun fuel x lh hlh => by
      show f37_4 m (fuel + 1) a acc left h.1 h.2 x ((L.length : Nat) : Int) lh = _
      rw [f37_4, dcF (p := ((L.length : Nat) : Int) < ((lh.length : Nat) : Int)) (by omega)]; rfl)
    (fun fuel i k lh hk hlh hik => f37_4_step m hm fuel a acc left hl h i k lh hk (by omega) hik)
  unfold f37_2
  rcases key with ⟨k1, k2⟩ | ⟨k, hk, k1, arr, k2, k3, k4⟩
  · have k1 : f37_3 m m a acc left h.1 h.2 L ((L.length : Nat) : Int) 0 = _ := k1
    rw [k1]
    show some (List.take L.length L) = _
    rw [List.take_length, k2]
  · have k1 : f37_3 m m a acc left h.1 h.2 L ((L.length : Nat) : Int) 0 = _ := k1
    rw [k1]
    have e : (((k : Int)) == (-1)) = false := by rw [beq_eq_false_iff_ne]; omega
    show cond ((k : Int) == (-1)) (some (List.take L.length L)) ((f37_4 m m a acc left h.1 h.2 (k : Int) (w64 ((k : Int) + 1)) L).bind _) = _
    rw [e, k2]
    refine Eq.trans ?_ (del_tail (kk := L.filter fun o => !goP h left o) (arr := arr) k3 (by omega) (by rw [k4]; exact List.length_filter_le _ _))
    rfl

theorem f37_1_eq (m : Nat) (hm : 1001 ≤ m) (a : List Hp) (ho : OkL a) (h10 : a.length ≤ 100) : ∀ (r i fuel : Nat) (ch left : List Hp) (acc : List Int), i + r = a.length → r < fuel → left.length ≤ 100 → (∀ h ∈ a.drop i, h ∈ left ↔ cmp ch h = true) → acc.length ≤ i →
    f37_1 m fuel a ((mt (comp2 ch (a.drop i)) : Nat) : Int) ((a.length : Nat) : Int) (i : Int) acc left = some (apL (a.drop i) i ch acc)
  | 0, i, fuel + 1, ch, left, acc, hr, hf, hl, hi, ha => by
    rw [f37_1, dcF (p := (i : Int) < ((a.length : Nat) : Int)) (by omega), List.drop_eq_nil_of_le (by omega)]
    rfl
  | r + 1, i, fuel + 1, ch, left, acc, hr, hf, hl, hi, ha => by
    have hlt : i < a.length := by omega
    have hd := List.drop_eq_getElem_cons hlt
    have hod : OkL (a[i] :: a.drop (i + 1)) := fun x hx => ho x (List.mem_of_mem_drop (i := i) (by rw [hd]; exact hx))
    rw [f37_1, dcT (p := (i : Int) < ((a.length : Nat) : Int)) (by omega), inR hlt, getDi a hlt, f95_79 m hm left (by omega), nat_succ i (by omega), Int.toNat_natCast]
    have hin : decide (a[i] ∈ left) = cmp ch a[i] := by
      have := hi a[i] (by rw [hd]; exact List.mem_cons_self ..)
      cases hc : cmp ch a[i] with
      | true => rw [hc] at this; rw [dcT (this.2 rfl)]
      | false => rw [hc] at this; rw [dcF (fun q => by have := this.1 q; cases this)]
    have hnext : ∀ h ∈ a.drop (i + 1), h ∈ left ↔ cmp ch h = true := fun h hh => hi h (by rw [hd]; exact List.mem_cons_of_mem _ hh)
    rw [hd]
    show cond (!decide (a[i] ∈ left)) _ _ = _
    rw [hin]
    unfold apL
    cases hc : cmp ch a[i] with
    | false =>
      rw [if_neg (fun q => by cases q.1)]
      have hs := mt_skip (ch := ch) hod (fun q => by rw [hc] at q; cases q.1)
      show f37_1 m fuel a ((mt (comp2 ch (a[i] :: a.drop (i + 1))) : Nat) : Int) ((a.length : Nat) : Int) ((i + 1 : Nat) : Int) acc left = _
      rw [← hs]
      exact f37_1_eq m hm a ho h10 r (i + 1) fuel ch left acc (by omega) (by omega) hl hnext (by omega)
    | true =>
      have hrest : (a.drop (i + 1)).filter (fun o => !goP a[i] left o) = comp2 (ch ++ [a[i]]) (a.drop (i + 1)) := by
        rw [comp2_snoc]
        unfold comp2
        rw [List.filter_filter]
        refine List.filter_congr (fun x hx => ?_)
        have := hnext x hx
        unfold goP
        cases hcx : cmp ch x with
        | true => rw [hcx] at this; rw [dcT (this.2 rfl)]; simp
        | false => rw [hcx] at this; rw [dcF (fun q => by have := this.1 q; cases this)]; simp
      have hcut : cutOK ((i + 1 : Nat) : Int) ((a.length : Nat) : Int) ((a.length : Nat) : Int) a.length = true := cutOK_iff.2 ⟨by omega, by omega, by omega, by omega⟩
      have htake : List.take (a.length - (i + 1)) (List.drop (i + 1) a) = a.drop (i + 1) := List.take_of_length_le (by rw [List.length_drop]; omega)
      have hol : OkL (comp2 (ch ++ [a[i]]) (a.drop (i + 1))) := comp2_ok hod.tail _
      have hll : (comp2 (ch ++ [a[i]]) (a.drop (i + 1))).length ≤ 100 := by
        have := List.length_filter_le (cmp (ch ++ [a[i]])) (a.drop (i + 1))
        unfold comp2
        rw [List.length_drop] at this
        omega
      simp only [Bool.not_true, cond_false]
      rw [hcut, dcT (p := i + 1 + (a.length - (i + 1)) ≤ a.length) (by omega), dcT (p := a.length - (i + 1) ≤ a.length - (i + 1)) (Nat.le_refl _), fitsI (n := a.length - (i + 1)) (by omega) (by omega), htake, f37_2_eq m hm a acc left (by omega) a[i] _ (by rw [List.length_drop]; omega), hrest]
      simp only [cond_true, Option.bind_some]
      rw [f75_eq m hm _ hol (by omega)]
      have hml := mt_len (comp2_ok hod ch)
      have hlc := List.length_filter_le (cmp ch) (a[i] :: a.drop (i + 1))
      have hb : mt (comp2 ch (a[i] :: a.drop (i + 1))) ≤ 100 := by
        unfold comp2 at hml ⊢
        simp only [List.length_cons, List.length_drop] at hlc
        omega
      rw [w64i (by omega) (by omega)]
      simp only [Option.bind_some]
      by_cases e : 1 + mt (comp2 (ch ++ [a[i]]) (a.drop (i + 1))) = mt (comp2 ch (a[i] :: a.drop (i + 1)))
      · rw [if_pos (by first | exact ⟨rfl, e⟩ | exact ⟨trivial, e⟩)]
        have e2 : (((mt (comp2 (ch ++ [a[i]]) (a.drop (i + 1))) : Nat) : Int) == ((mt (comp2 ch (a[i] :: a.drop (i + 1))) : Nat) : Int) - 1) = true := by rw [beq_iff_eq]; omega
        rw [e2, fitsI (n := acc.length + 1) (by omega) (by omega)]
        have e3 : ((mt (comp2 ch (a[i] :: a.drop (i + 1))) : Nat) : Int) - 1 = ((mt (comp2 (ch ++ [a[i]]) (a.drop (i + 1))) : Nat) : Int) := by omega
        rw [e3]
        refine f37_1_eq m hm a ho h10 r (i + 1) fuel (ch ++ [a[i]]) _ _ (by omega) (by omega) hll (fun h hh => ?_) (by simp; omega)
        unfold comp2
        rw [List.mem_filter]
        exact ⟨fun q => q.2, fun q => ⟨hh, q⟩⟩
      · rw [if_neg (fun q => e q.2)]
        have e2 : (((mt (comp2 (ch ++ [a[i]]) (a.drop (i + 1))) : Nat) : Int) == ((mt (comp2 ch (a[i] :: a.drop (i + 1))) : Nat) : Int) - 1) = false := by rw [beq_eq_false_iff_ne]; omega
        rw [e2]
        have hs := mt_skip (ch := ch) hod (fun q => e q.2)
        show f37_1 m fuel a ((mt (comp2 ch (a[i] :: a.drop (i + 1))) : Nat) : Int) ((a.length : Nat) : Int) ((i + 1 : Nat) : Int) acc left = _
        rw [← hs]
        exact f37_1_eq m hm a ho h10 r (i + 1) fuel ch left acc (by omega) (by omega) hl hnext (by omega)

/-- Apart, as both sides answer. -/
def apR (l : List Hp) : List Int × Int := if chk l ≠ 0 then ([], chk l) else (apL l 0 [] [], 0)

theorem f37_eq (m : Nat) (hm : 1001 ≤ m) (l : List Hp) (hl : l.length ≤ 1000) : f37 m l = some (apR l) := by
  unfold f37 apR
  rw [f23_eq m hm l hl]
  show cond (chk l != 0) _ _ = _
  by_cases e : chk l = 0
  · have e1 : (chk l != 0) = false := by simp [e]
    rw [e1, if_neg (fun q => q e)]
    obtain ⟨ho, h10⟩ := chk_ok e
    rw [fitsI (by omega) (by omega), f75_eq m hm l ho (by omega)]
    have h := f37_1_eq m hm l ho (by omega) l.length 0 m [] l [] (by omega) (by omega) (by omega) (fun h hh => ⟨fun _ => rfl, fun _ => hh⟩) (by simp)
    rw [List.drop_zero, comp2_nil] at h
    show (f37_1 m m l ((mt l : Nat) : Int) ((l.length : Nat) : Int) ((0 : Nat) : Int) [] l).bind _ = _
    rw [h]
    rfl
  · have e1 : (chk l != 0) = true := by simp [e]
    rw [e1, if_pos e]; rfl

/-! ### The reference -/
theorem f82_eq (m : Nat) (x y : Hp) (hx : x.1 ≤ x.2) (hy : y.1 ≤ y.2) : f82 m x.1 x.2 y.1 y.2 = some (shrd x y) := by
  unfold f82 shrd
  congr 1
  by_cases e : x.1 ≤ y.2 ∧ y.1 ≤ x.2
  · rw [dcT e, dcT]
    unfold iMax iMin
    split <;> split <;> omega
  · rw [dcF e, dcF]
    unfold iMax iMin
    split <;> split <;> omega

theorem cmp_drop_nil (ch : List Hp) (h : Hp) {j : Nat} (hj : ch.length ≤ j) : cmp (ch.drop j) h = true := by rw [List.drop_eq_nil_of_le hj]; rfl
theorem cmp_drop_cons (ch : List Hp) (h : Hp) {j : Nat} (hj : j < ch.length) : cmp (ch.drop j) h = (!shrd ch[j] h && cmp (ch.drop (j + 1)) h) := by rw [List.drop_eq_getElem_cons hj]; rfl

theorem f81_1_eq (m : Nat) (a : List Hp) (ho : OkL a) (b : List Hp) (hb : OkL b) (hbl : b.length ≤ 1000) (c : Nat) (hc : c < a.length) (n : Int) : ∀ (r j fuel : Nat), j + r = b.length → r < fuel →
    f81_1 m fuel a b (c : Int) n (j : Int) = some (cond (cmp (b.drop j) a[c]) (.x0 n) (.r n))
  | 0, j, fuel + 1, hr, hf => by
    rw [f81_1, dcF (p := (j : Int) < ((b.length : Nat) : Int)) (by omega), cmp_drop_nil b _ (by omega)]
    rfl
  | r + 1, j, fuel + 1, hr, hf => by
    have hj : j < b.length := by omega
    have h1 := hb _ (List.getElem_mem hj)
    have h2 := ho _ (List.getElem_mem hc)
    rw [f81_1, dcT (p := (j : Int) < ((b.length : Nat) : Int)) (by omega), inR hj, inR hc, getDi b hj, getDi a hc, f82_eq m _ _ (by omega) (by omega), nat_succ j (by omega), cmp_drop_cons b _ hj]
    show cond (shrd b[j] a[c]) (some (.r n)) (f81_1 m fuel a b (c : Int) n ((j + 1 : Nat) : Int)) = _
    cases shrd b[j] a[c] with
    | true => rfl
    | false =>
      rw [f81_1_eq m a ho b hb hbl c hc n r (j + 1) fuel (by omega) (by omega)]
      rfl

theorem f81_eq (m : Nat) (hm : 1001 ≤ m) (a : List Hp) (ho : OkL a) (ha : a.length ≤ 100) : ∀ (r fuel c : Nat) (b : List Hp), c + r = a.length → r < fuel → OkL b → b.length ≤ c → f81 m fuel a b (c : Int) = some ((mt (comp2 b (a.drop c)) : Nat) : Int)
  | 0, fuel + 1, c, b, hr, hf, hb, hbl => by
    have e : ((c : Int) == ((a.length : Nat) : Int)) = true := by rw [beq_iff_eq]; omega
    rw [f81, e, List.drop_eq_nil_of_le (by omega)]
    rfl
  | r + 1, fuel + 1, c, b, hr, hf, hb, hbl => by
    have hc : c < a.length := by omega
    have hd := List.drop_eq_getElem_cons hc
    have hod : OkL (a[c] :: a.drop (c + 1)) := fun x hx => ho x (List.mem_of_mem_drop (i := c) (by rw [hd]; exact hx))
    have h1 := hod a[c] (List.mem_cons_self ..)
    have e : ((c : Int) == ((a.length : Nat) : Int)) = false := by rw [beq_eq_false_iff_ne]; omega
    have hml : mt (comp2 (b ++ [a[c]]) (a.drop (c + 1))) ≤ 100 := by
      have q1 := mt_len (comp2_ok hod.tail (b ++ [a[c]]))
      have q2 := List.length_filter_le (cmp (b ++ [a[c]])) (a.drop (c + 1))
      unfold comp2 at q1 ⊢
      rw [List.length_drop] at q2
      omega
    rw [f81, e, nat_succ c (by omega), f81_eq m hm a ho ha r fuel (c + 1) b (by omega) (by omega) hb (by omega)]
    show (f81_1 m m a b (c : Int) ((mt (comp2 b (a.drop (c + 1))) : Nat) : Int) ((0 : Nat) : Int)).bind _ = _
    rw [f81_1_eq m a ho b hb (by omega) c hc _ b.length 0 m (by omega) (by omega), List.drop_zero, hd, comp2_cons]
    cases hcm : cmp b a[c] with
    | false => rfl
    | true =>
      rw [if_pos rfl]
      show cond (fitsB (0 + b.length) 16) (cond (inRow (c : Int) a.length) (cond (fitsB (b.length + 1) 16) ((f81 m fuel a (b ++ [((List.getD a (Int.toNat (c : Int)) (0, 0)).1, (List.getD a (Int.toNat (c : Int)) (0, 0)).2)]) ((c + 1 : Nat) : Int)).bind _) none) none) none = _
      rw [fitsI (n := 0 + b.length) (by omega) (by omega), inR hc, fitsI (n := b.length + 1) (by omega) (by omega), getDi a hc]
      show (f81 m fuel a (b ++ [a[c]]) ((c + 1 : Nat) : Int)).bind _ = _
      rw [f81_eq m hm a ho ha r fuel (c + 1) (b ++ [a[c]]) (by omega) (by omega) (hb.snoc h1) (by simp; omega)]
      show some (iMax ((mt (comp2 b (a.drop (c + 1))) : Nat) : Int) (w64 (1 + ((mt (comp2 (b ++ [a[c]]) (a.drop (c + 1))) : Nat) : Int)))) = _
      have ho2 : OkL (a[c] :: comp2 b (a.drop (c + 1))) := fun x hx => by
        rcases List.mem_cons.1 hx with rfl | hx
        · exact h1
        · exact hod.tail.filter _ x hx
      have hrec := mt_rec ho2
      rw [← comp2_snoc] at hrec
      rw [w64i (by omega) (by omega), hrec]
      congr 1
      unfold iMax
      split <;> omega

theorem f38_4_eq (m : Nat) (a : List Hp) (ho : OkL a) (x7 : Int) (k : Nat) (hk : k < a.length) (acc : List Int) (ch : List Hp) (hch : OkL ch) (hcl : ch.length ≤ 1000) : ∀ (r j fuel : Nat) (b : Bool), j + r = ch.length → r < fuel →
    f38_4 m fuel a x7 (k : Int) acc ch b (j : Int) = some (b && cmp (ch.drop j) a[k])
  | 0, j, fuel + 1, b, hr, hf => by
    rw [f38_4, dcF (p := (j : Int) < ((ch.length : Nat) : Int)) (by omega), cmp_drop_nil ch _ (by omega), Bool.and_true]
    rfl
  | r + 1, j, fuel + 1, b, hr, hf => by
    have hj : j < ch.length := by omega
    have h1 := hch _ (List.getElem_mem hj)
    have h2 := ho _ (List.getElem_mem hk)
    rw [f38_4, dcT (p := (j : Int) < ((ch.length : Nat) : Int)) (by omega), inR hj, inR hk, getDi ch hj, getDi a hk, f82_eq m _ _ (by omega) (by omega), nat_succ j (by omega), cmp_drop_cons ch _ hj]
    cases b with
    | false =>
      show f38_4 m fuel a x7 (k : Int) acc ch false ((j + 1 : Nat) : Int) = _
      rw [f38_4_eq m a ho x7 k hk acc ch hch hcl r (j + 1) fuel false (by omega) (by omega)]
      rfl
    | true =>
      show f38_4 m fuel a x7 (k : Int) acc ch (!shrd ch[j] a[k]) ((j + 1 : Nat) : Int) = _
      rw [f38_4_eq m a ho x7 k hk acc ch hch hcl r (j + 1) fuel _ (by omega) (by omega)]
      rfl

theorem apL_zero : ∀ (L : List Hp) (i : Nat) (ch : List Hp) (acc : List Int), OkL L → mt (comp2 ch L) = 0 → apL L i ch acc = acc
  | [], i, ch, acc, _, _ => rfl
  | h :: L, i, ch, acc, ho, h0 => by
    unfold apL
    have hn : ¬ (cmp ch h = true ∧ 1 + mt (comp2 (ch ++ [h]) L) = mt (comp2 ch (h :: L))) := fun q => by omega
    rw [if_neg hn]
    exact apL_zero L (i + 1) ch acc ho.tail (by rw [mt_skip ho hn]; exact h0)

theorem f38_3_eq (m : Nat) (hm : 1001 ≤ m) (a : List Hp) (ho : OkL a) (h10 : a.length ≤ 100) : ∀ (r i fuel : Nat) (ch : List Hp) (acc : List Int), i + r = a.length → r < fuel → OkL ch → ch.length ≤ i → acc.length ≤ i →
    f38_3 m fuel a ((mt (comp2 ch (a.drop i)) : Nat) : Int) (i : Int) acc ch = some (apL (a.drop i) i ch acc)
  | 0, i, fuel + 1, ch, acc, hr, hf, hch, hcl, ha => by
    rw [f38_3, dcF (p := (i : Int) < ((a.length : Nat) : Int)) (by omega), List.drop_eq_nil_of_le (by omega)]
    rfl
  | r + 1, i, fuel + 1, ch, acc, hr, hf, hch, hcl, ha => by
    have hlt : i < a.length := by omega
    have hd := List.drop_eq_getElem_cons hlt
    have hod : OkL (a[i] :: a.drop (i + 1)) := fun x hx => ho x (List.mem_of_mem_drop (i := i) (by rw [hd]; exact hx))
    have h1 := hod a[i] (List.mem_cons_self ..)
    have hb : mt (comp2 ch (a.drop i)) ≤ 100 := by
      have q1 := mt_len (comp2_ok (l := a.drop i) (by rw [hd]; exact hod) ch)
      have q2 := List.length_filter_le (cmp ch) (a.drop i)
      unfold comp2 at q1 ⊢
      rw [List.length_drop] at q2
      omega
    by_cases h0 : mt (comp2 ch (a.drop i)) = 0
    · rw [f38_3, dcT (p := (i : Int) < ((a.length : Nat) : Int)) (by omega), h0, apL_zero _ _ _ _ (by rw [hd]; exact hod) h0]
      rfl
    · rw [f38_3, dcT (p := (i : Int) < ((a.length : Nat) : Int)) (by omega), dcT (p := ((mt (comp2 ch (a.drop i)) : Nat) : Int) > 0) (by omega)]
      show (f38_4 m m a _ (i : Int) acc ch true ((0 : Nat) : Int)).bind _ = _
      rw [f38_4_eq m a ho _ i hlt acc ch hch (by omega) ch.length 0 m true (by omega) (by omega), List.drop_zero, Bool.true_and]
      simp only [cond_true, Option.bind_some]
      rw [fitsI (n := 0 + ch.length) (by omega) (by omega), inR hlt, fitsI (n := ch.length + 1) (by omega) (by omega), getDi a hlt, nat_succ i (by omega)]
      simp only [cond_true]
      rw [hd] at hb h0 ⊢
      unfold apL
      cases hc : cmp ch a[i] with
      | false =>
        rw [if_neg (fun q => by cases q.1)]
        have hs := mt_skip (ch := ch) hod (fun q => by rw [hc] at q; cases q.1)
        show f38_3 m fuel a ((mt (comp2 ch (a[i] :: a.drop (i + 1))) : Nat) : Int) ((i + 1 : Nat) : Int) acc ch = _
        rw [← hs]
        exact f38_3_eq m hm a ho h10 r (i + 1) fuel ch acc (by omega) (by omega) hch (by omega) (by omega)
      | true =>
        have hml : mt (comp2 (ch ++ [a[i]]) (a.drop (i + 1))) ≤ 100 := by
          have q1 := mt_len (comp2_ok hod.tail (ch ++ [a[i]]))
          have q2 := List.length_filter_le (cmp (ch ++ [a[i]])) (a.drop (i + 1))
          unfold comp2 at q1 ⊢
          rw [List.length_drop] at q2
          omega
        show (f81 m m a (ch ++ [a[i]]) ((i + 1 : Nat) : Int)).bind _ = _
        rw [f81_eq m hm a ho h10 r m (i + 1) (ch ++ [a[i]]) (by omega) (by omega) (hch.snoc h1) (by simp; omega)]
        simp only [Option.bind_some]
        rw [w64i (x := 1 + ((mt (comp2 (ch ++ [a[i]]) (a.drop (i + 1))) : Nat) : Int)) (by omega) (by omega), w64i (x := ((mt (comp2 ch (a[i] :: a.drop (i + 1))) : Nat) : Int) - 1) (by omega) (by omega)]
        by_cases e : 1 + mt (comp2 (ch ++ [a[i]]) (a.drop (i + 1))) = mt (comp2 ch (a[i] :: a.drop (i + 1)))
        · rw [if_pos (by first | exact ⟨rfl, e⟩ | exact ⟨trivial, e⟩)]
          have e2 : (1 + ((mt (comp2 (ch ++ [a[i]]) (a.drop (i + 1))) : Nat) : Int) == ((mt (comp2 ch (a[i] :: a.drop (i + 1))) : Nat) : Int)) = true := by rw [beq_iff_eq]; omega
          rw [e2, fitsI (n := acc.length + 1) (by omega) (by omega)]
          have e3 : ((mt (comp2 ch (a[i] :: a.drop (i + 1))) : Nat) : Int) - 1 = ((mt (comp2 (ch ++ [a[i]]) (a.drop (i + 1))) : Nat) : Int) := by omega
          rw [e3]
          exact f38_3_eq m hm a ho h10 r (i + 1) fuel (ch ++ [a[i]]) _ (by omega) (by omega) (hch.snoc h1) (by simp; omega) (by simp; omega)
        · rw [if_neg (fun q => e q.2)]
          have e2 : (1 + ((mt (comp2 (ch ++ [a[i]]) (a.drop (i + 1))) : Nat) : Int) == ((mt (comp2 ch (a[i] :: a.drop (i + 1))) : Nat) : Int)) = false := by rw [beq_eq_false_iff_ne]; omega
          rw [e2]
          have hs := mt_skip (ch := ch) hod (fun q => e q.2)
          show f38_3 m fuel a ((mt (comp2 ch (a[i] :: a.drop (i + 1))) : Nat) : Int) ((i + 1 : Nat) : Int) acc ch = _
          rw [← hs]
          exact f38_3_eq m hm a ho h10 r (i + 1) fuel ch acc (by omega) (by omega) hch (by omega) (by omega)

theorem f38_eq (m : Nat) (hm : 1001 ≤ m) (l : List Hp) (hl : l.length ≤ 1000) : f38 m l = some (apR l) := by
  unfold f38 apR
  rw [f24_eq m hm l hl]
  show cond (chk l != 0) _ _ = _
  by_cases e : chk l = 0
  · have e1 : (chk l != 0) = false := by simp [e]
    rw [e1, if_neg (fun q => q e)]
    obtain ⟨ho, h10⟩ := chk_ok e
    obtain ⟨f, rfl⟩ : ∃ f, m = f + 1 := ⟨m - 1, by omega⟩
    simp only [cond_false]
    cases l with
    | nil => rfl
    | cons h L =>
      have e2 : ((0 : Int) == (((h :: L).length : Nat) : Int)) = false := by rw [beq_eq_false_iff_ne]; simp only [List.length_cons]; omega
      have q1 := f81_eq (f + 1) hm (h :: L) ho (by omega) L.length (f + 1) 1 [] (by simp only [List.length_cons]; omega) (by simp only [List.length_cons] at h10; omega) (fun x hx => by cases hx) (by simp)
      have q2 := f81_eq (f + 1) hm (h :: L) ho (by omega) L.length (f + 1) 1 [h] (by simp only [List.length_cons]; omega) (by simp only [List.length_cons] at h10; omega) (fun x hx => by rw [List.mem_singleton.1 hx]; exact ho h (List.mem_cons_self ..)) (by simp)
      have q1 : f81 (f + 1) (f + 1) (h :: L) [] 1 = some ((mt (comp2 [] L) : Nat) : Int) := q1
      have q2 : f81 (f + 1) (f + 1) (h :: L) [h] 1 = some ((mt (comp2 [h] L) : Nat) : Int) := q2
      have hml := mt_len (comp2_ok ho.tail [h])
      have hfl := List.length_filter_le (cmp [h]) L
      have hrec := mt_rec ho
      have e3 : (L.filter fun x => !shrd h x) = comp2 [h] L := by
        have := comp2_snoc [] h L
        rw [comp2_nil] at this
        exact this.symm
      rw [e3] at hrec
      rw [comp2_nil] at q1
      have hb : mt (comp2 [h] L) ≤ 100 := by unfold comp2 at hml ⊢; simp only [List.length_cons] at h10; omega
      show cond ((0 : Int) == (((h :: L).length : Nat) : Int)) _ ((f81 (f + 1) (f + 1) (h :: L) [] 1).bind _) = _
      rw [e2, q1]
      simp only [cond_false, Option.bind_some]
      show (f38_2 (f + 1) (f + 1) (h :: L) ((mt L : Nat) : Int)).bind _ = _
      show cond (inRow ((0 : Nat) : Int) (h :: L).length) ((f81 (f + 1) (f + 1) (h :: L) [h] 1).bind _) none = _
      rw [inR (show 0 < (h :: L).length by simp), q2]
      show (f38_3 (f + 1) (f + 1) (h :: L) (iMax ((mt L : Nat) : Int) (w64 (1 + ((mt (comp2 [h] L) : Nat) : Int)))) ((0 : Nat) : Int) [] []).bind _ = _
      have e4 : iMax ((mt L : Nat) : Int) (w64 (1 + ((mt (comp2 [h] L) : Nat) : Int))) = ((mt (comp2 [] ((h :: L).drop 0)) : Nat) : Int) := by
        rw [w64i (by omega) (by omega), List.drop_zero, comp2_nil, hrec]
        unfold iMax
        split <;> omega
      rw [e4, f38_3_eq (f + 1) hm (h :: L) ho (by omega) (h :: L).length 0 (f + 1) [] [] (by omega) (by omega) (fun x hx => by cases hx) (by simp) (by simp)]
      rfl
  · have e1 : (chk l != 0) = true := by simp [e]
    rw [e1, if_pos e]; rfl
end Go.Xm
