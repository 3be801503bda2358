/- What stands against counts, on both sides; sums; where the first one is. Plain Lean. Conditions: at most 8 counts of 0 to 7. -/
import Derived.Test.YtfimbmhannndaaaDoorCa
import Derived.Test.YtfimbmhannndaaaDoorCb
import Derived.Test.YtfimbmhannndaaaDoorDd
namespace Go.Xm
set_option linter.unusedVariables false
set_option linter.unusedSimpArgs false
set_option maxRecDepth 20000

def Cts (l : List Int) : Prop := l.length ≤ 8 ∧ ∀ x ∈ l, 0 ≤ x ∧ x ≤ 7

theorem Cts.dsc {l : List Int} (h : Cts l) : Cts (dsc l) := ⟨by rw [dsc_len]; exact h.1, fun x hx => h.2 x ((dsc_perm l).mem_iff.1 hx)⟩
theorem Cts.get {l : List Int} (h : Cts l) (i : Nat) : 0 ≤ l.getD i 0 ∧ l.getD i 0 ≤ 7 := by
  by_cases hi : i < l.length
  · have e : l.getD i 0 = l[i] := by simp [List.getD_eq_getElem?_getD, hi]
    rw [e]; exact h.2 _ (List.getElem_mem hi)
  · have e : l.getD i 0 = 0 := by simp [List.getD_eq_getElem?_getD, List.getElem?_eq_none (Nat.le_of_not_lt hi)]
    rw [e]; omega

/-- The counts of the first k, less what the others can give. -/
def ovr (k : Int) : List Int → Int → Int
  | [], _ => 0
  | x :: l, i => (if i < k then x else -(min x k)) + ovr k l (i + 1)

theorem f62_1_eq (m : Nat) (a : List Int) (ha : Cts a) (k : Int) (hk : 0 ≤ k ∧ k ≤ 8) : ∀ (r i fuel : Nat) (x : Int), i + r = a.length → r < fuel → -100 - 10 * (i : Int) ≤ x → x ≤ 100 + 10 * (i : Int) →
    f62_1 m fuel a k x ((a.length : Nat) : Int) (i : Int) = some (x + ovr k (a.drop i) (i : Int))
  | 0, i, fuel + 1, x, hi, _, _, _ => by
    rw [f62_1, dcF (p := (i : Int) < ((a.length : Nat) : Int)) (by omega), List.drop_eq_nil_of_le (by omega)]
    simp [ovr]
  | r + 1, i, fuel + 1, x, hi, hf, h1, h2 => by
    have hil : i < a.length := by omega
    have hg := ha.get i
    have ha8 := ha.1
    rw [f62_1, dcT (p := (i : Int) < ((a.length : Nat) : Int)) (by omega), inR hil]
    have t : Int.toNat (i : Int) = i := rfl
    rw [t, iMin_eq, drop_getD hil, nat_succ _ (by omega)]
    show f62_1 m fuel a k (cond (decide ((i : Int) < k)) _ _) _ _ = _
    unfold ovr
    by_cases e : (i : Int) < k
    · rw [dcT e, if_pos e]
      show f62_1 m fuel a k (w64 (x + a.getD i 0)) _ _ = _
      rw [w64i (by omega) (by omega), f62_1_eq m a ha k hk r (i + 1) fuel _ (by omega) (by omega) (by omega) (by omega)]
      have : ((i + 1 : Nat) : Int) = (i : Int) + 1 := by omega
      rw [this]
      exact congrArg some (by omega)
    · rw [dcF e, if_neg e]
      show f62_1 m fuel a k (w64 (x - min (a.getD i 0) k)) _ _ = _
      rw [w64i (by omega) (by omega), f62_1_eq m a ha k hk r (i + 1) fuel _ (by omega) (by omega) (by omega) (by omega)]
      have : ((i + 1 : Nat) : Int) = (i : Int) + 1 := by omega
      rw [this]
      exact congrArg some (by omega)

def stB (k : Int) (d : List Int) : Bool := decide (k * (k - 1) < ovr k d 0)

theorem sq_bound {k : Int} (hk : 0 ≤ k ∧ k ≤ 8) : 0 - k = -k ∧ -100 ≤ -k * (k - 1) ∧ -k * (k - 1) ≤ 8 ∧ k * (k - 1) ≤ 56 ∧ 0 ≤ k * (k - 1) ∧ -k * (k - 1) = -(k * (k - 1)) := by
  have : ∀ n : Fin 9, (-100 : Int) ≤ -((n.val : Int)) * ((n.val : Int) - 1) ∧ -((n.val : Int)) * ((n.val : Int) - 1) ≤ 8 ∧ ((n.val : Int)) * ((n.val : Int) - 1) ≤ 56 ∧ 0 ≤ ((n.val : Int)) * ((n.val : Int) - 1) := by decide
  have h := this ⟨k.toNat, by omega⟩
  have e : ((k.toNat : Nat) : Int) = k := by omega
  simp only [e] at h
  exact ⟨by omega, h.1, h.2.1, h.2.2.1, h.2.2.2, Int.neg_mul _ _⟩

theorem f62_eq (m : Nat) (hm : 1001 ≤ m) (d : List Int) (hd : Cts d) (k : Int) (hk : 0 ≤ k ∧ k ≤ 8) : f62 m d k = some (stB k d) := by
  obtain ⟨q0, q1, q2, q3, q4, q5⟩ := sq_bound hk
  unfold f62 stB
  have hd8 := hd.1
  have h := f62_1_eq m d hd k hk d.length 0 m (-k * (k - 1)) (by omega) (by omega) (by omega) (by omega)
  have e : w64 ((w64 (0 - k)) * (w64 (k - 1))) = -k * (k - 1) := by
    rw [w64i (x := 0 - k) (by omega) (by omega), w64i (x := k - 1) (by omega) (by omega), q0, w64i (by omega) (by omega)]
  rw [e]
  have h' : f62_1 m m d k (-k * (k - 1)) ((d.length : Nat) : Int) 0 = some (-k * (k - 1) + ovr k d 0) := h
  rw [h']
  show some (decide (-k * (k - 1) + ovr k d 0 > 0)) = _
  rw [q5]
  by_cases e : k * (k - 1) < ovr k d 0
  · rw [dcT e, dcT (by omega)]
  · rw [dcF e, dcF (by omega)]

/-! ### The reference's sums -/
def mnS (k : Int) (l : List Int) : Int := (l.map fun x => min x k).sum

theorem f67_1_eq (m : Nat) (a : List Int) (k : Int) (hk : 0 ≤ k ∧ k ≤ 8) (d : List Int) (hd : Cts d) : ∀ (r i fuel : Nat) (x : Int), i + r = d.length → r < fuel → -100 - 10 * (i : Int) ≤ x → x ≤ 100 + 10 * (i : Int) →
    f67_1 m fuel a k x (i : Int) d = some (x + mnS k (d.drop i), d)
  | 0, i, fuel + 1, x, hi, _, _, _ => by
    rw [f67_1, dcF (p := (i : Int) < ((d.length : Nat) : Int)) (by omega), List.drop_eq_nil_of_le (by omega)]
    simp [mnS]
  | r + 1, i, fuel + 1, x, hi, hf, h1, h2 => by
    have hil : i < d.length := by omega
    have hg := hd.get i
    have hd8 := hd.1
    rw [f67_1, dcT (p := (i : Int) < ((d.length : Nat) : Int)) (by omega), inR hil]
    have t : Int.toNat (i : Int) = i := rfl
    rw [t, iMin_eq, drop_getD hil, nat_succ _ (by omega)]
    show f67_1 m fuel a k (w64 (x + min (d.getD i 0) k)) _ _ = _
    rw [w64i (by omega) (by omega), f67_1_eq m a k hk d hd r (i + 1) fuel _ (by omega) (by omega) (by omega) (by omega)]
    have : mnS k (d.getD i 0 :: d.drop (i + 1)) = min (d.getD i 0) k + mnS k (d.drop (i + 1)) := by simp [mnS]
    rw [this]
    exact congrArg (fun z => some (z, d)) (by omega)

theorem f67_2_eq (m : Nat) (a : List Int) (n : Nat) (x0 : Int) (d : List Int) (hd : Cts d) (hn : n ≤ d.length) : ∀ (r i fuel : Nat) (x : Int), i + r = n → r < fuel → -100 - 10 * (i : Int) ≤ x → x ≤ 100 + 10 * (i : Int) →
    f67_2 m fuel a n x (i : Int) d = some (x + ((d.take n).drop i).sum, d)
  | 0, i, fuel + 1, x, hi, _, _, _ => by
    rw [f67_2, dcF (p := (i : Int) < ((n : Nat) : Int)) (by omega), List.drop_eq_nil_of_le (by rw [List.length_take]; omega)]
    simp
  | r + 1, i, fuel + 1, x, hi, hf, h1, h2 => by
    have hil : i < d.length := by omega
    have hg := hd.get i
    have hd8 := hd.1
    rw [f67_2, dcT (p := (i : Int) < ((n : Nat) : Int)) (by omega), inR (show i < n by omega)]
    have t : Int.toNat (i : Int) = i := rfl
    rw [t, dcT hil, nat_succ _ (by omega)]
    show f67_2 m fuel a n (w64 (x + d.getD i 0)) _ _ = _
    have hil2 : i < (d.take n).length := by rw [List.length_take]; omega
    have e : (d.take n).getD i 0 = d.getD i 0 := by simp [List.getD_eq_getElem?_getD, List.getElem?_take, show i < n by omega]
    rw [w64i (by omega) (by omega), f67_2_eq m a n x0 d hd hn r (i + 1) fuel _ (by omega) (by omega) (by omega) (by omega), drop_getD hil2, e, List.sum_cons]
    exact congrArg (fun z => some (z, d)) (by omega)

theorem ovr_eq (k : Int) : ∀ (l : List Int) (i : Int), i ≤ k → ovr k l i = (l.take (k - i).toNat).sum - mnS k (l.drop (k - i).toNat)
  | [], i, _ => by simp [ovr, mnS]
  | x :: l, i, h => by
    unfold ovr
    by_cases e : i < k
    · rw [if_pos e, ovr_eq k l (i + 1) (by omega)]
      obtain ⟨n, hn⟩ : ∃ n : Nat, (k - i).toNat = n + 1 := ⟨(k - i).toNat - 1, by omega⟩
      have hn2 : (k - (i + 1)).toNat = n := by omega
      rw [hn, hn2, List.take_succ_cons, List.drop_succ_cons, List.sum_cons]
      omega
    · have hik : i = k := by omega
      subst hik
      rw [if_neg e]
      have h0 : (i - i).toNat = 0 := by omega
      rw [h0, List.take_zero, List.drop_zero]
      have : ∀ (l : List Int) (j : Int), i < j → ovr i l j = - mnS i l := by
        intro l
        induction l with
        | nil => intro j _; simp [ovr, mnS]
        | cons y l ih =>
          intro j hj
          unfold ovr
          rw [if_neg (by omega), ih (j + 1) (by omega)]
          simp only [mnS, List.map_cons, List.sum_cons]
          omega
      rw [this l (i + 1) (by omega)]
      simp only [mnS, List.map_cons, List.sum_cons, List.sum_nil]
      omega

theorem f67_eq (m : Nat) (hm : 1001 ≤ m) (a : List Int) (ha : Cts a) (k : Nat) (hk : k ≤ a.length) : f67 m a (k : Int) = some (stB k (dsc a)) := by
  have ha8 := ha.1
  have hd := ha.dsc
  have hdl := dsc_len a
  have hk2 : (0 : Int) ≤ (k : Int) ∧ (k : Int) ≤ 8 := by omega
  obtain ⟨q0, q1, q2, q3, q4, q5⟩ := sq_bound hk2
  unfold f67
  rw [f92_eq m hm a (by omega)]
  have e : w64 ((k : Int) * (w64 ((k : Int) - 1))) = (k : Int) * ((k : Int) - 1) := by rw [w64i (x := (k : Int) - 1) (by omega) (by omega), w64i (by omega) (by omega)]
  show ((f67_1 m m a (k : Int) (w64 ((k : Int) * (w64 ((k : Int) - 1)))) (k : Int) (dsc a)).bind _) = _
  rw [e, f67_1_eq m a (k : Int) hk2 (dsc a) hd ((dsc a).length - k) k m _ (by omega) (by omega) (by omega) (by omega)]
  show cond (cutOK 0 (k : Int) (((dsc a).length : Nat) : Int) (dsc a).length) _ _ = _
  have hc : cutOK 0 (k : Int) (((dsc a).length : Nat) : Int) (dsc a).length = true := cutOK_iff.2 (by omega)
  rw [hc]
  show ((f67_2 m m a (Int.toNat (k : Int)) 0 0 (dsc a)).bind _) = _
  have t : Int.toNat (k : Int) = k := rfl
  have h2 := f67_2_eq m a k 0 (dsc a) hd (by omega) k 0 m 0 (by omega) (by omega) (by omega) (by omega)
  have h2' : f67_2 m m a (Int.toNat (k : Int)) 0 0 (dsc a) = some (0 + (((dsc a).take k).drop 0).sum, dsc a) := h2
  rw [h2']
  show some (decide (0 + (((dsc a).take k).drop 0).sum > (k : Int) * ((k : Int) - 1) + mnS (k : Int) ((dsc a).drop k))) = _
  unfold stB
  rw [ovr_eq (k : Int) (dsc a) 0 (by omega), List.drop_zero]
  have t2 : ((k : Int) - 0).toNat = k := by omega
  rw [t2]
  by_cases e : (k : Int) * ((k : Int) - 1) < ((dsc a).take k).sum - mnS (k : Int) ((dsc a).drop k)
  · rw [dcT e, dcT (by omega)]
  · rw [dcF e, dcF (by omega)]

/-! ### Sums -/
theorem sum_perm' {a b : List Int} (h : a.Perm b) : a.sum = b.sum := by
  induction h with
  | nil => rfl
  | cons x _ ih => simp only [List.sum_cons, ih]
  | swap x y l => simp only [List.sum_cons]; omega
  | trans _ _ h1 h2 => exact h1.trans h2

theorem f63_1_eq (m : Nat) (a : List Int) (ha : Cts a) : ∀ (r i fuel : Nat) (x : Int), i + r = a.length → r < fuel → -100 - 10 * (i : Int) ≤ x → x ≤ 100 + 10 * (i : Int) →
    f63_1 m fuel a x (i : Int) = some (x + (a.drop i).sum)
  | 0, i, fuel + 1, x, hi, _, _, _ => by
    rw [f63_1, dcF (p := (i : Int) < ((a.length : Nat) : Int)) (by omega), List.drop_eq_nil_of_le (by omega)]
    simp
  | r + 1, i, fuel + 1, x, hi, hf, h1, h2 => by
    have hil : i < a.length := by omega
    have hg := ha.get i
    have ha8 := ha.1
    rw [f63_1, dcT (p := (i : Int) < ((a.length : Nat) : Int)) (by omega), inR hil]
    have t : Int.toNat (i : Int) = i := rfl
    rw [t, nat_succ _ (by omega)]
    show f63_1 m fuel a (w64 (x + a.getD i 0)) _ = _
    rw [w64i (by omega) (by omega), f63_1_eq m a ha r (i + 1) fuel _ (by omega) (by omega) (by omega) (by omega), drop_getD hil, List.sum_cons]
    exact congrArg some (by omega)

theorem f63_eq (m : Nat) (hm : 1001 ≤ m) (a : List Int) (ha : Cts a) : f63 m a = some (dsc a).sum := by
  have ha8 := ha.1
  have h := f63_1_eq m a ha a.length 0 m 0 (by omega) (by omega) (by omega) (by omega)
  have h' : f63_1 m m a 0 0 = some (0 + (a.drop 0).sum) := h
  unfold f63
  rw [h', sum_perm' (dsc_perm a)]
  simp

theorem f17_1_eq (m : Nat) (a : List Int) : ∀ (fuel : Nat) (x i : Int), f17_1 m fuel a x ((a.length : Nat) : Int) i = f63_1 m fuel a x i
  | 0, _, _ => rfl
  | fuel + 1, x, i => by
    rw [f17_1, f63_1]
    simp only [f17_1_eq m a fuel]

/-! ### The first one that stands -/
def fst1 (p : Int → Bool) : Nat → Int → Option Int
  | 0, _ => none
  | n + 1, k => if p k then some k else fst1 p n (k + 1)

theorem f64_1_eq (m : Nat) (hm : 1001 ≤ m) (a : List Int) (ha : Cts a) : ∀ (r k fuel : Nat), k + r = a.length + 1 → r < fuel → f64_1 m fuel a (k : Int) = some (match fst1 (fun k => stB k (dsc a)) r (k : Int) with | some x => .r x | none => .x0)
  | 0, k, fuel + 1, hk, _ => by
    rw [f64_1, dcF (p := (k : Int) ≤ ((a.length : Nat) : Int)) (by omega)]
    rfl
  | r + 1, k, fuel + 1, hk, hf => by
    have ha8 := ha.1
    rw [f64_1, dcT (p := (k : Int) ≤ ((a.length : Nat) : Int)) (by omega), f67_eq m hm a ha k (by omega), nat_succ _ (by omega)]
    unfold fst1
    show cond (stB (k : Int) (dsc a)) _ _ = _
    cases e : stB (k : Int) (dsc a) with
    | true => rfl
    | false =>
      show f64_1 m fuel a ((k + 1 : Nat) : Int) = _
      rw [f64_1_eq m hm a ha r (k + 1) fuel (by omega) (by omega)]
      have : ((k + 1 : Nat) : Int) = (k : Int) + 1 := by omega
      rw [this]
      simp

def whyD (d : List Int) : Int := (fst1 (fun k => stB k d) d.length 1).getD 0

theorem f64_eq (m : Nat) (hm : 1001 ≤ m) (a : List Int) (ha : Cts a) : f64 m a = some (whyD (dsc a)) := by
  have ha8 := ha.1
  unfold f64 whyD
  have h := f64_1_eq m hm a ha a.length 1 m (by omega) (by omega)
  have h' : f64_1 m m a 1 = _ := h
  rw [h', dsc_len]
  have e1 : ((1 : Nat) : Int) = 1 := rfl
  rw [e1]
  cases fst1 (fun k => stB k (dsc a)) a.length 1 <;> rfl

def whyL (d : List Int) : Int := (fst1 (fun k => stB k d) (d.length - 1) 1).getD d.length

theorem f17_2_eq (m : Nat) (hm : 1001 ≤ m) (a d : List Int) (hd : Cts d) : ∀ (r k fuel : Nat), k + r = d.length → r < fuel → f17_2 m fuel a (k : Int) d = some ((fst1 (fun k => stB k d) r (k : Int)).getD d.length)
  | 0, k, fuel + 1, hk, _ => by
    rw [f17_2, dcF (p := (k : Int) < ((d.length : Nat) : Int)) (by omega)]
    exact congrArg some (by show (k : Int) = _; simp [fst1]; omega)
  | r + 1, k, fuel + 1, hk, hf => by
    have hd8 := hd.1
    rw [f17_2, dcT (p := (k : Int) < ((d.length : Nat) : Int)) (by omega), f62_eq m hm d hd (k : Int) (by omega), nat_succ _ (by omega)]
    unfold fst1
    show cond (!stB (k : Int) d) _ _ = _
    cases e : stB (k : Int) d with
    | true => rfl
    | false =>
      show f17_2 m fuel a ((k + 1 : Nat) : Int) d = _
      rw [f17_2_eq m hm a d hd r (k + 1) fuel (by omega) (by omega)]
      have : ((k + 1 : Nat) : Int) = (k : Int) + 1 := by omega
      rw [this]
      simp

end Go.Xm
