/- ClubHavel: the law is true at all numbers. Plain Lean. Conditions: those that each theorem names. -/
import Derived.Test.YtfimbmhannndaaaDoorHd
import Derived.Test.YtfimbmhannndaaaDoorHe
import Derived.Test.YtfimbmhannndaaaDoorCg
namespace Go.Xm
set_option linter.unusedVariables false
set_option linter.unusedSimpArgs false
set_option maxRecDepth 20000

theorem fit_of {n : Int} : ∀ {l : List Int}, (∀ x ∈ l, 0 ≤ x ∧ x ≤ n - 1) → fit n l = true
  | [], _ => rfl
  | y :: l, h => by
    unfold fit
    rw [dcT (h y (List.mem_cons_self ..)), fit_of (fun x hx => h x (List.mem_cons_of_mem _ hx))]
    rfl

theorem ckR_zero {a : List Int} (h1 : 1 ≤ a.length) (h8 : a.length ≤ 8) (hx : ∀ x ∈ a, 0 ≤ x ∧ x ≤ (a.length : Int) - 1) : ckR a = 0 := by
  unfold ckR
  rw [if_neg (by omega), if_neg (by omega), if_pos (fit_of hx)]

theorem f15_val (m : Nat) (hm : 1001 ≤ m) {a : List Int} {l : List Nat} (h1 : 1 ≤ a.length) (h8 : a.length ≤ 8) (hx : ∀ x ∈ a, 0 ≤ x ∧ x ≤ (a.length : Int) - 1) (hl : dsc a = toI l) : f15 m a = some (canN 8 l, 0) := by
  have hll : l.length = a.length := by rw [← toI_len, ← hl, dsc_len]
  have hs : ∀ x ∈ l, x ≤ 7 := fun x hx' => by
    have h2 : (x : Int) ∈ dsc a := by rw [hl]; exact List.mem_map.2 ⟨x, hx', rfl⟩
    have := hx _ ((dsc_perm a).mem_iff.1 h2)
    omega
  unfold f15
  rw [f21_eq m hm a (by omega), ckR_zero h1 h8 hx, f59_eq m hm a l hl (by omega) hs]
  rfl

theorem dsc_toI (r : List Nat) : dsc (toI r) = toI (sortN r).reverse := by
  rw [toI_reverse, sortN_eq]; rfl

theorem getD_toI (R : List Nat) (i : Nat) : List.getD (toI R) i 0 = ((R.getD i 0 : Nat) : Int) := by
  unfold toI
  rw [List.getD_eq_getElem?_getD, List.getElem?_map, List.getD_eq_getElem?_getD]
  cases R[i]? <;> rfl

theorem eraN_perm {v : Nat} : ∀ {l : List Nat}, v ∈ l → (v :: eraN v l).Perm l
  | x :: l, h => by
    show (v :: (match Nat.beq x v with | true => l | false => x :: eraN v l)).Perm (x :: l)
    cases hb : Nat.beq x v with
    | true => have := Nat.eq_of_beq_eq_true hb; subst this; exact List.Perm.refl _
    | false =>
      have hne : x ≠ v := fun q => by subst q; rw [Nat.beq_refl] at hb; cases hb
      have hm : v ∈ l := by
        rcases List.mem_cons.1 h with q | q
        · exact absurd q.symm hne
        · exact q
      exact (List.Perm.swap x v _).trans ((eraN_perm hm).cons x)

theorem eraN_sub (v : Nat) : ∀ l : List Nat, (eraN v l).Sublist l
  | [] => List.Sublist.refl _
  | x :: l => by
    show (match Nat.beq x v with | true => l | false => x :: eraN v l).Sublist (x :: l)
    cases Nat.beq x v with
    | true => exact List.sublist_cons_self _ _
    | false => exact (eraN_sub v l).cons_cons x

theorem toI_pw {l : List Nat} (h : l.Pairwise (· ≥ ·)) : (toI l).Pairwise (· ≥ ·) := List.pairwise_map.2 (h.imp fun {x y} q => by show (x : Int) ≥ (y : Int); omega)
theorem pw_toI {l : List Nat} (h : (toI l).Pairwise (· ≥ ·)) : l.Pairwise (· ≥ ·) := (List.pairwise_map.1 h).imp fun {x y} q => by
  have q : (x : Int) ≥ (y : Int) := q
  omega

theorem dsc_era {A B : List Int} {v : Nat} {l : List Nat} (hl : dsc (A ++ (v : Int) :: B) = toI l) : dsc (A ++ B) = toI (eraN v l) := by
  have hp := dsc_perm (A ++ (v : Int) :: B)
  have hpw := dsc_pw (A ++ (v : Int) :: B)
  rw [hl] at hp hpw
  have hv : v ∈ l := by
    have h1 : (v : Int) ∈ toI l := hp.mem_iff.2 (by simp)
    obtain ⟨x, hx, e⟩ := List.mem_map.1 h1
    have e : (x : Int) = (v : Int) := e
    have : x = v := by omega
    rwa [← this]
  have h2 : ((v : Int) :: toI (eraN v l)).Perm ((v : Int) :: (A ++ B)) := by
    have h3 : (toI (v :: eraN v l)).Perm (toI l) := (eraN_perm hv).map _
    exact (h3.trans hp).trans List.perm_middle
  exact (dsc_uniq h2.cons_inv (toI_pw ((pw_toI hpw).sublist (eraN_sub v l)))).symm

theorem decN_none : ∀ {c i : Nat} {R : List Nat}, i < c → c ≤ R.length → R.getD i 0 = 0 → decN c R = none
  | c + 1, 0, 0 :: R, _, _, _ => rfl
  | c + 1, 0, (z + 1) :: R, _, _, h => by simp at h
  | c + 1, i + 1, 0 :: R, _, _, _ => rfl
  | c + 1, i + 1, (z + 1) :: R, h1, h2, h3 => by
    rw [decN_succ, decN_none (i := i) (by omega) (by simpa using h2) (by simpa using h3)]

theorem decN_some : ∀ {c : Nat} {R : List Nat}, c ≤ R.length → (∀ i, i < c → R.getD i 0 ≠ 0) → ∃ r, decN c R = some r
  | 0, R, _, _ => ⟨R, rfl⟩
  | c + 1, 0 :: R, _, h => absurd rfl (h 0 (by omega))
  | c + 1, (z + 1) :: R, h2, h => by
    obtain ⟨r, hr⟩ := decN_some (c := c) (R := R) (by simpa using h2) (fun i hi => by have := h (i + 1) (by omega); simpa using this)
    exact ⟨z :: r, by rw [decN_succ, hr]⟩

def restB (l r : List Nat) : Bool :=
  match Nat.ble (mxN r) (l.length - 2) with
  | false => !canN 8 l
  | true => match canN 8 l with
    | true => canN 8 (sortN r).reverse
    | false => !canN 8 (sortN r).reverse

theorem tail (m : Nat) (hm : 1001 ≤ m) (n : Nat) (l r : List Nat) (hn : l.length = n) (h2 : 2 ≤ n) (h8 : n ≤ 8) (hlen : r.length = n - 1) (hs : ∀ x ∈ r, x ≤ 7) (hc : restB l r = true) :
    cond (decide ((((toI r).length : Nat) : Int) < 1)) none (cond (inRow 0 (toI r).length) ((f13_7 m m (List.getD (toI r) 0 0) 1 (toI r)).bind fun o7 => cond (decide ((toI r).length = o7.2.length)) (cond (decide (o7.1 > (w64 ((n : Int) - 2)))) (cond (!canN 8 l) (some true) (some false)) ((f15 m o7.2).bind fun r21 => cond (r21.2 == 0) (cond (canN 8 l == r21.1) (some true) (some false)) (some false))) none) none) = some true := by
  have hl : (toI r).length = n - 1 := by rw [toI_len, hlen]
  have h7 := f13_7_eq m r (by omega) (r.length - 1) 1 m (r.getD 0 0) (by omega) (by omega)
  have hmx : max (r.getD 0 0) (mxN (r.drop 1)) = mxN r := by
    match r, (show 1 ≤ r.length by omega) with
    | x :: t, _ => rw [mxN_cons]; rfl
  rw [hmx] at h7
  have h7' : f13_7 m m (List.getD (toI r) 0 0) 1 (toI r) = some (((mxN r : Nat) : Int), toI r) := by rw [getD_toI]; exact h7
  rw [dcF (p := (((toI r).length : Nat) : Int) < 1) (by omega), inRow_iff.2 (show (0 : Int) ≤ 0 ∧ (0 : Int) < (((toI r).length : Nat) : Int) by omega), h7', w64i (by omega) (by omega)]
  show cond (decide ((toI r).length = (toI r).length)) (cond (decide (((mxN r : Nat) : Int) > (n : Int) - 2)) _ _) _ = _
  rw [dcT rfl]
  unfold restB at hc
  cases hb : Nat.ble (mxN r) (l.length - 2) with
  | false =>
    rw [hb] at hc
    have hc' : (!canN 8 l) = true := hc
    have : ¬ mxN r ≤ l.length - 2 := fun q => by rw [Nat.ble_eq_true_of_le q] at hb; cases hb
    rw [dcT (p := ((mxN r : Nat) : Int) > (n : Int) - 2) (by omega)]
    show cond (!canN 8 l) _ _ = _
    rw [hc']; rfl
  | true =>
    rw [hb] at hc
    have hle := Nat.le_of_ble_eq_true hb
    rw [dcF (p := ((mxN r : Nat) : Int) > (n : Int) - 2) (by omega)]
    have hv := f15_val m hm (a := toI r) (l := (sortN r).reverse) (by omega) (by omega) (fun x hx => by
      obtain ⟨y, hy, e⟩ := List.mem_map.1 hx
      have e : (y : Int) = x := e
      have := mxN_le hy
      rw [hl]; omega) (dsc_toI r)
    show ((f15 m (toI r)).bind _) = _
    rw [hv]
    have hc' : (match canN 8 l with | true => canN 8 (sortN r).reverse | false => !canN 8 (sortN r).reverse) = true := hc
    show cond (canN 8 l == canN 8 (sortN r).reverse) _ _ = _
    cases hcan : canN 8 l with
    | true => rw [hcan] at hc'; have hc2 : canN 8 (sortN r).reverse = true := hc'; rw [hc2]; rfl
    | false =>
      rw [hcan] at hc'
      have hc2 : (!canN 8 (sortN r).reverse) = true := hc'
      have hc3 : canN 8 (sortN r).reverse = false := by simpa using hc2
      rw [hc3]; rfl

theorem f13_3_ne (m : Nat) (hm : 1001 ≤ m) (a L : List Int) (r : Int) (h1 : 1 ≤ L.length) (h8 : L.length ≤ 8) (hs : ∀ z ∈ L, 0 ≤ z ∧ z ≤ 1000) : f13_3 m m L ((L.length : Nat) : Int) r a = some (a, dsc L) := by
  match L, h1 with
  | x :: T, _ => exact f13_3_eq m hm a x T r h8 hs

def u8 (x : Int) : Prop := 0 ≤ x ∧ x ≤ 255

theorem f13_true (m : Nat) (hm : 1001 ≤ m) (a0 a1 a2 a3 a4 a5 a6 a7 b c : Int) (ha : ∀ x ∈ [a0, a1, a2, a3, a4, a5, a6, a7], u8 x) (hb : u8 b) (hc : u8 c) : f13 m a0 a1 a2 a3 a4 a5 a6 a7 b c = some true := by
  obtain ⟨n, hn, h2, h8⟩ : ∃ n : Nat, w64 (2 + Int.tmod (w64 b) 7) = (n : Int) ∧ 2 ≤ n ∧ n ≤ 8 := by
    obtain ⟨b1, b2⟩ := hb
    have e : Int.tmod (w64 b) 7 = b % 7 := by rw [w64i (by omega) (by omega), Int.tmod_eq_emod_of_nonneg b1]
    refine ⟨(2 + b % 7).toNat, ?_, by omega, by omega⟩
    rw [e, w64i (by omega) (by omega)]; omega
  have g : ∀ x, u8 x → 0 ≤ Int.tmod (w64 x) (n : Int) ∧ Int.tmod (w64 x) (n : Int) < n := fun x hx => by
    obtain ⟨x1, x2⟩ := hx
    rw [w64i (by omega) (by omega), Int.tmod_eq_emod_of_nonneg x1]
    exact ⟨Int.emod_nonneg _ (by omega), Int.emod_lt_of_pos _ (by omega)⟩
  have hmk : mkOK (n : Int) (n : Int) 8 = true := by
    simp only [mkOK, Bool.and_eq_true, decide_eq_true_eq, Nat.ble_eq]
    refine ⟨by omega, by omega, ?_, by omega⟩
    show n * 8 ≤ 1000000000
    omega
  generalize hav : [a0, a1, a2, a3, a4, a5, a6, a7] = av at ha
  have hl8 : av.length = 8 := by rw [← hav]; rfl
  obtain ⟨counts, hcn⟩ : ∃ q, ((av.drop 0).take n).map (fun x => Int.tmod (w64 x) (n : Int)) = q := ⟨_, rfl⟩
  have h1 : f13_1 m m c (n : Int) ((Int.toNat (n : Int) : Nat) : Int) 0 av (List.replicate (Int.toNat (n : Int)) 0) = some ((n : Int), counts) := by
    have := f13_1_eq m c n (by omega) h8 av hl8 n 0 m [] (by omega) (by omega) rfl
    rw [List.nil_append, List.nil_append, hcn] at this
    exact this
  have hcl : counts.length = n := by rw [← hcn, List.length_map, List.length_take, List.drop_zero]; omega
  have hcx : ∀ x ∈ counts, 0 ≤ x ∧ x < n := fun x hx => by
    rw [← hcn] at hx
    obtain ⟨y, hy, rfl⟩ := List.mem_map.1 hx
    exact g y (ha y (List.mem_of_mem_drop (List.mem_of_mem_take hy)))
  obtain ⟨S, hS, hSn⟩ : ∃ S : Nat, Int.tmod (w64 c) (n : Int) = (S : Int) ∧ S < n := by
    have := g c hc
    exact ⟨(Int.tmod (w64 c) (n : Int)).toNat, by omega, by omega⟩
  obtain ⟨l, hl⟩ := nats_of (d := dsc counts) (fun x hx => (hcx x ((dsc_perm counts).mem_iff.1 hx)).1)
  have hll : l.length = n := by rw [← toI_len, ← hl, dsc_len, hcl]
  have h15 := f15_val m hm (a := counts) (l := l) (by omega) (by omega) (fun x hx => by have := hcx x hx; rw [hcl]; omega) hl
  -- the one who goes
  have hsp : counts = counts.take S ++ counts.getD S 0 :: counts.drop (S + 1) := by
    rw [← drop_getD (by omega), List.take_append_drop]
  obtain ⟨v, hv⟩ : ∃ v : Nat, counts.getD S 0 = (v : Int) := by
    have e : counts.getD S 0 = counts[S]'(by omega) := by simp [List.getD_eq_getElem?_getD, show S < counts.length by omega]
    have := hcx _ (List.getElem_mem (show S < counts.length by omega))
    exact ⟨(counts.getD S 0).toNat, by omega⟩
  have hvn : v < n := by
    have e : counts.getD S 0 = counts[S]'(by omega) := by simp [List.getD_eq_getElem?_getD, show S < counts.length by omega]
    have := hcx _ (List.getElem_mem (show S < counts.length by omega))
    omega
  generalize hA : counts.take S = A at hsp
  generalize hB : counts.drop (S + 1) = B at hsp
  have hAl : A.length = S := by rw [← hA, List.length_take]; omega
  have hBl : B.length = n - (S + 1) := by rw [← hB, List.length_drop]; omega
  rw [hv] at hsp
  have h2' : f13_2 m (S : Int) (w64 ((S : Int) + 1)) counts counts = some (A ++ B) := by
    have := f13_2_eq m A (v : Int) B (by omega)
    rw [← hsp, hAl] at this
    exact this
  have hABl : (A ++ B).length = n - 1 := by rw [List.length_append]; omega
  have hABs : ∀ z ∈ A ++ B, 0 ≤ z ∧ z < n := fun z hz => hcx z (by
    rw [hsp]
    rcases List.mem_append.1 hz with q | q
    · exact List.mem_append_left _ q
    · exact List.mem_append_right _ (List.mem_cons_of_mem _ q))
  obtain ⟨r9, h91⟩ := f91_ok' m (A ++ B).length (by omega)
  have h3 := f13_3_ne m hm counts (A ++ B) r9 (by omega) (by omega) (fun z hz => by have := hABs z hz; omega)
  have hl2 := hl
  rw [hsp] at hl2
  have hR := dsc_era hl2
  generalize hRd : eraN v l = R at hR
  have hRl : R.length = n - 1 := by rw [← toI_len, ← hR, dsc_len, hABl]
  have hRs : ∀ x ∈ R, x ≤ 7 := fun x hx => by
    have h4 : (x : Int) ∈ dsc (A ++ B) := by rw [hR]; exact List.mem_map.2 ⟨x, hx, rfl⟩
    have := hABs _ ((dsc_perm _).mem_iff.1 h4)
    omega
  have hRp : R.Pairwise (· ≥ ·) := pw_toI (by rw [← hR]; exact dsc_pw _)
  -- what the table says
  have hvl : v ∈ l := by
    have h4 : (v : Int) ∈ dsc counts := (dsc_perm counts).mem_iff.2 (by rw [hsp]; simp)
    rw [hl] at h4
    obtain ⟨x, hx, e⟩ := List.mem_map.1 h4
    have e : (x : Int) = (v : Int) := e
    have : x = v := by omega
    rwa [← this]
  have hlp : l.Pairwise (· ≥ ·) := pw_toI (by rw [← hl]; exact dsc_pw _)
  have hlx : ∀ x ∈ l, x < l.length := fun x hx => by
    have h4 : (x : Int) ∈ dsc counts := by rw [hl]; exact List.mem_map.2 ⟨x, hx, rfl⟩
    have := hcx _ ((dsc_perm _).mem_iff.1 h4)
    omega
  have htab : chkH l v = true := List.all_eq_true.1 (havs (by omega) (by omega) hlp hlx) v (mem_ddN hvl)
  unfold chkH at htab
  rw [hRd] at htab
  have hne : ((n : Int) != 0) = true := by simp; omega
  unfold f13
  rw [hn, hmk, hav, h1]
  show cond ((n : Int) != 0) _ _ = _
  rw [hne]
  show ((f15 m counts).bind _) = _
  rw [h15]
  show cond (fitsB counts.length 8) _ _ = _
  rw [fitsI (by omega) (by decide)]
  show ((f13_2 m (Int.tmod (w64 c) (n : Int)) (w64 ((Int.tmod (w64 c) (n : Int)) + 1)) counts counts).bind _) = _
  rw [hS, h2']
  show ((f91 m (IntKind.wrap .u64 (((A ++ B).length : Nat) : Int))).bind _) = _
  rw [h91]
  show ((f13_3 m m (A ++ B) (((A ++ B).length : Nat) : Int) r9 counts).bind _) = _
  rw [h3]
  show cond (decide (counts.length = counts.length)) _ _ = _
  rw [dcT rfl]
  show cond (decide ((A ++ B).length = (dsc (A ++ B)).length)) _ _ = _
  rw [dcT (by rw [dsc_len])]
  show cond (inRow (S : Int) counts.length) _ _ = _
  rw [inR (show S < counts.length by omega)]
  show cond (decide (List.getD counts S 0 > 0)) _ _ = _
  simp only [f13_8_eq, f13_9_eq]
  have hvS : List.getD counts (Int.toNat (S : Int)) 0 = (v : Int) := hv
  have hvS2 : List.getD counts S 0 = (v : Int) := hv
  rw [hR]
  cases v with
  | zero =>
    rw [hvS2, dcF (p := ((0 : Nat) : Int) > 0) (by omega)]
    have h6 := f13_6_eq m (n : Int) (canN 8 l) 0 0 m [] R R rfl (by omega) (by omega) (by omega) hRs rfl
    have h6' : f13_6 m m (n : Int) (canN 8 l) (List.getD counts (Int.toNat (S : Int)) 0) 0 (toI R) = some ((n : Int), canN 8 l, toI R) := by rw [hvS]; exact h6
    show ((f13_6 m m (n : Int) (canN 8 l) (List.getD counts (Int.toNat (S : Int)) 0) 0 (toI R)).bind _) = _
    rw [h6']
    exact tail m hm n l R hll h2 h8 hRl hRs htab
  | succ w =>
    have hwl : w < R.length := by omega
    rw [hvS2, dcT (p := ((w + 1 : Nat) : Int) > 0) (by omega)]
    have ew : w64 (((w + 1 : Nat) : Int) - 1) = (w : Int) := by rw [w64i (by omega) (by omega)]; omega
    show cond (inRow (w64 (List.getD counts (Int.toNat (S : Int)) 0 - 1)) (toI R).length) _ _ = _
    rw [hvS, ew, inR (show w < (toI R).length by rw [toI_len]; exact hwl)]
    show cond (List.getD (toI R) w 0 == 0) _ _ = _
    rw [getD_toI]
    by_cases h0 : R.getD w 0 = 0
    · rw [h0]
      rw [decN_none (i := w) (by omega) (by omega) h0] at htab
      have ht : (!canN 8 l) = true := htab
      show cond (!canN 8 l) _ _ = _
      rw [ht]; rfl
    · rw [beq_eq_false_iff_ne.2 (show (((R.getD w 0 : Nat)) : Int) ≠ 0 by omega)]
      obtain ⟨r, hr⟩ := decN_some (c := w + 1) (R := R) (by omega) (fun i hi => by
        have hge : R.getD i 0 ≥ R.getD w 0 := by
          have e1 : R.getD i 0 = R[i]'(by omega) := by simp [List.getD_eq_getElem?_getD, show i < R.length by omega]
          have e2 : R.getD w 0 = R[w]'hwl := by simp [List.getD_eq_getElem?_getD, hwl]
          rw [e1, e2]
          by_cases q : i = w
          · subst q; exact Nat.le_refl _
          · exact List.pairwise_iff_getElem.1 hRp i w (by omega) hwl (by omega)
        omega)
      rw [hr] at htab
      have h6 := f13_6_eq m (n : Int) (canN 8 l) (w + 1) 0 m [] R r rfl (by omega) (by omega) (by omega) hRs hr
      have e7 : (((0 + (w + 1) : Nat)) : Int) = ((w + 1 : Nat) : Int) := by omega
      rw [e7] at h6
      have h6' : f13_6 m m (n : Int) (canN 8 l) ((w + 1 : Nat) : Int) 0 (toI R) = some ((n : Int), canN 8 l, toI r) := h6
      show ((f13_6 m m (n : Int) (canN 8 l) ((w + 1 : Nat) : Int) 0 (toI R)).bind _) = _
      rw [h6']
      exact tail m hm n l r hll h2 h8 (by rw [decN_len hr, hRl]) (decN_small hr hRs) htab

end Go.Xm
