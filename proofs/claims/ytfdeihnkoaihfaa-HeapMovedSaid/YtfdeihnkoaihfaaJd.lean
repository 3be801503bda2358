/- HeapMoved. Conditions: none. -/
import Derived.Test.YtfdeihnkoaihfaaJc
import Derived.Test.YtfdeihnkoaihfaaJk
import Derived.Test.YtfdeihnkoaihfaaHb
import Derived.Test.YtfdeihnkoaihfaaCk
import Derived.Test.YtfdeihnkoaihfaaAq
namespace Go.Xm
set_option linter.unusedVariables false
set_option linter.unusedSimpArgs false
theorem inRJ {i n : Nat} (h : i < n) : inRow (i : Int) n = true := inRow_iff.2 ⟨by omega, by omega⟩
theorem f10_1_eq (m : Nat) (e k a b c a2 b2 : Int) (d : Nat) (l o : List Hp) (p : List Int) (hp : p.length ≤ 1000) (hd : d ≤ 100) (hb : ∀ x ∈ p, 0 ≤ x ∧ x ≤ 100) : ∀ (r i fuel : Nat), i + r = p.length → r < fuel →
    f10_1 m fuel e k d a b c a2 b2 (p.length : Int) i l o p (p.map fun x => x + (d : Int)) = some (.x0 k d a b c a2 b2 l o)
  | r, i, 0, _, h => by omega
  | 0, i, fuel + 1, hi, _ => by
    unfold f10_1
    rw [decide_eq_false (by omega)]
    rfl
  | r + 1, i, fuel + 1, hi, hf => by
    have ih := f10_1_eq m e k a b c a2 b2 d l o p hp hd hb r (i + 1) fuel (by omega) (by omega)
    have hl : i < p.length := by omega
    have e1 : p.getD i 0 = p[i] := by rw [List.getD_eq_getElem?_getD, List.getElem?_eq_getElem hl]; rfl
    have b1 := hb _ (List.getElem_mem hl)
    have e2 := map_getD (d : Int) hl
    unfold f10_1
    rw [decide_eq_true (by omega), inRJ (show i < (p.map fun x => x + (d : Int)).length by rw [List.length_map]; exact hl), inRJ hl, Int.toNat_natCast, e2, e1, w64_id (x := p[i] + (d : Int)) (by omega) (by omega), nat_succ i (by omega), ih]
    simp
theorem f10_2_eq (m : Nat) (e k : Int) (d : Nat) (l : List Hp) (p : List Int) (hp : p.length ≤ 1000) (hd : d ≤ 100) (hb : ∀ x ∈ p, 0 ≤ x ∧ x ≤ 100) : ∀ (r i fuel : Nat), i + r = p.length → r < fuel →
    f10_2 m fuel e k d l (p.length : Int) i p (p.map fun x => x + (d : Int)) = some (.x2 p)
  | r, i, 0, _, h => by omega
  | 0, i, fuel + 1, hi, _ => by
    unfold f10_2
    rw [decide_eq_false (by omega)]
    rfl
  | r + 1, i, fuel + 1, hi, hf => by
    have ih := f10_2_eq m e k d l p hp hd hb r (i + 1) fuel (by omega) (by omega)
    have hl : i < p.length := by omega
    have e1 : p.getD i 0 = p[i] := by rw [List.getD_eq_getElem?_getD, List.getElem?_eq_getElem hl]; rfl
    have b1 := hb _ (List.getElem_mem hl)
    have e2 := map_getD (d : Int) hl
    unfold f10_2
    rw [decide_eq_true (by omega), inRJ (show i < (p.map fun x => x + (d : Int)).length by rw [List.length_map]; exact hl), inRJ hl, Int.toNat_natCast, e2, e1, w64_id (x := p[i] + (d : Int)) (by omega) (by omega), nat_succ i (by omega), ih]
    simp
theorem f10_3_eq (m : Nat) (k : Int) (E : Nat) (l : List Hp) (hs : List Int) (ho : OkL l) (h10 : l.length ≤ 100) (hE : E ≤ 1000) : ∀ (r i fuel : Nat), i + r = l.length → r < fuel →
    f10_3 m fuel E k l hs (l.length : Int) i ((miH (rotL l E)).take i) = some (miH (rotL l E))
  | r, i, 0, _, h => by omega
  | 0, i, fuel + 1, hi, _ => by
    have e : (miH (rotL l E)).length = l.length := by rw [miH_len, rotL_len]
    unfold f10_3
    rw [decide_eq_false (by omega), List.take_of_length_le (by omega)]
    rfl
  | r + 1, i, fuel + 1, hi, hf => by
    have ih := f10_3_eq m k E l hs ho h10 hE r (i + 1) fuel (by omega) (by omega)
    have hl : i < l.length := by omega
    have e : (miH (rotL l E)).length = l.length := by rw [miH_len, rotL_len]
    have hmod : (i + E) % l.length < l.length := Nat.mod_lt _ (by omega)
    have hg := rotL_get (t := E) hl
    have hmg := miH_get (l := rotL l E) (i := i) (by rw [rotL_len]; exact hl)
    rw [hg] at hmg
    have hx : l.getD ((i + E) % l.length) (0, 0) = l[(i + E) % l.length] := by rw [List.getD_eq_getElem?_getD, List.getElem?_eq_getElem hmod]; rfl
    have hb := ho _ (List.getElem_mem hmod)
    have hw : w64 (E : Int) = (E : Int) := w64_id (by omega) (by omega)
    have hidx : Int.tmod (w64 ((i : Int) + w64 (E : Int))) (l.length : Int) = (((i + E) % l.length : Nat) : Int) := by
      rw [hw, w64_id (x := (i : Int) + (E : Int)) (by omega) (by omega), show (i : Int) + (E : Int) = ((i + E : Nat) : Int) by omega, Int.tmod_eq_emod_of_nonneg (by omega)]
      exact (Int.natCast_emod (i + E) l.length).symm
    have hne : ((l.length : Int) != 0) = true := bne_iff_ne.2 (by omega)
    have hlt : ((miH (rotL l E)).take i).length = i := by rw [List.length_take]; omega
    have hfit : fitsB (((miH (rotL l E)).take i).length + 1) 16 = true := by
      rw [hlt]
      simp only [fitsB, Bool.and_eq_true, Nat.ble_eq]; omega
    have hsn := take_snocH (l := miH (rotL l E)) (k := i) (by omega)
    rw [hmg, hx] at hsn
    unfold f10_3
    rw [decide_eq_true (by omega), hne, hidx, inRJ hmod, hfit, Int.toNat_natCast, hx, w64_id (x := 23 - (l[(i + E) % l.length]).2) (by omega) (by omega), w64_id (x := 23 - (l[(i + E) % l.length]).1) (by omega) (by omega), nat_succ i (by omega), ← hsn]
    simp only [cond_true]
    exact ih
theorem f10_4_eq (m : Nat) (l : List Hp) (hs : List Int) (L : List Hp) (hL : L.length ≤ 1000) : ∀ (d i j fuel : Nat) (cur : List Hp), i + j + 1 = L.length → d = j - i → d < fuel → cur.length = L.length →
    (∀ x, x < L.length → cur.getD x (0, 0) = if x < i ∨ j < x then L.getD (L.length - 1 - x) (0, 0) else L.getD x (0, 0)) →
    ∃ R : List Hp, f10_4 m fuel l hs i j cur = some R ∧ R.length = L.length ∧ ∀ x, x < L.length → R.getD x (0, 0) = L.getD (L.length - 1 - x) (0, 0)
  | d, i, j, 0, cur, _, _, h, _, _ => by omega
  | d, i, j, fuel + 1, cur, hij, hd, hf, hc, hx => by
    unfold f10_4
    by_cases c : i < j
    · have hr1 : inRow (j : Int) cur.length = true := inRJ (by omega)
      have hr2 : inRow (i : Int) cur.length = true := inRJ (by omega)
      rw [decide_eq_true (by omega), hr1, hr2, nat_succ i (by omega), w64_id (x := (j : Int) - 1) (by omega) (by omega), show (j : Int) - 1 = ((j - 1 : Nat) : Int) by omega]
      simp only [cond_true, Int.toNat_natCast]
      refine f10_4_eq m l hs L hL (d - 2) (i + 1) (j - 1) fuel _ (by omega) (by omega) (by omega) (by simp; omega) (fun x hxl => ?_)
      rw [getD_setH _ _ _ _ (by simp; omega), getD_setH _ _ _ _ (by omega)]
      have hi := hx i (by omega)
      have hj := hx j (by omega)
      rw [if_neg (by omega)] at hi hj
      by_cases c1 : j = x
      · subst c1
        rw [if_pos rfl, if_pos (by omega), hi, show L.length - 1 - j = i by omega]
      · rw [if_neg c1]
        by_cases c2 : i = x
        · subst c2
          rw [if_pos rfl, if_pos (by omega), hj, show L.length - 1 - i = j by omega]
        · rw [if_neg c2, hx x hxl]
          by_cases c3 : x < i ∨ j < x
          · rw [if_pos c3, if_pos (by omega)]
          · rw [if_neg c3, if_neg (by omega)]
    · rw [decide_eq_false (by omega)]
      refine ⟨cur, rfl, hc, fun x hxl => ?_⟩
      rw [hx x hxl]
      by_cases c3 : x < i ∨ j < x
      · rw [if_pos c3]
      · rw [if_neg c3, show L.length - 1 - x = x by omega]
theorem f10_4_rev (m : Nat) (l : List Hp) (hs : List Int) (L : List Hp) (hL : L.length ≤ 1000) (hm : 1001 ≤ m) : f10_4 m m l hs 0 (w64 ((L.length : Int) - 1)) L = some L.reverse := by
  by_cases c : L.length = 0
  · have : L = [] := List.eq_nil_of_length_eq_zero c
    subst this
    obtain ⟨f, rfl⟩ : ∃ f, m = f + 1 := ⟨m - 1, by omega⟩
    rfl
  · obtain ⟨R, e, h1, h2⟩ := f10_4_eq m l hs L hL (L.length - 1) 0 (L.length - 1) m L (by omega) (by omega) (by omega) rfl (fun x hx => by rw [if_neg (by omega)])
    rw [w64_id (by omega) (by omega), show (L.length : Int) - 1 = ((L.length - 1 : Nat) : Int) by omega]
    have e : f10_4 m m l hs 0 ((L.length - 1 : Nat) : Int) L = some R := e
    rw [e, rev_getD h1 h2]
theorem jn_go {α : Type} (r : Option α) : jn (some none) r = r := rfl
theorem moved_law {m : Nat} (hm : 1001 ≤ m) {l : List Hp} {k d E : Nat} (h1 : OkL l) (h2 : OkL (shH d l)) (hlen : l.length ≤ 8) (h11 : ∀ x ∈ l, x.2 ≤ 11) (hk1 : 1 ≤ k) (hk2 : k ≤ 10) (hd : d ≤ 12) (hE : E ≤ 255) :
    ∀ (P : Option Bool) , P = (
   (f18 m l k).bind fun r4 =>
    (f18 m (shH d l) k).bind fun r5 =>
     (f27 m l k).bind fun r6 =>
      (f27 m (shH d l) k).bind fun r7 =>
       cond (r4.2 != r5.2) (some false) (
        cond (r6.2.2 != r7.2.2) (some false) (
         cond (((r4.1.length : Nat) : Int) != ((r5.1.length : Nat) : Int)) (some false) (
          (f10_1 m m E k d r6.1 r6.2.1 r6.2.2 r7.1 r7.2.1 ((r4.1.length : Nat) : Int) 0 l (shH d l) r4.1 r5.1).bind fun o1 =>
           match o1 with
           | .r => some false
           | .x0 x11 x12 x19 x20 x21 x22 x23 lh0 lh1 =>
            jn (
             cond (x21 == 0) (
              cond (decide (x22 > (w64 (x19 + x12)))) ((some false).map some) (
               cond (x22 == (w64 (x19 + x12))) (
                cond (x23 != (w64 (x20 + x12))) ((some false).map some) (some none)) (some none))) (some none)
            ) (
             (f31 m lh0 x11).bind fun r8 =>
              (f31 m lh1 x11).bind fun r9 =>
               jn (
                cond (r8.2 != r9.2) ((some false).map some) (
                 cond (r8.2 == 0) (
                  cond (decide (((lh0.length : Nat) : Int) > 0)) (
                   cond (r9.1 != (w64 (r8.1 + x12))) ((some false).map some) (some none)) (some none)) (some none))
               ) (
                (f35 m lh0).bind fun r10 =>
                 (f35 m lh1).bind fun r11 =>
                  cond (r10.2 != 0) (some false) (
                   cond (r11.2 != 0) (some false) (
                    cond (((r10.1.length : Nat) : Int) != ((r11.1.length : Nat) : Int)) (some false) (
                     (f10_2 m m E x11 x12 lh0 ((r10.1.length : Nat) : Int) 0 r10.1 r11.1).bind fun o2 =>
                      match o2 with
                      | .r => some false
                      | .x2 lh1_x22 =>
                       (f10_3 m m E x11 lh0 lh1_x22 ((lh0.length : Nat) : Int) 0 []).bind fun o3 =>
                        (f10_4 m m lh0 lh1_x22 0 (w64 (((o3.length : Nat) : Int) - 1)) o3).bind fun o4 =>
                         cond (decide (o3.length = o4.length)) (
                          (f18 m lh0 x11).bind fun r12 =>
                           (f18 m o4 x11).bind fun r13 =>
                            (f33 m lh0 x11).bind fun r14 =>
                             (f33 m o4 x11).bind fun r15 =>
                              cond (r12.2 != r13.2) (some false) (
                               cond (r14.2 != 0) (some false) (
                                cond (r15.2 != 0) (some false) (
                                 cond (((r14.1.length : Nat) : Int) != ((r15.1.length : Nat) : Int)) (some false) (
                                  (f37 m lh0).bind fun r16 =>
                                   (f37 m o4).bind fun r17 =>
                                    (f35 m o4).bind fun r18 =>
                                     cond (r16.2 == 0) (
                                      cond (r17.2 == 0) (
                                       cond (r18.2 == 0) (
                                        cond (((r16.1.length : Nat) : Int) == ((r17.1.length : Nat) : Int)) (
                                         cond (((r18.1.length : Nat) : Int) == ((lh1_x22.length : Nat) : Int)) (some true) (some false)) (some false)) (some false)) (some false)) (some false))))) ) none))) )))))) → P = some true := by
  rintro _ rfl
  have hlo : (shH d l).length ≤ 10 := by rw [shH_len]; omega
  have hfb : fitsB' k (shH d l) = fitsB' k l := by rw [Bool.eq_iff_iff, fitsB'_iff, fitsB'_iff, fits_sh h1 h2]
  -- the tail
  have hrot : (rotL l E).Perm l := rotL_perm l E
  have hRp : ((miH (rotL l E)).reverse).Perm (miH l) := (List.reverse_perm _).trans (hrot.map _)
  have hRo : OkL ((miH (rotL l E)).reverse) := h1.mi.perm hRp
  have hRlen : ((miH (rotL l E)).reverse).length = l.length := by rw [hRp.length_eq, miH_len]
  have hRl : ((miH (rotL l E)).reverse).length ≤ 10 := by omega
  have hfR : fitsB' k ((miH (rotL l E)).reverse) = fitsB' k l := by
    rw [Bool.eq_iff_iff, fitsB'_iff, fitsB'_iff, ← fits_mi h1]
    exact ⟨fits_perm hRp, fits_perm hRp.symm⟩
  have hkp := keep_mi (k := k) h1 hRo hRp
  have hmt : mt ((miH (rotL l E)).reverse) = mt l := by rw [mt_perm h1.mi hRp, mt_mi h1]
  have hlate : ∀ x ∈ (miH (rotL l E)).reverse, (0 : Int) ≤ x.2 := fun x hx => by have := hRo x hx; omega
  have hlR := hrL_len 24 0 _ hRo hlate (by omega)
  have hlL := hrL_len 24 0 l h1 (fun x hx => by have := h1 x hx; omega) (by omega)
  obtain ⟨_, hhb, _⟩ := hr_ok 24 0 l h1 (fun x hx => by have := h1 x hx; omega) (by omega)
  have hho : ∀ x ∈ hrL 24 0 l, 0 ≤ x ∧ x ≤ 100 := fun x hx => by
    obtain ⟨a, y, hy, b⟩ := hhb x hx
    have := h1 y hy
    omega
  have hhs := hours_sh h1 h2 hd h11
  have hh24 : (hrL 24 0 l).length ≤ 8 := by rw [hlL]; have := mt_len h1; omega
  have hw3 := f10_3_eq m (k : Int) E l (hrL 24 0 l) h1 (by omega) (by omega) l.length 0 m (by omega) (by omega)
  rw [List.take_zero] at hw3
  have hw3 : f10_3 m m E k l (hrL 24 0 l) (l.length : Int) 0 [] = some (miH (rotL l E)) := hw3
  have hw4 := f10_4_rev m l (hrL 24 0 l) (miH (rotL l E)) (by rw [miH_len, rotL_len]; omega) hm
  have hw2 := f10_2_eq m (E : Int) (k : Int) d l (hrL 24 0 l) (by omega) (by omega) hho (hrL 24 0 l).length 0 m (by omega) (by omega)
  have hw2 : f10_2 m m E k d l ((hrL 24 0 l).length : Int) 0 (hrL 24 0 l) ((hrL 24 0 l).map fun x => x + (d : Int)) = _ := hw2
  have v35 := f35_ok1 m hm l h1 (by omega)
  have v35o := f35_ok1 m hm (shH d l) h2 hlo
  have v35R := f35_ok1 m hm _ hRo hRl
  have v37 := f37_ok1 m hm l h1 (by omega)
  have v37R := f37_ok1 m hm _ hRo hRl
  have v33 := f33_ok1 m hm l (by omega) h1 k hk1 hk2
  have v33R := f33_ok1 m hm _ hRl hRo k hk1 hk2
  have v18 := f18_ok1 m hm l (by omega) h1 k hk1 hk2
  have v18o := f18_ok1 m hm (shH d l) hlo h2 k hk1 hk2
  have v18R := f18_ok1 m hm _ hRl hRo k hk1 hk2
  have v31 := f31_ok1 m hm l h1 (by omega) k hk1 hk2
  have v31o := f31_ok1 m hm (shH d l) h2 hlo k hk1 hk2
  have v27 := f27_ok1 m hm l h1 (by omega) (k : Int) (by omega)
  have v27o := f27_ok1 m hm (shH d l) h2 hlo (k : Int) (by omega)
  have a1 := ap_len0 l h1
  have a2 := ap_len0 _ hRo
  rw [hhs] at v35o
  have tail : (
                (f35 m l).bind fun r10 =>
                 (f35 m (shH d l)).bind fun r11 =>
                  cond (r10.2 != 0) (some false) (
                   cond (r11.2 != 0) (some false) (
                    cond (((r10.1.length : Nat) : Int) != ((r11.1.length : Nat) : Int)) (some false) (
                     (f10_2 m m E k d l ((r10.1.length : Nat) : Int) 0 r10.1 r11.1).bind fun o2 =>
                      match o2 with
                      | .r => some false
                      | .x2 lh1_x22 =>
                       (f10_3 m m E k l lh1_x22 ((l.length : Nat) : Int) 0 []).bind fun o3 =>
                        (f10_4 m m l lh1_x22 0 (w64 (((o3.length : Nat) : Int) - 1)) o3).bind fun o4 =>
                         cond (decide (o3.length = o4.length)) (
                          (f18 m l k).bind fun r12 =>
                           (f18 m o4 k).bind fun r13 =>
                            (f33 m l k).bind fun r14 =>
                             (f33 m o4 k).bind fun r15 =>
                              cond (r12.2 != r13.2) (some false) (
                               cond (r14.2 != 0) (some false) (
                                cond (r15.2 != 0) (some false) (
                                 cond (((r14.1.length : Nat) : Int) != ((r15.1.length : Nat) : Int)) (some false) (
                                  (f37 m l).bind fun r16 =>
                                   (f37 m o4).bind fun r17 =>
                                    (f35 m o4).bind fun r18 =>
                                     cond (r16.2 == 0) (
                                      cond (r17.2 == 0) (
                                       cond (r18.2 == 0) (
                                        cond (((r16.1.length : Nat) : Int) == ((r17.1.length : Nat) : Int)) (
                                         cond (((r18.1.length : Nat) : Int) == ((lh1_x22.length : Nat) : Int)) (some true) (some false)) (some false)) (some false)) (some false)) (some false))))) ) none)))) = some true := by
    rw [v35, v35o]
    simp only [Option.bind_some, List.length_map, bne_self_eq_false, cond_false]
    rw [hw2]
    simp only [Option.bind_some]
    rw [hw3]
    simp only [Option.bind_some]
    rw [hw4]
    simp only [Option.bind_some]
    rw [List.length_reverse, decide_eq_true rfl, v18, v18R, v33, v33R, hfR]
    simp only [Option.bind_some, cond_true, bne_self_eq_false, cond_false, hkp]
    have e2 : ((cond (fitsB' k l) (planL k l.length 0 l [], (0 : Int)) ([], 12)).2 != (cond (fitsB' k l) (planL k ((miH (rotL l E)).reverse).length 0 ((miH (rotL l E)).reverse) [], (0 : Int)) ([], 12)).2) = false := by
      cases fitsB' k l <;> rfl
    rw [e2, v37, v37R, v35R]
    simp only [Option.bind_some, cond_false, beq_self_eq_true, cond_true]
    rw [a1, a2, hlR, hlL, hmt]
    simp
  have wl : (whyF (k : Int) l 24 0 = none) ↔ Fits k l := whyF_fits
  have wo : (whyF (k : Int) (shH d l) 24 0 = none) ↔ Fits k (shH d l) := whyF_fits
  rw [v18, v18o, v27, v27o, hfb]
  by_cases c : Fits k l
  · have cb : fitsB' k l = true := fitsB'_iff.2 c
    have hpl := planL_sh (k := k) (d : Int) l.length 0 l [] h1 h2 c (by omega)
    rw [List.map_nil] at hpl
    obtain ⟨p, ep, lp, _, zp⟩ := planL_plan k l [] (by simpa using h1) (by simpa using c)
    have ep : planL k l.length 0 l [] = p := by simpa using ep
    have hpb : ∀ x ∈ p, 0 ≤ x ∧ x ≤ 100 := by
      intro x hx
      obtain ⟨i, hi, rfl⟩ := List.getElem_of_mem hx
      have hil : i < l.length := by omega
      have hz : (l[i], p[i]) ∈ l.zip p := by
        have : (l.zip p)[i]'(by rw [List.length_zip]; omega) = (l[i], p[i]) := by rw [List.getElem_zip]
        rw [← this]
        exact List.getElem_mem _
      have q := zp _ hz
      have o := h1 _ (List.getElem_mem hil)
      simp only at q
      omega
    rw [cb, shH_len, hpl, ep, wl.2 c, wo.2 ((fits_sh h1 h2).2 c)]
    have hw1 := f10_1_eq m (E : Int) (k : Int) 0 0 13 0 0 d l (shH d l) p (by omega) (by omega) hpb p.length 0 m (by omega) (by omega)
    have hw1 : f10_1 m m E k d 0 0 13 0 0 (p.length : Int) 0 l (shH d l) p (p.map fun x => x + (d : Int)) = _ := hw1
    simp only [Option.bind_some, cond_true, bne_self_eq_false, cond_false, List.length_map]
    rw [hw1]
    simp only [Option.bind_some]
    rw [show ((13 : Int) == 0) = false from rfl]
    simp only [cond_false, jn_go]
    rw [v31, v31o, hfb, cb]
    simp only [Option.bind_some, cond_true, bne_self_eq_false, cond_false, beq_self_eq_true]
    by_cases z : l = []
    · rw [show decide (((l.length : Nat) : Int) > 0) = false by rw [z]; rfl]
      simp only [cond_false, jn_go]
      exact tail
    · have hpos : 0 < l.length := List.length_pos_iff.2 z
      obtain ⟨e0, e1, e3, _, _⟩ := fin_end h1 c
      rw [decide_eq_true (by omega), end_sh h1 h2 (by omega) z c, w64_id (by omega) (by omega)]
      simp only [cond_true, bne_self_eq_false, cond_false, jn_go]
      exact tail
  · have cb : fitsB' k l = false := by
      cases hb : fitsB' k l with
      | true => exact absurd (fitsB'_iff.1 hb) c
      | false => rfl
    cases hw : whyF (k : Int) l 24 0 with
    | none => exact absurd (wl.1 hw) c
    | some u =>
      obtain ⟨a, b⟩ := u
      obtain ⟨c2, m2, hv, hcm⟩ := why_sh h1 h2 (by omega) hw
      obtain ⟨q1, q2, q3, _⟩ := whyF_some (by rfl) hw
      rw [cb, hv]
      have hw1 := f10_1_eq m (E : Int) (k : Int) a b 0 c2 m2 d l (shH d l) [] (by simp) (by omega) (fun x hx => by cases hx) 0 0 m rfl (by omega)
      have hw1 : f10_1 m m E k d a b 0 c2 m2 ((([] : List Int).length : Nat) : Int) 0 l (shH d l) [] [] = _ := hw1
      simp only [Option.bind_some, cond_false, bne_self_eq_false]
      rw [hw1]
      simp only [Option.bind_some, beq_self_eq_true, cond_true]
      rw [w64_id (x := a + (d : Int)) (by omega) (by omega), w64_id (x := b + (d : Int)) (by omega) (by omega), decide_eq_false (by omega)]
      simp only [cond_false]
      have step : (cond (c2 == a + (d : Int)) (cond (m2 != b + (d : Int)) ((some false).map some) (some none)) (some none) : Option (Option Bool)) = some none := by
        rcases hcm with q | ⟨q, r⟩
        · rw [show (c2 == a + (d : Int)) = false by simp; omega]
          rfl
        · rw [q, r]
          simp
      rw [step]
      simp only [jn_go]
      rw [v31, v31o, hfb, cb]
      simp only [Option.bind_some, cond_false, bne_self_eq_false]
      rw [show ((12 : Int) == 0) = false from rfl]
      simp only [cond_false, jn_go]
      exact tail
end Go.Xm
namespace Go.Xm
theorem u8bJ {z : Int} (h : (Lit.int .u8 z).wf = true) : 0 ≤ z ∧ z ≤ 255 := by
  simp [Lit.wf, IntKind.min, IntKind.max, IntKind.signed, IntKind.bits] at h
  omega
theorem heaps_sh (ys : List (Int × Int)) (b : Int) (d : Nat) : heapsOf ys b 8 12 (d : Int) = shH (d : Int) (heapsOf ys b 8 12 0) := by
  unfold heapsOf shH
  rw [List.map_map]
  refine List.map_congr_left (fun p _ => ?_)
  show ((d : Int) + p.1 % 12, (d : Int) + min (12 - 1) (p.1 % 12 + p.2 % 4)) = (0 + p.1 % 12 + (d : Int), 0 + min (12 - 1) (p.1 % 12 + p.2 % 4) + (d : Int))
  rw [Int.zero_add, Int.zero_add, Int.add_comm, Int.add_comm (d : Int) (min _ _)]
theorem f10_true (m : Nat) (hm : 1001 ≤ m) (a0 b0 a1 b1 a2 b2 a3 b3 a4 b4 a5 b5 a6 b6 a7 b7 b c d e : Int) (hy : bytesP [(a0, b0), (a1, b1), (a2, b2), (a3, b3), (a4, b4), (a5, b5), (a6, b6), (a7, b7)]) (hb : 0 ≤ b ∧ b ≤ 255) (hc : 0 ≤ c ∧ c ≤ 255) (hd : 0 ≤ d ∧ d ≤ 255) (he : 0 ≤ e ∧ e ≤ 255) :
    f10 m a0 b0 a1 b1 a2 b2 a3 b3 a4 b4 a5 b5 a6 b6 a7 b7 b c d e = some true := by
  obtain ⟨E, rfl⟩ : ∃ E : Nat, e = (E : Int) := ⟨e.toNat, by omega⟩
  have ec : w64 (1 + Int.tmod (w64 c) 3) = ((1 + c.toNat % 3 : Nat) : Int) := by
    rw [w64_id (x := c) (by omega) (by omega), Int.tmod_eq_emod_of_nonneg hc.1, w64_id (by omega) (by omega)]
    omega
  have ed : Int.tmod (w64 d) 13 = ((d.toNat % 13 : Nat) : Int) := by
    rw [w64_id (x := d) (by omega) (by omega), Int.tmod_eq_emod_of_nonneg hd.1]
    omega
  have hl := heapsOf_len [(a0, b0), (a1, b1), (a2, b2), (a3, b3), (a4, b4), (a5, b5), (a6, b6), (a7, b7)] b 8 12 0
  have ho := heapsOf_ok hy (b := b) (c := 8) (d := 12) (e := 0) (by omega)
  have hd13 : d.toNat % 13 ≤ 12 := by omega
  have ho2 := heapsOf_ok hy (b := b) (c := 8) (d := 12) (e := ((d.toNat % 13 : Nat) : Int)) (by omega)
  have o1 : OkL (heapsOf [(a0, b0), (a1, b1), (a2, b2), (a3, b3), (a4, b4), (a5, b5), (a6, b6), (a7, b7)] b 8 12 0) := fun x hx => by
    have := ho x hx
    unfold okHeap at this
    omega
  have h11 : ∀ x ∈ heapsOf [(a0, b0), (a1, b1), (a2, b2), (a3, b3), (a4, b4), (a5, b5), (a6, b6), (a7, b7)] b 8 12 0, x.2 ≤ 11 := fun x hx => by
    have := ho x hx
    unfold okHeap at this
    omega
  have e1 := f41_eq m (by omega) a0 b0 a1 b1 a2 b2 a3 b3 a4 b4 a5 b5 a6 b6 a7 b7 b 8 12 0 hy (by omega) (by omega) (by omega) (by omega)
  have e2 := f41_eq m (by omega) a0 b0 a1 b1 a2 b2 a3 b3 a4 b4 a5 b5 a6 b6 a7 b7 b 8 12 ((d.toNat % 13 : Nat) : Int) hy (by omega) (by omega) (by omega) (by omega)
  have o2 : OkL (shH ((d.toNat % 13 : Nat) : Int) (heapsOf [(a0, b0), (a1, b1), (a2, b2), (a3, b3), (a4, b4), (a5, b5), (a6, b6), (a7, b7)] b 8 12 0)) := by
    rw [← heaps_sh]
    intro x hx
    have := ho2 x hx
    unfold okHeap at this
    omega
  rw [heaps_sh] at e2
  unfold f10
  rw [w64_id (x := b) (by omega) (by omega), ec, ed, e1]
  simp only [Option.bind_some]
  rw [e2]
  simp only [Option.bind_some]
  exact moved_law hm (E := E) (k := 1 + c.toNat % 3) (d := d.toNat % 13) o1 o2 hl h11 (by omega) (by omega) hd13 (by omega) _ rfl
end Go.Xm
namespace Go.Proofs.Ytfdeihnkoaihfaa.heapMoved
open Go.Xm Go.RowKit
set_option linter.unusedVariables false
theorem walk (z0 : List Int) (a1 a2 a3 a4 : Int) (w : World) (l0 : z0.length = 16) (w0 : ∀ z ∈ z0, (Lit.int .u8 z).wf = true) (w1 : (Lit.int .u8 a1).wf = true) (w2 : (Lit.int .u8 a2).wf = true) (w3 : (Lit.int .u8 a3).wf = true) (w4 : (Lit.int .u8 a4).wf = true) :
    Calls Try.prog 10 #[.agg (z0.map (.int .u8)).toArray, .int .u8 a1, .int .u8 a2, .int .u8 a3, .int .u8 a4] w fun e w' => e = .returned (.bool true) ∧ Below w.heap.size w w' := by
  obtain ⟨a0, b0, a1', b1, a2', b2, a3', b3, a4', b4, a5, b5, a6, b6, a7, b7, rfl⟩ := list16 l0
  have hy : bytesP [(a0, b0), (a1', b1), (a2', b2), (a3', b3), (a4', b4), (a5, b5), (a6, b6), (a7, b7)] := by
    intro p hp
    have hb : ∀ z, z ∈ [a0, b0, a1', b1, a2', b2, a3', b3, a4', b4, a5, b5, a6, b6, a7, b7] → 0 ≤ z ∧ z ≤ 255 := fun z hz => u8bJ (w0 z hz)
    simp only [List.mem_cons, List.not_mem_nil, or_false] at hp
    rcases hp with rfl | rfl | rfl | rfl | rfl | rfl | rfl | rfl <;> (refine ⟨(hb _ ?_).1, (hb _ ?_).2, (hb _ ?_).1, (hb _ ?_).2⟩ <;> simp)
  exact f10_ok 1001 _ _ _ _ _ _ _ _ _ _ _ _ _ _ _ _ _ _ _ _ true (f10_true 1001 (by omega) _ _ _ _ _ _ _ _ _ _ _ _ _ _ _ _ _ _ _ _ hy (u8bJ w1) (u8bJ w2) (u8bJ w3) (u8bJ w4)) w trivial
end Go.Proofs.Ytfdeihnkoaihfaa.heapMoved
