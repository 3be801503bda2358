/- HeapVerified: the walk. Conditions: none. -/
import Derived.Test.YtfdeihnkoaihfaaLa
import Derived.Test.YtfdeihnkoaihfaaVk
namespace Go.Xm
set_option linter.unusedVariables false
set_option linter.unusedSimpArgs false
set_option maxRecDepth 20000

theorem f8_2_eq (m : Nat) (e x12 x14 x30 x31 : Int) (lh0 : List Int) (lh1 : List (Int × Int)) (p : List Int) (hp : p.length ≤ 1000) (x h1 h2 : Int) :
    ∀ (r j fuel n : Nat), j + r = p.length → r < fuel → n ≤ j → f8_2 m fuel e x12 x14 x30 x31 lh0 lh1 p x (n : Int) ((p.length : Nat) : Int) (j : Int) h1 h2 = some (x, ((n + (p.drop j).count x : Nat) : Int), h1, h2)
  | 0, j, fuel + 1, n, hr, hf, hn => by
    rw [f8_2, dcF (p := (j : Int) < ((p.length : Nat) : Int)) (by omega), List.drop_eq_nil_of_le (show p.length ≤ j by omega)]
    simp
  | r + 1, j, fuel + 1, n, hr, hf, hn => by
    have hj : j < p.length := by omega
    have hg : List.getD p (Int.toNat (j : Int)) 0 = p[j] := by simp [hj]
    rw [f8_2, dcT (p := (j : Int) < ((p.length : Nat) : Int)) (by omega), inR hj, hg, nat_succ j (by omega), nat_succ n (by omega), List.drop_eq_getElem_cons hj]
    by_cases h : p[j] = x
    · have hb : (p[j] == x) = true := by simpa using h
      rw [hb]
      show f8_2 m fuel e x12 x14 x30 x31 lh0 lh1 p x ((n + 1 : Nat) : Int) ((p.length : Nat) : Int) ((j + 1 : Nat) : Int) h1 h2 = _
      rw [f8_2_eq m e x12 x14 x30 x31 lh0 lh1 p hp x h1 h2 r (j + 1) fuel (n + 1) (by omega) (by omega) (by omega), h, List.count_cons_self]
      simp only [Option.some.injEq, Prod.mk.injEq, and_true, true_and]
      omega
    · have hb : (p[j] == x) = false := by simpa using h
      rw [hb]
      show f8_2 m fuel e x12 x14 x30 x31 lh0 lh1 p x (n : Int) ((p.length : Nat) : Int) ((j + 1 : Nat) : Int) h1 h2 = _
      rw [f8_2_eq m e x12 x14 x30 x31 lh0 lh1 p hp x h1 h2 r (j + 1) fuel n (by omega) (by omega) (by omega), List.count_cons_of_ne h]

theorem f8_1_eq (m : Nat) (hm : 20 ≤ m) (e k : Int) (ds : List Int) (hds : ds.length = 8) (hdb : ∀ x ∈ ds, 0 ≤ x ∧ x ≤ 255) (l : List (Int × Int)) (hl : ∀ p ∈ l, okHeap 0 23 p) (h8 : l.length ≤ 8) :
    ∀ (r i fuel : Nat) (p : List Int), i + r = l.length → r < fuel → p.length = i →
      ∃ p' : List Int, p'.length = l.length ∧ f8_1 m fuel e k (ver k (l.take i) p []) ((l.length : Nat) : Int) (i : Int) ds l p = some (k, ver k l p' [], l, p')
  | 0, i, fuel + 1, p, hr, hf, hp => by
    refine ⟨p, by omega, ?_⟩
    rw [f8_1, dcF (p := (i : Int) < ((l.length : Nat) : Int)) (by omega), List.take_of_length_le (show l.length ≤ i by omega)]
    rfl
  | r + 1, i, fuel + 1, p, hr, hf, hp => by
    have hi : i < l.length := by omega
    have hg : List.getD l (Int.toNat (i : Int)) (0, 0) = l[i] := by simp [hi]
    have hid : i < ds.length := by omega
    have hgd : List.getD ds (Int.toNat (i : Int)) 0 = ds[i] := by simp [hid]
    obtain ⟨q1, q2, q3⟩ := hl _ (List.getElem_mem hi)
    have hd := hdb _ (List.getElem_mem hid)
    have e1 : w64 ((l[i]).2 - (l[i]).1) = (l[i]).2 - (l[i]).1 := w64i (by omega) (by omega)
    have e2 : w64 ((l[i]).2 - (l[i]).1 + 1) = (l[i]).2 - (l[i]).1 + 1 := w64i (by omega) (by omega)
    have e3 : ((l[i]).2 - (l[i]).1 + 1 != 0) = true := by simp; omega
    rw [f8_1, dcT (p := (i : Int) < ((l.length : Nat) : Int)) (by omega), inR hi, inR (show i < 8 by omega), hg, dcT (p := Int.toNat (i : Int) < ds.length) (by simpa using hid), e1, e2, e3]
    simp only [hgd]
    generalize hx : (cond (decide (ds[i] > 240)) (w64 ((w64 ds[i]) - 242)) (w64 ((l[i]).1 + (Int.tmod (w64 ds[i]) ((l[i]).2 - (l[i]).1 + 1))))) = x
    have hc := f8_2_eq m e k (ver k (l.take i) p []) ((l.length : Nat) : Int) (i : Int) ds l p (by omega) x (l[i]).1 (l[i]).2 p.length 0 m 0 (by omega) (by omega) (by omega)
    simp only [List.drop_zero, Nat.zero_add] at hc
    have hc : f8_2 m m e k (ver k (l.take i) p []) ((l.length : Nat) : Int) (i : Int) ds l p x 0 ((p.length : Nat) : Int) 0 (l[i]).1 (l[i]).2 = some (x, ((p.count x : Nat) : Int), (l[i]).1, (l[i]).2) := hc
    have htk : l.take (i + 1) = l.take i ++ [l[i]] := List.take_succ_eq_append_getElem hi
    have hap := ver_append k l[i] x (l.take i) p [] (by rw [List.length_take]; omega)
    rw [← htk, List.nil_append] at hap
    have hfit : fitsB (p.length + 1) 8 = true := fitsI (by omega) (by omega)
    have hrec := f8_1_eq m hm e k ds hds hdb l hl h8 r (i + 1) fuel (p ++ [x]) (by omega) (by omega) (by simp [hp])
    rw [hap] at hrec
    obtain ⟨p', r1, r2⟩ := hrec
    refine ⟨p', r1, ?_⟩
    rw [← r2]
    simp only [hc, cond_true, Option.bind_some, hfit, nat_succ i (show i ≤ 1000000 by omega)]
    by_cases hw : ver k (l.take i) p [] = 0
    · rw [if_pos hw, hw]
      simp only [BEq.rfl, cond_true]
      by_cases ha : x < (l[i]).1
      · rw [if_neg (by omega), dcT ha]
        rfl
      · rw [dcF ha]
        by_cases hb : x > (l[i]).2
        · rw [if_neg (by omega), dcT hb]
          rfl
        · rw [if_pos (by omega), dcF hb]
          by_cases hk : ((p.count x : Nat) : Int) ≥ k
          · rw [if_pos hk, dcT hk]
            rfl
          · rw [if_neg hk, dcF hk]
            rfl
    · rw [if_neg hw]
      have : (ver k (l.take i) p [] == 0) = false := by simpa using hw
      rw [this]
      rfl

theorem f8_true (m : Nat) (hm : 30 ≤ m) (a0 b0 a1 b1 a2 b2 a3 b3 a4 b4 a5 b5 a6 b6 a7 b7 b c d0 d1 d2 d3 d4 d5 d6 d7 e : Int) (hy : bytesP [(a0, b0), (a1, b1), (a2, b2), (a3, b3), (a4, b4), (a5, b5), (a6, b6), (a7, b7)])
    (hd : ∀ x ∈ [d0, d1, d2, d3, d4, d5, d6, d7], 0 ≤ x ∧ x ≤ 255) (hb : 0 ≤ b ∧ b ≤ 255) (hc : 0 ≤ c ∧ c ≤ 255) :
    f8 m a0 b0 a1 b1 a2 b2 a3 b3 a4 b4 a5 b5 a6 b6 a7 b7 b c d0 d1 d2 d3 d4 d5 d6 d7 e = some true := by
  unfold f8
  rw [w64i (x := b) (by omega) (by omega), f41_eq m (by omega) a0 b0 a1 b1 a2 b2 a3 b3 a4 b4 a5 b5 a6 b6 a7 b7 b 8 10 0 hy (by omega) (by omega) (by omega) (by omega)]
  generalize hl : heapsOf [(a0, b0), (a1, b1), (a2, b2), (a3, b3), (a4, b4), (a5, b5), (a6, b6), (a7, b7)] b 8 10 0 = l
  have h8 : l.length ≤ 8 := by rw [← hl]; exact heapsOf_len _ _ _ _ _
  have hok : ∀ p ∈ l, okHeap 0 23 p := by
    intro p hp
    rw [← hl] at hp
    have := heapsOf_ok (ys := [(a0, b0), (a1, b1), (a2, b2), (a3, b3), (a4, b4), (a5, b5), (a6, b6), (a7, b7)]) hy (b := b) (c := 8) (d := 10) (e := 0) (by omega) p hp
    unfold okHeap at this ⊢
    omega
  have hk : w64 (1 + Int.tmod (w64 c) 3) = 1 + c % 3 := by
    rw [w64i (x := c) (by omega) (by omega), tme hc.1, w64i (by omega) (by omega)]
  have hk2 : 1 ≤ 1 + c % 3 ∧ 1 + c % 3 ≤ 10 := by omega
  obtain ⟨p', r1, r2⟩ := f8_1_eq m (by omega) e (1 + c % 3) [d0, d1, d2, d3, d4, d5, d6, d7] rfl hd l hok h8 l.length 0 m [] (by omega) (by omega) rfl
  have r2 : f8_1 m m e (1 + c % 3) 0 ((l.length : Nat) : Int) 0 [d0, d1, d2, d3, d4, d5, d6, d7] l [] = some (1 + c % 3, ver (1 + c % 3) l p' [], l, p') := r2
  simp only [hk, Option.bind_some, r2]
  by_cases he : e > 240
  · rw [dcT he, fitsI (show p'.length + 1 ≤ 1000 by omega) (by omega)]
    simp only [cond_true]
    rw [f21_eq m (by omega) l _ (p' ++ [0]) hok (by omega) hk2, if_neg (by simp; omega)]
    rfl
  · rw [dcF he]
    simp only [cond_false]
    rw [f21_eq m (by omega) l _ p' hok (by omega) hk2, if_pos r1]
    simp
end Go.Xm
