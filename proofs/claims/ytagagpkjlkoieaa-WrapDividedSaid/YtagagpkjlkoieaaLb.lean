/- What the program's functions answer about gaps. Conditions: none. -/
import Derived.Test.YtagagpkjlkoieaaLa
import Derived.Test.YtagagpkjlkoieaaKU
import Derived.Test.YtagagpkjlkoieaaQb
namespace Go.Xm
set_option linter.unusedVariables false
set_option linter.unusedSimpArgs false

theorem f20_0 {m M S T o : Nat} (hm : 1000 < m) (g : Good M S 1 o) (h1 : 1 ≤ T) (h2 : T ≤ o) : f20 m M S T = some 0 := by
  rw [f20_val m M S o T hm g h1, decide_eq_false (by omega)]
  rfl

theorem f31_val {m M S T o : Nat} (hm : 2000 < m) (g : Good M S 1 o) (h1 : 1 ≤ T) (h2 : T ≤ o) : f31 m M S T = some (gF M S T T 0, 0) :=
  f31_eq m M S T o hm (g.some h1 h2) (f20_0 (by omega) g h1 h2)

/-! Gaps, as the law counts them -/
theorem gp_le (M S T k : Nat) (hM : 0 < M) : gp M S T k ≤ M := by
  unfold gp
  have := mrk_lt (M := M) (S := S) (nextN T (bes M S T).1 (bes M S T).2 k) hM
  split <;> omega

theorem sort_mks {M S T : Nat} (h : Turns M T (mrk M S)) : sortI (mks M S T 0) = smk M S T T 0 := by
  have mem : ∀ x, x ∈ mks M S T 0 ↔ ∃ k, k < T ∧ x = (mrk M S k : Int) := by
    intro x
    constructor
    · intro hx
      obtain ⟨j, hj, e⟩ := List.getElem_of_mem hx
      have hj2 := hj
      rw [mks_len] at hj2
      have := mks_get M S T 0 j hj2
      rw [List.getD_eq_getElem?_getD, List.getElem?_eq_getElem hj, Nat.zero_add] at this
      exact ⟨j, hj2, e.symm.trans this⟩
    · rintro ⟨k, hk, rfl⟩
      have := mks_get M S T 0 k hk
      rw [List.getD_eq_getElem?_getD, List.getElem?_eq_getElem (by rw [mks_len]; exact hk), Nat.zero_add] at this
      rw [← this]
      exact List.getElem_mem _
  have nd : (mks M S T 0).Nodup := by
    rw [List.nodup_iff_pairwise_ne] at *
    refine List.pairwise_iff_getElem.2 (fun i j hi hj hij e => ?_)
    rw [mks_len] at hi hj
    have a := mks_get M S T 0 i hi
    have b := mks_get M S T 0 j hj
    rw [List.getD_eq_getElem?_getD, List.getElem?_eq_getElem (by rw [mks_len]; exact hi), Nat.zero_add] at a
    rw [List.getD_eq_getElem?_getD, List.getElem?_eq_getElem (by rw [mks_len]; exact hj), Nat.zero_add] at b
    have e : (mrk M S i : Int) = (mrk M S j : Int) := by rw [← a, ← b]; exact e
    have := h.inj hi hj (by omega)
    omega
  refine asc_ext _ _ ?_ (smk_asc h T 0 (by omega)) (fun x => ?_)
  · have a := sortI_asc (mks M S T 0)
    have b : (sortI (mks M S T 0)).Pairwise (· ≠ ·) := ((sortI_perm _).nodup_iff.2 nd)
    exact (a.and b).imp (fun ⟨p, q⟩ => by omega)
  · rw [(sortI_perm _).mem_iff, mem, mem_smk]
    constructor
    · rintro ⟨k, hk, e⟩
      obtain ⟨i, hi, e2⟩ := tN_all h hk
      exact ⟨i, hi, by rw [e, Nat.zero_add, e2]⟩
    · rintro ⟨j, hj, e⟩
      exact ⟨_, tN_lt h (by omega) (0 + j), e⟩

theorem f56_1_eq (m M S T : Nat) (hM : 0 < M) (hM2 : M ≤ 100) (hT : T ≤ 100) (h : Turns M T (mrk M S)) : ∀ (k x fuel : Nat) (l : List Int), x + k = T → k < fuel → l.length ≤ x →
    f56_1 m fuel M S T T x (smk M S T T 0) l = some (l ++ gF M S T k x)
  | k, x, 0, _, _, h, _ => by omega
  | 0, x, fuel + 1, l, hx, _, _ => by
    unfold f56_1
    rw [decide_eq_false (by omega)]
    simp [gF]
  | k + 1, x, fuel + 1, l, hx, hf, hl => by
    have sl := smk_len M S T T 0
    have hr : inRow (x : Int) (smk M S T T 0).length = true := inRow_iff.2 ⟨by omega, by omega⟩
    have hfit : fitsB (l.length + 1) 8 = true := by
      simp only [fitsB, Bool.and_eq_true, Nat.ble_eq]; omega
    have v0 := smk_get M S T T 0 x (by omega)
    have bg := gp_le M S T (tN M S T x) hM
    have ih := f56_1_eq m M S T hM hM2 hT h k (x + 1) fuel (l ++ [(gp M S T (tN M S T x) : Int)]) (by omega) (by omega) (by simp; omega)
    rw [Nat.zero_add] at v0
    unfold f56_1
    rw [decide_eq_true (by omega), hr, w64_succ x (by omega), hfit, show Int.toNat (x : Int) = x from rfl, v0]
    simp only [cond_true]
    by_cases c : x + 1 < T
    · have hr2 : inRow ((x + 1 : Nat) : Int) (smk M S T T 0).length = true := inRow_iff.2 ⟨by omega, by omega⟩
      have v1 := smk_get M S T T 0 (x + 1) (by omega)
      rw [Nat.zero_add] at v1
      rw [decide_eq_true (by omega), hr2, show Int.toNat ((x + 1 : Nat) : Int) = x + 1 from rfl, v1, ← gp_next h c, natw (by omega)]
      simp only [cond_true]
      rw [ih, List.append_assoc]
      rfl
    · rw [decide_eq_false (by omega), ← gp_last h (by omega), natw (by omega)]
      simp only [cond_false]
      rw [ih, List.append_assoc]
      rfl

theorem f56_val {m M S T o : Nat} (hm : 1000 < m) (g : Good M S 1 o) (h1 : 1 ≤ T) (h2 : T ≤ o) : f56 m M S T = some (gF M S T T 0) := by
  have l1 := g.m1
  have l2 := g.m2
  have l3 := g.s
  have l5 := g.om
  have hT := g.turns (n := T) h2
  have h := f56_1_eq m M S T (by omega) l2 (by omega) hT T 0 m [] (by omega) (by omega) (by simp)
  unfold f56
  rw [f46_eq m M S T hm (by omega) l2 l3 (by omega)]
  simp only [Option.bind_some]
  rw [mks_len, show Nat.ble T 1000000 = true from Nat.ble_eq_true_of_le (by omega), sort_mks hT, smk_len]
  simp only [cond_true]
  rw [List.nil_append] at h
  rw [show ((0 : Int)) = ((0 : Nat) : Int) from rfl, h]
  rfl
end Go.Xm
