/- WrapLeft: the other way round.  Conditions: none. -/
import Derived.Test.YtagagpkjlkoieaaKo
import Derived.Test.YtagagpkjlkoieaaKq
import Derived.Test.YtagagpkjlkoieaaKr
import Derived.Test.YtagagpkjlkoieaaKd
import Derived.Test.YtagagpkjlkoieaaKi
import Derived.Test.YtagagpkjlkoieaaKn
import Derived.Test.YtagagpkjlkoieaaPv
namespace Go.Xm
set_option linter.unusedVariables false
set_option linter.unusedSimpArgs false
set_option maxRecDepth 20000

theorem evL_left {M S o : Nat} (g : Good M S 1 o) (hS : 0 < S) : ∀ k T, T + k = o + 1 → 1 ≤ T → evL M (M - S) k T = evL M S k T
  | 0, _, _, _ => rfl
  | k + 1, T, h, h1 => by
    have g3 := g.s
    unfold evL
    rw [cw_left (g.turns (by omega)) (by omega) (by omega), evL_left g hS k (T + 1) (by omega) (by omega)]

theorem nrN_left {M S : Nat} (hM : 0 < M) (hS : S ≤ M) (n : Nat) : nrN M (M - S) n = nrN M S n := by
  have l := mrk_lt (M := M) (S := S) n hM
  unfold nrN
  rw [mirror_eq hM hS]
  unfold mirror
  by_cases z : mrk M S n = 0
  · rw [if_pos z, z]
  · rw [if_neg z, show M - (M - mrk M S n) = mrk M S n by omega]
    exact Nat.min_comm _ _

theorem nrL_left {M S : Nat} (hM : 0 < M) (hS : S ≤ M) : ∀ k n near, nrL M (M - S) k n near = nrL M S k n near
  | 0, _, _ => rfl
  | k + 1, n, near => by
    unfold nrL
    rw [nrN_left hM hS, nrL_left hM hS k, nrL_left hM hS k]

theorem getD_set (l : List Int) (i j : Nat) (v : Int) (hi : i < l.length) : (l.set i v).getD j 0 = if i = j then v else l.getD j 0 := by
  rw [List.getD_eq_getElem?_getD, List.getElem?_set, List.getD_eq_getElem?_getD]
  by_cases e : i = j
  · subst e
    rw [if_pos rfl, if_pos rfl, if_pos hi]
    rfl
  · rw [if_neg e, if_neg e]

theorem ext_getD : ∀ (a b : List Int), a.length = b.length → (∀ i, i < a.length → a.getD i 0 = b.getD i 0) → a = b
  | [], [], _, _ => rfl
  | [], _ :: _, h, _ => by cases h
  | _ :: _, [], h, _ => by cases h
  | x :: a, y :: b, h, hg => by
    have h0 := hg 0 (by simp)
    have : x = y := h0
    subst this
    have := ext_getD a b (by simpa using h) (fun i hi => hg (i + 1) (by simp; omega))
    rw [this]

theorem f12_1_eq (m : Nat) (A B C h20 h21 h22 h30 h31 h32 h40 h41 h42 h50 h51 h52 : Int) (l6 L : List Int) (hL : L.length ≤ 1000) : ∀ (d i j fuel : Nat) (cur : List Int), i + j + 1 = L.length → d = j - i → d < fuel → cur.length = L.length →
    (∀ x, x < L.length → cur.getD x 0 = if x < i ∨ j < x then L.getD (L.length - 1 - x) 0 else L.getD x 0) →
    ∃ R : List Int, f12_1 m fuel A B C i j h20 h21 h22 h30 h31 h32 h40 h41 h42 h50 h51 h52 l6 cur = some (h20, h21, h22, h30, h31, h32, h40, h41, h42, h50, h51, h52, l6, R) ∧ R.length = L.length ∧ ∀ x, x < L.length → R.getD x 0 = L.getD (L.length - 1 - x) 0
  | d, i, j, 0, cur, _, _, h, _, _ => by omega
  | d, i, j, fuel + 1, cur, hij, hd, hf, hc, hx => by
    unfold f12_1
    by_cases c : i < j
    · have hr1 : inRow (j : Int) cur.length = true := inRow_iff.2 ⟨by omega, by omega⟩
      have hr2 : inRow (i : Int) cur.length = true := inRow_iff.2 ⟨by omega, by omega⟩
      rw [decide_eq_true (by omega), hr1, hr2, w64_succ i (by omega), w64_id (x := (j : Int) - 1) (by omega) (by omega), show (j : Int) - 1 = ((j - 1 : Nat) : Int) by omega]
      simp only [cond_true, Int.toNat_natCast]
      refine f12_1_eq m A B C h20 h21 h22 h30 h31 h32 h40 h41 h42 h50 h51 h52 l6 L hL (d - 2) (i + 1) (j - 1) fuel _ (by omega) (by omega) (by omega) (by simp; omega) (fun x hxl => ?_)
      rw [getD_set _ _ _ _ (by simp; omega), getD_set _ _ _ _ (by omega)]
      have hi := hx i (by omega)
      have hj := hx j (by omega)
      rw [if_neg (by omega)] at hi hj
      by_cases c1 : j = x
      · subst c1
        rw [if_pos rfl, if_pos (by omega), hi, show L.length - 1 - j = i by omega]
      · rw [if_neg c1]
        by_cases c2 : i = x
        · subst c2
          rw [if_pos rfl, if_pos (by omega), hj, show L.length - 1 - i = j by omega]
        · rw [if_neg c2, hx x hxl]
          by_cases c3 : x < i ∨ j < x
          · rw [if_pos c3, if_pos (by omega)]
          · rw [if_neg c3, if_neg (by omega)]
    · rw [decide_eq_false (by omega)]
      refine ⟨cur, rfl, hc, fun x hxl => ?_⟩
      rw [hx x hxl]
      by_cases c3 : x < i ∨ j < x
      · rw [if_pos c3]
      · rw [if_neg c3, show L.length - 1 - x = x by omega]

theorem f12_eq (a b t : Int) (wa : (Lit.int .u8 a).wf = true) (wb : (Lit.int .u8 b).wf = true) (wt : (Lit.int .u8 t).wf = true) : f12 3000 a b t = some true := by
  obtain ⟨M, S, e1, e2, m1, m2, s⟩ := roll wa wb
  obtain ⟨o, g1⟩ := good_one M S m1 m2 s
  have g4 := g1.om
  have g5 := g1.to
  have c1 : ((M : Int) != 0) = true := by simp; omega
  have c2 : ((o : Int) != 0) = true := by simp; omega
  obtain ⟨T, e3, t1, t2⟩ := roll_turns wt g5 (by omega)
  unfold f12
  rw [e1, e2, c1, f47_eq 3000 M S o (by omega) g1]
  simp only [Option.bind_some, cond_true]
  rw [c2, e3]
  simp only [cond_true]
  by_cases hS : S = 0
  · subst hS
    rfl
  have c3 : ((S : Int) == 0) = false := by simp; omega
  have g := g1.some t1 t2
  have gl1 := g1.left (by omega)
  have gl := g.left (by omega)
  have h0 := f20_val 3000 M S o T (by omega) g1 t1
  have h0l := f20_val 3000 M (M - S) o T (by omega) gl1 t1
  rw [decide_eq_false (by omega)] at h0 h0l
  have h0 : f20 3000 M S T = some 0 := h0
  have h0l : f20 3000 M (M - S : Nat) T = some 0 := h0l
  have hT := g.turns t2
  have hlen := gF_len M S T T 0
  have hlenl := gF_len M (M - S) T T 0
  rw [c3, show (M : Int) - (S : Int) = ((M - S : Nat) : Int) by omega, natw (n := M - S) (by omega), f31_eq 3000 M S T o (by omega) g h0, f31_eq 3000 M (M - S) T o (by omega) gl h0l]
  simp only [Option.bind_some, cond_false, bne_self_eq_false]
  rw [hlenl, show (T : Int) - 1 = ((T - 1 : Nat) : Int) by omega, natw (n := T - 1) (by omega)]
  obtain ⟨R, r1, r2, r3⟩ := f12_1_eq 3000 a b t M S T M S T M S T M (M - S : Nat) T (gF M S T T 0) (gF M (M - S) T T 0) (by omega) (T - 1) 0 (T - 1) 3000 (gF M (M - S) T T 0) (by omega) (by omega) (by omega) rfl (fun x hx => by rw [if_neg (by omega)])
  rw [show ((0 : Nat) : Int) = (0 : Int) from rfl] at r1
  have hR : R = gF M S T T 0 := ext_getD _ _ (by omega) (fun i hi => by
    rw [r3 i (by omega), hlenl, gF_left hT (by omega) (by omega), show T - 1 - (T - 1 - i) = i by omega])
  subst hR
  rw [r1]
  simp only [Option.bind_some]
  rw [hlen, f33_eq 3000 M S T o (by omega) g h0, f33_eq 3000 M (M - S) T o (by omega) gl h0l, cw_left hT (by omega) (by omega)]
  have l3 := wlF_len (cw M S T) M 1
  simp only [Option.bind_some, decide_true, cond_true, bne_self_eq_false, cond_false]
  rw [f35_same 3000 _ (by omega) (by omega), f36_same 3000 _ (by omega) (by omega), f37_eq 3000 M S o (by omega) g1 (f65_val 3000 M S o 1 (by omega) g1), f37_eq 3000 M (M - S) o (by omega) gl1 (f65_val 3000 M (M - S) o 1 (by omega) gl1), f39_eq 3000 M S o (by omega) g1, f39_eq 3000 M (M - S) o (by omega) gl1, evL_left g1 (by omega) o 1 (by omega) (by omega), nrL_left (by omega) (by omega)]
  have l4 := evL_len M S o 1
  have l5 := nrL_len M S o 1 M
  simp only [Option.bind_some, Bool.not_true, cond_false, beq_self_eq_true, cond_true]
  rw [f35_same 3000 _ (by omega) (by omega), f35_same 3000 _ (by omega) (by omega)]
  rfl
end Go.Xm

namespace Go.Proofs.Ytagagpkjlkoieaa.wrapLeft
open Go.Xm Go.RowKit
set_option linter.unusedVariables false

theorem walk (a0_0 : Int) (a0_1 : Int) (a0_2 : Int) (w : World) (w0_0 : (Lit.int .u8 a0_0).wf = true) (w0_1 : (Lit.int .u8 a0_1).wf = true) (w0_2 : (Lit.int .u8 a0_2).wf = true) :
    Calls Try.prog 12 #[.agg #[.int .u8 a0_0, .int .u8 a0_1, .int .u8 a0_2]] w fun e w' => e = .returned (.bool true) ∧ Below w.heap.size w w' :=
  f12_ok 3000 a0_0 a0_1 a0_2 true (f12_eq a0_0 a0_1 a0_2 w0_0 w0_1 w0_2) w trivial
end Go.Proofs.Ytagagpkjlkoieaa.wrapLeft
