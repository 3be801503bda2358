/- WrapGaps: both answers are the same. Conditions: none. -/
import Derived.Test.YtagagpkjlkoieaaKd
import Derived.Test.YtagagpkjlkoieaaPr
namespace Go.Xm
set_option linter.unusedVariables false
set_option linter.unusedSimpArgs false
set_option maxRecDepth 20000

theorem f76_1_eq70 (m : Nat) (a b t : Int) : ∀ (fuel : Nat) (x : Int) (l : List Int), f76_1 m fuel a b t x l = f70_1 m fuel a b t x l
  | 0, _, _ => rfl
  | fuel + 1, x, l => by
    unfold f76_1 f70_1
    simp only [f76_1_eq70 m a b t fuel]

theorem f76_eq (m M S T : Nat) (hm : 2000 < m) (hM : 0 < M) (hM2 : M ≤ 100) (hS : S ≤ 1000) (hT : T ≤ 1000) : f76 m M S T = some (lst (mrk M S) T M 0) := by
  have h1 := f70_1_eq m M S T hM (by omega) hS hT (by omega) M 0 m [] (by omega) (by simp) (by omega)
  rw [List.nil_append] at h1
  unfold f76
  rw [f76_1_eq70, show ((0 : Int)) = ((0 : Nat) : Int) from rfl, h1]
  rfl

theorem f31_1_eq29 (m : Nat) (a b t : Int) : ∀ (fuel : Nat) (x p q : Int), f31_1 m fuel a b t x p q = f29_1 m fuel a b t x p q
  | 0, _, _, _ => rfl
  | fuel + 1, x, p, q => by
    unfold f31_1 f29_1
    simp only [f31_1_eq29 m a b t fuel]

theorem f31_2_eq (m M S T : Nat) (t : Int) (hM : 0 < M) (hM2 : M ≤ 100) (hS : S ≤ 100) (hT1 : 1 ≤ T) (hT : T ≤ 100) (h : Turns M T (mrk M S)) : ∀ (k x fuel : Nat) (l : List Int), x + k = T → k < fuel → l.length ≤ x →
    f31_2 m fuel M S t (tN M S T x : Int) T x T (bes M S T).1 (bes M S T).2 l = some (l ++ gF M S T k x)
  | k, x, 0, _, _, h, _ => by omega
  | 0, x, fuel + 1, l, hx, _, _ => by
    unfold f31_2
    rw [decide_eq_false (by omega)]
    simp [gF]
  | k + 1, x, fuel + 1, l, hx, hf, hl => by
    have hb := bes_le (M := M) (S := S) hT1
    have hu := tN_lt h (by omega) x
    have hfit : fitsB (l.length + 1) 8 = true := by
      simp only [fitsB, Bool.and_eq_true, Nat.ble_eq]; omega
    unfold f31_2
    rw [decide_eq_true (by omega), f77_eq m M S T _ t hM hM2 hS hT1 hT h hu, hfit, f69_eq m M S T _ _ _ (by omega) hu hb.1 hb.2, w64_succ x (by omega)]
    simp only [cond_true, Option.bind_some]
    have ih := f31_2_eq m M S T t hM hM2 hS hT1 hT h k (x + 1) fuel (l ++ [(gp M S T (tN M S T x) : Int)]) (by omega) (by omega) (by simp; omega)
    rw [show tN M S T (x + 1) = nextN T (bes M S T).1 (bes M S T).2 (tN M S T x) from rfl] at ih
    rw [ih, List.append_assoc]
    rfl

theorem f31_eq (m M S T o : Nat) (hm : 2000 < m) (g : Good M S T o) (h0 : f20 m M S T = some 0) : f31 m M S T = some (gF M S T T 0, 0) := by
  have g1 := g.m1
  have g2 := g.m2
  have g3 := g.s
  have g4 := g.om
  have g5 := g.to
  have g6 := g.t1
  have hT := g.turns g5
  unfold f31
  rw [h0, f31_1_eq29, f29_1_bes hm (by omega) (by omega) g6 (by omega)]
  simp only [Option.bind_some, bne_self_eq_false, cond_false]
  have h := f31_2_eq m M S T T (by omega) g2 (by omega) g6 (by omega) hT T 0 m [] (by omega) (by omega) (by simp)
  rw [show ((0 : Nat) : Int) = (0 : Int) from rfl, show tN M S T 0 = 0 from rfl, List.nil_append] at h
  rw [show ((0 : Int)) = ((0 : Nat) : Int) from rfl] at h ⊢
  rw [h]
  rfl

theorem gp_next {M S T x : Nat} (h : Turns M T (mrk M S)) (hx : x + 1 < T) : (gp M S T (tN M S T x) : Int) = (mrk M S (tN M S T (x + 1)) : Int) - (mrk M S (tN M S T x) : Int) := by
  have hi := tN_inc h hx
  unfold gp
  rw [show nextN T (bes M S T).1 (bes M S T).2 (tN M S T x) = tN M S T (x + 1) from rfl, if_neg]
  · omega
  · intro e
    rw [e, mrk_zero] at hi
    omega

theorem gp_last {M S T x : Nat} (h : Turns M T (mrk M S)) (hx : x + 1 = T) : (gp M S T (tN M S T x) : Int) = (M : Int) - (mrk M S (tN M S T x) : Int) := by
  have hi := tN_last h (by omega)
  have l := h.lt (tN M S T x)
  rw [← hx] at hi
  unfold gp
  rw [← hx]
  rw [show nextN (x + 1) (bes M S (x + 1)).1 (bes M S (x + 1)).2 (tN M S (x + 1) x) = tN M S (x + 1) (x + 1) from rfl, if_pos hi]
  subst hx
  omega

theorem f32_1_eq (m M S T : Nat) (hM : 0 < M) (hM2 : M ≤ 100) (hS : S ≤ 100) (hT : T ≤ 100) (h : Turns M T (mrk M S)) : ∀ (k x fuel : Nat) (l : List Int), x + k = T → k < fuel → l.length ≤ x →
    f32_1 m fuel M S T x (lst (mrk M S) T M 0) l = some (l ++ gF M S T k x)
  | k, x, 0, _, _, h, _ => by omega
  | 0, x, fuel + 1, l, hx, _, _ => by
    have hl := round_len h T (Nat.le_refl _)
    unfold f32_1
    rw [decide_eq_false (by omega)]
    simp [gF]
  | k + 1, x, fuel + 1, l, hx, hf, hln => by
    have hl := round_len h T (Nat.le_refl _)
    have hu := tN_lt h (by omega) x
    have lu := h.lt (tN M S T x)
    have hfit : fitsB (l.length + 1) 8 = true := by
      simp only [fitsB, Bool.and_eq_true, Nat.ble_eq]; omega
    have hr : inRow (x : Int) (lst (mrk M S) T M 0).length = true := inRow_iff.2 ⟨by omega, by omega⟩
    have eu : f61 m M S T (tN M S T x) = some (mrk M S (tN M S T x) : Int) := f61_eq m M S _ _ hM (by omega) (by omega)
    unfold f32_1
    rw [decide_eq_true (by omega), w64_succ x (by omega), hr]
    simp only [Int.toNat_natCast]
    rw [lst_tN h (i := x) (by omega), eu, hfit]
    simp only [cond_true, Option.bind_some]
    by_cases c : x + 1 < T
    · have hr2 : inRow ((x + 1 : Nat) : Int) (lst (mrk M S) T M 0).length = true := inRow_iff.2 ⟨by omega, by omega⟩
      have hv := tN_lt h (by omega) (x + 1)
      have lv := h.lt (tN M S T (x + 1))
      have ev : f61 m M S T (tN M S T (x + 1)) = some (mrk M S (tN M S T (x + 1)) : Int) := f61_eq m M S _ _ hM (by omega) (by omega)
      rw [decide_eq_true (by omega), hr2, lst_tN h c, ev]
      simp only [cond_true, Option.bind_some]
      rw [w64_id (x := (mrk M S (tN M S T (x + 1)) : Int) - (mrk M S (tN M S T x) : Int)) (by omega) (by omega), ← gp_next h c, f32_1_eq m M S T hM hM2 hS hT h k (x + 1) fuel _ (by omega) (by omega) (by simp; omega), List.append_assoc]
      rfl
    · rw [decide_eq_false (by omega)]
      simp only [cond_false]
      rw [w64_id (x := (M : Int) - (mrk M S (tN M S T x) : Int)) (by omega) (by omega), ← gp_last h (by omega), f32_1_eq m M S T hM hM2 hS hT h k (x + 1) fuel _ (by omega) (by omega) (by simp; omega), List.append_assoc]
      rfl

theorem f34_1_eq32 (m : Nat) (a b t : Int) : ∀ (fuel : Nat) (x : Int) (l l2 : List Int), f34_1 m fuel a b t x l l2 = f32_1 m fuel a b t x l l2
  | 0, _, _, _ => rfl
  | fuel + 1, x, l, l2 => by
    unfold f34_1 f32_1
    simp only [f34_1_eq32 m a b t fuel]

theorem cI_le (w : Int) : ∀ l, cI w l ≤ l.length
  | [] => Nat.le_refl _
  | v :: l => by
    have := cI_le w l
    show (if v = w then 1 else 0) + cI w l ≤ l.length + 1
    split <;> omega

theorem drop_cons {l : List Int} {x : Nat} (h : x < l.length) : l.drop x = l.getD x 0 :: l.drop (x + 1) := by
  rw [List.drop_eq_getElem_cons h, List.getD_eq_getElem?_getD, List.getElem?_eq_getElem h]
  rfl

theorem f34_3_eq (m : Nat) (a b t w : Int) (l2 : List (Int × Int)) (l : List Int) (hl : l.length ≤ 1000) : ∀ (k x fuel n : Nat), x + k = l.length → k < fuel → n ≤ x → f34_3 m fuel a b t l w l2 n x = some ((n + cI w (l.drop x) : Nat) : Int)
  | k, x, 0, n, _, h, _ => by omega
  | 0, x, fuel + 1, n, hx, _, _ => by
    unfold f34_3
    rw [decide_eq_false (by omega), List.drop_eq_nil_of_le (by omega)]
    rfl
  | k + 1, x, fuel + 1, n, hx, hf, hn => by
    have hr : inRow (x : Int) l.length = true := inRow_iff.2 ⟨by omega, by omega⟩
    unfold f34_3
    rw [decide_eq_true (by omega), hr, Int.toNat_natCast, w64_succ x (by omega), w64_succ n (by omega), drop_cons (by omega)]
    simp only [cond_true]
    by_cases c : l.getD x 0 = w
    · rw [show (l.getD x 0 == w) = true by simpa using c]
      simp only [cond_true]
      rw [f34_3_eq m a b t w l2 l hl k (x + 1) fuel (n + 1) (by omega) (by omega) (by omega)]
      show _ = some ((n + ((if l.getD x 0 = w then 1 else 0) + cI w (l.drop (x + 1))) : Nat) : Int)
      rw [if_pos c]
      congr 2
      omega
    · rw [show (l.getD x 0 == w) = false by simpa using c]
      simp only [cond_false]
      rw [f34_3_eq m a b t w l2 l hl k (x + 1) fuel n (by omega) (by omega) (by omega)]
      show _ = some ((n + ((if l.getD x 0 = w then 1 else 0) + cI w (l.drop (x + 1))) : Nat) : Int)
      rw [if_neg c]
      congr 2
      omega

theorem f34_2_eq (m M S T : Nat) (t : Int) (hm : 2000 < m) (hM2 : M ≤ 100) (hT : T ≤ 100) (hT1 : 0 < T) (h : Turns M T (mrk M S)) : ∀ (k x fuel : Nat) (l : List (Int × Int)), x + k = M + 1 → k < fuel → l.length ≤ x →
    f34_2 m fuel M S t (gF M S T T 0) x l = some (l ++ wlF (cw M S T) k x)
  | k, x, 0, _, _, h, _ => by omega
  | 0, x, fuel + 1, l, hx, _, _ => by
    unfold f34_2
    rw [decide_eq_false (by omega)]
    simp [wlF]
  | k + 1, x, fuel + 1, l, hx, hf, hl => by
    have hfit : fitsB (l.length + 1) 16 = true := by
      simp only [fitsB, Bool.and_eq_true, Nat.ble_eq]; omega
    have hg := gF_len M S T T 0
    have h3 := f34_3_eq m M S t x l (gF M S T T 0) (by omega) T 0 m 0 (by omega) (by omega) (by omega)
    rw [List.drop_zero, cI_all h hT1, Nat.zero_add] at h3
    rw [show ((0 : Nat) : Int) = (0 : Int) from rfl] at h3
    unfold f34_2
    rw [decide_eq_true (by omega), h3, hfit, w64_succ x (by omega)]
    simp only [cond_true, Option.bind_some]
    conv => rhs; unfold wlF
    by_cases c : 0 < cw M S T x
    · rw [decide_eq_true (by omega), if_pos c]
      simp only [cond_true]
      rw [f34_2_eq m M S T t hm hM2 hT hT1 h k (x + 1) fuel _ (by omega) (by omega) (by simp; omega), List.append_assoc]
      rfl
    · rw [decide_eq_false (by omega), if_neg c]
      simp only [cond_false]
      rw [f34_2_eq m M S T t hm hM2 hT hT1 h k (x + 1) fuel _ (by omega) (by omega) (by omega)]

theorem f36_1_same (m : Nat) (a : List (Int × Int)) (ha : a.length ≤ 1000) : ∀ (k x fuel : Nat), x + k = a.length → k < fuel → f36_1 m fuel a a x = some .x0
  | k, x, 0, _, h => by omega
  | 0, x, fuel + 1, hx, _ => by
    unfold f36_1
    rw [decide_eq_false (by omega)]
    rfl
  | k + 1, x, fuel + 1, hx, hf => by
    have hr : inRow (x : Int) a.length = true := inRow_iff.2 ⟨by omega, by omega⟩
    unfold f36_1
    rw [decide_eq_true (by omega), hr, w64_succ x (by omega)]
    simp only [cond_true, beq_self_eq_true, Bool.and_self, Bool.not_true, cond_false]
    exact f36_1_same m a ha k (x + 1) fuel (by omega) (by omega)

theorem f36_same (m : Nat) (a : List (Int × Int)) (ha : a.length ≤ 1000) (hm : 1000 < m) : f36 m a a = some true := by
  unfold f36
  have := f36_1_same m a ha a.length 0 m (by omega) (by omega)
  simp only [bne_self_eq_false, cond_false]
  rw [show ((0 : Int)) = ((0 : Nat) : Int) from rfl, this]
  rfl

theorem wlF_len (c : Nat → Nat) : ∀ k x, (wlF c k x).length ≤ k
  | 0, _ => Nat.le_refl _
  | k + 1, x => by
    unfold wlF
    have := wlF_len c k (x + 1)
    split
    · simp only [List.length_cons]; omega
    · omega

theorem f30_32_34 (m M S T o : Nat) (hm : 2000 < m) (g : Good M S T o) (h1 : f21 m M S T = some 0) :
    f30 m M S T = some (lst (mrk M S) T M 0, 0) ∧ f32 m M S T = some (gF M S T T 0, 0) ∧ f34 m M S T = some (wlF (cw M S T) M 1, 0) := by
  have g1 := g.m1
  have g2 := g.m2
  have g3 := g.s
  have g4 := g.om
  have g5 := g.to
  have g6 := g.t1
  have hT := g.turns g5
  have h76 := f76_eq m M S T hm (by omega) g2 (by omega) (by omega)
  have h32 := f32_1_eq m M S T (by omega) g2 (by omega) (by omega) hT T 0 m [] (by omega) (by omega) (by simp)
  have h34 := f34_2_eq m M S T T hm g2 (by omega) (by omega) hT M 1 m [] (by omega) (by omega) (by simp)
  rw [List.nil_append, show ((0 : Nat) : Int) = (0 : Int) from rfl] at h32
  rw [List.nil_append, show ((1 : Nat) : Int) = (1 : Int) from rfl] at h34
  refine ⟨?_, ?_, ?_⟩
  · unfold f30
    rw [h1, h76]
    rfl
  · unfold f32
    rw [h1, h76]
    simp only [Option.bind_some, bne_self_eq_false, cond_false]
    rw [h32]
    rfl
  · unfold f34
    rw [h1, h76]
    simp only [Option.bind_some, bne_self_eq_false, cond_false]
    rw [f34_1_eq32, h32]
    simp only [Option.bind_some]
    rw [h34]
    rfl

theorem f4_eq (a b t : Int) : f4 3000 a b t = some true := by
  unfold f4
  cases chk 3000 (by omega) a b t with
  | good M S T o ha hb ht g h0 h1 h2 h3 =>
    subst ha hb ht
    have g2 := g.m2
    have g4 := g.om
    have g5 := g.to
    have hT := g.turns g5
    obtain ⟨e1, e2, e3⟩ := f30_32_34 3000 M S T o (by omega) g h1
    rw [f29_eq 3000 M S T o (by omega) g h0, f31_eq 3000 M S T o (by omega) g h0, f33_eq 3000 M S T o (by omega) g h0, e1, e2, e3]
    have l1 := round_len hT T (Nat.le_refl _)
    have l2 := gF_len M S T T 0
    have l3 := wlF_len (cw M S T) M 1
    simp only [Option.bind_some]
    rw [f35_same 3000 _ (by omega) (by omega), f35_same 3000 _ (by omega) (by omega), f36_same 3000 _ (by omega) (by omega)]
    rfl
  | bad e he h0 h1 =>
    have e29 : f29 3000 a b t = some ([], e) := by
      unfold f29; rw [h0]; simp only [Option.bind_some, ne0 he, cond_true]
    have e30 : f30 3000 a b t = some ([], e) := by
      unfold f30; rw [h1]; simp only [Option.bind_some, ne0 he, cond_true]
    have e31 : f31 3000 a b t = some ([], e) := by
      unfold f31; rw [h0]; simp only [Option.bind_some, ne0 he, cond_true]
    have e32 : f32 3000 a b t = some ([], e) := by
      unfold f32; rw [h1]; simp only [Option.bind_some, ne0 he, cond_true]
    have e33 : f33 3000 a b t = some ([], e) := by
      unfold f33; rw [h0]; simp only [Option.bind_some, ne0 he, cond_true]
    have e34 : f34 3000 a b t = some ([], e) := by
      unfold f34; rw [h1]; simp only [Option.bind_some, ne0 he, cond_true]
    rw [e29, e30, e31, e32, e33, e34]
    simp only [Option.bind_some]
    rw [f35_same 3000 _ (by simp) (by omega), f36_same 3000 _ (by simp) (by omega)]
    simp only [Option.bind_some, cond_true, beq_self_eq_true]
end Go.Xm

namespace Go.Proofs.Ytagagpkjlkoieaa.wrapGaps
open Go.Xm Go.RowKit
set_option linter.unusedVariables false

theorem walk (a0_0 : Int) (a0_1 : Int) (a0_2 : Int) (w : World) (w0_0 : (Lit.int .i64 a0_0).wf = true) (w0_1 : (Lit.int .i64 a0_1).wf = true) (w0_2 : (Lit.int .i64 a0_2).wf = true) :
    Calls Try.prog 4 #[.agg #[.int .i64 a0_0, .int .i64 a0_1, .int .i64 a0_2]] w fun e w' => e = .returned (.bool true) ∧ Below w.heap.size w w' :=
  f4_ok 3000 a0_0 a0_1 a0_2 true (f4_eq a0_0 a0_1 a0_2) w trivial
end Go.Proofs.Ytagagpkjlkoieaa.wrapGaps
